/- The pure statement of FnExactBuildTrie: what the printed functions tell is what the reference tells. No condition but the arguments' own bounds. -/
import Derived.Test.YtakoaogbkajkcaaYFnExactBuildTriex12
import Derived.Test.YtakoaogbkajkcaaQFnExactBuildTrie
namespace Go.Proofs.Ytakoaogbkajkcaa.Pure
namespace FnExactBuildTrieUses
open Go.RowKit Go.Proofs.Ytakoaogbkajkcaa.PFnExactBuildTrie Go.Proofs.YtakoaogbkajkcaaW.PrintWords Go.Proofs.YtakoaogbkajkcaaW.PrintLast Go.Proofs.YtakoaogbkajkcaaW.PrintMore Go.Proofs.Ytakoaogbkajkcaa.Pfx Go.Proofs.Ytakoaogbkajkcaa.Loop Go.Proofs.Ytakoaogbkajkcaa.Tbl
set_option linter.unusedVariables false
set_option linter.unusedSimpArgs false

theorem spec_l1In_is (a lo hi : Int) : spec_l1In.f a lo hi = some (decide (lo ≤ a ∧ a ≤ hi)) := by
  unfold spec_l1In.f
  by_cases h : lo ≤ a
  · rw [if_pos h]; simp [h]
  · rw [if_neg h]; simp [h]
theorem impl_within_is (a lo hi : Int) : impl_within.f a lo hi = some (decide (lo ≤ a ∧ a ≤ hi)) := by
  unfold impl_within.f
  by_cases h : lo ≤ a
  · rw [if_pos h]; simp [h]
  · rw [if_neg h]; simp [h]
theorem spec_l1Addr_is (a : Int) : spec_l1Addr.f a = some (decide (0 ≤ a ∧ a ≤ 4294967295)) := by
  unfold spec_l1Addr.f; rw [spec_l1In_is]; rfl
theorem impl_isAddr_is (a : Int) : impl_isAddr.f a = some (decide (0 ≤ a ∧ a ≤ 4294967295)) := by
  unfold impl_isAddr.f; rw [impl_within_is]; rfl
theorem impl_sizeOf_is {n : Int} (h0 : 0 ≤ n) (h1 : n ≤ 32) : impl_sizeOf.f n = some (sz n) := by
  unfold impl_sizeOf.f
  rw [shl_sz h0 h1, if_pos (by rw [wrap_id (by omega) (by omega)]; omega)]
theorem spec_l1Size_is (a : Int) {n : Int} (h0 : 0 ≤ n) (h1 : n ≤ 32) : spec_l1Size.f a n = some (sz n) := by
  unfold spec_l1Size.f
  have e : IntKind.u64.wrap (wrap64 (32 - n)) = wrap64 (32 - n) := by rw [wrap_id (by omega) (by omega), u64_id (by omega) (by omega)]
  rw [e, shl_sz h0 h1, if_pos (by rw [wrap_id (by omega) (by omega)]; omega)]
theorem impl_GoodPrefix_is (a n : Int) : impl_GoodPrefix.f a n = some (good a n) := by
  unfold impl_GoodPrefix.f
  rw [impl_within_is, Option.bind_some]
  by_cases h : 0 ≤ n ∧ n ≤ 32
  · rw [if_pos (decide_eq_true h), impl_isAddr_is, Option.bind_some]
    by_cases h' : 0 ≤ a ∧ a ≤ 4294967295
    · rw [if_pos (decide_eq_true h'), impl_sizeOf_is h.1 h.2, Option.bind_some, if_neg (by have := sz_pos n; omega), Int.tmod_eq_emod_of_nonneg h'.1]
      simp [good, h.1, h.2, h'.1, h'.2, beq_dec]
    · rw [if_neg (by simpa using h')]
      have : good a n = false := by simp [good]; omega
      rw [this]
  · rw [if_neg (by simpa using h)]
    have : good a n = false := by simp [good]; omega
    rw [this]
theorem spec_GoodPrefix_is (a n : Int) : spec_GoodPrefix.f a n = some (good a n) := by
  unfold spec_GoodPrefix.f
  rw [spec_l1In_is, Option.bind_some]
  by_cases h : 0 ≤ n ∧ n ≤ 32
  · rw [if_pos (decide_eq_true h), spec_l1Addr_is, Option.bind_some]
    by_cases h' : 0 ≤ a ∧ a ≤ 4294967295
    · rw [if_pos (decide_eq_true h'), spec_l1Size_is a h.1 h.2, Option.bind_some, if_neg (by have := sz_pos n; omega), Int.tmod_eq_emod_of_nonneg h'.1]
      simp [good, h.1, h.2, h'.1, h'.2, beq_dec]
    · rw [if_neg (by simpa using h')]
      have : good a n = false := by simp [good]; omega
      rw [this]
  · rw [if_neg (by simpa using h)]
    have : good a n = false := by simp [good]; omega
    rw [this]
theorem cmp_isNaN_int_is (a : Int) : cmp_isNaN_int.f a = some false := by unfold cmp_isNaN_int.f; simp
theorem cmp_Compare_int_is (a b : Int) : cmp_Compare_int.f a b = some (if a < b then -1 else if a > b then 1 else 0) := by
  unfold cmp_Compare_int.f
  simp only [cmp_isNaN_int_is, Option.bind_some, Bool.false_eq_true, if_false]
  by_cases h1 : a < b
  · simp [h1]
  · by_cases h2 : a > b
    · simp [h1, h2]
    · simp [h1, h2]
theorem impl_compare_is (k : Nat) (a n b m : Int) : impl_compare.f (k + 3) a n b m = some (cmpP a n b m) := by
  unfold impl_compare.f cmp_Or_int.f
  rw [cmp_Compare_int_is, Option.bind_some, cmp_Compare_int_is, Option.bind_some]
  have w1 : wrap64 (0 + 1) = 1 := wrap_id (by omega) (by omega)
  have w2 : wrap64 (1 + 1) = 2 := wrap_id (by omega) (by omega)
  simp only [cmp_Or_int.l0, rd, List.length_cons, List.length_nil, w1, w2]
  unfold cmpP
  by_cases h1 : a < b
  · simp [h1]
  · by_cases h2 : b < a
    · have : ¬ a = b := by omega
      simp [h1, h2, this]
    · obtain rfl : a = b := by omega
      by_cases h3 : n < m
      · simp [h3]
      · by_cases h4 : m < n
        · have : ¬ n = m := by omega
          simp [h3, h4, this]
        · obtain rfl : n = m := by omega
          simp
theorem spec_l1Compare_is (k : Nat) (a n b m : Int) : spec_l1Compare.f (k + 1) a n b m = some (cmpP a n b m) := by
  unfold spec_l1Compare.f cmpP
  simp only [spec_l1Compare.j0]
  by_cases h1 : a < b
  · simp [h1]
  · by_cases h2 : a = b
    · subst h2
      by_cases h3 : n < m
      · simp [h3]
      · by_cases h4 : n = m
        · subst h4; simp
        · simp [h3, h4]
    · simp [h1, h2]
theorem laws_eqPrefix_is (a n b m : Int) : laws_eqPrefix.f a n b m = some (decide (a = b ∧ n = m)) := by
  unfold laws_eqPrefix.f
  by_cases h : a = b
  · by_cases h' : n = m
    · rw [if_pos h, if_pos h']; simp [h, h']
    · rw [if_pos h, if_neg h']; simp [h']
  · rw [if_neg h]; simp [h]
theorem rdm_Prefix (pre : List S37) (a : S37) (rest : List S37) : rd_T37 (pre ++ a :: rest) (pre.length : Int) = a := by unfold rd_T37; simp
def pr (p : S37) : Pr := (p.f0, p.f1)
theorem pr_inj {p q : S37} (h : pr p = pr q) : p = q := by cases p; cases q; simpa [pr] using h
theorem rdm_LPrefix (pre : List S51) (a : S51) (rest : List S51) : rd_T51 (pre ++ a :: rest) (pre.length : Int) = a := by unfold rd_T51; simp
theorem rdm_Entry (pre : List S39) (a : S39) (rest : List S39) : rd_T39 (pre ++ a :: rest) (pre.length : Int) = a := by unfold rd_T39; simp
theorem rdm_LEntry (pre : List S77) (a : S77) (rest : List S77) : rd_T77 (pre ++ a :: rest) (pre.length : Int) = a := by unfold rd_T77; simp
theorem laws_eqEntry_is (a n v b m u : Int) : laws_eqEntry.f a n v b m u = some (decide ((a = b ∧ n = m) ∧ v = u)) := by
  unfold laws_eqEntry.f
  rw [laws_eqPrefix_is, Option.bind_some]
  by_cases h : a = b ∧ n = m
  · rw [if_pos (decide_eq_true h)]
    by_cases h2 : v = u
    · rw [if_pos h2]; simp [h, h2]
    · rw [if_neg h2]; simp [h2]
  · rw [if_neg (by simpa using h)]; simp; intro h1 h2; exact absurd ⟨h1, h2⟩ h
theorem laws_eqEntryS_refl (k : Nat) (l : List S39) (hl : l.length ≤ maxLen) (hk : l.length < k) : laws_eqEntryS.f k l l = some true := by
  unfold laws_eqEntryS.f
  rw [if_pos rfl]
  have key : ∀ (rest pre : List S39) (k : Nat), l = pre ++ rest → rest.length < k → laws_eqEntryS.l0 k l l (pre.length : Int) = some true := by
    intro rest
    induction rest with
    | nil =>
      intro pre k e hk
      obtain ⟨k, rfl⟩ : ∃ m, k = m + 1 := ⟨k - 1, by omega⟩
      simp only [laws_eqEntryS.l0]
      rw [if_neg (by rw [e]; simp)]
    | cons a rest ih =>
      intro pre k e hk
      obtain ⟨k, rfl⟩ : ∃ m, k = m + 1 := ⟨k - 1, by omega⟩
      simp only [laws_eqEntryS.l0]
      rw [if_pos (by rw [e]; exact lt_mid _ _ _), if_pos (len_nn _), if_pos (by rw [e]; exact lt_mid _ _ _), laws_eqEntry_is]
      simp only [Option.bind_some, and_self, decide_true, if_true]
      rw [wrap_mid (rest := rest) (by rw [← e]; exact hl)]
      exact ih (pre ++ [a]) k (by rw [e]; simp) (by simp at hk; omega)
  exact key l [] k rfl hk
theorem laws_toEntryS_is (k : Nat) (l : List S77) (hl : l.length ≤ 1048576) (hk : l.length < k) : laws_toEntryS.f k l = some (l.map fun p => (⟨⟨p.f0.f0, p.f0.f1⟩, p.f1⟩ : S39)) := by
  unfold laws_toEntryS.f
  rw [if_pos (len_nn _), if_pos (by simp; omega)]
  have key : ∀ (rest pre : List S77) (k : Nat), l = pre ++ rest → rest.length < k →
      laws_toEntryS.l0 k l ((pre.map fun p => (⟨⟨p.f0.f0, p.f0.f1⟩, p.f1⟩ : S39)) ++ List.replicate rest.length z39) (pre.length : Int) = some (l.map fun p => (⟨⟨p.f0.f0, p.f0.f1⟩, p.f1⟩ : S39)) := by
    intro rest
    induction rest with
    | nil =>
      intro pre k e hk
      obtain ⟨k, rfl⟩ : ∃ m, k = m + 1 := ⟨k - 1, by omega⟩
      simp only [laws_toEntryS.l0]
      rw [if_neg (by rw [e]; simp)]
      simp [e]
    | cons a rest ih =>
      intro pre k e hk
      obtain ⟨k, rfl⟩ : ∃ m, k = m + 1 := ⟨k - 1, by omega⟩
      simp only [laws_toEntryS.l0, laws_toEntry.f, laws_toPrefix.f, Option.bind_some]
      rw [if_pos (by rw [e]; exact lt_mid _ _ _), if_pos (len_nn _), if_pos (by simp; omega), wrap_mid (rest := rest) (by rw [← e]; simp only [maxLen]; omega)]
      have h1 : rd_T77 l (pre.length : Int) = a := by rw [e]; exact rdm_LEntry _ _ _
      rw [h1, List.length_cons, List.replicate_succ]
      have h2 := ih (pre ++ [a]) k (by rw [e]; simp) (by simp at hk; omega)
      have h3 : ((pre.map fun p => (⟨⟨p.f0.f0, p.f0.f1⟩, p.f1⟩ : S39)) ++ z39 :: List.replicate rest.length z39).set ((pre.length : Int)).toNat (⟨⟨a.f0.f0, a.f0.f1⟩, a.f1⟩ : S39) = ((pre ++ [a]).map fun p => (⟨⟨p.f0.f0, p.f0.f1⟩, p.f1⟩ : S39)) ++ List.replicate rest.length z39 := by
        have := set_mid (pre.map fun p => (⟨⟨p.f0.f0, p.f0.f1⟩, p.f1⟩ : S39)) z39 ⟨⟨a.f0.f0, a.f0.f1⟩, a.f1⟩ (List.replicate rest.length z39)
        rw [List.length_map] at this
        rw [this]; simp
      rw [h3]; exact h2
  have := key l [] k rfl hk
  simpa using this
theorem impl_areRising_is (k : Nat) (l : List S37) (hl : l.length ≤ 1048576) (hk : l.length + 4 < k) : impl_areRising.f k l = some (rising (l.map pr)) := by
  unfold impl_areRising.f
  have key : ∀ (rest pre : List S37) (k : Nat), l = pre ++ rest → rest.length + 4 < k →
      impl_areRising.l0 k l l (l.length : Int) (pre.length : Int) = some (risingFrom ((pre.map pr).getLast?) (rest.map pr)) := by
    intro rest
    induction rest with
    | nil =>
      intro pre k e hk
      obtain ⟨k, rfl⟩ : ∃ m, k = m + 1 := ⟨k - 1, by omega⟩
      simp only [impl_areRising.l0]
      rw [if_neg (by rw [e]; simp)]
      simp [risingFrom]
    | cons a rest ih =>
      intro pre k e hk
      obtain ⟨k, rfl⟩ : ∃ m, k = m + 1 := ⟨k - 1, by omega⟩
      have h1 : rd_T37 l (pre.length : Int) = a := by rw [e]; exact rdm_Prefix _ _ _
      have hih := ih (pre ++ [a]) k (by rw [e]; simp) (by simp at hk; omega)
      rw [List.map_append, List.map_singleton, List.getLast?_concat] at hih
      simp only [impl_areRising.l0]
      rw [if_pos (by rw [e]; exact lt_mid _ _ _), if_pos (len_nn _), if_pos (by rw [e]; exact lt_mid _ _ _), h1, impl_GoodPrefix_is, Option.bind_some, wrap_mid (rest := rest) (by rw [← e]; simp only [maxLen]; omega)]
      simp only [List.map_cons, risingFrom]
      by_cases hg : good a.f0 a.f1 = true
      · rw [if_pos hg]
        rcases snoc_cases pre with rfl | ⟨pre', q, rfl⟩
        · rw [if_neg (by simp)]
          simp only [List.nil_append, List.length_singleton] at hih
          rw [show (([] : List S37) ++ [a]).length = 1 from rfl, hih]
          simp [pr, hg]
        · have h2 : wrap64 (((pre' ++ [q]).length : Int) - 1) = (pre'.length : Int) := by
            have : (pre' ++ [q] ++ a :: rest).length ≤ 1048576 := by rw [← e]; exact hl
            simp at this
            rw [List.length_append, List.length_singleton, wrap_id (by omega) (by omega)]; omega
          have h3 : rd_T37 l (pre'.length : Int) = q := by rw [e, List.append_assoc]; exact rdm_Prefix _ _ _
          obtain ⟨k', rfl⟩ : ∃ m, k = m + 3 := ⟨k - 3, by simp at hk; omega⟩
          rw [if_pos (by rw [List.length_append, List.length_singleton]; omega), h2, if_pos (len_nn _), if_pos (by rw [e, List.length_append, List.length_append, List.length_singleton]; omega), h3, impl_compare_is, Option.bind_some, hih, List.map_append, List.map_singleton, List.getLast?_concat]
          by_cases hc : cmpP q.f0 q.f1 a.f0 a.f1 ≥ 0
          · rw [if_pos hc]
            have : ¬ cmpP q.f0 q.f1 a.f0 a.f1 < 0 := by omega
            simp [pr, this]
          · rw [if_neg hc]
            have : cmpP q.f0 q.f1 a.f0 a.f1 < 0 := by omega
            simp [pr, hg, this]
      · rw [if_neg hg]
        simp [pr, hg]
  exact key l [] k rfl hk
theorem impl_isValue_is (a : Int) : impl_isValue.f a = some (isVal a) := by
  unfold impl_isValue.f; rw [impl_within_is]; rfl
theorem spec_l2Value_is (a : Int) : spec_l2Value.f a = some (isVal a) := by
  unfold spec_l2Value.f; rw [spec_l1In_is]; rfl
theorem impl_prefixesOf_is (k : Nat) (l : List S39) (hl : l.length ≤ 1048576) (hk : l.length < k) : impl_prefixesOf.f k l = some (l.map fun x => (⟨x.f0.f0, x.f0.f1⟩ : S37)) := by
  unfold impl_prefixesOf.f
  have key : ∀ (rest pre : List S39) (k : Nat), l = pre ++ rest → rest.length < k →
      impl_prefixesOf.l0 k (pre.map fun x => (⟨x.f0.f0, x.f0.f1⟩ : S37)) l (l.length : Int) (pre.length : Int) = some (l.map fun x => (⟨x.f0.f0, x.f0.f1⟩ : S37)) := by
    intro rest
    induction rest with
    | nil =>
      intro pre k e hk
      obtain ⟨k, rfl⟩ : ∃ m, k = m + 1 := ⟨k - 1, by omega⟩
      simp only [impl_prefixesOf.l0]
      rw [if_neg (by rw [e]; simp)]
      simp [e]
    | cons a rest ih =>
      intro pre k e hk
      obtain ⟨k, rfl⟩ : ∃ m, k = m + 1 := ⟨k - 1, by omega⟩
      have h1 : rd_T39 l (pre.length : Int) = a := by rw [e]; exact rdm_Entry _ _ _
      have hlen : pre.length < 8796093022208 := by
        have : (pre ++ a :: rest).length ≤ 1048576 := by rw [← e]; exact hl
        simp at this; omega
      have hih := ih (pre ++ [a]) k (by rw [e]; simp) (by simp at hk; omega)
      rw [List.map_append, List.map_singleton] at hih
      simp only [impl_prefixesOf.l0]
      rw [if_pos (by rw [e]; exact lt_mid _ _ _), if_pos (len_nn _), if_pos (by rw [e]; exact lt_mid _ _ _), if_pos (by simpa using hlen), h1, wrap_mid (rest := rest) (by rw [← e]; simp only [maxLen]; omega)]
      exact hih
  exact key l [] k rfl hk
theorem impl_GoodTable_1_is (a n v : Int) : impl_GoodTable_1.f a n v = some (!isVal v) := by
  unfold impl_GoodTable_1.f; rw [impl_isValue_is]; rfl
def ent (e : S39) : Pr := (e.f0.f0, e.f0.f1)
def goodTable (l : List S39) : Bool := decide (l.length ≤ 30) && rising (l.map ent) && l.all (fun e => isVal e.f1)
theorem impl_GoodTable_any (k : Nat) (l : List S39) (hl : l.length ≤ 1048576) (hk : l.length < k) : slices_ContainsFunc_impl_Entry_impl_Entry.f k l = some (l.any fun e => !isVal e.f1) := by
  unfold slices_ContainsFunc_impl_Entry_impl_Entry.f slices_IndexFunc_impl_Entry_impl_Entry.f
  have key : ∀ (rest pre : List S39) (k : Nat), l = pre ++ rest → rest.length < k →
      ∃ r : Int, slices_IndexFunc_impl_Entry_impl_Entry.l0 k l (l.length : Int) (pre.length : Int) = some r ∧ (0 ≤ r ↔ (rest.any fun e => !isVal e.f1) = true) := by
    intro rest
    induction rest with
    | nil =>
      intro pre k e hk
      obtain ⟨k, rfl⟩ : ∃ m, k = m + 1 := ⟨k - 1, by omega⟩
      refine ⟨-1, ?_, by simp⟩
      simp only [slices_IndexFunc_impl_Entry_impl_Entry.l0]
      rw [if_neg (by rw [e]; simp)]
    | cons a rest ih =>
      intro pre k e hk
      obtain ⟨k, rfl⟩ : ∃ m, k = m + 1 := ⟨k - 1, by omega⟩
      have h1 : rd_T39 l (pre.length : Int) = a := by rw [e]; exact rdm_Entry _ _ _
      simp only [slices_IndexFunc_impl_Entry_impl_Entry.l0]
      rw [if_pos (by rw [e]; exact lt_mid _ _ _), if_pos (len_nn _), if_pos (by rw [e]; exact lt_mid _ _ _), h1, impl_GoodTable_1_is, Option.bind_some, wrap_mid (rest := rest) (by rw [← e]; simp only [maxLen]; omega)]
      by_cases hv : (!isVal a.f1) = true
      · rw [if_pos hv]
        exact ⟨_, rfl, by simp [hv]⟩
      · rw [if_neg hv]
        obtain ⟨r, hr, hi⟩ := ih (pre ++ [a]) k (by rw [e]; simp) (by simp at hk; omega)
        refine ⟨r, hr, ?_⟩
        rw [hi]; simp [hv]
  obtain ⟨r, hr, hi⟩ := key l [] k rfl hk
  have hr' : slices_IndexFunc_impl_Entry_impl_Entry.l0 k l (l.length : Int) 0 = some r := hr
  rw [hr', Option.bind_some]
  congr 1
  by_cases h : 0 ≤ r
  · rw [hi.1 h]; simp [h]
  · have : (l.any fun e => !isVal e.f1) = false := by
      cases hb : (l.any fun e => !isVal e.f1) with
      | false => rfl
      | true => exact absurd (hi.2 hb) h
    rw [this]; simp; omega
theorem impl_GoodTable_is (k : Nat) (l : List S39) (hl : l.length ≤ 1048576) (hk : l.length + 4 < k) : impl_GoodTable.f k l = some (goodTable l) := by
  unfold impl_GoodTable.f goodTable
  by_cases h : (l.length : Int) ≤ 30
  · rw [if_pos h, impl_prefixesOf_is k l hl (by omega), Option.bind_some, impl_areRising_is k _ (by simpa using hl) (by simpa using hk), Option.bind_some]
    have he : ((l.map fun x => (⟨x.f0.f0, x.f0.f1⟩ : S37)).map pr) = l.map ent := by rw [List.map_map]; rfl
    rw [he]
    have h30 : l.length ≤ 30 := by omega
    by_cases hr : rising (l.map ent) = true
    · rw [if_pos hr, impl_GoodTable_any k l hl (by omega), Option.bind_some]
      simp only [h30, decide_true, hr, Bool.true_and, List.not_any_eq_all_not, Bool.not_not]
    · rw [if_neg hr]
      simp [hr]
  · rw [if_neg h]
    have h30 : ¬ l.length ≤ 30 := by omega
    simp [h30]
theorem spec_GoodTable_is (k : Nat) (l : List S39) (hl : l.length ≤ 1048576) (hk : l.length + 2 < k) : spec_GoodTable.f k l = some (goodTable l) := by
  unfold spec_GoodTable.f
  have key : ∀ (rest pre : List S39) (k : Nat), l = pre ++ rest → rest.length + 2 < k →
      spec_GoodTable.l0 k l l (l.length : Int) (pre.length : Int) = some (decide (l.length ≤ 30) && risingFrom ((pre.map ent).getLast?) (rest.map ent) && rest.all (fun e => isVal e.f1)) := by
    intro rest
    induction rest with
    | nil =>
      intro pre k e hk
      obtain ⟨k, rfl⟩ : ∃ m, k = m + 1 := ⟨k - 1, by omega⟩
      simp only [spec_GoodTable.l0]
      rw [if_neg (by rw [e]; simp)]
      have : ((l.length : Int) ≤ 30) ↔ l.length ≤ 30 := by omega
      simp [risingFrom, this]
    | cons a rest ih =>
      intro pre k e hk
      obtain ⟨k, rfl⟩ : ∃ m, k = m + 1 := ⟨k - 1, by omega⟩
      have h1 : rd_T39 l (pre.length : Int) = a := by rw [e]; exact rdm_Entry _ _ _
      have hih := ih (pre ++ [a]) k (by rw [e]; simp) (by simp at hk; omega)
      rw [List.map_append, List.map_singleton, List.getLast?_concat] at hih
      simp only [spec_GoodTable.l0]
      rw [if_pos (by rw [e]; exact lt_mid _ _ _), if_pos (len_nn _), if_pos (by rw [e]; exact lt_mid _ _ _), h1, spec_GoodPrefix_is, Option.bind_some, spec_l2Value_is, Option.bind_some, wrap_mid (rest := rest) (by rw [← e]; simp only [maxLen]; omega)]
      simp only [List.map_cons, risingFrom, List.all_cons]
      by_cases hg : good a.f0.f0 a.f0.f1 = true
      · rw [if_pos hg]
        by_cases hv : isVal a.f1 = true
        · rw [if_pos hv]
          rcases snoc_cases pre with rfl | ⟨pre', q, rfl⟩
          · rw [if_neg (by simp)]
            simp only [List.nil_append, List.length_singleton] at hih
            rw [show (([] : List S39) ++ [a]).length = 1 from rfl, hih]
            simp [ent, hg, hv]
          · have h2 : wrap64 (((pre' ++ [q]).length : Int) - 1) = (pre'.length : Int) := by
              have : (pre' ++ [q] ++ a :: rest).length ≤ 1048576 := by rw [← e]; exact hl
              simp at this
              rw [List.length_append, List.length_singleton, wrap_id (by omega) (by omega)]; omega
            have h3 : rd_T39 l (pre'.length : Int) = q := by rw [e, List.append_assoc]; exact rdm_Entry _ _ _
            obtain ⟨k', rfl⟩ : ∃ m, k = m + 1 := ⟨k - 1, by simp at hk; omega⟩
            rw [if_pos (by rw [List.length_append, List.length_singleton]; omega), h2, if_pos (len_nn _), if_pos (by rw [e, List.length_append, List.length_append, List.length_singleton]; omega), h3, spec_l1Compare_is, Option.bind_some, hih, List.map_append, List.map_singleton, List.getLast?_concat]
            by_cases hc : cmpP q.f0.f0 q.f0.f1 a.f0.f0 a.f0.f1 ≥ 0
            · rw [if_pos hc]
              have : ¬ cmpP q.f0.f0 q.f0.f1 a.f0.f0 a.f0.f1 < 0 := by omega
              simp [ent, this]
            · rw [if_neg hc]
              have : cmpP q.f0.f0 q.f0.f1 a.f0.f0 a.f0.f1 < 0 := by omega
              simp [ent, hg, hv, this]
        · rw [if_neg hv]
          simp [hv]
      · rw [if_neg hg]
        simp [ent, hg]
  exact key l [] k rfl hk
theorem laws_szEntryS_is (l : List S77) (m0 : l.length ≤ maxLen) : ∃ r, laws_szEntryS.f l 1048576 = some r ∧ (¬ r < 0 → l.length ≤ 1048576) := by
  unfold laws_szEntryS.f
  by_cases h : wrap64 (1048576 - (l.length : Int)) < 0
  · exact ⟨_, if_pos h, fun h' => absurd (by omega) h'⟩
  · exact ⟨_, if_neg h, fun h' => sz_ok m0 (if_neg h) h'⟩
theorem map_pr_inj : ∀ {l l' : List S37}, l.map pr = l'.map pr → l = l'
  | [], [], _ => rfl
  | [], _ :: _, h => by simp at h
  | _ :: _, [], h => by simp at h
  | a :: t, b :: t', h => by
    simp only [List.map_cons, List.cons.injEq] at h
    rw [pr_inj h.1, map_pr_inj h.2]
theorem slices_Repeat_one (a n : Int) (h0 : 0 ≤ n) (h1 : n ≤ 17592186044416) : slices_Repeat_int_int.f [a] n = some (List.replicate n.toNat a) := by
  unfold slices_Repeat_int_int.f
  dsimp only
  rw [if_pos h0, if_pos h1]
theorem rdm_Node (pre : List S86) (a : S86) (rest : List S86) : rd_T86 (pre ++ a :: rest) (pre.length : Int) = a := by unfold rd_T86; simp
/-- A half's number is put down with its depth, if it may stand there. -/
def tput (n i : Int) (D : List Int) (x : Int) : Option (List Int) := if x = 0 then some D else if i + 1 ≤ x ∧ x ≤ n - 1 ∧ rd D x < 0 then some (D.set x.toNat (rd D i + 1)) else none
def nodeOk (i : Int) (a : S86) : Bool := isVal a.f3 && (a.f2 || (a.f3 == 0 && !(decide (0 < i) && (a.f0 == 0 && a.f1 == 0))))
def trieOk (n : Int) : List S86 → Int → List Int → Int → Bool
  | [], _, _, c => decide (c ≤ 30)
  | a :: t, i, D, c => if rd D i < 0 ∨ rd D i > 32 then false else if nodeOk i a = true then
      (match (tput n i D a.f0).bind (fun D => tput n i D a.f1) with
      | none => false
      | some D' => trieOk n t (i + 1) D' (if a.f2 = true then c + 1 else c)) else false
def goodTrie (l : List S86) : Bool := if 1 ≤ (l.length : Int) ∧ (l.length : Int) ≤ 2000 then trieOk l.length l 0 ((List.replicate l.length (-1 : Int)).set 0 0) 0 else false
theorem rd_set_ne {D : List Int} {x y : Int} {v : Int} (hx : 0 ≤ x) (hy : 0 ≤ y) (h : x ≠ y) : rd (D.set x.toNat v) y = rd D y := by
  unfold rd
  have : x.toNat ≠ y.toNat := by omega
  simp only [List.getD_eq_getElem?_getD, List.getElem?_set_ne this]
theorem rd_set_eq {D : List Int} {x : Int} {v : Int} (hx : 0 ≤ x) (h : x < (D.length : Int)) : rd (D.set x.toNat v) x = v := by
  unfold rd
  have : x.toNat < D.length := by omega
  simp [List.getD_eq_getElem?_getD, List.getElem?_set, this]
/-- Depths are from -1 to 33. -/
def DepB (D : List Int) : Prop := ∀ j : Int, 0 ≤ j → -1 ≤ rd D j ∧ rd D j ≤ 33
theorem tput_ok {n i : Int} {D D' : List Int} {x : Int} (h : tput n i D x = some D') (hi : 0 ≤ i) (hb : DepB D) (hd : rd D i ≤ 32) (hn : (D.length : Int) = n) : D'.length = D.length ∧ DepB D' ∧ rd D' i = rd D i ∧ (∀ j, 0 ≤ j → 0 ≤ rd D j → rd D' j = rd D j) := by
  unfold tput at h
  by_cases h0 : x = 0
  · rw [if_pos h0] at h; cases h; exact ⟨rfl, hb, rfl, fun _ _ _ => rfl⟩
  · rw [if_neg h0] at h
    by_cases h1 : i + 1 ≤ x ∧ x ≤ n - 1 ∧ rd D x < 0
    · rw [if_pos h1] at h
      cases h
      refine ⟨List.length_set .., fun j hj => ?_, rd_set_ne (by omega) hi (by omega), fun j hj hd2 => rd_set_ne (by omega) hj (fun e => by subst e; omega)⟩
      by_cases e : x = j
      · subst e
        rw [rd_set_eq hj (by omega)]
        have := hb i hi
        omega
      · rw [rd_set_ne (by omega) hj e]; exact hb j hj
    · rw [if_neg h1] at h; cases h
theorem impl_trie_child {l : List S86} {D L : List Int} {c i : Int} {r : Bool} (hn : (l.length : Int) ≤ 2000) (hD : D.length = l.length) (hb : DepB D) (hi : 0 ≤ i) (hi2 : i < (l.length : Int)) (hd : 0 ≤ rd D i ∧ rd D i ≤ 32)
    (q : Nat) (hL : L.length = 2) (hq : q < 2)
    (h : match tput (l.length : Int) i D (rd L q) with | none => r = false | some D' => Ev (fun k => impl_GoodTrie.l1 k l D' c i l (l.length : Int) i L 2 ((q + 1 : Nat) : Int)) r) :
    Ev (fun k => impl_GoodTrie.l1 k l D c i l (l.length : Int) i L 2 (q : Int)) r := by
  have hw : wrap64 ((q : Int) + 1) = ((q + 1 : Nat) : Int) := by rw [wrap_id (by omega) (by omega)]; omega
  have hw1 : wrap64 (i + 1) = i + 1 := wrap_id (by omega) (by omega)
  have hw2 : wrap64 ((l.length : Int) - 1) = (l.length : Int) - 1 := wrap_id (by omega) (by omega)
  have hw3 : wrap64 (rd D i + 1) = rd D i + 1 := wrap_id (by omega) (by omega)
  unfold tput at h
  by_cases h0 : rd L q = 0
  · rw [if_pos h0] at h
    refine Ev.step (fun k => ?_) h
    rw [impl_GoodTrie.l1, if_pos (by omega), if_pos (by omega), if_pos (by rw [hL]; omega), if_pos h0, hw]
  · rw [if_neg h0] at h
    by_cases h1 : i + 1 ≤ rd L q ∧ rd L q ≤ (l.length : Int) - 1
    · by_cases h2 : rd D (rd L q) < 0
      · rw [if_pos ⟨h1.1, h1.2, h2⟩] at h
        refine Ev.step (fun k => ?_) h
        rw [impl_GoodTrie.l1, if_pos (by omega), if_pos (by omega), if_pos (by rw [hL]; omega), if_neg h0, impl_within_is, Option.bind_some, hw1, hw2, if_pos (decide_eq_true h1), if_pos (by omega), if_pos (by rw [hD]; omega), if_neg (by omega), if_pos hi, if_pos (by rw [hD]; omega), hw, hw3]
      · rw [if_neg (fun h' => h2 h'.2.2)] at h
        subst h
        refine Ev.step (fun k => ?_) (Ev.now _)
        rw [impl_GoodTrie.l1, if_pos (by omega), if_pos (by omega), if_pos (by rw [hL]; omega), if_neg h0, impl_within_is, Option.bind_some, hw1, hw2, if_pos (decide_eq_true h1), if_pos (by omega), if_pos (by rw [hD]; omega), if_pos (by omega)]
    · rw [if_neg (fun h' => h1 ⟨h'.1, h'.2.1⟩)] at h
      subst h
      refine Ev.step (fun k => ?_) (Ev.now _)
      rw [impl_GoodTrie.l1, if_pos (by omega), if_pos (by omega), if_pos (by rw [hL]; omega), if_neg h0, impl_within_is, Option.bind_some, hw1, hw2, if_neg (by simpa using h1)]
theorem impl_trie_l0 {l : List S86} (hn : (l.length : Int) ≤ 2000) : ∀ (rest pre : List S86) (D : List Int) (c : Int), l = pre ++ rest → D.length = l.length → DepB D → 0 ≤ c → c ≤ pre.length →
    Ev (fun k => impl_GoodTrie.l0 k l D c l (l.length : Int) (pre.length : Int)) (trieOk l.length rest pre.length D c)
  | [], pre, D, c, e, hD, hb, c0, c1 => by
    refine Ev.step (fun k => ?_) (Ev.now _)
    rw [impl_GoodTrie.l0, if_neg (by rw [e]; simp), trieOk]
  | a :: rest, pre, D, c, e, hD, hb, c0, c1 => by
    have hlen : (l.length : Int) = pre.length + (rest.length + 1) := by rw [e]; simp
    have h1 : rd_T86 l (pre.length : Int) = a := by rw [e]; exact rdm_Node _ _ _
    have hbi := hb (pre.length : Int) (by omega)
    have step : ∀ bad : Bool, (bad = (decide (rd D (pre.length : Int) < 0 ∨ rd D (pre.length : Int) > 32) || !nodeOk (pre.length : Int) a)) → ∀ k, impl_GoodTrie.l0 (k + 1) l D c l (l.length : Int) (pre.length : Int) = impl_GoodTrie.j1 k l D c (pre.length : Int) l (l.length : Int) (pre.length : Int) bad a.f0 a.f1 a.f2 a.f3 := by
      intro bad hbad k
      rw [impl_GoodTrie.l0, if_pos (by omega), if_pos (by omega), if_pos (by omega), if_pos (by rw [hD]; omega), h1]
      subst hbad
      by_cases b1 : rd D (pre.length : Int) < 0
      · rw [if_pos b1]; simp [b1]
      · rw [if_neg b1]
        by_cases b2 : rd D (pre.length : Int) > 32
        · rw [if_pos b2]; simp [b2]
        · rw [if_neg b2, impl_isValue_is, Option.bind_some]
          have b3 : (decide (rd D (pre.length : Int) < 0 ∨ rd D (pre.length : Int) > 32)) = false := decide_eq_false (fun h => h.elim b1 b2)
          rw [b3, Bool.false_or]
          unfold nodeOk
          cases hv : isVal a.f3
          · rfl
          · rw [if_pos rfl]
            cases hh : a.f2
            · rw [if_neg (by simp)]
              by_cases b4 : a.f3 = 0
              · rw [if_pos b4]
                by_cases b5 : (pre.length : Int) > 0
                · rw [if_pos b5]
                  by_cases b6 : a.f0 = 0
                  · rw [if_pos b6]
                    have b5' : decide (0 < (pre.length : Int)) = true := decide_eq_true b5
                    simp only [b4, b5', b6, beq_self_eq_true, Bool.true_and, Bool.false_or, Bool.not_not]
                  · rw [if_neg b6]
                    have b6' : (a.f0 == 0) = false := by simpa using b6
                    simp [b4, b6']
                · rw [if_neg b5]
                  have b5' : decide (0 < (pre.length : Int)) = false := decide_eq_false b5
                  simp only [b4, b5', beq_self_eq_true, Bool.true_and, Bool.false_and, Bool.not_false, Bool.or_true, Bool.not_true]
              · rw [if_neg b4]
                have b4' : (a.f3 == 0) = false := by simpa using b4
                simp [b4']
            · rw [if_pos rfl]
              by_cases b5 : (pre.length : Int) > 0
              · rw [if_pos b5]; simp
              · rw [if_neg b5]; simp
    refine Ev.step (step _ rfl) ?_
    rw [trieOk]
    by_cases hd : rd D (pre.length : Int) < 0 ∨ rd D (pre.length : Int) > 32
    · rw [if_pos hd, decide_eq_true hd]
      refine Ev.step (fun k => ?_) (Ev.now _)
      rw [impl_GoodTrie.j1, if_pos (by rfl)]
    · rw [if_neg hd, decide_eq_false hd, Bool.false_or]
      cases hok : nodeOk (pre.length : Int) a
      · rw [if_neg (by simp)]
        refine Ev.step (fun k => ?_) (Ev.now _)
        rw [impl_GoodTrie.j1, if_pos (by rfl)]
      · rw [if_pos rfl]
        have hd2 : 0 ≤ rd D (pre.length : Int) ∧ rd D (pre.length : Int) ≤ 32 := by omega
        have hwc : wrap64 (c + 1) = c + 1 := wrap_id (by omega) (by omega)
        have hcc : (0 ≤ if a.f2 = true then c + 1 else c) ∧ (if a.f2 = true then c + 1 else c) ≤ (pre.length : Int) + 1 := by by_cases h : a.f2 = true <;> simp only [h, if_true, if_false, Bool.false_eq_true] <;> omega
        have key : ∀ c', 0 ≤ c' → c' ≤ (pre.length : Int) + 1 → Ev (fun k => impl_GoodTrie.j2 k l D c' (pre.length : Int) l (l.length : Int) (pre.length : Int) a.f0 a.f1 a.f2 a.f3) (match (tput (l.length : Int) (pre.length : Int) D a.f0).bind (fun D => tput (l.length : Int) (pre.length : Int) D a.f1) with | none => false | some D' => trieOk (l.length : Int) rest ((pre.length : Int) + 1) D' c') := by
          intro c' g0 g1
          refine Ev.step (f := fun k => impl_GoodTrie.l1 k l D c' (pre.length : Int) l (l.length : Int) (pre.length : Int) [a.f0, a.f1] 2 ((0 : Nat) : Int)) (fun k => ?_) ?_
          · rw [impl_GoodTrie.j2, Option.bind_some]; rfl
          · refine impl_trie_child hn hD hb (by omega) (by omega) hd2 0 rfl (by omega) ?_
            rw [show rd [a.f0, a.f1] ((0 : Nat) : Int) = a.f0 from rfl]
            cases hp : tput (l.length : Int) (pre.length : Int) D a.f0 with
            | none => rfl
            | some D1 =>
              obtain ⟨g2, g3, g4, _⟩ := tput_ok hp (by omega) hb hd2.2 (by rw [hD])
              refine impl_trie_child hn (by omega) g3 (by omega) (by omega) (by omega) 1 rfl (by omega) ?_
              rw [show rd [a.f0, a.f1] ((1 : Nat) : Int) = a.f1 from rfl, Option.bind_some]
              cases hp2 : tput (l.length : Int) (pre.length : Int) D1 a.f1 with
              | none => rfl
              | some D2 =>
                obtain ⟨g5, g6, g7, _⟩ := tput_ok hp2 (by omega) g3 (by omega) (by rw [g2, hD])
                refine Ev.step (f := fun k => impl_GoodTrie.l0 k l D2 c' l (l.length : Int) ((pre ++ [a]).length : Int)) (fun k => ?_) ?_
                · rw [impl_GoodTrie.l1, if_neg (by decide), wrap_mid (rest := rest) (by rw [← e]; simp only [maxLen]; omega)]
                · have := impl_trie_l0 hn rest (pre ++ [a]) D2 c' (by rw [e]; simp) (by omega) g6 g0 (by simp; omega)
                  rwa [show ((pre ++ [a]).length : Int) = (pre.length : Int) + 1 by simp] at this ⊢
        refine Ev.step (f := fun k => impl_GoodTrie.j2 k l D (if a.f2 = true then c + 1 else c) (pre.length : Int) l (l.length : Int) (pre.length : Int) a.f0 a.f1 a.f2 a.f3) (fun k => ?_) (key _ hcc.1 hcc.2)
        rw [impl_GoodTrie.j1, if_neg (by decide), hwc]
        by_cases h : a.f2 = true
        · rw [if_pos h, if_pos h]
        · rw [if_neg h, if_neg h]
theorem depB_first (n : Nat) : DepB ((List.replicate n (-1 : Int)).set 0 0) := by
  intro j hj
  unfold rd
  rw [List.getD_eq_getElem?_getD, List.getElem?_set]
  by_cases h : 0 = j.toNat
  · rw [if_pos h]
    by_cases h2 : 0 < (List.replicate n (-1 : Int)).length
    · rw [if_pos h2]; simp
    · rw [if_neg h2]; simp
  · rw [if_neg h, List.getElem?_replicate]
    by_cases h2 : j.toNat < n
    · rw [if_pos h2]; simp
    · rw [if_neg h2]; simp
theorem impl_GoodTrie_is (l : List S86) : Ev (fun k => impl_GoodTrie.f k l) (goodTrie l) := by
  unfold goodTrie
  by_cases h : 1 ≤ (l.length : Int) ∧ (l.length : Int) ≤ 2000
  · rw [if_pos h]
    refine Ev.congr (f := fun k => impl_GoodTrie.l0 k l ((List.replicate l.length (-1 : Int)).set 0 0) 0 l (l.length : Int) (([] : List S86).length : Int)) (fun k => ?_) (impl_trie_l0 h.2 l [] _ 0 rfl (by simp) (depB_first _) (by omega) (by simp))
    unfold impl_GoodTrie.f
    rw [impl_within_is, Option.bind_some, if_pos (decide_eq_true h)]
    rw [slices_Repeat_one _ _ (by omega) (by omega), Option.bind_some, if_pos (by rw [List.length_replicate]; omega)]
    simp
  · rw [if_neg h]
    refine Ev.congr (fun k => ?_) (Ev.now false)
    unfold impl_GoodTrie.f
    rw [impl_within_is, Option.bind_some, if_neg (by simpa using h)]
theorem laws_eqTrieNode_self (a b : Int) (c : Bool) (d : Int) : laws_eqTrieNode.f a b c d a b c d = some true := by
  unfold laws_eqTrieNode.f; simp
theorem laws_eqTrieNodeS_refl (k : Nat) (l : List S86) (hl : l.length ≤ maxLen) (hk : l.length < k) : laws_eqTrieNodeS.f k l l = some true := by
  unfold laws_eqTrieNodeS.f
  rw [if_pos rfl]
  have key : ∀ (rest pre : List S86) (k : Nat), l = pre ++ rest → rest.length < k → laws_eqTrieNodeS.l0 k l l (pre.length : Int) = some true := by
    intro rest
    induction rest with
    | nil =>
      intro pre k e hk
      obtain ⟨k, rfl⟩ : ∃ m, k = m + 1 := ⟨k - 1, by omega⟩
      simp only [laws_eqTrieNodeS.l0]
      rw [if_neg (by rw [e]; simp)]
    | cons a rest ih =>
      intro pre k e hk
      obtain ⟨k, rfl⟩ : ∃ m, k = m + 1 := ⟨k - 1, by omega⟩
      simp only [laws_eqTrieNodeS.l0]
      rw [if_pos (by rw [e]; exact lt_mid _ _ _), if_pos (len_nn _), if_pos (by rw [e]; exact lt_mid _ _ _), laws_eqTrieNode_self]
      simp only [Option.bind_some, if_true]
      rw [wrap_mid (rest := rest) (by rw [← e]; exact hl)]
      exact ih (pre ++ [a]) k (by rw [e]; simp) (by simp at hk; omega)
  exact key l [] k rfl hk
/-- A half's number: none, or a later node's. -/
def kidOk (n i x : Int) : Prop := x = 0 ∨ (i + 1 ≤ x ∧ x ≤ n - 1)
theorem tput_kid {n i : Int} {D D' : List Int} {x : Int} (h : tput n i D x = some D') : kidOk n i x := by
  unfold tput at h
  by_cases h0 : x = 0
  · exact .inl h0
  · rw [if_neg h0] at h
    by_cases h1 : i + 1 ≤ x ∧ x ≤ n - 1 ∧ rd D x < 0
    · exact .inr ⟨h1.1, h1.2.1⟩
    · rw [if_neg h1] at h; cases h
theorem trieOk_kids (n : Int) : ∀ (rest : List S86) (i : Int) (D : List Int) (c : Int), trieOk n rest i D c = true → ∀ (j : Nat) (a : S86), rest[j]? = some a → (kidOk n (i + j) a.f0 ∧ kidOk n (i + j) a.f1) ∧ isVal a.f3 = true
  | [], _, _, _, _, j, a, h => by simp at h
  | b :: t, i, D, c, ht, j, a, h => by
    rw [trieOk] at ht
    by_cases hd : rd D i < 0 ∨ rd D i > 32
    · rw [if_pos hd] at ht; cases ht
    · rw [if_neg hd] at ht
      cases hok : nodeOk i b
      · rw [hok, if_neg (by decide)] at ht; cases ht
      · rw [hok, if_pos rfl] at ht
        cases hp : tput n i D b.f0 with
        | none => rw [hp] at ht; cases ht
        | some D1 =>
          rw [hp, Option.bind_some] at ht
          cases hp2 : tput n i D1 b.f1 with
          | none => rw [hp2] at ht; cases ht
          | some D2 =>
            rw [hp2] at ht
            cases j with
            | zero =>
              simp at h
              subst h
              refine ⟨by simpa using ⟨tput_kid hp, tput_kid hp2⟩, ?_⟩
              unfold nodeOk at hok
              simp only [Bool.and_eq_true] at hok
              exact hok.1
            | succ j =>
              have := trieOk_kids n t (i + 1) D2 _ ht j a (by simpa using h)
              rwa [show i + 1 + (j : Int) = i + ((j + 1 : Nat) : Int) by omega] at this
theorem goodTrie_len {l : List S86} (h : goodTrie l = true) : 1 ≤ (l.length : Int) ∧ (l.length : Int) ≤ 2000 := by
  unfold goodTrie at h
  by_cases h1 : 1 ≤ (l.length : Int) ∧ (l.length : Int) ≤ 2000
  · exact h1
  · rw [if_neg h1] at h; cases h
theorem goodTrie_kids {l : List S86} (h : goodTrie l = true) {i : Int} (h0 : 0 ≤ i) (h1 : i < (l.length : Int)) : (kidOk l.length i (rd_T86 l i).f0 ∧ kidOk l.length i (rd_T86 l i).f1) ∧ isVal (rd_T86 l i).f3 = true := by
  have hl := goodTrie_len h
  unfold goodTrie at h
  rw [if_pos hl] at h
  have hi : i.toNat < l.length := by omega
  have := trieOk_kids _ l 0 _ _ h i.toNat (l[i.toNat]'hi) (List.getElem?_eq_getElem hi)
  have e : rd_T86 l i = l[i.toNat]'hi := by unfold rd_T86; rw [List.getD_eq_getElem?_getD, List.getElem?_eq_getElem hi]; rfl
  rw [e]
  rwa [show (0 : Int) + (i.toNat : Int) = i by omega] at this
def bitv (a d : Int) : Int := Go.bits .and .i64 (shr .i64 a (31 - d)) 1
theorem bitv_range (a d : Int) : bitv a d = 0 ∨ bitv a d = 1 := by
  unfold bitv
  show IntKind.i64.wrap ((BitVec.ofInt 64 _ &&& BitVec.ofInt 64 1).toNat : Int) = 0 ∨ IntKind.i64.wrap ((BitVec.ofInt 64 _ &&& BitVec.ofInt 64 1).toNat : Int) = 1
  rw [BitVec.toNat_and]
  have h := @Nat.and_le_right (BitVec.ofInt 64 (shr .i64 a (31 - d))).toNat (BitVec.ofInt 64 1).toNat
  have h1 : (BitVec.ofInt 64 1).toNat = 1 := by decide
  rw [h1] at h ⊢
  generalize (BitVec.ofInt 64 (shr .i64 a (31 - d))).toNat &&& 1 = q at h ⊢
  rw [i64_w, wrap_id (by omega) (by omega)]
  omega
theorem impl_bitOf_is (a d : Int) (h0 : 0 ≤ d) (h1 : d ≤ 31) : impl_bitOf.f a d = some (bitv a d) := by
  unfold impl_bitOf.f bitv
  rw [wrap_id (by omega) (by omega), if_pos (by omega)]
theorem spec_l2Bit_is (a d : Int) (h0 : 0 ≤ d) (h1 : d ≤ 31) : spec_l2Bit.f a d = some (bitv a d) := by
  unfold spec_l2Bit.f bitv
  rw [wrap_id (by omega) (by omega), u64_id (by omega) (by omega), if_pos (by omega)]
def halfv (a : S86) (b : Int) : Int := if b = 1 then a.f1 else a.f0
theorem impl_half_is (a : S86) (b : Int) (h : b = 0 ∨ b = 1) : impl_TrieNode_half.f a.f0 a.f1 a.f2 a.f3 b = some (halfv a b) := by
  unfold impl_TrieNode_half.f halfv
  rcases h with rfl | rfl
  · rw [if_pos rfl, if_neg (by decide)]
  · rw [if_neg (by decide), if_pos rfl]
theorem spec_half_is (a : S86) (b : Int) : spec_l2Half.f a.f0 a.f1 a.f2 a.f3 b = some (halfv a b) := by
  unfold spec_l2Half.f halfv
  by_cases h : b = 1
  · rw [if_pos h, if_pos h]
  · rw [if_neg h, if_neg h]
theorem halfv_kid {n i b : Int} {a : S86} (h : kidOk n i a.f0 ∧ kidOk n i a.f1) : kidOk n i (halfv a b) := by
  unfold halfv
  by_cases hb : b = 1
  · rw [if_pos hb]; exact h.2
  · rw [if_neg hb]; exact h.1
def KidsV (l : List S86) : Prop := ∀ i : Int, 0 ≤ i → i < (l.length : Int) → kidOk l.length i (rd_T86 l i).f0 ∧ kidOk l.length i (rd_T86 l i).f1
theorem goodTrie_KidsV {l : List S86} (h : goodTrie l = true) : KidsV l := fun _ h0 h1 => (goodTrie_kids h h0 h1).1
theorem nrd_set_ne {l : List S86} {x y : Int} {v : S86} (hx : 0 ≤ x) (hy : 0 ≤ y) (h : x ≠ y) : rd_T86 (l.set x.toNat v) y = rd_T86 l y := by
  unfold rd_T86
  have : x.toNat ≠ y.toNat := by omega
  simp only [List.getD_eq_getElem?_getD, List.getElem?_set_ne this]
theorem nrd_set_eq {l : List S86} {x : Int} {v : S86} (hx : 0 ≤ x) (h : x < (l.length : Int)) : rd_T86 (l.set x.toNat v) x = v := by
  unfold rd_T86
  have : x.toNat < l.length := by omega
  simp [List.getD_eq_getElem?_getD, List.getElem?_set, this]
theorem nrd_app {l m : List S86} {x : Int} (hx : 0 ≤ x) (h : x < (l.length : Int)) : rd_T86 (l ++ m) x = rd_T86 l x := by
  unfold rd_T86
  rw [List.getD_eq_getElem?_getD, List.getD_eq_getElem?_getD, List.getElem?_append_left (by omega)]
theorem nrd_last {l : List S86} {a : S86} : rd_T86 (l ++ [a]) (l.length : Int) = a := by unfold rd_T86; simp
def withHalf (a : S86) (b n : Int) : S86 := if b = 1 then ⟨a.f0, n, a.f2, a.f3⟩ else ⟨n, a.f1, a.f2, a.f3⟩
/-- What is inserted: m bits are still to go, from depth d, at node i. -/
def insP (v a : Int) : Nat → Int → List S86 → Int → List S86
  | 0, _, l, i => l.set i.toNat ⟨(rd_T86 l i).f0, (rd_T86 l i).f1, true, v⟩
  | m + 1, d, l, i => if halfv (rd_T86 l i) (bitv a d) = 0 then insP v a m (d + 1) ((l ++ [(⟨0, 0, false, 0⟩ : S86)]).set i.toNat (withHalf (rd_T86 l i) (bitv a d) (l.length : Int))) (l.length : Int) else insP v a m (d + 1) l (halfv (rd_T86 l i) (bitv a d))
theorem KidsV.grow {l : List S86} (h : KidsV l) {i : Int} (b : Int) (h0 : 0 ≤ i) (h1 : i < (l.length : Int)) : KidsV ((l ++ [(⟨0, 0, false, 0⟩ : S86)]).set i.toNat (withHalf (rd_T86 l i) b (l.length : Int))) := by
  have hlen : ((((l ++ [(⟨0, 0, false, 0⟩ : S86)]).set i.toNat (withHalf (rd_T86 l i) b (l.length : Int))).length : Nat) : Int) = (l.length : Int) + 1 := by simp
  have up : ∀ {j x : Int}, kidOk l.length j x → kidOk ((l.length : Int) + 1) j x := fun hk => hk.elim .inl (fun hk => .inr ⟨hk.1, by omega⟩)
  intro j hj hj2
  rw [hlen] at hj2 ⊢
  by_cases e : i = j
  · subst e
    rw [nrd_set_eq h0 (by simp; omega)]
    have hk := h i h0 h1
    unfold withHalf
    by_cases hb : b = 1
    · rw [if_pos hb]; dsimp only; exact ⟨up hk.1, .inr ⟨by omega, by omega⟩⟩
    · rw [if_neg hb]; dsimp only; exact ⟨.inr ⟨by omega, by omega⟩, up hk.2⟩
  · rw [nrd_set_ne h0 hj e]
    by_cases e2 : j < (l.length : Int)
    · rw [nrd_app hj e2]
      have hk := h j hj e2
      exact ⟨up hk.1, up hk.2⟩
    · have : j = (l.length : Int) := by omega
      subst this
      rw [nrd_last]
      exact ⟨.inl rfl, .inl rfl⟩
theorem insP_len (v a : Int) : ∀ (m : Nat) (d : Int) (l : List S86) (i : Int), l.length ≤ (insP v a m d l i).length ∧ (insP v a m d l i).length ≤ l.length + m
  | 0, _, l, i => by simp [insP]
  | m + 1, d, l, i => by
    rw [insP]
    by_cases h : halfv (rd_T86 l i) (bitv a d) = 0
    · rw [if_pos h]
      have := insP_len v a m (d + 1) ((l ++ [(⟨0, 0, false, 0⟩ : S86)]).set i.toNat (withHalf (rd_T86 l i) (bitv a d) (l.length : Int))) (l.length : Int)
      simp only [List.length_set, List.length_append, List.length_singleton] at this
      omega
    · rw [if_neg h]
      have := insP_len v a m (d + 1) l (halfv (rd_T86 l i) (bitv a d))
      omega
/-- A node of the new trie has the value. -/
theorem insP_has (v a : Int) : ∀ (m : Nat) (d : Int) (l : List S86) (i : Int), KidsV l → 0 ≤ i → i < (l.length : Int) → ∃ j : Int, 0 ≤ j ∧ j < ((insP v a m d l i).length : Int) ∧ (rd_T86 (insP v a m d l i) j).f3 = v
  | 0, _, l, i, _, h0, h1 => ⟨i, h0, by simpa [insP] using h1, by rw [insP, nrd_set_eq h0 h1]⟩
  | m + 1, d, l, i, hk, h0, h1 => by
    rw [insP]
    by_cases h : halfv (rd_T86 l i) (bitv a d) = 0
    · rw [if_pos h]
      exact insP_has v a m (d + 1) _ _ (hk.grow _ h0 h1) (by omega) (by simp; omega)
    · rw [if_neg h]
      have hv := halfv_kid (b := bitv a d) (hk i h0 h1)
      exact insP_has v a m (d + 1) l _ hk (by rcases hv with e | e; exact absurd e h; omega) (by rcases hv with e | e; exact absurd e h; omega)
theorem last_set {l : List S86} {i v : Int} (h0 : 0 ≤ i) (h1 : i < (l.length : Int)) : ((some (l.set (i : Int).toNat (⟨(rd_T86 l i).f0, (rd_T86 l i).f1, true, (rd_T86 l i).f3⟩ : S86) : List S86)).bind fun y => (some (y.set (i : Int).toNat (⟨(rd_T86 y i).f0, (rd_T86 y i).f1, (rd_T86 y i).f2, v⟩ : S86)))) = some (l.set i.toNat ⟨(rd_T86 l i).f0, (rd_T86 l i).f1, true, v⟩) := by
  rw [Option.bind_some, nrd_set_eq h0 h1, List.set_set]
theorem impl_inserted_l0 (v a p : Int) : ∀ (m : Nat) (d : Int) (l : List S86) (i : Int) (k : Nat), KidsV l → 0 ≤ i → i < (l.length : Int) → 0 ≤ d → d + m = p → p ≤ 32 → l.length + m ≤ 100000000 → m < k → impl_inserted.l0 k v l i p d a p = some (insP v a m d l i)
  | 0, d, l, i, k, hk, h0, h1, h2, h3, h4, h5, h6 => by
    obtain ⟨k, rfl⟩ : ∃ j, k = j + 1 := ⟨k - 1, by omega⟩
    rw [impl_inserted.l0, if_neg (by omega), if_pos h0, if_pos h1, last_set h0 h1]
    rfl
  | m + 1, d, l, i, k, hk, h0, h1, h2, h3, h4, h5, h6 => by
    obtain ⟨k, rfl⟩ : ∃ j, k = j + 1 := ⟨k - 1, by omega⟩
    have hb := bitv_range a d
    have hw : wrap64 (d + 1) = d + 1 := wrap_id (by omega) (by omega)
    rw [impl_inserted.l0, if_pos (by omega), impl_bitOf_is _ _ h2 (by omega), Option.bind_some, if_pos h0, if_pos h1, impl_half_is _ _ hb, Option.bind_some, insP, hw]
    by_cases h : halfv (rd_T86 l i) (bitv a d) = 0
    · rw [if_pos h, if_pos h, if_pos (by omega), Option.bind_some, nrd_app h0 h1]
      have hg := hk.grow (bitv a d) h0 h1
      have ih := impl_inserted_l0 v a p m (d + 1) _ (l.length : Int) k hg (by omega) (by simp; omega) (by omega) (by omega) h4 (by simp; omega) (by omega)
      unfold withHalf at ih ⊢
      rcases hb with e | e
      · rw [if_pos e, if_pos (by simp; omega)]
        rw [if_neg (show ¬ bitv a d = 1 by omega)] at ih ⊢
        exact ih
      · rw [if_neg (show ¬ bitv a d = 0 by omega), if_pos (by simp; omega)]
        rw [if_pos e] at ih ⊢
        exact ih
    · rw [if_neg h, if_neg h]
      have hv := halfv_kid (b := bitv a d) (hk i h0 h1)
      exact impl_inserted_l0 v a p m (d + 1) l _ k hk (by rcases hv with e | e; exact absurd e h; omega) (by rcases hv with e | e; exact absurd e h; omega) (by omega) (by omega) h4 (by omega) (by omega)
theorem spec_insert_l0 (v a p : Int) : ∀ (m : Nat) (d : Int) (l : List S86) (i : Int) (k : Nat), KidsV l → 0 ≤ i → i < (l.length : Int) → 0 ≤ d → d + m = p → p ≤ 32 → l.length + m ≤ 100000000 → m < k → spec_l2Insert.l0 k l v i d a p = some (insP v a m d l i)
  | 0, d, l, i, k, hk, h0, h1, h2, h3, h4, h5, h6 => by
    obtain ⟨k, rfl⟩ : ∃ j, k = j + 1 := ⟨k - 1, by omega⟩
    rw [spec_l2Insert.l0, if_neg (by omega), if_pos h0, if_pos h1, last_set h0 h1]
    rfl
  | m + 1, d, l, i, k, hk, h0, h1, h2, h3, h4, h5, h6 => by
    obtain ⟨k, rfl⟩ : ∃ j, k = j + 1 := ⟨k - 1, by omega⟩
    have hb := bitv_range a d
    have hw : wrap64 (d + 1) = d + 1 := wrap_id (by omega) (by omega)
    rw [spec_l2Insert.l0, if_pos (by omega), spec_l2Bit_is _ _ h2 (by omega), Option.bind_some, if_pos h0, if_pos h1, spec_half_is, Option.bind_some, insP, hw]
    by_cases h : halfv (rd_T86 l i) (bitv a d) = 0
    · rw [if_pos h, if_pos h, if_pos (by omega), Option.bind_some, nrd_app h0 h1]
      have hg := hk.grow (bitv a d) h0 h1
      have ih := spec_insert_l0 v a p m (d + 1) _ (l.length : Int) k hg (by omega) (by simp; omega) (by omega) (by omega) h4 (by simp; omega) (by omega)
      unfold withHalf at ih ⊢
      rcases hb with e | e
      · rw [if_neg (show ¬ bitv a d = 1 by omega), if_pos (by simp; omega)]
        rw [if_neg (show ¬ bitv a d = 1 by omega)] at ih ⊢
        exact ih
      · rw [if_pos e, if_pos (by simp; omega)]
        rw [if_pos e] at ih ⊢
        exact ih
    · rw [if_neg h, if_neg h]
      have hv := halfv_kid (b := bitv a d) (hk i h0 h1)
      exact spec_insert_l0 v a p m (d + 1) l _ k hk (by rcases hv with e | e; exact absurd e h; omega) (by rcases hv with e | e; exact absurd e h; omega) (by omega) (by omega) h4 (by omega) (by omega)
theorem impl_inserted_is (l : List S86) (a p v : Int) (k : Nat) (hk : KidsV l) (h1 : 1 ≤ l.length) (h2 : l.length ≤ 1000000) (h3 : 0 ≤ p) (h4 : p ≤ 32) (h5 : 33 ≤ k) : impl_inserted.f k l a p v = some (insP v a p.toNat 0 l 0) := by
  unfold impl_inserted.f slices_Clone_impl_TrieNode_impl_TrieNode.f
  rw [if_pos (by omega), Option.bind_some]
  exact impl_inserted_l0 v a p p.toNat 0 l 0 k hk (by omega) (by omega) (by omega) (by omega) h4 (by omega) (by omega)
theorem spec_l2Insert_is (l : List S86) (a p v : Int) (k : Nat) (hk : KidsV l) (h1 : 1 ≤ l.length) (h2 : l.length ≤ 1000000) (h3 : 0 ≤ p) (h4 : p ≤ 32) (h5 : 33 ≤ k) : spec_l2Insert.f k l a p v = some (insP v a p.toNat 0 l 0) := by
  unfold spec_l2Insert.f
  exact spec_insert_l0 v a p p.toNat 0 l 0 k hk (by omega) (by omega) (by omega) (by omega) h4 (by omega) (by omega)
def mk_Node (q : Int) : Nat → List S86
  | 0 => []
  | n + 1 => ⟨q, q + 1, (Int.tmod (q + 2) 3 == 0), q + 3⟩ :: mk_Node (q + 4) n
theorem mk_Node_len (q : Int) (n : Nat) : (mk_Node q n).length = n := by
  induction n generalizing q with
  | zero => rfl
  | succ n ih => simp [mk_Node, ih]
theorem node_mid (pre : List S86) (a : S86) (rest : List S86) : rd_T86 (pre ++ a :: rest) (pre.length : Int) = a := rdm_Node _ _ _
theorem laws_markTrieNodeS_is (l : List S86) (hl : l.length ≤ 1000000000) (q : Int) (hq : 0 ≤ q) (hq2 : q ≤ 1000000000000) (k : Nat) (hk : l.length < k) : laws_markTrieNodeS.f k l q = some (q + 4 * l.length, mk_Node q l.length) := by
  have key : ∀ (rest pre : List S86) (k : Nat) (q : Int), (pre ++ rest).length ≤ 1000000000 → 0 ≤ q → q + 4 * rest.length ≤ 20000000000000 → rest.length < k → laws_markTrieNodeS.l0 k (pre ++ rest) q (pre.length : Int) = some (q + 4 * rest.length, pre ++ mk_Node q rest.length) := by
    intro rest
    induction rest with
    | nil =>
      intro pre k q _ _ _ hk
      obtain ⟨k, rfl⟩ : ∃ m, k = m + 1 := ⟨k - 1, by omega⟩
      rw [laws_markTrieNodeS.l0, if_neg (by simp)]
      simp [mk_Node]
    | cons a rest ih =>
      intro pre k q hp h0 h1 hk
      obtain ⟨k, rfl⟩ : ∃ m, k = m + 1 := ⟨k - 1, by omega⟩
      simp only [List.length_cons] at h1 hk
      rw [laws_markTrieNodeS.l0, if_pos (lt_mid _ _ _), if_pos (len_nn _)]
      simp only [Option.bind_some, set_mid, node_mid]
      rw [wrap_id (x := q + 1) (by omega) (by omega), wrap_id (x := q + 1 + 1) (by omega) (by omega), wrap_id (x := q + 1 + 1 + 1) (by omega) (by omega), wrap_id (x := q + 1 + 1 + 1 + 1) (by omega) (by omega), wrap_mid (pre := pre) (a := a) (rest := rest) (by simp only [maxLen]; omega)]
      have := ih (pre ++ [(⟨q, q + 1, (Int.tmod (q + 2) 3 == 0), q + 3⟩ : S86)]) k (q + 4) (by simp at hp ⊢; omega) (by omega) (by omega) (by omega)
      simp only [List.append_assoc, List.singleton_append] at this
      rw [show q + 1 + 1 + 1 + 1 = q + 4 by omega, show q + 1 + 1 + 1 = q + 3 by omega, show q + 1 + 1 = q + 2 by omega, show ((pre ++ [a]).length : Int) = ((pre ++ [(⟨q, q + 1, (Int.tmod (q + 2) 3 == 0), q + 3⟩ : S86)]).length : Int) by simp, this]
      simp only [List.length_cons, mk_Node]
      congr 2
      omega
  have := key l [] k q (by simpa using hl) hq (by omega) hk
  simpa [laws_markTrieNodeS.f] using this
theorem laws_heldTrieNodeS_is (n : Nat) (hn : n ≤ 1000000000) (q : Int) (hq : 0 ≤ q) (hq2 : q ≤ 1000000000000) (k : Nat) (hk : n < k) : laws_heldTrieNodeS.f k (mk_Node q n) q = some (q + 4 * n) := by
  have key : ∀ (n : Nat) (pre : List S86) (k : Nat) (q : Int), pre.length + n ≤ 1000000000 → 0 ≤ q → q + 4 * n ≤ 20000000000000 → n < k → laws_heldTrieNodeS.l0 k (pre ++ mk_Node q n) q (pre.length : Int) = some (q + 4 * n) := by
    intro n
    induction n with
    | zero =>
      intro pre k q _ _ _ hk
      obtain ⟨k, rfl⟩ : ∃ m, k = m + 1 := ⟨k - 1, by omega⟩
      rw [laws_heldTrieNodeS.l0, if_neg (by simp [mk_Node])]
      simp
    | succ n ih =>
      intro pre k q hp h0 h1 hk
      obtain ⟨k, rfl⟩ : ∃ m, k = m + 1 := ⟨k - 1, by omega⟩
      have hlen : (pre ++ (⟨q, q + 1, (Int.tmod (q + 2) 3 == 0), q + 3⟩ : S86) :: mk_Node (q + 4) n).length ≤ maxLen := by simp [mk_Node_len, maxLen]; omega
      simp only [mk_Node]
      rw [laws_heldTrieNodeS.l0, if_pos (lt_mid _ _ _), if_pos (len_nn _), node_mid]
      dsimp only
      rw [if_pos rfl, wrap_id (x := q + 1) (by omega) (by omega), wrap_id (x := q + 1 + 1) (by omega) (by omega), wrap_id (x := q + 1 + 1 + 1) (by omega) (by omega), wrap_id (x := q + 1 + 1 + 1 + 1) (by omega) (by omega), if_pos rfl, show q + 1 + 1 + 1 + 1 = q + 4 by omega, show q + 1 + 1 + 1 = q + 3 by omega, show q + 1 + 1 = q + 2 by omega, if_neg (by simp), if_pos rfl, wrap_mid (rest := mk_Node (q + 4) n) hlen]
      have := ih (pre ++ [(⟨q, q + 1, (Int.tmod (q + 2) 3 == 0), q + 3⟩ : S86)]) k (q + 4) (by simp; omega) (by omega) (by omega) (by omega)
      simp only [List.append_assoc, List.singleton_append] at this
      rw [this]
      congr 1
      omega
  have := key n [] k q (by simpa using hn) hq (by omega) hk
  simpa [laws_heldTrieNodeS.f] using this
def mk_Entry (q : Int) : Nat → List S39
  | 0 => []
  | n + 1 => ⟨⟨q, q + 1⟩, q + 2⟩ :: mk_Entry (q + 3) n
theorem mk_Entry_len (q : Int) (n : Nat) : (mk_Entry q n).length = n := by
  induction n generalizing q with
  | zero => rfl
  | succ n ih => simp [mk_Entry, ih]
theorem laws_markEntryS_is (l : List S39) (hl : l.length ≤ 10000000000) (q : Int) (hq : 0 ≤ q) (hq2 : q ≤ 1000000000000) (k : Nat) (hk : l.length < k) : laws_markEntryS.f k l q = some (q + 3 * l.length, mk_Entry q l.length) := by
  have key : ∀ (rest pre : List S39) (k : Nat) (q : Int), (pre ++ rest).length ≤ 10000000000 → 0 ≤ q → q + 3 * rest.length ≤ 200000000000000 → rest.length < k → laws_markEntryS.l0 k (pre ++ rest) q (pre.length : Int) = some (q + 3 * rest.length, pre ++ mk_Entry q rest.length) := by
    intro rest
    induction rest with
    | nil =>
      intro pre k q _ _ _ hk
      obtain ⟨k, rfl⟩ : ∃ m, k = m + 1 := ⟨k - 1, by omega⟩
      rw [laws_markEntryS.l0, if_neg (by simp)]
      simp [mk_Entry]
    | cons a rest ih =>
      intro pre k q hp h0 h1 hk
      obtain ⟨k, rfl⟩ : ∃ m, k = m + 1 := ⟨k - 1, by omega⟩
      simp only [List.length_cons] at h1 hk
      rw [laws_markEntryS.l0, if_pos (lt_mid _ _ _), if_pos (len_nn _)]
      simp only [Option.bind_some, set_mid, rdm_Entry]
      rw [wrap_id (x := q + 1) (by omega) (by omega), wrap_id (x := q + 1 + 1) (by omega) (by omega), wrap_id (x := q + 1 + 1 + 1) (by omega) (by omega), wrap_mid (pre := pre) (a := a) (rest := rest) (by simp only [maxLen]; omega)]
      have := ih (pre ++ [(⟨⟨q, q + 1⟩, q + 2⟩ : S39)]) k (q + 3) (by simp at hp ⊢; omega) (by omega) (by omega) (by omega)
      simp only [List.append_assoc, List.singleton_append] at this
      rw [show q + 1 + 1 + 1 = q + 3 by omega, show q + 1 + 1 = q + 2 by omega, show ((pre ++ [a]).length : Int) = ((pre ++ [(⟨⟨q, q + 1⟩, q + 2⟩ : S39)]).length : Int) by simp, this]
      simp only [List.length_cons, mk_Entry]
      congr 2
      omega
  have := key l [] k q (by simpa using hl) hq (by omega) hk
  simpa [laws_markEntryS.f] using this
/-! A trie that is being built: each node but the root is the half of just one node before it. -/
def cntH (l : List S86) : Nat := l.countP (fun a => a.f2)
structure TInv (l : List S86) (dep par : Int → Int) (cur : Int) : Prop where
  dep0 : dep 0 = 0
  kid : ∀ i b : Int, 0 ≤ i → i < (l.length : Int) → (b = 0 ∨ b = 1) → halfv (rd_T86 l i) b ≠ 0 → i < halfv (rd_T86 l i) b ∧ halfv (rd_T86 l i) b < (l.length : Int) ∧ dep (halfv (rd_T86 l i) b) = dep i + 1 ∧ par (halfv (rd_T86 l i) b) = 2 * i + b
  up : ∀ x : Int, 0 < x → x < (l.length : Int) → ∃ j b : Int, 0 ≤ j ∧ j < x ∧ (b = 0 ∨ b = 1) ∧ halfv (rd_T86 l j) b = x
  rng : ∀ i : Int, 0 ≤ i → i < (l.length : Int) → 0 ≤ dep i ∧ dep i ≤ 32
  val : ∀ i : Int, 0 ≤ i → i < (l.length : Int) → isVal (rd_T86 l i).f3 = true ∧ ((rd_T86 l i).f2 = true ∨ (rd_T86 l i).f3 = 0)
  full : ∀ i : Int, 0 < i → i < (l.length : Int) → i ≠ cur → (rd_T86 l i).f2 = true ∨ (rd_T86 l i).f0 ≠ 0 ∨ (rd_T86 l i).f1 ≠ 0
theorem halfv_zero (a : S86) : halfv a 0 = a.f0 := rfl
theorem halfv_one (a : S86) : halfv a 1 = a.f1 := rfl
theorem TInv.kids {l : List S86} {dep par : Int → Int} {cur : Int} (h : TInv l dep par cur) : KidsV l := fun i h0 h1 => by
  constructor
  · by_cases e : (rd_T86 l i).f0 = 0
    · exact .inl e
    · have := h.kid i 0 h0 h1 (.inl rfl) e
      rw [halfv_zero] at this
      exact .inr ⟨by omega, by omega⟩
  · by_cases e : (rd_T86 l i).f1 = 0
    · exact .inl e
    · have := h.kid i 1 h0 h1 (.inr rfl) e
      rw [halfv_one] at this
      exact .inr ⟨by omega, by omega⟩
/-- the depths that are told before the half with the code m is looked at -/
def DS (l : List S86) (dep par : Int → Int) (m : Int) (D : List Int) : Prop := D.length = l.length ∧ ∀ x : Int, 0 ≤ x → x < (l.length : Int) → rd D x = if x = 0 ∨ par x < m then dep x else -1
theorem TInv.par_lt {l : List S86} {dep par : Int → Int} {cur : Int} (h : TInv l dep par cur) {x : Int} (h0 : 0 < x) (h1 : x < (l.length : Int)) : par x < 2 * x := by
  obtain ⟨j, b, j0, j1, hb, e⟩ := h.up x h0 h1
  have := (h.kid j b j0 (by omega) hb (by omega)).2.2.2
  rw [e] at this
  omega
theorem DS.step {l : List S86} {dep par : Int → Int} {cur : Int} (h : TInv l dep par cur) {i b : Int} {D : List Int} (h0 : 0 ≤ i) (h1 : i < (l.length : Int)) (hb : b = 0 ∨ b = 1) (hD : DS l dep par (2 * i + b) D) : ∃ D', tput (l.length : Int) i D (halfv (rd_T86 l i) b) = some D' ∧ DS l dep par (2 * i + b + 1) D' := by
  have hdi : rd D i = dep i := by
    rw [hD.2 i h0 h1, if_pos]
    by_cases e : i = 0
    · exact .inl e
    · have := h.par_lt (x := i) (by omega) h1
      exact .inr (by omega)
  unfold tput
  by_cases e : halfv (rd_T86 l i) b = 0
  · rw [if_pos e]
    refine ⟨D, rfl, hD.1, fun x x0 x1 => ?_⟩
    rw [hD.2 x x0 x1]
    by_cases hx : x = 0
    · rw [if_pos (.inl hx), if_pos (.inl hx)]
    · obtain ⟨j, c, j0, j1, hc, e2⟩ := h.up x (by omega) x1
      have hp := (h.kid j c j0 (by omega) hc (by omega)).2.2.2
      rw [e2] at hp
      have hne : par x ≠ 2 * i + b := fun hh => by
        have ej : j = i := by omega
        have ec : c = b := by omega
        rw [ej, ec, e] at e2
        exact hx e2.symm
      by_cases hlt : par x < 2 * i + b
      · rw [if_pos (.inr hlt), if_pos (.inr (by omega))]
      · rw [if_neg (by omega), if_neg (by omega)]
  · obtain ⟨k1, k2, k3, k4⟩ := h.kid i b h0 h1 hb e
    have hx : rd D (halfv (rd_T86 l i) b) < 0 := by
      rw [hD.2 _ (by omega) k2, if_neg (by omega)]
      omega
    rw [if_neg e, if_pos ⟨by omega, by omega, hx⟩]
    refine ⟨_, rfl, by rw [List.length_set]; exact hD.1, fun x x0 x1 => ?_⟩
    have hDl := hD.1
    by_cases ex : halfv (rd_T86 l i) b = x
    · rw [← ex, rd_set_eq (by omega) (by omega), hdi, if_pos (.inr (by omega)), k3]
    · rw [rd_set_ne (by omega) x0 ex, hD.2 x x0 x1]
      by_cases hz : x = 0
      · rw [if_pos (.inl hz), if_pos (.inl hz)]
      · obtain ⟨j, c, j0, j1, hc, e2⟩ := h.up x (by omega) x1
        have hp := (h.kid j c j0 (by omega) hc (by omega)).2.2.2
        rw [e2] at hp
        have hne : par x ≠ 2 * i + b := fun hh => by
          have ej : j = i := by omega
          have ec : c = b := by omega
          rw [ej, ec] at e2
          exact ex e2
        by_cases hlt : par x < 2 * i + b
        · rw [if_pos (.inr hlt), if_pos (.inr (by omega))]
        · rw [if_neg (by omega), if_neg (by omega)]
theorem nrd_mid {l pre rest : List S86} {a : S86} (e : l = pre ++ a :: rest) : rd_T86 l (pre.length : Int) = a := by rw [e]; exact rdm_Node _ _ _
theorem trieOk_of {l : List S86} {dep par : Int → Int} (h : TInv l dep par 0) : ∀ (rest pre : List S86) (D : List Int) (c : Int), l = pre ++ rest → DS l dep par (2 * (pre.length : Int)) D → c + cntH rest ≤ 30 → trieOk (l.length : Int) rest (pre.length : Int) D c = true
  | [], pre, D, c, _, _, hc => by
    rw [trieOk]
    simp [cntH] at hc
    exact decide_eq_true hc
  | a :: rest, pre, D, c, e, hD, hc => by
    have hlen : (pre.length : Int) < (l.length : Int) := by rw [e]; simp; omega
    have ea := nrd_mid e
    have h0 : (0 : Int) ≤ (pre.length : Int) := by omega
    have hr := h.rng _ h0 hlen
    have hdi : rd D (pre.length : Int) = dep (pre.length : Int) := by
      rw [hD.2 _ h0 hlen, if_pos]
      by_cases e0 : (pre.length : Int) = 0
      · exact .inl e0
      · have := h.par_lt (x := (pre.length : Int)) (by omega) hlen
        exact .inr (by omega)
    obtain ⟨v1, v2⟩ := h.val _ h0 hlen
    have hfull := h.full (pre.length : Int)
    obtain ⟨D1, t1, d1⟩ := DS.step h h0 hlen (.inl rfl) (by rw [Int.add_zero]; exact hD)
    obtain ⟨D2, t2, d2⟩ := DS.step h h0 hlen (b := 1) (.inr rfl) (by rw [Int.add_zero] at d1; exact d1)
    rw [ea] at v1 v2 hfull t1 t2
    rw [halfv_zero] at t1
    rw [halfv_one] at t2
    have hok : nodeOk (pre.length : Int) a = true := by
      unfold nodeOk
      rw [v1, Bool.true_and]
      cases h2 : a.f2 with
      | true => rfl
      | false =>
        rw [Bool.false_or]
        have h3 : a.f3 = 0 := v2.resolve_left (by rw [h2]; decide)
        rw [h3]
        by_cases hp : 0 < (pre.length : Int)
        · have := (hfull hp hlen (by omega)).resolve_left (by rw [h2]; decide)
          rcases this with h4 | h4
          · simp [h4]
          · simp [h4]
        · have hp' : ¬ 0 < pre.length := by omega
          simp [hp']
    rw [trieOk, if_neg (by rw [hdi]; omega), if_pos hok, t1, Option.bind_some, t2]
    dsimp only
    have hcnt : cntH (a :: rest) = cntH rest + if a.f2 = true then 1 else 0 := by unfold cntH; rw [List.countP_cons]
    rw [hcnt] at hc
    have ih := trieOk_of h rest (pre ++ [a]) D2 (if a.f2 = true then c + 1 else c) (by rw [e]; simp) (by
      have : 2 * (pre.length : Int) + 1 + 1 = 2 * ((pre ++ [a]).length : Int) := by simp; omega
      rw [← this]; exact d2) (by split <;> rename_i hh <;> simp only [hh, if_true, if_false] at hc <;> (try simp at hc) <;> omega)
    simpa using ih
theorem goodTrie_of {l : List S86} {dep par : Int → Int} (h : TInv l dep par 0) (h1 : 1 ≤ l.length) (h2 : l.length ≤ 2000) (hc : cntH l ≤ 30) (hp : ∀ x, 0 < x → x < (l.length : Int) → 0 ≤ par x) : goodTrie l = true := by
  unfold goodTrie
  rw [if_pos ⟨by omega, by omega⟩]
  refine trieOk_of h l [] _ 0 rfl ⟨by simp, fun x x0 x1 => ?_⟩ (by rw [Int.zero_add]; exact_mod_cast hc)
  by_cases e : x = 0
  · subst e
    rw [if_pos (.inl rfl), h.dep0]
    show rd ((List.replicate l.length (-1 : Int)).set (0 : Int).toNat 0) 0 = 0
    exact rd_set_eq (x := 0) (by omega) (by rw [List.length_replicate]; omega)
  · have hpx := hp x (by omega) x1
    rw [if_neg (by simp; omega)]
    have := rd_set_ne (D := List.replicate l.length (-1 : Int)) (x := 0) (y := x) (v := 0) (by omega) x0 (fun h => e h.symm)
    rw [show ((0 : Int).toNat) = 0 from rfl] at this
    rw [this]
    unfold rd
    rw [List.getD_eq_getElem?_getD, List.getElem?_replicate, if_pos (by omega)]
    rfl
theorem cntH_set : ∀ (l : List S86) (i : Nat) (a : S86), cntH (l.set i a) ≤ cntH l + 1
  | [], i, a => by simp [cntH]
  | x :: l, 0, a => by
    unfold cntH
    rw [List.set_cons_zero, List.countP_cons, List.countP_cons]
    split <;> split <;> omega
  | x :: l, i + 1, a => by
    have := cntH_set l i a
    unfold cntH at *
    rw [List.set_cons_succ, List.countP_cons, List.countP_cons]
    omega
theorem cntH_set_same : ∀ (l : List S86) (i : Nat) (a : S86), (∀ h : i < l.length, a.f2 = (l[i]).f2) → cntH (l.set i a) = cntH l
  | [], i, a, _ => by simp [cntH]
  | x :: l, 0, a, h => by
    have := h (by simp)
    unfold cntH
    rw [List.set_cons_zero, List.countP_cons, List.countP_cons, this]
    rfl
  | x :: l, i + 1, a, h => by
    have := cntH_set_same l i a (fun hi => h (by rw [List.length_cons]; omega))
    unfold cntH at *
    rw [List.set_cons_succ, List.countP_cons, List.countP_cons, this]
theorem halfv_with (a : S86) {b b' n : Int} (hb : b = 0 ∨ b = 1) (hb' : b' = 0 ∨ b' = 1) : halfv (withHalf a b n) b' = if b = b' then n else halfv a b' := by
  rcases hb with rfl | rfl <;> rcases hb' with rfl | rfl <;> simp [halfv, withHalf]
theorem with_f2 (a : S86) (b n : Int) : (withHalf a b n).f2 = a.f2 ∧ (withHalf a b n).f3 = a.f3 := by
  unfold withHalf; split <;> exact ⟨rfl, rfl⟩
theorem with_ne (a : S86) (b : Int) {n : Int} (hn : n ≠ 0) : (withHalf a b n).f0 ≠ 0 ∨ (withHalf a b n).f1 ≠ 0 := by
  unfold withHalf; split
  · exact .inr hn
  · exact .inl hn
/-- a node more -/
theorem TInv.grow {l : List S86} {dep par : Int → Int} {i b : Int} (h : TInv l dep par i) (h0 : 0 ≤ i) (h1 : i < (l.length : Int)) (hb : b = 0 ∨ b = 1) (hz : halfv (rd_T86 l i) b = 0) (hd : dep i + 1 ≤ 32) :
    TInv ((l ++ [(⟨0, 0, false, 0⟩ : S86)]).set i.toNat (withHalf (rd_T86 l i) b (l.length : Int))) (fun x => if x = (l.length : Int) then dep i + 1 else dep x) (fun x => if x = (l.length : Int) then 2 * i + b else par x) (l.length : Int) := by
  have hlen : ((((l ++ [(⟨0, 0, false, 0⟩ : S86)]).set i.toNat (withHalf (rd_T86 l i) b (l.length : Int))).length : Nat) : Int) = (l.length : Int) + 1 := by simp
  have at_i : rd_T86 ((l ++ [(⟨0, 0, false, 0⟩ : S86)]).set i.toNat (withHalf (rd_T86 l i) b (l.length : Int))) i = withHalf (rd_T86 l i) b (l.length : Int) := nrd_set_eq h0 (by simp; omega)
  have at_n : rd_T86 ((l ++ [(⟨0, 0, false, 0⟩ : S86)]).set i.toNat (withHalf (rd_T86 l i) b (l.length : Int))) (l.length : Int) = ⟨0, 0, false, 0⟩ := by
    rw [nrd_set_ne h0 (by omega) (by omega)]; exact nrd_last
  have at_j : ∀ j : Int, 0 ≤ j → j < (l.length : Int) → j ≠ i → rd_T86 ((l ++ [(⟨0, 0, false, 0⟩ : S86)]).set i.toNat (withHalf (rd_T86 l i) b (l.length : Int))) j = rd_T86 l j := fun j j0 j1 hne => by
    rw [nrd_set_ne h0 j0 (Ne.symm hne)]; exact nrd_app j0 j1
  refine ⟨?_, fun j c j0 j1 hc hne => ?_, fun x x0 x1 => ?_, fun j j0 j1 => ?_, fun j j0 j1 => ?_, fun j j0 j1 hne => ?_⟩
  · try dsimp only
    rw [if_neg (by omega)]; exact h.dep0
  · rw [hlen] at j1 ⊢
    try dsimp only
    by_cases e : j = i
    · subst e
      rw [at_i, halfv_with _ hb hc] at hne ⊢
      by_cases e2 : b = c
      · rw [if_pos e2, if_pos rfl, if_pos rfl, if_neg (by omega)]
        exact ⟨h1, by omega, rfl, by omega⟩
      · rw [if_neg e2] at hne ⊢
        obtain ⟨k1, k2, k3, k4⟩ := h.kid j c j0 h1 hc hne
        rw [if_neg (by omega), if_neg (by omega), if_neg (by omega)]
        exact ⟨k1, by omega, k3, k4⟩
    · by_cases e2 : j = (l.length : Int)
      · subst e2
        rw [at_n] at hne
        exact (hne (by unfold halfv; split <;> rfl)).elim
      · rw [at_j j j0 (by omega) e] at hne ⊢
        obtain ⟨k1, k2, k3, k4⟩ := h.kid j c j0 (by omega) hc hne
        rw [if_neg (by omega), if_neg (by omega), if_neg (by omega)]
        exact ⟨k1, by omega, k3, k4⟩
  · rw [hlen] at x1
    by_cases e : x = (l.length : Int)
    · exact ⟨i, b, h0, by omega, hb, by rw [at_i, halfv_with _ hb hb, if_pos rfl, e]⟩
    · obtain ⟨j, c, j0, j1, hc, e2⟩ := h.up x x0 (by omega)
      refine ⟨j, c, j0, j1, hc, ?_⟩
      by_cases e3 : j = i
      · subst e3
        have : b ≠ c := fun hh => by rw [← hh, hz] at e2; omega
        rw [at_i, halfv_with _ hb hc, if_neg this, e2]
      · rw [at_j j j0 (by omega) e3, e2]
  · rw [hlen] at j1
    try dsimp only
    split
    · have := h.rng i h0 h1; omega
    · exact h.rng j j0 (by omega)
  · rw [hlen] at j1
    by_cases e : j = i
    · subst e
      have := h.val j j0 h1
      rw [at_i, (with_f2 _ _ _).1, (with_f2 _ _ _).2]
      exact this
    · by_cases e2 : j = (l.length : Int)
      · subst e2
        rw [at_n]
        exact ⟨by decide, .inr rfl⟩
      · rw [at_j j j0 (by omega) e]
        exact h.val j j0 (by omega)
  · rw [hlen] at j1
    by_cases e : j = i
    · subst e
      rw [at_i]
      exact .inr (with_ne _ _ (by omega))
    · rw [at_j j (by omega) (by omega) e]
      exact h.full j j0 (by omega) e
theorem TInv.go {l : List S86} {dep par : Int → Int} {i b : Int} (h : TInv l dep par i) (h0 : 0 ≤ i) (h1 : i < (l.length : Int)) (hz : halfv (rd_T86 l i) b ≠ 0) (n : Int) : TInv l dep par n := by
  refine ⟨h.dep0, h.kid, h.up, h.rng, h.val, fun j j0 j1 _ => ?_⟩
  by_cases e : j = i
  · subst e
    right
    by_cases hb : b = 1
    · right; intro hh; exact hz (by unfold halfv; rw [if_pos hb]; exact hh)
    · left; intro hh; exact hz (by unfold halfv; rw [if_neg hb]; exact hh)
  · exact h.full j j0 j1 e
theorem insP_inv (v a : Int) (hv : isVal v = true) : ∀ (m : Nat) (d : Int) (l : List S86) (i : Int) (dep par : Int → Int), TInv l dep par i → 0 ≤ i → i < (l.length : Int) → dep i = d → d + m ≤ 32 → (∀ x, 0 < x → x < (l.length : Int) → 0 ≤ par x) →
    ∃ dep' par', TInv (insP v a m d l i) dep' par' 0 ∧ (∀ x, 0 < x → x < ((insP v a m d l i).length : Int) → 0 ≤ par' x) ∧ cntH (insP v a m d l i) ≤ cntH l + 1
  | 0, d, l, i, dep, par, h, h0, h1, hd, hm, hp => by
    have at_i : rd_T86 (l.set i.toNat ⟨(rd_T86 l i).f0, (rd_T86 l i).f1, true, v⟩) i = ⟨(rd_T86 l i).f0, (rd_T86 l i).f1, true, v⟩ := nrd_set_eq h0 h1
    have at_j : ∀ j : Int, 0 ≤ j → j ≠ i → rd_T86 (l.set i.toNat ⟨(rd_T86 l i).f0, (rd_T86 l i).f1, true, v⟩) j = rd_T86 l j := fun j j0 hne => nrd_set_ne h0 j0 (Ne.symm hne)
    have hh : ∀ (j c : Int), 0 ≤ j → halfv (rd_T86 (l.set i.toNat ⟨(rd_T86 l i).f0, (rd_T86 l i).f1, true, v⟩) j) c = halfv (rd_T86 l j) c := fun j c j0 => by
      by_cases e : j = i
      · subst e; rw [at_i]; unfold halfv; split <;> rfl
      · rw [at_j j j0 e]
    rw [insP]
    refine ⟨dep, par, ⟨h.dep0, fun j c j0 j1 hc hne => ?_, fun x x0 x1 => ?_, fun j j0 j1 => ?_, fun j j0 j1 => ?_, fun j j0 j1 _ => ?_⟩, fun x x0 x1 => ?_, cntH_set _ _ _⟩
    · rw [List.length_set] at j1 ⊢
      rw [hh j c j0] at hne ⊢
      exact h.kid j c j0 j1 hc hne
    · rw [List.length_set] at x1
      obtain ⟨j, c, j0, j1, hc, e⟩ := h.up x x0 x1
      exact ⟨j, c, j0, j1, hc, by rw [hh j c j0]; exact e⟩
    · rw [List.length_set] at j1; exact h.rng j j0 j1
    · rw [List.length_set] at j1
      by_cases e : j = i
      · subst e; rw [at_i]; exact ⟨hv, .inl rfl⟩
      · rw [at_j j j0 e]; exact h.val j j0 j1
    · rw [List.length_set] at j1
      by_cases e : j = i
      · subst e; rw [at_i]; exact .inl rfl
      · rw [at_j j (by omega) e]; exact h.full j j0 j1 e
    · rw [List.length_set] at x1; exact hp x x0 x1
  | m + 1, d, l, i, dep, par, h, h0, h1, hd, hm, hp => by
    have hb := bitv_range a d
    rw [insP]
    by_cases hz : halfv (rd_T86 l i) (bitv a d) = 0
    · rw [if_pos hz]
      have hg := h.grow h0 h1 hb hz (by omega)
      obtain ⟨dep', par', i1, i2, i3⟩ := insP_inv v a hv m (d + 1) _ (l.length : Int) _ _ hg (by omega) (by simp; omega) (by rw [if_pos rfl]; omega) (by omega) (fun x x0 x1 => by
        try dsimp only
        split
        · omega
        · exact hp x x0 (by simp at x1; omega))
      refine ⟨dep', par', i1, i2, ?_⟩
      have hc : cntH ((l ++ [(⟨0, 0, false, 0⟩ : S86)]).set i.toNat (withHalf (rd_T86 l i) (bitv a d) (l.length : Int))) = cntH l := by
        rw [cntH_set_same _ _ _ (fun hi => by
          rw [(with_f2 _ _ _).1]
          have hil : i.toNat < l.length := by omega
          rw [List.getElem_append_left hil]
          unfold rd_T86
          rw [List.getD_eq_getElem?_getD, List.getElem?_eq_getElem hil]
          rfl)]
        unfold cntH
        rw [List.countP_append]
        simp
      omega
    · rw [if_neg hz]
      obtain ⟨k1, k2, k3, k4⟩ := h.kid i (bitv a d) h0 h1 hb hz
      exact insP_inv v a hv m (d + 1) l _ dep par (h.go h0 h1 hz _) (by omega) k2 (by omega) (by omega) hp
/-- The trie of a table. -/
def buildP (es : List S39) : List S86 := es.foldl (fun t e => insP e.f1 e.f0.f0 e.f0.f1.toNat 0 t 0) [⟨0, 0, false, 0⟩]
theorem build_inv : ∀ (es : List S39) (t : List S86) (dep par : Int → Int), (∀ e, e ∈ es → good e.f0.f0 e.f0.f1 = true ∧ isVal e.f1 = true) → TInv t dep par 0 → 1 ≤ t.length → (∀ x, 0 < x → x < (t.length : Int) → 0 ≤ par x) →
    ∃ dep' par', TInv (es.foldl (fun t e => insP e.f1 e.f0.f0 e.f0.f1.toNat 0 t 0) t) dep' par' 0 ∧ (∀ x, 0 < x → x < ((es.foldl (fun t e => insP e.f1 e.f0.f0 e.f0.f1.toNat 0 t 0) t).length : Int) → 0 ≤ par' x) ∧ cntH (es.foldl (fun t e => insP e.f1 e.f0.f0 e.f0.f1.toNat 0 t 0) t) ≤ cntH t + es.length ∧ 1 ≤ (es.foldl (fun t e => insP e.f1 e.f0.f0 e.f0.f1.toNat 0 t 0) t).length ∧ (es.foldl (fun t e => insP e.f1 e.f0.f0 e.f0.f1.toNat 0 t 0) t).length ≤ t.length + 32 * es.length
  | [], t, dep, par, _, h, h1, hp => ⟨dep, par, h, hp, by simp, h1, by simp⟩
  | e :: es, t, dep, par, he, h, h1, hp => by
    obtain ⟨g1, g2⟩ := he e (by simp)
    obtain ⟨f1, f2, _⟩ := good_iff.1 g1
    obtain ⟨dep1, par1, i1, i2, i3⟩ := insP_inv e.f1 e.f0.f0 g2 e.f0.f1.toNat 0 t 0 dep par h (by omega) (by omega) h.dep0 (by omega) hp
    have hl := insP_len e.f1 e.f0.f0 e.f0.f1.toNat 0 t 0
    obtain ⟨dep2, par2, j1, j2, j3, j4, j5⟩ := build_inv es _ dep1 par1 (fun x hx => he x (by simp [hx])) i1 (by omega) i2
    rw [List.foldl_cons]
    refine ⟨dep2, par2, j1, j2, ?_, j4, ?_⟩
    · rw [List.length_cons]; omega
    · rw [List.length_cons]; omega
theorem start_inv : TInv [(⟨0, 0, false, 0⟩ : S86)] (fun _ => 0) (fun _ => 0) 0 := by
  have at0 : rd_T86 [(⟨0, 0, false, 0⟩ : S86)] 0 = ⟨0, 0, false, 0⟩ := rdm_Node [] _ []
  refine ⟨rfl, fun i b h0 h1 _ hne => ?_, fun x x0 x1 => ?_, fun i h0 h1 => ⟨by omega, by omega⟩, fun i h0 h1 => ?_, fun i h0 h1 => ?_⟩
  · have : i = 0 := by simp at h1; omega
    subst this
    rw [at0] at hne
    exact (hne (by unfold halfv; split <;> rfl)).elim
  · simp at x1; omega
  · have : i = 0 := by simp at h1; omega
    subst this
    rw [at0]
    exact ⟨by decide, .inr rfl⟩
  · simp at h1; omega
theorem goodTable_vals {l : List S39} (h : goodTable l = true) : l.length ≤ 30 ∧ ∀ e, e ∈ l → good e.f0.f0 e.f0.f1 = true ∧ isVal e.f1 = true := by
  unfold goodTable at h
  simp only [Bool.and_eq_true] at h
  exact ⟨of_decide_eq_true h.1.1, fun e he => ⟨rising_good h.1.2 (ent e) (List.mem_map.2 ⟨e, he, rfl⟩), List.all_eq_true.1 h.2 e he⟩⟩
theorem impl_Build_l0 (es : List S39) (hl : es.length ≤ 30) (hg : ∀ e, e ∈ es → good e.f0.f0 e.f0.f1 = true ∧ isVal e.f1 = true) : ∀ (rest pre : List S39) (t : List S86) (dep par : Int → Int), es = pre ++ rest → TInv t dep par 0 → 1 ≤ t.length → t.length ≤ 1 + 32 * pre.length → (∀ x, 0 < x → x < (t.length : Int) → 0 ≤ par x) → cntH t ≤ pre.length →
    ∃ K, ∀ k, K ≤ k → impl_BuildTrie.l0 k t es (es.length : Int) (pre.length : Int) = some (rest.foldl (fun t e => insP e.f1 e.f0.f0 e.f0.f1.toNat 0 t 0) t, true) := by
  intro rest
  induction rest with
  | nil =>
    intro pre t dep par e h h1 h2 hp hc
    have hpl : pre.length = es.length := by rw [e]; simp
    obtain ⟨K, hK⟩ := impl_GoodTrie_is t
    replace hK : ∀ k, K ≤ k → impl_GoodTrie.f k t = some (goodTrie t) := hK
    refine ⟨K + 1, fun k hk => ?_⟩
    obtain ⟨k, rfl⟩ : ∃ k', k = k' + 1 := ⟨k - 1, by omega⟩
    rw [impl_BuildTrie.l0, if_neg (by omega), hK k (by omega), Option.bind_some, goodTrie_of h h1 (by omega) (by omega) hp, if_pos rfl]
    rfl
  | cons x rest ih =>
    intro pre t dep par e h h1 h2 hp hc
    have hlen : pre.length < es.length := by rw [e]; simp
    obtain ⟨g1, g2⟩ := hg x (by rw [e]; simp)
    obtain ⟨f1, f2, _⟩ := good_iff.1 g1
    have hr : rd_T39 es (pre.length : Int) = x := by rw [e]; exact rdm_Entry _ _ _
    have hw : wrap64 ((pre.length : Int) + 1) = ((pre ++ [x]).length : Int) := by rw [wrap_id (by omega) (by omega)]; simp
    obtain ⟨dep1, par1, i1, i2, i3⟩ := insP_inv x.f1 x.f0.f0 g2 x.f0.f1.toNat 0 t 0 dep par h (by omega) (by omega) h.dep0 (by omega) hp
    have hl2 := insP_len x.f1 x.f0.f0 x.f0.f1.toNat 0 t 0
    obtain ⟨K, hK⟩ := ih (pre ++ [x]) _ dep1 par1 (by rw [e]; simp) i1 (by omega) (by simp; omega) i2 (by simp; omega)
    refine ⟨K + 34, fun k hk => ?_⟩
    obtain ⟨k, rfl⟩ : ∃ k', k = k' + 1 := ⟨k - 1, by omega⟩
    rw [impl_BuildTrie.l0, if_pos (by omega), if_pos (len_nn _), if_pos (by omega), hr, impl_inserted_is t x.f0.f0 x.f0.f1 x.f1 k h.kids h1 (by omega) f1 f2 (by omega), Option.bind_some, hw, hK k (by omega)]
    rfl
theorem spec_Build_l0 (es : List S39) (hl : es.length ≤ 30) (hg : ∀ e, e ∈ es → good e.f0.f0 e.f0.f1 = true ∧ isVal e.f1 = true) : ∀ (rest pre : List S39) (t : List S86) (dep par : Int → Int), es = pre ++ rest → TInv t dep par 0 → 1 ≤ t.length → t.length ≤ 1 + 32 * pre.length → (∀ x, 0 < x → x < (t.length : Int) → 0 ≤ par x) →
    ∀ k, 34 + rest.length ≤ k → spec_l2Build.l0 k t es (es.length : Int) (pre.length : Int) = some (rest.foldl (fun t e => insP e.f1 e.f0.f0 e.f0.f1.toNat 0 t 0) t) := by
  intro rest
  induction rest with
  | nil =>
    intro pre t dep par e h h1 h2 hp k hk
    have hpl : pre.length = es.length := by rw [e]; simp
    obtain ⟨k, rfl⟩ : ∃ k', k = k' + 1 := ⟨k - 1, by omega⟩
    rw [spec_l2Build.l0, if_neg (by omega)]
    rfl
  | cons x rest ih =>
    intro pre t dep par e h h1 h2 hp k hk
    rw [List.length_cons] at hk
    have hlen : pre.length < es.length := by rw [e]; simp
    obtain ⟨g1, g2⟩ := hg x (by rw [e]; simp)
    obtain ⟨f1, f2, _⟩ := good_iff.1 g1
    have hr : rd_T39 es (pre.length : Int) = x := by rw [e]; exact rdm_Entry _ _ _
    have hw : wrap64 ((pre.length : Int) + 1) = ((pre ++ [x]).length : Int) := by rw [wrap_id (by omega) (by omega)]; simp
    obtain ⟨dep1, par1, i1, i2, i3⟩ := insP_inv x.f1 x.f0.f0 g2 x.f0.f1.toNat 0 t 0 dep par h (by omega) (by omega) h.dep0 (by omega) hp
    have hl2 := insP_len x.f1 x.f0.f0 x.f0.f1.toNat 0 t 0
    obtain ⟨k, rfl⟩ : ∃ k', k = k' + 1 := ⟨k - 1, by omega⟩
    rw [spec_l2Build.l0, if_pos (by omega), if_pos (len_nn _), if_pos (by omega), hr, spec_l2Insert_is t x.f0.f0 x.f0.f1 x.f1 k h.kids h1 (by omega) f1 f2 (by omega), Option.bind_some, hw]
    exact ih (pre ++ [x]) _ dep1 par1 (by rw [e]; simp) i1 (by omega) (by simp; omega) i2 k (by omega)
theorem BuildTrie_same (l : List S39) (hl : l.length ≤ 1048576) : ∃ r : List S86 × Bool, Ev (fun k => spec_BuildTrie.f k l) r ∧ Ev (fun k => impl_BuildTrie.f k l) r ∧ r.1.length ≤ 2000 ∧ (goodTable l = true → r = (buildP l, true)) ∧ (¬ goodTable l = true → r = ([], false)) := by
  by_cases h : goodTable l = true
  · obtain ⟨h30, hg⟩ := goodTable_vals h
    obtain ⟨dep', par', j1, j2, j3, j4, j5⟩ := build_inv l _ _ _ hg start_inv (by simp) (fun x x0 x1 => Int.le_refl _)
    obtain ⟨K, hK⟩ := impl_Build_l0 l h30 hg l [] [⟨0, 0, false, 0⟩] _ _ rfl start_inv (by simp) (by simp) (fun x x0 x1 => Int.le_refl _) (by simp [cntH])
    have hS := spec_Build_l0 l h30 hg l [] [⟨0, 0, false, 0⟩] _ _ rfl start_inv (by simp) (by simp) (fun x x0 x1 => Int.le_refl _)
    refine ⟨(buildP l, true), ⟨l.length + 50, fun k hk => ?_⟩, ⟨K + l.length + 50, fun k hk => ?_⟩, ?_, fun _ => rfl, fun hn => (hn h).elim⟩
    · show spec_BuildTrie.f k l = _
      unfold spec_BuildTrie.f spec_l2Build.f
      rw [spec_GoodTable_is k l hl (by omega), Option.bind_some, if_pos h]
      have := hS k (by omega)
      rw [show ((([] : List S39).length : Nat) : Int) = 0 from rfl] at this
      rw [this]
      rfl
    · show impl_BuildTrie.f k l = _
      unfold impl_BuildTrie.f
      rw [impl_GoodTable_is k l hl (by omega), Option.bind_some, if_pos h]
      exact hK k (by omega)
    · show (buildP l).length ≤ 2000
      unfold buildP
      simp only [List.length_singleton] at j5
      omega
  · refine ⟨([], false), ⟨l.length + 50, fun k hk => ?_⟩, ⟨l.length + 50, fun k hk => ?_⟩, by simp, fun hn => (h hn).elim, fun _ => rfl⟩
    · show spec_BuildTrie.f k l = _
      unfold spec_BuildTrie.f
      rw [spec_GoodTable_is k l hl (by omega), Option.bind_some, if_neg h]
    · show impl_BuildTrie.f k l = _
      unfold impl_BuildTrie.f
      rw [impl_GoodTable_is k l hl (by omega), Option.bind_some, if_neg h]

end FnExactBuildTrieUses
open Go.RowKit Go.Proofs.Ytakoaogbkajkcaa.PFnExactBuildTrie Go.Proofs.YtakoaogbkajkcaaW.PrintWords Go.Proofs.YtakoaogbkajkcaaW.PrintLast Go.Proofs.YtakoaogbkajkcaaW.PrintMore Go.Proofs.Ytakoaogbkajkcaa.Pfx Go.Proofs.Ytakoaogbkajkcaa.Loop Go.Proofs.Ytakoaogbkajkcaa.Tbl FnExactBuildTrieUses
set_option linter.unusedVariables false
theorem FnExactBuildTrie (l0 : List S77) (m0 : l0.length ≤ maxLen) (w0 : ∀ a, a ∈ l0 → (((Lit.int .i64 a.f0.f0).wf = true ∧ (Lit.int .i64 a.f0.f1).wf = true) ∧ (Lit.int .i64 a.f1).wf = true)) : ∃ k, laws_FnExactBuildTrie.f k l0 = some true := by
  obtain ⟨r0, hr0, hb0⟩ := laws_szEntryS_is l0 m0
  by_cases h : r0 < 0
  · exact ⟨0, by unfold laws_FnExactBuildTrie.f; rw [hr0, Option.bind_some, if_pos h]⟩
  · have hl := hb0 h
    obtain ⟨L, hL⟩ : ∃ L, L = (l0.map fun p => (⟨⟨p.f0.f0, p.f0.f1⟩, p.f1⟩ : S39)) := ⟨_, rfl⟩
    have hLl : L.length = l0.length := by rw [hL]; simp
    obtain ⟨r, ⟨K1, h1⟩, ⟨K2, h2⟩, h64, _, _⟩ := BuildTrie_same L (by omega)
    replace h1 : ∀ k, K1 ≤ k → spec_BuildTrie.f k L = some r := h1
    replace h2 : ∀ k, K2 ≤ k → impl_BuildTrie.f k L = some r := h2
    obtain ⟨K, hK⟩ : ∃ K : Nat, K1 + K2 + l0.length + 2200 ≤ K := ⟨_, Nat.le_refl _⟩
    have ht : ∀ k, K ≤ k → laws_toEntryS.f k l0 = some L := fun k hk => by rw [laws_toEntryS_is k l0 hl (by omega), hL]
    have he : ∀ k, K ≤ k → laws_eqEntryS.f k L L = some true := fun k hk => laws_eqEntryS_refl k L (by simp only [maxLen]; omega) (by omega)
    have he2 : ∀ k, K ≤ k → laws_eqTrieNodeS.f k r.1 r.1 = some true := fun k hk => laws_eqTrieNodeS_refl k r.1 (by simp only [maxLen]; omega) (by omega)
    refine ⟨K + 1 + 1 + 1, ?_⟩
    unfold laws_FnExactBuildTrie.f
    rw [hr0, Option.bind_some, if_neg h, ht _ (by omega), Option.bind_some, h1 _ (by omega), Option.bind_some, Option.bind_some, h2 _ (by omega), Option.bind_some, he2 _ (by omega), Option.bind_some, if_pos rfl]
    rw [laws_FnExactBuildTrie.j0, if_neg (by simp), ht _ (by omega), Option.bind_some, he _ (by omega), Option.bind_some, if_pos rfl, laws_markEntryS_is L (by omega) 1 (by omega) (by omega) _ (by omega), Option.bind_some]
    dsimp only
    rw [if_neg (by omega), he2 _ (by omega), Option.bind_some, if_pos rfl]
    rw [laws_FnExactBuildTrie.j1, if_neg (by simp), laws_markTrieNodeS_is r.1 (by omega) 1 (by omega) (by omega) _ (by omega), Option.bind_some]
    dsimp only
    rw [laws_heldTrieNodeS_is r.1.length (by omega) 1 (by omega) (by omega) _ (by omega), Option.bind_some, if_neg (by omega), if_pos rfl, ht _ (by omega), Option.bind_some, h2 _ (by omega), Option.bind_some, he2 _ (by omega), Option.bind_some, if_pos rfl]
    rw [laws_FnExactBuildTrie.j2, if_neg (by simp), laws_heldTrieNodeS_is r.1.length (by omega) 1 (by omega) (by omega) _ (by omega), Option.bind_some, if_neg (by omega), if_pos rfl]
end Go.Proofs.Ytakoaogbkajkcaa.Pure
