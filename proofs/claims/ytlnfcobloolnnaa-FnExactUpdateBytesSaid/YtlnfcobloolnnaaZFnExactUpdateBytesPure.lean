/- The pure statement of FnExactUpdateBytes: what the printed functions tell is what the reference tells. No condition but the arguments' own bounds. -/
import Derived.Test.YtlnfcobloolnnaaYFnExactUpdateBytesx15
import Derived.Test.YtlnfcobloolnnaaQFnExactUpdateBytes
namespace Go.Proofs.Ytlnfcobloolnnaa.Pure
namespace FnExactUpdateBytesUses
open Go.RowKit Go.Proofs.Ytlnfcobloolnnaa.PFnExactUpdateBytes Go.Proofs.YtlnfcobloolnnaaW.PrintWords Go.Proofs.YtlnfcobloolnnaaW.PrintLast Go.Proofs.YtlnfcobloolnnaaW.PrintMore Go.Proofs.Ytlnfcobloolnnaa.Pfx Go.Proofs.Ytlnfcobloolnnaa.Loop Go.Proofs.Ytlnfcobloolnnaa.Tbl
set_option linter.unusedVariables false
set_option linter.unusedSimpArgs false

theorem spec_l1In_is (a lo hi : Int) : spec_l1In.f a lo hi = some (decide (lo ≤ a ∧ a ≤ hi)) := by
  unfold spec_l1In.f
  by_cases h : lo ≤ a
  · rw [if_pos h]; simp [h]
  · rw [if_neg h]; simp [h]
theorem impl_within_is (a lo hi : Int) : impl_within.f a lo hi = some (decide (lo ≤ a ∧ a ≤ hi)) := by
  unfold impl_within.f
  by_cases h : lo ≤ a
  · rw [if_pos h]; simp [h]
  · rw [if_neg h]; simp [h]
theorem spec_l1Addr_is (a : Int) : spec_l1Addr.f a = some (decide (0 ≤ a ∧ a ≤ 4294967295)) := by
  unfold spec_l1Addr.f; rw [spec_l1In_is]; rfl
theorem impl_isAddr_is (a : Int) : impl_isAddr.f a = some (decide (0 ≤ a ∧ a ≤ 4294967295)) := by
  unfold impl_isAddr.f; rw [impl_within_is]; rfl
theorem impl_sizeOf_is {n : Int} (h0 : 0 ≤ n) (h1 : n ≤ 32) : impl_sizeOf.f n = some (sz n) := by
  unfold impl_sizeOf.f
  rw [shl_sz h0 h1, if_pos (by rw [wrap_id (by omega) (by omega)]; omega)]
theorem spec_l1Size_is (a : Int) {n : Int} (h0 : 0 ≤ n) (h1 : n ≤ 32) : spec_l1Size.f a n = some (sz n) := by
  unfold spec_l1Size.f
  have e : IntKind.u64.wrap (wrap64 (32 - n)) = wrap64 (32 - n) := by rw [wrap_id (by omega) (by omega), u64_id (by omega) (by omega)]
  rw [e, shl_sz h0 h1, if_pos (by rw [wrap_id (by omega) (by omega)]; omega)]
theorem impl_GoodPrefix_is (a n : Int) : impl_GoodPrefix.f a n = some (good a n) := by
  unfold impl_GoodPrefix.f
  rw [impl_within_is, Option.bind_some]
  by_cases h : 0 ≤ n ∧ n ≤ 32
  · rw [if_pos (decide_eq_true h), impl_isAddr_is, Option.bind_some]
    by_cases h' : 0 ≤ a ∧ a ≤ 4294967295
    · rw [if_pos (decide_eq_true h'), impl_sizeOf_is h.1 h.2, Option.bind_some, if_neg (by have := sz_pos n; omega), Int.tmod_eq_emod_of_nonneg h'.1]
      simp [good, h.1, h.2, h'.1, h'.2, beq_dec]
    · rw [if_neg (by simpa using h')]
      have : good a n = false := by simp [good]; omega
      rw [this]
  · rw [if_neg (by simpa using h)]
    have : good a n = false := by simp [good]; omega
    rw [this]
theorem spec_GoodPrefix_is (a n : Int) : spec_GoodPrefix.f a n = some (good a n) := by
  unfold spec_GoodPrefix.f
  rw [spec_l1In_is, Option.bind_some]
  by_cases h : 0 ≤ n ∧ n ≤ 32
  · rw [if_pos (decide_eq_true h), spec_l1Addr_is, Option.bind_some]
    by_cases h' : 0 ≤ a ∧ a ≤ 4294967295
    · rw [if_pos (decide_eq_true h'), spec_l1Size_is a h.1 h.2, Option.bind_some, if_neg (by have := sz_pos n; omega), Int.tmod_eq_emod_of_nonneg h'.1]
      simp [good, h.1, h.2, h'.1, h'.2, beq_dec]
    · rw [if_neg (by simpa using h')]
      have : good a n = false := by simp [good]; omega
      rw [this]
  · rw [if_neg (by simpa using h)]
    have : good a n = false := by simp [good]; omega
    rw [this]
theorem cmp_isNaN_int_is (a : Int) : cmp_isNaN_int.f a = some false := by unfold cmp_isNaN_int.f; simp
theorem cmp_Compare_int_is (a b : Int) : cmp_Compare_int.f a b = some (if a < b then -1 else if a > b then 1 else 0) := by
  unfold cmp_Compare_int.f
  simp only [cmp_isNaN_int_is, Option.bind_some, Bool.false_eq_true, if_false]
  by_cases h1 : a < b
  · simp [h1]
  · by_cases h2 : a > b
    · simp [h1, h2]
    · simp [h1, h2]
theorem impl_compare_is (k : Nat) (a n b m : Int) : impl_compare.f (k + 3) a n b m = some (cmpP a n b m) := by
  unfold impl_compare.f cmp_Or_int.f
  rw [cmp_Compare_int_is, Option.bind_some, cmp_Compare_int_is, Option.bind_some]
  have w1 : wrap64 (0 + 1) = 1 := wrap_id (by omega) (by omega)
  have w2 : wrap64 (1 + 1) = 2 := wrap_id (by omega) (by omega)
  simp only [cmp_Or_int.l0, rd, List.length_cons, List.length_nil, w1, w2]
  unfold cmpP
  by_cases h1 : a < b
  · simp [h1]
  · by_cases h2 : b < a
    · have : ¬ a = b := by omega
      simp [h1, h2, this]
    · obtain rfl : a = b := by omega
      by_cases h3 : n < m
      · simp [h3]
      · by_cases h4 : m < n
        · have : ¬ n = m := by omega
          simp [h3, h4, this]
        · obtain rfl : n = m := by omega
          simp
theorem spec_l1Compare_is (k : Nat) (a n b m : Int) : spec_l1Compare.f (k + 1) a n b m = some (cmpP a n b m) := by
  unfold spec_l1Compare.f cmpP
  simp only [spec_l1Compare.j0]
  by_cases h1 : a < b
  · simp [h1]
  · by_cases h2 : a = b
    · subst h2
      by_cases h3 : n < m
      · simp [h3]
      · by_cases h4 : n = m
        · subst h4; simp
        · simp [h3, h4]
    · simp [h1, h2]
theorem laws_eqPrefix_is (a n b m : Int) : laws_eqPrefix.f a n b m = some (decide (a = b ∧ n = m)) := by
  unfold laws_eqPrefix.f
  by_cases h : a = b
  · by_cases h' : n = m
    · rw [if_pos h, if_pos h']; simp [h, h']
    · rw [if_pos h, if_neg h']; simp [h']
  · rw [if_neg h]; simp [h]
theorem rdm_Prefix (pre : List S35) (a : S35) (rest : List S35) : rd_T35 (pre ++ a :: rest) (pre.length : Int) = a := by unfold rd_T35; simp
def pr (p : S35) : Pr := (p.f0, p.f1)
theorem pr_inj {p q : S35} (h : pr p = pr q) : p = q := by cases p; cases q; simpa [pr] using h
theorem rdm_LPrefix (pre : List S32) (a : S32) (rest : List S32) : rd_T32 (pre ++ a :: rest) (pre.length : Int) = a := by unfold rd_T32; simp
theorem laws_eqPrefixS_refl (k : Nat) (l : List S35) (hl : l.length ≤ maxLen) (hk : l.length < k) : laws_eqPrefixS.f k l l = some true := by
  unfold laws_eqPrefixS.f
  rw [if_pos rfl]
  have key : ∀ (rest pre : List S35) (k : Nat), l = pre ++ rest → rest.length < k → laws_eqPrefixS.l0 k l l (pre.length : Int) = some true := by
    intro rest
    induction rest with
    | nil =>
      intro pre k e hk
      obtain ⟨k, rfl⟩ : ∃ m, k = m + 1 := ⟨k - 1, by omega⟩
      simp only [laws_eqPrefixS.l0]
      rw [if_neg (by rw [e]; simp)]
    | cons a rest ih =>
      intro pre k e hk
      obtain ⟨k, rfl⟩ : ∃ m, k = m + 1 := ⟨k - 1, by omega⟩
      simp only [laws_eqPrefixS.l0]
      rw [if_pos (by rw [e]; exact lt_mid _ _ _), if_pos (len_nn _), if_pos (by rw [e]; exact lt_mid _ _ _), laws_eqPrefix_is]
      simp only [Option.bind_some, and_self, decide_true, if_true]
      rw [wrap_mid (rest := rest) (by rw [← e]; exact hl)]
      exact ih (pre ++ [a]) k (by rw [e]; simp) (by simp at hk; omega)
  exact key l [] k rfl hk
theorem laws_toPrefixS_is (k : Nat) (l : List S32) (hl : l.length ≤ 1048576) (hk : l.length < k) : laws_toPrefixS.f k l = some (l.map fun p => (⟨p.f0, p.f1⟩ : S35)) := by
  unfold laws_toPrefixS.f
  rw [if_pos (len_nn _), if_pos (by simp; omega)]
  have key : ∀ (rest pre : List S32) (k : Nat), l = pre ++ rest → rest.length < k →
      laws_toPrefixS.l0 k l ((pre.map fun p => (⟨p.f0, p.f1⟩ : S35)) ++ List.replicate rest.length z35) (pre.length : Int) = some (l.map fun p => (⟨p.f0, p.f1⟩ : S35)) := by
    intro rest
    induction rest with
    | nil =>
      intro pre k e hk
      obtain ⟨k, rfl⟩ : ∃ m, k = m + 1 := ⟨k - 1, by omega⟩
      simp only [laws_toPrefixS.l0]
      rw [if_neg (by rw [e]; simp)]
      simp [e]
    | cons a rest ih =>
      intro pre k e hk
      obtain ⟨k, rfl⟩ : ∃ m, k = m + 1 := ⟨k - 1, by omega⟩
      simp only [laws_toPrefixS.l0, laws_toPrefix.f, Option.bind_some]
      rw [if_pos (by rw [e]; exact lt_mid _ _ _), if_pos (len_nn _), if_pos (by simp; omega), wrap_mid (rest := rest) (by rw [← e]; simp only [maxLen]; omega)]
      have h1 : rd_T32 l (pre.length : Int) = a := by rw [e]; exact rdm_LPrefix _ _ _
      rw [h1, List.length_cons, List.replicate_succ]
      have h2 := ih (pre ++ [a]) k (by rw [e]; simp) (by simp at hk; omega)
      have h3 : ((pre.map fun p => (⟨p.f0, p.f1⟩ : S35)) ++ z35 :: List.replicate rest.length z35).set ((pre.length : Int)).toNat (⟨a.f0, a.f1⟩ : S35) = ((pre ++ [a]).map fun p => (⟨p.f0, p.f1⟩ : S35)) ++ List.replicate rest.length z35 := by
        have := set_mid (pre.map fun p => (⟨p.f0, p.f1⟩ : S35)) z35 ⟨a.f0, a.f1⟩ (List.replicate rest.length z35)
        rw [List.length_map] at this
        rw [this]; simp
      rw [h3]; exact h2
  have := key l [] k rfl hk
  simpa using this
theorem impl_areRising_is (k : Nat) (l : List S35) (hl : l.length ≤ 1048576) (hk : l.length + 4 < k) : impl_areRising.f k l = some (rising (l.map pr)) := by
  unfold impl_areRising.f
  have key : ∀ (rest pre : List S35) (k : Nat), l = pre ++ rest → rest.length + 4 < k →
      impl_areRising.l0 k l l (l.length : Int) (pre.length : Int) = some (risingFrom ((pre.map pr).getLast?) (rest.map pr)) := by
    intro rest
    induction rest with
    | nil =>
      intro pre k e hk
      obtain ⟨k, rfl⟩ : ∃ m, k = m + 1 := ⟨k - 1, by omega⟩
      simp only [impl_areRising.l0]
      rw [if_neg (by rw [e]; simp)]
      simp [risingFrom]
    | cons a rest ih =>
      intro pre k e hk
      obtain ⟨k, rfl⟩ : ∃ m, k = m + 1 := ⟨k - 1, by omega⟩
      have h1 : rd_T35 l (pre.length : Int) = a := by rw [e]; exact rdm_Prefix _ _ _
      have hih := ih (pre ++ [a]) k (by rw [e]; simp) (by simp at hk; omega)
      rw [List.map_append, List.map_singleton, List.getLast?_concat] at hih
      simp only [impl_areRising.l0]
      rw [if_pos (by rw [e]; exact lt_mid _ _ _), if_pos (len_nn _), if_pos (by rw [e]; exact lt_mid _ _ _), h1, impl_GoodPrefix_is, Option.bind_some, wrap_mid (rest := rest) (by rw [← e]; simp only [maxLen]; omega)]
      simp only [List.map_cons, risingFrom]
      by_cases hg : good a.f0 a.f1 = true
      · rw [if_pos hg]
        rcases snoc_cases pre with rfl | ⟨pre', q, rfl⟩
        · rw [if_neg (by simp)]
          simp only [List.nil_append, List.length_singleton] at hih
          rw [show (([] : List S35) ++ [a]).length = 1 from rfl, hih]
          simp [pr, hg]
        · have h2 : wrap64 (((pre' ++ [q]).length : Int) - 1) = (pre'.length : Int) := by
            have : (pre' ++ [q] ++ a :: rest).length ≤ 1048576 := by rw [← e]; exact hl
            simp at this
            rw [List.length_append, List.length_singleton, wrap_id (by omega) (by omega)]; omega
          have h3 : rd_T35 l (pre'.length : Int) = q := by rw [e, List.append_assoc]; exact rdm_Prefix _ _ _
          obtain ⟨k', rfl⟩ : ∃ m, k = m + 3 := ⟨k - 3, by simp at hk; omega⟩
          rw [if_pos (by rw [List.length_append, List.length_singleton]; omega), h2, if_pos (len_nn _), if_pos (by rw [e, List.length_append, List.length_append, List.length_singleton]; omega), h3, impl_compare_is, Option.bind_some, hih, List.map_append, List.map_singleton, List.getLast?_concat]
          by_cases hc : cmpP q.f0 q.f1 a.f0 a.f1 ≥ 0
          · rw [if_pos hc]
            have : ¬ cmpP q.f0 q.f1 a.f0 a.f1 < 0 := by omega
            simp [pr, this]
          · rw [if_neg hc]
            have : cmpP q.f0 q.f1 a.f0 a.f1 < 0 := by omega
            simp [pr, hg, this]
      · rw [if_neg hg]
        simp [pr, hg]
  exact key l [] k rfl hk
theorem impl_isValue_is (a : Int) : impl_isValue.f a = some (isVal a) := by
  unfold impl_isValue.f; rw [impl_within_is]; rfl
theorem laws_szPrefixS_is (l : List S32) (m0 : l.length ≤ maxLen) : ∃ r, laws_szPrefixS.f l 1048576 = some r ∧ (¬ r < 0 → l.length ≤ 1048576) := by
  unfold laws_szPrefixS.f
  by_cases h : wrap64 (1048576 - (l.length : Int)) < 0
  · exact ⟨_, if_pos h, fun h' => absurd (by omega) h'⟩
  · exact ⟨_, if_neg h, fun h' => sz_ok m0 (if_neg h) h'⟩
theorem map_pr_inj : ∀ {l l' : List S35}, l.map pr = l'.map pr → l = l'
  | [], [], _ => rfl
  | [], _ :: _, h => by simp at h
  | _ :: _, [], h => by simp at h
  | a :: t, b :: t', h => by
    simp only [List.map_cons, List.cons.injEq] at h
    rw [pr_inj h.1, map_pr_inj h.2]
theorem laws_szIntS_ex (l : List Int) (hl : l.length ≤ maxLen) (n : Int) (h0 : 0 ≤ n) (h1 : n ≤ 1048576) : ∃ r, laws_szIntS.f l n = some r ∧ (¬ r < 0 → r = n - l.length ∧ (l.length : Int) ≤ n) := by
  have h2 : maxLen = 9223372036854775807 := rfl
  rw [h2] at hl
  unfold laws_szIntS.f
  rw [wrap_id (by omega) (by omega)]
  by_cases h : n - (l.length : Int) < 0
  · exact ⟨_, if_pos h, fun h' => absurd (by omega) h'⟩
  · exact ⟨_, if_neg h, fun _ => ⟨rfl, by omega⟩⟩
theorem laws_szAttrs_ex (a : Int) (l : List Int) (b c d : Int) (m : List Int) (hl : l.length ≤ maxLen) (hm : m.length ≤ maxLen) : ∃ r, laws_szAttrs.f a l b c d m 1048576 = some r ∧ (¬ r < 0 → l.length ≤ 1048576 ∧ m.length ≤ 1048576) := by
  obtain ⟨r, hr, hb⟩ := laws_szIntS_ex l hl 1048576 (by omega) (by omega)
  unfold laws_szAttrs.f
  rw [hr, Option.bind_some]
  by_cases h : r < 0
  · exact ⟨_, if_pos h, fun h' => absurd (by omega) h'⟩
  · have h3 := hb h
    obtain ⟨s, hs, hc⟩ := laws_szIntS_ex m hm r (by omega) (by omega)
    rw [if_neg h, hs, Option.bind_some]
    by_cases h4 : s < 0
    · exact ⟨_, if_pos h4, fun h' => absurd (by omega) h'⟩
    · have h5 := hc h4
      exact ⟨_, if_neg h4, fun _ => ⟨by omega, by omega⟩⟩
theorem laws_toIntS_is (k : Nat) (l : List Int) (hl : l.length ≤ 1048576) (hk : l.length < k) : laws_toIntS.f k l = some l := by
  unfold laws_toIntS.f
  rw [if_pos (len_nn _), if_pos (by simp; omega)]
  have key : ∀ (rest pre : List Int) (k : Nat), l = pre ++ rest → rest.length < k →
      laws_toIntS.l0 k l (pre ++ List.replicate rest.length 0) (pre.length : Int) = some l := by
    intro rest
    induction rest with
    | nil =>
      intro pre k e hk
      obtain ⟨k, rfl⟩ : ∃ m, k = m + 1 := ⟨k - 1, by omega⟩
      simp only [laws_toIntS.l0]
      rw [if_neg (by rw [e]; simp)]
      simp [e]
    | cons a rest ih =>
      intro pre k e hk
      obtain ⟨k, rfl⟩ : ∃ m, k = m + 1 := ⟨k - 1, by omega⟩
      simp only [laws_toIntS.l0]
      rw [if_pos (by rw [e]; exact lt_mid _ _ _), if_pos (len_nn _), if_pos (by simp; omega), wrap_mid (rest := rest) (by rw [← e]; simp only [maxLen]; omega)]
      have h1 : rd l (pre.length : Int) = a := by rw [e]; exact rd_mid _ _ _
      rw [h1, List.length_cons, List.replicate_succ, set_mid]
      have h2 := ih (pre ++ [a]) k (by rw [e]; simp) (by simp at hk; omega)
      rw [List.append_assoc] at h2
      exact h2
  have := key l [] k rfl hk
  simpa using this
theorem laws_toAttrs_is (k : Nat) (a : Int) (l : List Int) (b c d : Int) (m : List Int) (hl : l.length ≤ 1048576) (hm : m.length ≤ 1048576) (hk : l.length + m.length < k) : laws_toAttrs.f k a l b c d m = some (a, l, b, c, d, m) := by
  unfold laws_toAttrs.f
  rw [laws_toIntS_is k l hl (by omega), Option.bind_some, laws_toIntS_is k m hm (by omega)]; rfl
theorem laws_eqIntS_refl (k : Nat) (l : List Int) (hl : l.length ≤ maxLen) (hk : l.length < k) : laws_eqIntS.f k l l = some true := by
  unfold laws_eqIntS.f
  rw [if_pos rfl]
  have key : ∀ (rest pre : List Int) (k : Nat), l = pre ++ rest → rest.length < k → laws_eqIntS.l0 k l l (pre.length : Int) = some true := by
    intro rest
    induction rest with
    | nil =>
      intro pre k e hk
      obtain ⟨k, rfl⟩ : ∃ m, k = m + 1 := ⟨k - 1, by omega⟩
      simp only [laws_eqIntS.l0]
      rw [if_neg (by rw [e]; simp)]
    | cons a rest ih =>
      intro pre k e hk
      obtain ⟨k, rfl⟩ : ∃ m, k = m + 1 := ⟨k - 1, by omega⟩
      simp only [laws_eqIntS.l0]
      rw [if_pos (by rw [e]; exact lt_mid _ _ _), if_pos (len_nn _), if_pos (by rw [e]; exact lt_mid _ _ _)]
      simp only [if_true]
      rw [wrap_mid (rest := rest) (by rw [← e]; exact hl)]
      exact ih (pre ++ [a]) k (by rw [e]; simp) (by simp at hk; omega)
  exact key l [] k rfl hk
theorem laws_eqAttrs_refl (k : Nat) (a : Int) (l : List Int) (b c d : Int) (m : List Int) (hl : l.length ≤ maxLen) (hm : m.length ≤ maxLen) (hk : l.length + m.length < k) : laws_eqAttrs.f k a l b c d m a l b c d m = some true := by
  unfold laws_eqAttrs.f
  rw [if_pos rfl, laws_eqIntS_refl k l hl (by omega), Option.bind_some, if_pos rfl, if_pos rfl, if_pos rfl, if_pos rfl, laws_eqIntS_refl k m hm (by omega), Option.bind_some, if_pos rfl]
def pathOk (l : List Int) : Bool := l.all fun a => decide (1 ≤ a ∧ a ≤ 65535)
theorem idx_Path (l : List Int) (hl : l.length ≤ maxLen) : ∀ (rest pre : List Int), l = pre ++ rest →
    ∃ r : Int, Ev (fun k => slices_IndexFunc_int_int.l0 k l (l.length : Int) (pre.length : Int)) r ∧ (decide (r ≥ 0) = !pathOk rest) := by
  intro rest
  induction rest with
  | nil =>
    intro pre e
    refine ⟨-1, Ev.step (f := fun _ => some (-1)) (fun k => ?_) (Ev.now _), by simp [pathOk]⟩
    simp only [slices_IndexFunc_int_int.l0]
    rw [if_neg (by rw [e]; simp)]
  | cons a rest ih =>
    intro pre e
    have hlt : (pre.length : Int) < (l.length : Int) := by rw [e]; exact lt_mid _ _ _
    have h1 : rd l (pre.length : Int) = a := by rw [e]; exact rd_mid _ _ _
    by_cases hm : 1 ≤ a ∧ a ≤ 65535
    · obtain ⟨r, hr, hb⟩ := ih (pre ++ [a]) (by rw [e]; simp)
      refine ⟨r, Ev.step (fun k => ?_) hr, by rw [hb]; simp [pathOk, hm]⟩
      simp only [slices_IndexFunc_int_int.l0, impl_isPath_1.f, impl_isAsn.f]
      rw [if_pos hlt, if_pos (len_nn _), if_pos hlt, h1, impl_within_is]
      simp only [Option.bind_some]
      rw [if_neg (by simp [hm]), wrap_mid (rest := rest) (by rw [← e]; exact hl)]
    · refine ⟨(pre.length : Int), Ev.step (f := fun _ => some (pre.length : Int)) (fun k => ?_) (Ev.now _), ?_⟩
      · simp only [slices_IndexFunc_int_int.l0, impl_isPath_1.f, impl_isAsn.f]
        rw [if_pos hlt, if_pos (len_nn _), if_pos hlt, h1, impl_within_is]
        simp only [Option.bind_some]
        rw [if_pos (by simp; omega)]
      · have : pathOk (a :: rest) = false := by
          unfold pathOk
          rw [List.all_cons, decide_eq_false hm, Bool.false_and]
        rw [this]; simp
theorem impl_isPath_is (l : List Int) (hl : l.length ≤ maxLen) : Ev (fun k => impl_isPath.f k l) (decide (l.length ≤ 10) && pathOk l) := by
  by_cases h : (l.length : Int) ≤ 10
  · have h' : l.length ≤ 10 := by omega
    obtain ⟨r, hr, hb⟩ := idx_Path l hl l [] rfl
    refine Ev.congr (fun k => by unfold impl_isPath.f slices_ContainsFunc_int_int.f; rw [if_pos h]) (Ev.bind (f := fun _ b => some (!b)) (Ev.bind (g := fun k => slices_IndexFunc_int_int.f k l) (f := fun _ t => some (decide (t ≥ 0))) hr (Ev.now _)) ?_)
    rw [hb]
    simp only [h', decide_true, Bool.true_and, Bool.not_not]
    exact Ev.now _
  · have h' : ¬ l.length ≤ 10 := by omega
    rw [show (decide (l.length ≤ 10) && pathOk l) = false by simp [h']]
    exact Ev.congr (fun k => by unfold impl_isPath.f; rw [if_neg h]) (Ev.now _)
def commOk : Int → List Int → Bool
  | _, [] => true
  | p, a :: t => decide (0 ≤ a ∧ a ≤ 1000000) && (decide (p < a) && commOk a t)
def prevOf (pre : List Int) : Int := if pre = [] then -1 else rd pre ((pre.length : Int) - 1)
theorem prevOf_snoc (pre : List Int) (a : Int) : prevOf (pre ++ [a]) = a := by
  unfold prevOf
  rw [if_neg (by simp)]
  rw [show (((pre ++ [a]).length : Int) - 1) = (pre.length : Int) by simp]
  exact rd_mid pre a []
theorem rd_prev {pre : List Int} (h : pre ≠ []) (rest : List Int) : rd (pre ++ rest) ((pre.length : Int) - 1) = prevOf pre := by
  obtain h2 | ⟨p, q, rfl⟩ := snoc_cases pre
  · exact absurd h2 h
  · rw [prevOf_snoc]
    rw [show (((p ++ [q]).length : Int) - 1) = (p.length : Int) by simp, List.append_assoc]
    exact rd_mid p q rest
theorem impl_areComms_is (l : List Int) (hl : l.length ≤ 1048576) : Ev (fun k => impl_areComms.f k l) (commOk (-1) l && decide (l.length ≤ 6)) := by
  have key : ∀ (rest pre : List Int), l = pre ++ rest →
      Ev (fun k => impl_areComms.l0 k l l (l.length : Int) (pre.length : Int)) (commOk (prevOf pre) rest && decide (l.length ≤ 6)) := by
    intro rest
    induction rest with
    | nil =>
      intro pre e
      refine Ev.step (f := fun _ => some (decide (l.length ≤ 6))) (fun k => ?_) (by simp only [commOk, Bool.true_and]; exact Ev.now _)
      simp only [impl_areComms.l0]
      rw [if_neg (by rw [e]; simp)]
      congr 1
      exact decide_eq_decide.mpr (by omega)
    | cons a rest ih =>
      intro pre e
      have hlt : (pre.length : Int) < (l.length : Int) := by rw [e]; exact lt_mid _ _ _
      have h1 : rd l (pre.length : Int) = a := by rw [e]; exact rd_mid _ _ _
      have hr := ih (pre ++ [a]) (by rw [e]; simp)
      rw [prevOf_snoc] at hr
      have hw := wrap_mid (pre := pre) (a := a) (rest := rest) (by rw [← e]; simp only [maxLen]; omega)
      simp only [commOk]
      by_cases hm : 0 ≤ a ∧ a ≤ 1000000
      · rw [decide_eq_true hm, Bool.true_and]
        by_cases hp : pre = []
        · have hq : prevOf pre < a := by unfold prevOf; rw [if_pos hp]; omega
          rw [decide_eq_true hq, Bool.true_and]
          refine Ev.step (fun k => ?_) hr
          simp only [impl_areComms.l0, impl_isValue.f]
          rw [if_pos hlt, if_pos (len_nn _), if_pos hlt, h1, impl_within_is]
          simp only [Option.bind_some]
          rw [if_pos (decide_eq_true hm), if_neg (by rw [hp]; simp), hw]
        · have hn : 0 < pre.length := List.length_pos_iff.mpr hp
          have hv : wrap64 ((pre.length : Int) - 1) = (pre.length : Int) - 1 := wrap_id (by omega) (by omega)
          have hr2 : rd l ((pre.length : Int) - 1) = prevOf pre := by rw [e]; exact rd_prev hp _
          by_cases hq : prevOf pre < a
          · rw [decide_eq_true hq, Bool.true_and]
            refine Ev.step (fun k => ?_) hr
            simp only [impl_areComms.l0, impl_isValue.f]
            rw [if_pos hlt, if_pos (len_nn _), if_pos hlt, h1, impl_within_is]
            simp only [Option.bind_some]
            rw [if_pos (decide_eq_true hm), if_pos (by omega), hv, if_pos (by omega), if_pos (by omega), hr2, if_neg (by omega), hw]
          · rw [decide_eq_false hq, Bool.false_and]
            refine Ev.step (f := fun _ => some false) (fun k => ?_) (Ev.now _)
            simp only [impl_areComms.l0, impl_isValue.f]
            rw [if_pos hlt, if_pos (len_nn _), if_pos hlt, h1, impl_within_is]
            simp only [Option.bind_some]
            rw [if_pos (decide_eq_true hm), if_pos (by omega), hv, if_pos (by omega), if_pos (by omega), hr2, if_pos (by omega)]
      · rw [decide_eq_false hm, Bool.false_and, Bool.false_and]
        refine Ev.step (f := fun _ => some false) (fun k => ?_) (Ev.now _)
        simp only [impl_areComms.l0, impl_isValue.f]
        rw [if_pos hlt, if_pos (len_nn _), if_pos hlt, h1, impl_within_is]
        simp only [Option.bind_some]
        rw [if_neg (by rw [decide_eq_false hm]; simp)]
  exact key l [] rfl
def attrsOk (a : Int) (l : List Int) (b c d : Int) (m : List Int) : Bool :=
  decide (0 ≤ a ∧ a ≤ 2) && ((decide (l.length ≤ 10) && pathOk l) && (decide (0 ≤ b ∧ b ≤ 4294967295) && (decide (0 ≤ c ∧ c ≤ 1000000) && (decide (0 ≤ d ∧ d ≤ 1000000) && (commOk (-1) m && decide (m.length ≤ 6))))))
theorem Ev_and {x y : Bool} {g : Nat → Option Bool} (h : Ev g y) : Ev (fun k => if x = true then g k else some false) (x && y) := by
  cases x with
  | true => exact Ev.congr (fun k => if_pos rfl) h
  | false => exact Ev.congr (fun k => if_neg (by simp)) (Ev.now _)
theorem impl_GoodAttrs_is (a : Int) (l : List Int) (b c d : Int) (m : List Int) (hl : l.length ≤ 1048576) (hm : m.length ≤ 1048576) : Ev (fun k => impl_GoodAttrs.f k a l b c d m) (attrsOk a l b c d m) := by
  obtain ⟨K1, h1⟩ := impl_isPath_is l (by simp only [maxLen]; omega)
  obtain ⟨K2, h2⟩ := impl_areComms_is m hm
  replace h1 : ∀ k, K1 ≤ k → impl_isPath.f k l = _ := h1
  replace h2 : ∀ k, K2 ≤ k → impl_areComms.f k m = _ := h2
  refine ⟨K1 + K2, fun k hk => ?_⟩
  simp only [impl_GoodAttrs.f, impl_isAddr.f, impl_isValue.f, impl_within_is, Option.bind_some]
  rw [h1 k (by omega), h2 k (by omega)]
  simp only [Option.bind_some]
  unfold attrsOk
  generalize decide (0 ≤ a ∧ a ≤ 2) = x1
  generalize (decide (l.length ≤ 10) && pathOk l) = x2
  generalize decide (0 ≤ b ∧ b ≤ 4294967295) = x3
  generalize decide (0 ≤ c ∧ c ≤ 1000000) = x4
  generalize decide (0 ≤ d ∧ d ≤ 1000000) = x5
  generalize (commOk (-1) m && decide (m.length ≤ 6)) = x6
  cases x1 <;> cases x2 <;> cases x3 <;> cases x4 <;> cases x5 <;> cases x6 <;> rfl
theorem spec_GoodAttrs_is (a : Int) (l : List Int) (b c d : Int) (m : List Int) (hl : l.length ≤ 1048576) (hm : m.length ≤ 1048576) : Ev (fun k => spec_GoodAttrs.f k a l b c d m) (attrsOk a l b c d m) := by
  have k1 : ∀ (rest pre : List Int), m = pre ++ rest →
      Ev (fun k => spec_GoodAttrs.l1 k m (m.length : Int) (pre.length : Int) a l b c d m) (commOk (prevOf pre) rest && (decide (0 ≤ a ∧ a ≤ 2) && (decide (l.length ≤ 10) && (decide (0 ≤ b ∧ b ≤ 4294967295) && (decide (0 ≤ c ∧ c ≤ 1000000) && (decide (0 ≤ d ∧ d ≤ 1000000) && decide (m.length ≤ 6))))))) := by
    intro rest
    induction rest with
    | nil =>
      intro pre e
      simp only [commOk, Bool.true_and]
      refine Ev.step (f := fun _ => _) (fun k => ?_) (Ev_and (Ev_and (Ev_and (Ev_and (Ev_and (Ev.now _))))))
      simp only [spec_GoodAttrs.l1]
      rw [if_neg (by rw [e]; simp), spec_l1In_is, Option.bind_some]
      by_cases h1 : 0 ≤ a ∧ a ≤ 2
      · rw [if_pos (decide_eq_true h1), if_pos (decide_eq_true h1)]
        by_cases h2 : (l.length : Int) ≤ 10
        · have h2' : l.length ≤ 10 := by omega
          rw [if_pos h2, if_pos (decide_eq_true h2')]
          simp only [spec_l1Addr_is, spec_l1In_is, Option.bind_some]
          have : decide ((m.length : Int) ≤ 6) = decide (m.length ≤ 6) := decide_eq_decide.mpr (by omega)
          rw [this]
        · have h2' : ¬ l.length ≤ 10 := by omega
          rw [if_neg h2, if_neg (by simpa using h2')]
      · rw [if_neg (by rw [decide_eq_false h1]; simp), if_neg (by rw [decide_eq_false h1]; simp)]
    | cons x rest ih =>
      intro pre e
      have hlt : (pre.length : Int) < (m.length : Int) := by rw [e]; exact lt_mid _ _ _
      have h1 : rd m (pre.length : Int) = x := by rw [e]; exact rd_mid _ _ _
      have hr := ih (pre ++ [x]) (by rw [e]; simp)
      rw [prevOf_snoc] at hr
      have hw := wrap_mid (pre := pre) (a := x) (rest := rest) (by rw [← e]; simp only [maxLen]; omega)
      simp only [commOk]
      by_cases hm : 0 ≤ x ∧ x ≤ 1000000
      · rw [decide_eq_true hm, Bool.true_and]
        by_cases hp : pre = []
        · have hq : prevOf pre < x := by unfold prevOf; rw [if_pos hp]; omega
          rw [decide_eq_true hq, Bool.true_and]
          refine Ev.step (fun k => ?_) hr
          simp only [spec_GoodAttrs.l1]
          rw [if_pos hlt, if_pos (len_nn _), if_pos hlt, h1, spec_l1In_is]
          simp only [Option.bind_some]
          rw [if_pos (decide_eq_true hm), if_neg (by rw [hp]; simp), hw]
        · have hn : 0 < pre.length := List.length_pos_iff.mpr hp
          have hv : wrap64 ((pre.length : Int) - 1) = (pre.length : Int) - 1 := wrap_id (by omega) (by omega)
          have hr2 : rd m ((pre.length : Int) - 1) = prevOf pre := by rw [e]; exact rd_prev hp _
          by_cases hq : prevOf pre < x
          · rw [decide_eq_true hq, Bool.true_and]
            refine Ev.step (fun k => ?_) hr
            simp only [spec_GoodAttrs.l1]
            rw [if_pos hlt, if_pos (len_nn _), if_pos hlt, h1, spec_l1In_is]
            simp only [Option.bind_some]
            rw [if_pos (decide_eq_true hm), if_pos (by omega), hv, if_pos (by omega), if_pos (by omega), hr2, if_neg (by omega), hw]
          · rw [decide_eq_false hq, Bool.false_and]
            refine Ev.step (f := fun _ => some false) (fun k => ?_) (Ev.now _)
            simp only [spec_GoodAttrs.l1]
            rw [if_pos hlt, if_pos (len_nn _), if_pos hlt, h1, spec_l1In_is]
            simp only [Option.bind_some]
            rw [if_pos (decide_eq_true hm), if_pos (by omega), hv, if_pos (by omega), if_pos (by omega), hr2, if_pos (by omega)]
      · rw [decide_eq_false hm, Bool.false_and, Bool.false_and]
        refine Ev.step (f := fun _ => some false) (fun k => ?_) (Ev.now _)
        simp only [spec_GoodAttrs.l1]
        rw [if_pos hlt, if_pos (len_nn _), if_pos hlt, h1, spec_l1In_is]
        simp only [Option.bind_some]
        rw [if_neg (by rw [decide_eq_false hm]; simp)]
  have k0 : ∀ (rest pre : List Int) (r : Bool), Ev (fun k => spec_GoodAttrs.l1 k m (m.length : Int) 0 a l b c d m) r → l = pre ++ rest →
      Ev (fun k => spec_GoodAttrs.l0 k l (l.length : Int) (pre.length : Int) a l b c d m) (pathOk rest && r) := by
    intro rest
    induction rest with
    | nil =>
      intro pre r hr e
      rw [show (pathOk [] && r) = r by simp [pathOk]]
      refine Ev.step (fun k => ?_) hr
      simp only [spec_GoodAttrs.l0]
      rw [if_neg (by rw [e]; simp)]
    | cons x rest ih =>
      intro pre r hr e
      have hlt : (pre.length : Int) < (l.length : Int) := by rw [e]; exact lt_mid _ _ _
      have h1 : rd l (pre.length : Int) = x := by rw [e]; exact rd_mid _ _ _
      have hw := wrap_mid (pre := pre) (a := x) (rest := rest) (by rw [← e]; simp only [maxLen]; omega)
      have hi := ih (pre ++ [x]) r hr (by rw [e]; simp)
      by_cases hx : 1 ≤ x ∧ x ≤ 65535
      · rw [show pathOk (x :: rest) = pathOk rest by unfold pathOk; rw [List.all_cons, decide_eq_true hx, Bool.true_and]]
        refine Ev.step (fun k => ?_) hi
        simp only [spec_GoodAttrs.l0]
        rw [if_pos hlt, if_pos (len_nn _), if_pos hlt, h1, spec_l1In_is]
        simp only [Option.bind_some]
        rw [if_pos (decide_eq_true hx), hw]
      · rw [show pathOk (x :: rest) = false by unfold pathOk; rw [List.all_cons, decide_eq_false hx, Bool.false_and], Bool.false_and]
        refine Ev.step (f := fun _ => some false) (fun k => ?_) (Ev.now _)
        simp only [spec_GoodAttrs.l0]
        rw [if_pos hlt, if_pos (len_nn _), if_pos hlt, h1, spec_l1In_is]
        simp only [Option.bind_some]
        rw [if_neg (by rw [decide_eq_false hx]; simp)]
  have := k0 l [] _ (k1 m [] rfl) rfl
  have e : attrsOk a l b c d m = (pathOk l && (commOk (prevOf []) m && (decide (0 ≤ a ∧ a ≤ 2) && (decide (l.length ≤ 10) && (decide (0 ≤ b ∧ b ≤ 4294967295) && (decide (0 ≤ c ∧ c ≤ 1000000) && (decide (0 ≤ d ∧ d ≤ 1000000) && decide (m.length ≤ 6)))))))) := by
    rw [show prevOf [] = -1 from rfl]
    unfold attrsOk
    generalize decide (0 ≤ a ∧ a ≤ 2) = x1
    generalize decide (l.length ≤ 10) = x2
    generalize decide (0 ≤ b ∧ b ≤ 4294967295) = x3
    generalize decide (0 ≤ c ∧ c ≤ 1000000) = x4
    generalize decide (0 ≤ d ∧ d ≤ 1000000) = x5
    generalize decide (m.length ≤ 6) = x6
    generalize pathOk l = x7
    generalize commOk (-1) m = x8
    cases x1 <;> cases x2 <;> cases x3 <;> cases x4 <;> cases x5 <;> cases x6 <;> cases x7 <;> cases x8 <;> rfl
  rw [e]; exact this
def be : Nat → Int → List Int
  | 0, _ => []
  | n + 1, x => be n (x / 256) ++ [x % 256]
theorem be_len (n : Nat) (x : Int) : (be n x).length = n := by
  induction n generalizing x with
  | zero => rfl
  | succ n ih => simp [be, ih]
theorem spec_l4Bytes_l0 : ∀ (n k : Nat) (x : Int) (tl : List Int), n < k → n + tl.length ≤ 1000000 → spec_l4Bytes.l0 k x (List.replicate n 0 ++ tl) ((n : Int) - 1) = some (strOfNums (be n x ++ tl))
  | 0, k + 1, x, tl, _, _ => by
    simp only [spec_l4Bytes.l0]
    rw [if_neg (by omega)]
    simp [be]
  | n + 1, k + 1, x, tl, hk, hl => by
    simp only [spec_l4Bytes.l0]
    rw [show ((n + 1 : Nat) : Int) - 1 = (n : Int) by omega, if_pos (by omega), if_pos (by omega), if_pos (by simp; omega), wrap_id (by omega) (by omega)]
    have e : (List.replicate (n + 1) (0 : Int) ++ tl).set ((n : Int)).toNat (x % 256) = List.replicate n 0 ++ ([x % 256] ++ tl) := by
      rw [List.replicate_succ', List.append_assoc]
      simp
    rw [e, spec_l4Bytes_l0 n k (x / 256) ([x % 256] ++ tl) (by omega) (by simp; omega)]
    simp [be]
theorem spec_l4Bytes_is (k n : Nat) (x : Int) (hk : n < k) (hn : n ≤ 100000) : spec_l4Bytes.f k x (n : Int) = some (strOfNums (be n x)) := by
  unfold spec_l4Bytes.f
  rw [if_pos (by omega), if_pos (by omega), wrap_id (by omega) (by omega)]
  have := spec_l4Bytes_l0 n k x [] hk (by simp; omega)
  simpa using this
def hb (x : Int) : Nat → List Int
  | 0 => []
  | n + 1 => (shr .i64 x (8 * (n : Int))) % 256 :: hb x n
theorem impl_bytesOf_l0 : ∀ (n k : Nat) (x : Int) (acc : List Int), n < k → n + acc.length ≤ 1000000 → impl_bytesOf.l0 k x acc ((n : Int) - 1) = some (strOfNums (acc ++ hb x n))
  | 0, k + 1, x, acc, _, _ => by
    simp only [impl_bytesOf.l0]
    rw [if_neg (by omega)]
    simp [hb]
  | n + 1, k + 1, x, acc, hk, hl => by
    simp only [impl_bytesOf.l0]
    rw [show ((n + 1 : Nat) : Int) - 1 = (n : Int) by omega, if_pos (by omega), wrap_id (x := 8 * (n : Int)) (by omega) (by omega), if_pos (by omega), if_pos (by omega), wrap_id (by omega) (by omega)]
    rw [impl_bytesOf_l0 n k x _ (by omega) (by simp; omega)]
    simp [hb]
theorem impl_bytesOf_is (k n : Nat) (x : Int) (hk : n < k) (hn : n ≤ 100000) : impl_bytesOf.f k x (n : Int) = some (strOfNums (hb x n)) := by
  unfold impl_bytesOf.f
  rw [wrap_id (by omega) (by omega)]
  have := impl_bytesOf_l0 n k x [] hk (by simp; omega)
  simpa using this
theorem strOfNums_take (xs : List Int) (m : Nat) : (strOfNums xs).extract 0 m = strOfNums (xs.take m) := by
  apply ByteArray.ext
  simp [strOfNums, ByteArray.data_extract, List.map_take]
theorem size_strOf (xs : List Int) : (strOfNums xs).size = xs.length := by simp [strOfNums, ByteArray.size]
theorem shr_is (x : Int) (n : Nat) (h : n ≤ 64) : shr .i64 x (n : Int) = x / 2 ^ n := by
  unfold shr
  rw [show min (n : Int).toNat IntKind.i64.bits = n by show min (n : Int).toNat 64 = n; omega]
theorem octs_is {n : Int} (h0 : 0 ≤ n) (h1 : n ≤ 32) : ∃ m : Nat, wrap64 (Int.tdiv (wrap64 (n + 7)) 8) = (m : Int) ∧ m ≤ 4 := by
  have e : Int.tdiv (n + 7) 8 = (n + 7) / 8 := Int.tdiv_eq_ediv_of_nonneg (by omega)
  rw [wrap_id (x := n + 7) (by omega) (by omega), e, wrap_id (by omega) (by omega)]
  exact ⟨((n + 7) / 8).toNat, by omega, by omega⟩
theorem be_take (a : Int) (m : Nat) (hm : m ≤ 4) : be m (shr .i64 a (32 - 8 * (m : Int))) = (hb a 4).take m := by
  have e0 := shr_is a 0 (by omega)
  have e8 := shr_is a 8 (by omega)
  have e16 := shr_is a 16 (by omega)
  have e24 := shr_is a 24 (by omega)
  rw [show ((0 : Nat) : Int) = 0 from rfl] at e0
  rw [show ((8 : Nat) : Int) = 8 from rfl] at e8
  rw [show ((16 : Nat) : Int) = 16 from rfl] at e16
  rw [show ((24 : Nat) : Int) = 24 from rfl] at e24
  have hl : hb a 4 = [shr .i64 a 24 % 256, shr .i64 a 16 % 256, shr .i64 a 8 % 256, shr .i64 a 0 % 256] := rfl
  rw [hl, e0, e8, e16, e24]
  have hc : m = 0 ∨ m = 1 ∨ m = 2 ∨ m = 3 ∨ m = 4 := by omega
  rcases hc with rfl | rfl | rfl | rfl | rfl
  · rfl
  · rw [show (32 : Int) - 8 * ((1 : Nat) : Int) = 24 by omega, e24]; rfl
  · rw [show (32 : Int) - 8 * ((2 : Nat) : Int) = 16 by omega, e16]
    simp only [be, List.nil_append, List.take, List.cons_append, List.cons.injEq, and_true]
    omega
  · rw [show (32 : Int) - 8 * ((3 : Nat) : Int) = 8 by omega, e8]
    simp only [be, List.nil_append, List.take, List.cons_append, List.cons.injEq, and_true]
    omega
  · rw [show (32 : Int) - 8 * ((4 : Nat) : Int) = 0 by omega, e0]
    simp only [be, List.nil_append, List.take, List.cons_append, List.cons.injEq, and_true]
    omega
def prefB (a n : Int) : ByteArray := strOfNums [n % 256] ++ strOfNums ((hb a 4).take (Int.tdiv (n + 7) 8).toNat)
theorem prefB_same (k : Nat) (hk : 10 ≤ k) (a n : Int) (h0 : 0 ≤ n) (h1 : n ≤ 32) : ∃ r, spec_l4Prefix.f k a n = some r ∧ impl_prefixBytes.f k a n = some r := by
  obtain ⟨m, hm, hm4⟩ := octs_is h0 h1
  unfold spec_l4Prefix.f impl_prefixBytes.f
  have s1 := spec_l4Bytes_is k 1 n (by omega) (by omega)
  have i1 := impl_bytesOf_is k 1 n (by omega) (by omega)
  have i4 := impl_bytesOf_is k 4 a (by omega) (by omega)
  rw [show ((1 : Nat) : Int) = 1 from rfl] at s1 i1
  rw [show ((4 : Nat) : Int) = 4 from rfl] at i4
  have e1 : hb n 1 = be 1 n := by
    have e0 := shr_is n 0 (by omega)
    rw [show ((0 : Nat) : Int) = 0 from rfl] at e0
    show [shr .i64 n 0 % 256] = [n % 256]
    rw [e0]; simp
  rw [s1, i1, i4, hm, wrap_id (x := 8 * (m : Int)) (by omega) (by omega), wrap_id (x := 32 - 8 * (m : Int)) (by omega) (by omega), u64_id (by omega) (by omega)]
  simp only [Option.bind_some]
  rw [if_pos (by omega), spec_l4Bytes_is k m _ (by omega) (by omega), be_take a m hm4, e1, Option.bind_some]
  have hsz : (strOfNums (hb a 4)).size = 4 := by rw [size_strOf]; rfl
  rw [if_pos (by simp only [size_strOf, be_len, List.length_take]; omega), if_pos (by omega), if_pos (by rw [hsz]; omega), show ((m : Int)).toNat = m by omega, strOfNums_take, if_pos (by simp only [size_strOf, be_len, List.length_take]; omega)]
  exact ⟨_, rfl, rfl⟩
theorem contains_Prefix (k : Nat) (l : List S35) (a b : Int) (hl : l.length ≤ 1048576) (hk : l.length < k) : slices_Contains_impl_Prefix_impl_Prefix.f k l a b = some (l.any fun q => a == q.f0 && b == q.f1) := by
  unfold slices_Contains_impl_Prefix_impl_Prefix.f slices_Index_impl_Prefix_impl_Prefix.f
  exact any_gen (fun k i => slices_Index_impl_Prefix_impl_Prefix.l0 k l (l.length : Int) i a b) l (fun q => a == q.f0 && b == q.f1) (fun k => by
      show slices_Index_impl_Prefix_impl_Prefix.l0 (k + 1) l (l.length : Int) (l.length : Int) a b = _
      rw [slices_Index_impl_Prefix_impl_Prefix.l0, if_neg (not_lt_end l)]) (fun k pre x rest e => by
      show slices_Index_impl_Prefix_impl_Prefix.l0 (k + 1) l (l.length : Int) (pre.length : Int) a b = _
      have h1 : rd_T35 l (pre.length : Int) = x := by rw [e]; exact rdm_Prefix _ _ _
      rw [slices_Index_impl_Prefix_impl_Prefix.l0, if_pos (by rw [e]; exact lt_mid _ _ _), if_pos (len_nn _), if_pos (by rw [e]; exact lt_mid _ _ _), h1, wrap_mid (rest := rest) (by rw [← e]; simp only [maxLen]; omega)]) k hk
theorem spec_l4In_is (k : Nat) (l : List S35) (a b : Int) (hl : l.length ≤ 1048576) (hk : l.length < k) : spec_l4In.f k l a b = some (l.any fun q => a == q.f0 && b == q.f1) := by
  unfold spec_l4In.f
  have key : ∀ (rest pre : List S35) (k : Nat), l = pre ++ rest → rest.length < k → spec_l4In.l0 k l (l.length : Int) (pre.length : Int) a b = some (rest.any fun q => a == q.f0 && b == q.f1) := by
    intro rest
    induction rest with
    | nil =>
      intro pre k e hk
      obtain ⟨k, rfl⟩ : ∃ m, k = m + 1 := ⟨k - 1, by omega⟩
      rw [spec_l4In.l0, if_neg (by rw [e]; simp)]
      rfl
    | cons x rest ih =>
      intro pre k e hk
      obtain ⟨k, rfl⟩ : ∃ m, k = m + 1 := ⟨k - 1, by omega⟩
      have h1 : rd_T35 l (pre.length : Int) = x := by rw [e]; exact rdm_Prefix _ _ _
      rw [spec_l4In.l0, if_pos (by rw [e]; exact lt_mid _ _ _), if_pos (len_nn _), if_pos (by rw [e]; exact lt_mid _ _ _), h1, wrap_mid (rest := rest) (by rw [← e]; simp only [maxLen]; omega), ih (pre ++ [x]) k (by rw [e]; simp) (by simp at hk; omega)]
      have hs : (x.f0 == a && x.f1 == b) = (a == x.f0 && b == x.f1) := by rw [Bool.beq_comm, Bool.beq_comm (a := x.f1)]
      rw [hs, List.any_cons]
      cases (a == x.f0 && b == x.f1)
      · rw [if_neg (by decide)]; rfl
      · rw [if_pos rfl]; rfl
  exact key l [] k rfl hk
theorem spec_l4Rising_is (k : Nat) (l : List S35) (hl : l.length ≤ 1048576) (hk : l.length + 4 < k) : spec_l4Rising.f k l = some (rising (l.map pr) && decide (l.length ≤ 10)) := by
  unfold spec_l4Rising.f
  have key : ∀ (rest pre : List S35) (k : Nat), l = pre ++ rest → rest.length + 4 < k →
      spec_l4Rising.l0 k l l (l.length : Int) (pre.length : Int) = some (risingFrom ((pre.map pr).getLast?) (rest.map pr) && decide (l.length ≤ 10)) := by
    intro rest
    induction rest with
    | nil =>
      intro pre k e hk
      obtain ⟨k, rfl⟩ : ∃ m, k = m + 1 := ⟨k - 1, by omega⟩
      simp only [spec_l4Rising.l0]
      rw [if_neg (by rw [e]; simp)]
      have : decide ((l.length : Int) ≤ 10) = decide (l.length ≤ 10) := decide_eq_decide.mpr (by omega)
      rw [this]
      simp [risingFrom]
    | cons a rest ih =>
      intro pre k e hk
      obtain ⟨k, rfl⟩ : ∃ m, k = m + 1 := ⟨k - 1, by omega⟩
      have h1 : rd_T35 l (pre.length : Int) = a := by rw [e]; exact rdm_Prefix _ _ _
      have hih := ih (pre ++ [a]) k (by rw [e]; simp) (by simp at hk; omega)
      rw [List.map_append, List.map_singleton, List.getLast?_concat] at hih
      simp only [spec_l4Rising.l0]
      rw [if_pos (by rw [e]; exact lt_mid _ _ _), if_pos (len_nn _), if_pos (by rw [e]; exact lt_mid _ _ _), h1, spec_GoodPrefix_is, Option.bind_some, wrap_mid (rest := rest) (by rw [← e]; simp only [maxLen]; omega)]
      simp only [List.map_cons, risingFrom]
      by_cases hg : good a.f0 a.f1 = true
      · rw [if_pos hg]
        rcases snoc_cases pre with rfl | ⟨pre', q, rfl⟩
        · rw [if_neg (by simp)]
          simp only [List.nil_append, List.length_singleton] at hih
          rw [show (([] : List S35) ++ [a]).length = 1 from rfl, hih]
          simp [pr, hg]
        · have h2 : wrap64 (((pre' ++ [q]).length : Int) - 1) = (pre'.length : Int) := by
            have : (pre' ++ [q] ++ a :: rest).length ≤ 1048576 := by rw [← e]; exact hl
            simp at this
            rw [List.length_append, List.length_singleton, wrap_id (by omega) (by omega)]; omega
          have h3 : rd_T35 l (pre'.length : Int) = q := by rw [e, List.append_assoc]; exact rdm_Prefix _ _ _
          obtain ⟨k', rfl⟩ : ∃ m, k = m + 1 := ⟨k - 1, by simp at hk; omega⟩
          rw [if_pos (by rw [List.length_append, List.length_singleton]; omega), h2, if_pos (len_nn _), if_pos (by rw [e, List.length_append, List.length_append, List.length_singleton]; omega), h3, spec_l1Compare_is, Option.bind_some, hih, List.map_append, List.map_singleton, List.getLast?_concat]
          by_cases hc : cmpP q.f0 q.f1 a.f0 a.f1 ≥ 0
          · rw [if_pos hc]
            have : ¬ cmpP q.f0 q.f1 a.f0 a.f1 < 0 := by omega
            simp [pr, this]
          · rw [if_neg hc]
            have : cmpP q.f0 q.f1 a.f0 a.f1 < 0 := by omega
            simp [pr, hg, this]
      · rw [if_neg hg]
        simp [pr, hg]
  exact key l [] k rfl hk
def zeroA (a : Int) (l : List Int) (b c d : Int) (m : List Int) : Bool := a == 0 && (decide (l.length = 0) && (b == 0 && (c == 0 && (d == 0 && decide (m.length = 0)))))
def clash (g e : List S35) : Bool := e.any fun p => g.any fun q => p.f0 == q.f0 && p.f1 == q.f1
def updOk (g : List S35) (a : Int) (l : List Int) (b c d : Int) (m : List Int) (e : List S35) : Bool :=
  (rising (g.map pr) && decide (g.length ≤ 10)) && ((rising (e.map pr) && decide (e.length ≤ 10)) && (attrsOk a l b c d m && (!clash g e && (decide (0 < e.length) || zeroA a l b c d m))))
theorem clash_swap (g e : List S35) : (g.any fun p => e.any fun q => p.f0 == q.f0 && p.f1 == q.f1) = clash g e := by
  unfold clash
  rw [Bool.eq_iff_iff]
  simp only [List.any_eq_true, Bool.and_eq_true, beq_iff_eq]
  constructor
  · rintro ⟨p, hp, q, hq, h1, h2⟩; exact ⟨q, hq, p, hp, h1.symm, h2.symm⟩
  · rintro ⟨p, hp, q, hq, h1, h2⟩; exact ⟨q, hq, p, hp, h1.symm, h2.symm⟩
theorem equal_nil (k : Nat) (l : List Int) : slices_Equal_int_int.f (k + 1) l [] = some (decide (l.length = 0)) := by
  unfold slices_Equal_int_int.f
  by_cases h : l.length = 0
  · have e : l = [] := List.eq_nil_of_length_eq_zero h
    subst e
    rw [if_pos rfl, slices_Equal_int_int.l0, if_neg (by decide)]
    rfl
  · rw [if_neg (by simp; exact fun h' => h (by simp [h']))]
    simp only [h, decide_false]
theorem impl_sameAttrs_zero (k : Nat) (a : Int) (l : List Int) (b c d : Int) (m : List Int) : impl_sameAttrs.f (k + 1) a l b c d m 0 [] 0 0 0 [] = some (zeroA a l b c d m) := by
  unfold impl_sameAttrs.f zeroA
  rw [equal_nil, equal_nil]
  simp only [Option.bind_some]
  by_cases h1 : a = 0
  · rw [if_pos h1]
    by_cases h2 : l.length = 0
    · rw [if_pos (decide_eq_true h2)]
      by_cases h3 : b = 0
      · rw [if_pos h3]
        by_cases h4 : c = 0
        · rw [if_pos h4]
          by_cases h5 : d = 0
          · rw [if_pos h5]; simp [h1, h2, h3, h4, h5]
          · rw [if_neg h5]; simp [h5]
        · rw [if_neg h4]; simp [h4]
      · rw [if_neg h3]; simp [h3]
    · rw [if_neg (by simpa using h2)]
      have : decide (l.length = 0) = false := decide_eq_false h2
      rw [this]; simp only [Bool.false_and, Bool.and_false]
  · rw [if_neg h1]; simp [h1]
theorem impl_clash (k : Nat) (g e : List S35) (hg : g.length ≤ 1048576) (he : e.length ≤ 1048576) (hk : g.length + e.length + 1 < k) : impl_GoodUpdate_ct.f k g e = some (clash g e) := by
  unfold impl_GoodUpdate_ct.f impl_GoodUpdate_ix.f
  rw [← clash_swap]
  exact any_genK (e.length + 1) (fun k i => impl_GoodUpdate_ix.l0 e k g (g.length : Int) i) g (fun p => e.any fun q => p.f0 == q.f0 && p.f1 == q.f1) (fun k => by
      show impl_GoodUpdate_ix.l0 e (k + 1) g (g.length : Int) (g.length : Int) = _
      rw [impl_GoodUpdate_ix.l0, if_neg (not_lt_end g)]) (fun k hk pre x rest e' => by
      show impl_GoodUpdate_ix.l0 e (k + 1) g (g.length : Int) (pre.length : Int) = _
      have h1 : rd_T35 g (pre.length : Int) = x := by rw [e']; exact rdm_Prefix _ _ _
      rw [impl_GoodUpdate_ix.l0, if_pos (by rw [e']; exact lt_mid _ _ _), if_pos (len_nn _), if_pos (by rw [e']; exact lt_mid _ _ _), h1]
      unfold impl_GoodUpdate_1.f
      rw [contains_Prefix k e x.f0 x.f1 he (by omega), Option.bind_some, wrap_mid (rest := rest) (by rw [← e']; simp only [maxLen]; omega)]) k (by omega)
theorem impl_GoodUpdate_is (g : List S35) (a : Int) (l : List Int) (b c d : Int) (m : List Int) (e : List S35) (hg : g.length ≤ 1048576) (he : e.length ≤ 1048576) (hl : l.length ≤ 1048576) (hm : m.length ≤ 1048576) :
    Ev (fun k => impl_GoodUpdate.f k g a l b c d m e) (updOk g a l b c d m e) := by
  obtain ⟨K, hK⟩ := impl_GoodAttrs_is a l b c d m hl hm
  replace hK : ∀ k, K ≤ k → impl_GoodAttrs.f k a l b c d m = _ := hK
  refine ⟨K + g.length + e.length + 10, fun k hk => ?_⟩
  obtain ⟨k, rfl⟩ : ∃ j, k = j + 1 := ⟨k - 1, by omega⟩
  show impl_GoodUpdate.f (k + 1) g a l b c d m e = _
  unfold impl_GoodUpdate.f updOk
  have eg : ((g.length : Int) > 10) ↔ ¬ g.length ≤ 10 := by omega
  have ee : ((e.length : Int) > 10) ↔ ¬ e.length ≤ 10 := by omega
  by_cases h1 : g.length ≤ 10
  · rw [if_neg (fun h => eg.1 h h1), decide_eq_true h1, Bool.and_true]
    by_cases h2 : e.length ≤ 10
    · rw [if_neg (fun h => ee.1 h h2), decide_eq_true h2, Bool.and_true, impl_areRising_is _ g hg (by omega), Option.bind_some, impl_areRising_is _ e he (by omega), hK _ (by omega), impl_clash _ g e hg he (by omega), impl_sameAttrs_zero]
      simp only [Option.bind_some]
      generalize rising (g.map pr) = x1
      generalize rising (e.map pr) = x2
      generalize attrsOk a l b c d m = x3
      generalize clash g e = x4
      generalize zeroA a l b c d m = x6
      by_cases h5 : (e.length : Int) > 0
      · rw [if_pos h5]
        have h5' : 0 < e.length := by omega
        rw [decide_eq_true h5']
        cases x1 <;> cases x2 <;> cases x3 <;> cases x4 <;> rfl
      · rw [if_neg h5]
        have h5' : ¬ 0 < e.length := by omega
        rw [decide_eq_false h5']
        cases x1 <;> cases x2 <;> cases x3 <;> cases x4 <;> rfl
    · rw [if_pos (ee.2 h2), decide_eq_false h2]
      cases rising (g.map pr) <;> simp
  · rw [if_pos (eg.2 h1), decide_eq_false h1]
    simp
theorem spec_l4Zero_is (a : Int) (l : List Int) (b c d : Int) (m : List Int) : spec_l4Zero.f a l b c d m = some (zeroA a l b c d m) := by
  unfold spec_l4Zero.f zeroA
  have e1 : ((l.length : Int) = 0) ↔ l.length = 0 := by omega
  have e2 : (((m.length : Int) == 0)) = decide (m.length = 0) := by rw [beq_dec]; exact decide_eq_decide.mpr (by omega)
  rw [e2]
  by_cases h1 : a = 0
  · rw [if_pos h1]
    by_cases h2 : l.length = 0
    · rw [if_pos (e1.2 h2)]
      by_cases h3 : b = 0
      · rw [if_pos h3]
        by_cases h4 : c = 0
        · rw [if_pos h4]
          by_cases h5 : d = 0
          · rw [if_pos h5]; simp [h1, h2, h3, h4, h5]
          · rw [if_neg h5]; simp [h5]
        · rw [if_neg h4]; simp [h4]
      · rw [if_neg h3]; simp [h3]
    · rw [if_neg (fun h => h2 (e1.1 h))]
      have : decide (l.length = 0) = false := decide_eq_false h2
      rw [this]; simp only [Bool.false_and, Bool.and_false]
  · rw [if_neg h1]; simp [h1]
theorem spec_GoodUpdate_is (g : List S35) (a : Int) (l : List Int) (b c d : Int) (m : List Int) (e : List S35) (hg : g.length ≤ 1048576) (he : e.length ≤ 1048576) (hl : l.length ≤ 1048576) (hm : m.length ≤ 1048576) :
    Ev (fun k => spec_GoodUpdate.f k g a l b c d m e) (updOk g a l b c d m e) := by
  obtain ⟨K, hK⟩ := spec_GoodAttrs_is a l b c d m hl hm
  replace hK : ∀ k, K ≤ k → spec_GoodAttrs.f k a l b c d m = _ := hK
  have key : ∀ (rest pre : List S35) (k : Nat), e = pre ++ rest → rest.length + K + g.length + e.length + 10 < k →
      spec_GoodUpdate.l0 k e (e.length : Int) (pre.length : Int) g a l b c d m e = some (if clash g rest = true then false else ((rising (g.map pr) && decide (g.length ≤ 10)) && ((rising (e.map pr) && decide (e.length ≤ 10)) && (attrsOk a l b c d m && (decide (0 < e.length) || zeroA a l b c d m))))) := by
    intro rest
    induction rest with
    | nil =>
      intro pre k e' hk
      obtain ⟨k, rfl⟩ : ∃ m, k = m + 1 := ⟨k - 1, by omega⟩
      rw [spec_GoodUpdate.l0, if_neg (by rw [e']; simp), spec_l4Rising_is _ g hg (by simp at hk; omega), Option.bind_some, spec_l4Rising_is _ e he (by simp at hk; omega), hK _ (by simp at hk; omega), spec_l4Zero_is]
      simp only [Option.bind_some]
      have hc : clash g [] = false := rfl
      have hc' : ¬ clash g [] = true := by rw [hc]; decide
      rw [if_neg hc']
      generalize (rising (g.map pr) && decide (g.length ≤ 10)) = x1
      generalize (rising (e.map pr) && decide (e.length ≤ 10)) = x2
      generalize attrsOk a l b c d m = x3
      generalize zeroA a l b c d m = x6
      by_cases h5 : (e.length : Int) > 0
      · rw [if_pos h5]
        have h5' : 0 < e.length := by omega
        rw [decide_eq_true h5']
        cases x1 <;> cases x2 <;> cases x3 <;> rfl
      · rw [if_neg h5]
        have h5' : ¬ 0 < e.length := by omega
        rw [decide_eq_false h5']
        cases x1 <;> cases x2 <;> cases x3 <;> rfl
    | cons x rest ih =>
      intro pre k e' hk
      obtain ⟨k, rfl⟩ : ∃ m, k = m + 1 := ⟨k - 1, by omega⟩
      simp only [List.length_cons] at hk
      have h1 : rd_T35 e (pre.length : Int) = x := by rw [e']; exact rdm_Prefix _ _ _
      rw [spec_GoodUpdate.l0, if_pos (by rw [e']; exact lt_mid _ _ _), if_pos (len_nn _), if_pos (by rw [e']; exact lt_mid _ _ _), h1, spec_l4In_is k g x.f0 x.f1 hg (by omega), Option.bind_some, wrap_mid (rest := rest) (by rw [← e']; simp only [maxLen]; omega), ih (pre ++ [x]) k (by rw [e']; simp) (by omega)]
      have hc : clash g (x :: rest) = ((g.any fun q => x.f0 == q.f0 && x.f1 == q.f1) || clash g rest) := rfl
      rw [hc]
      cases (g.any fun q => x.f0 == q.f0 && x.f1 == q.f1)
      · rw [if_neg (by decide), Bool.false_or]
      · rw [if_pos rfl, Bool.true_or, if_pos rfl]
  refine ⟨e.length + K + g.length + e.length + 11, fun k hk => ?_⟩
  show spec_GoodUpdate.f k g a l b c d m e = _
  unfold spec_GoodUpdate.f updOk
  have := key e [] k rfl (by omega)
  simp only [List.length_nil, Int.natCast_zero] at this
  rw [this]
  congr 1
  generalize (rising (g.map pr) && decide (g.length ≤ 10)) = x1
  generalize (rising (e.map pr) && decide (e.length ≤ 10)) = x2
  generalize attrsOk a l b c d m = x3
  generalize (decide (0 < e.length) || zeroA a l b c d m) = x5
  cases clash g e <;> cases x1 <;> cases x2 <;> cases x3 <;> cases x5 <;> rfl
theorem laws_szPrefixS_ex (l : List S32) (hl : l.length ≤ maxLen) (n : Int) (h0 : 0 ≤ n) (h1 : n ≤ 1048576) : ∃ r, laws_szPrefixS.f l n = some r ∧ (¬ r < 0 → r = n - l.length ∧ (l.length : Int) ≤ n) := by
  have h2 : maxLen = 9223372036854775807 := rfl
  rw [h2] at hl
  unfold laws_szPrefixS.f
  rw [wrap_id (by omega) (by omega)]
  by_cases h : n - (l.length : Int) < 0
  · exact ⟨_, if_pos h, fun h' => absurd (by omega) h'⟩
  · exact ⟨_, if_neg h, fun _ => ⟨rfl, by omega⟩⟩
theorem laws_szAttrs_ge (a : Int) (l : List Int) (b c d : Int) (m : List Int) (hl : l.length ≤ maxLen) (hm : m.length ≤ maxLen) (n : Int) (h0 : 0 ≤ n) (h1 : n ≤ 1048576) : ∃ r, laws_szAttrs.f a l b c d m n = some r ∧ (¬ r < 0 → l.length ≤ 1048576 ∧ m.length ≤ 1048576 ∧ 0 ≤ r ∧ r ≤ 1048576) := by
  obtain ⟨r, hr, hb⟩ := laws_szIntS_ex l hl n h0 h1
  unfold laws_szAttrs.f
  rw [hr, Option.bind_some]
  by_cases h : r < 0
  · exact ⟨_, if_pos h, fun h' => absurd (by omega) h'⟩
  · have h3 := hb h
    obtain ⟨s, hs, hc⟩ := laws_szIntS_ex m hm r (by omega) (by omega)
    rw [if_neg h, hs, Option.bind_some]
    by_cases h4 : s < 0
    · exact ⟨_, if_pos h4, fun h' => absurd (by omega) h'⟩
    · have h5 := hc h4
      exact ⟨_, if_neg h4, fun _ => ⟨by omega, by omega, by omega, by omega⟩⟩
theorem laws_szUpdate_ex (g : List S32) (a : Int) (l : List Int) (b c d : Int) (m : List Int) (e : List S32) (hg : g.length ≤ maxLen) (hl : l.length ≤ maxLen) (hm : m.length ≤ maxLen) (he : e.length ≤ maxLen) :
    ∃ r, laws_szUpdate.f g a l b c d m e 1048576 = some r ∧ (¬ r < 0 → g.length ≤ 1048576 ∧ l.length ≤ 1048576 ∧ m.length ≤ 1048576 ∧ e.length ≤ 1048576) := by
  obtain ⟨r, hr, hb⟩ := laws_szPrefixS_ex g hg 1048576 (by omega) (by omega)
  unfold laws_szUpdate.f
  rw [hr, Option.bind_some]
  by_cases h : r < 0
  · exact ⟨_, if_pos h, fun h' => absurd (by omega) h'⟩
  · have h3 := hb h
    obtain ⟨s, hs, hc⟩ := laws_szAttrs_ge a l b c d m hl hm r (by omega) (by omega)
    rw [if_neg h, hs, Option.bind_some]
    by_cases h4 : s < 0
    · exact ⟨_, if_pos h4, fun h' => absurd (by omega) h'⟩
    · have h5 := hc h4
      obtain ⟨t, ht, hd⟩ := laws_szPrefixS_ex e he s (by omega) (by omega)
      rw [if_neg h4, ht, Option.bind_some]
      by_cases h6 : t < 0
      · exact ⟨_, if_pos h6, fun h' => absurd (by omega) h'⟩
      · have h7 := hd h6
        exact ⟨_, if_neg h6, fun _ => ⟨by omega, by omega, by omega, by omega⟩⟩
theorem laws_toUpdate_is (k : Nat) (g : List S32) (a : Int) (l : List Int) (b c d : Int) (m : List Int) (e : List S32) (hg : g.length ≤ 1048576) (hl : l.length ≤ 1048576) (hm : m.length ≤ 1048576) (he : e.length ≤ 1048576) (hk : g.length + l.length + m.length + e.length < k) :
    laws_toUpdate.f k g a l b c d m e = some (g.map (fun p => (⟨p.f0, p.f1⟩ : S35)), a, l, b, c, d, m, e.map (fun p => (⟨p.f0, p.f1⟩ : S35))) := by
  unfold laws_toUpdate.f
  rw [laws_toPrefixS_is k g hg (by omega), Option.bind_some, laws_toAttrs_is k a l b c d m hl hm (by omega), Option.bind_some, laws_toPrefixS_is k e he (by omega)]
  rfl
theorem laws_eqUpdate_refl (k : Nat) (g : List S35) (a : Int) (l : List Int) (b c d : Int) (m : List Int) (e : List S35) (hg : g.length ≤ maxLen) (hl : l.length ≤ maxLen) (hm : m.length ≤ maxLen) (he : e.length ≤ maxLen) (hk : g.length + l.length + m.length + e.length < k) :
    laws_eqUpdate.f k g a l b c d m e g a l b c d m e = some true := by
  unfold laws_eqUpdate.f
  rw [laws_eqPrefixS_refl k g hg (by omega), Option.bind_some, if_pos rfl, laws_eqAttrs_refl k a l b c d m hl hm (by omega), Option.bind_some, if_pos rfl, laws_eqPrefixS_refl k e he (by omega), Option.bind_some, if_pos rfl]
theorem hb_be (x : Int) (n : Nat) (hn : n ≤ 4) : hb x n = be n x := by
  have e0 := shr_is x 0 (by omega)
  have e8 := shr_is x 8 (by omega)
  have e16 := shr_is x 16 (by omega)
  have e24 := shr_is x 24 (by omega)
  rw [show ((0 : Nat) : Int) = 0 from rfl] at e0
  rw [show ((8 : Nat) : Int) = 8 from rfl] at e8
  rw [show ((16 : Nat) : Int) = 16 from rfl] at e16
  rw [show ((24 : Nat) : Int) = 24 from rfl] at e24
  have h1 : hb x 1 = [shr .i64 x 0 % 256] := rfl
  have h2 : hb x 2 = [shr .i64 x 8 % 256, shr .i64 x 0 % 256] := rfl
  have h3 : hb x 3 = [shr .i64 x 16 % 256, shr .i64 x 8 % 256, shr .i64 x 0 % 256] := rfl
  have h4 : hb x 4 = [shr .i64 x 24 % 256, shr .i64 x 16 % 256, shr .i64 x 8 % 256, shr .i64 x 0 % 256] := rfl
  have hc : n = 0 ∨ n = 1 ∨ n = 2 ∨ n = 3 ∨ n = 4 := by omega
  rcases hc with rfl | rfl | rfl | rfl | rfl
  · rfl
  · rw [h1, e0]; simp only [be, List.nil_append, List.cons_append, List.cons.injEq, and_true]; omega
  · rw [h2, e0, e8]; simp only [be, List.nil_append, List.cons_append, List.cons.injEq, and_true]; omega
  · rw [h3, e0, e8, e16]; simp only [be, List.nil_append, List.cons_append, List.cons.injEq, and_true]; omega
  · rw [h4, e0, e8, e16, e24]; simp only [be, List.nil_append, List.cons_append, List.cons.injEq, and_true]; omega
/-- The bytes of a number, of a prefix, of prefixes, of numbers. -/
def bytV (n : Nat) (x : Int) : ByteArray := strOfNums (be n x)
theorem bytV_size (n : Nat) (x : Int) : (bytV n x).size = n := by unfold bytV; rw [size_strOf, be_len]
theorem spec_bytes (k n : Nat) (x : Int) (hk : n < k) (hn : n ≤ 4) : spec_l4Bytes.f k x (n : Int) = some (bytV n x) := spec_l4Bytes_is k n x hk (by omega)
theorem impl_bytes (k n : Nat) (x : Int) (hk : n < k) (hn : n ≤ 4) : impl_bytesOf.f k x (n : Int) = some (bytV n x) := by rw [impl_bytesOf_is k n x hk (by omega), hb_be x n hn]; rfl
def prefV (a n : Int) : ByteArray := bytV 1 n ++ strOfNums ((be 4 a).take ((n + 7) / 8).toNat)
theorem prefV_size (a n : Int) : (prefV a n).size ≤ 5 := by
  unfold prefV
  rw [ByteArray.size_append, bytV_size, size_strOf, List.length_take, be_len]
  omega
theorem octs_val {n : Int} (h0 : 0 ≤ n) (h1 : n ≤ 32) : wrap64 (Int.tdiv (wrap64 (n + 7)) 8) = ((((n + 7) / 8).toNat : Nat) : Int) ∧ ((n + 7) / 8).toNat ≤ 4 := by
  have e : Int.tdiv (n + 7) 8 = (n + 7) / 8 := Int.tdiv_eq_ediv_of_nonneg (by omega)
  rw [wrap_id (x := n + 7) (by omega) (by omega), e, wrap_id (by omega) (by omega)]
  omega
theorem pref_val (k : Nat) (hk : 10 ≤ k) (a n : Int) (h0 : 0 ≤ n) (h1 : n ≤ 32) : spec_l4Prefix.f k a n = some (prefV a n) ∧ impl_prefixBytes.f k a n = some (prefV a n) := by
  obtain ⟨hm, hm4⟩ := octs_val h0 h1
  unfold prefV
  generalize ((n + 7) / 8).toNat = m at hm hm4 ⊢
  have s1 := spec_bytes k 1 n (by omega) (by omega)
  have i1 := impl_bytes k 1 n (by omega) (by omega)
  have i4 := impl_bytes k 4 a (by omega) (by omega)
  rw [show ((1 : Nat) : Int) = 1 from rfl] at s1 i1
  rw [show ((4 : Nat) : Int) = 4 from rfl] at i4
  have ht := be_take a m hm4
  rw [hb_be a 4 (by omega)] at ht
  constructor
  · unfold spec_l4Prefix.f
    rw [s1, hm, wrap_id (x := 8 * (m : Int)) (by omega) (by omega), wrap_id (x := 32 - 8 * (m : Int)) (by omega) (by omega), u64_id (by omega) (by omega)]
    simp only [Option.bind_some]
    rw [if_pos (by omega), spec_l4Bytes_is k m _ (by omega) (by omega), ht, Option.bind_some, if_pos (by rw [bytV_size, size_strOf, List.length_take, be_len]; omega)]
  · unfold impl_prefixBytes.f
    rw [i1, i4, hm]
    simp only [Option.bind_some]
    rw [if_pos (by omega), if_pos (by rw [bytV_size]; omega), show ((m : Int)).toNat = m by omega]
    have hx : (bytV 4 a).extract 0 m = strOfNums ((be 4 a).take m) := strOfNums_take _ _
    rw [hx, if_pos (by rw [bytV_size, size_strOf, List.length_take, be_len]; omega)]
def pfxA (s : ByteArray) (l : List S35) : ByteArray := l.foldl (fun s p => s ++ prefV p.f0 p.f1) s
def numA (w : Nat) (s : ByteArray) (l : List Int) : ByteArray := l.foldl (fun s x => s ++ bytV w x) s
theorem pfxA_size : ∀ (l : List S35) (s : ByteArray), (pfxA s l).size ≤ s.size + 5 * l.length
  | [], s => by simp [pfxA]
  | p :: t, s => by
    have h1 := pfxA_size t (s ++ prefV p.f0 p.f1)
    have h2 := prefV_size p.f0 p.f1
    rw [ByteArray.size_append] at h1
    have e : pfxA s (p :: t) = pfxA (s ++ prefV p.f0 p.f1) t := rfl
    rw [e, List.length_cons]
    omega
theorem numA_size (w : Nat) : ∀ (l : List Int) (s : ByteArray), (numA w s l).size = s.size + w * l.length
  | [], s => by simp [numA]
  | p :: t, s => by
    have h1 := numA_size w t (s ++ bytV w p)
    rw [ByteArray.size_append, bytV_size] at h1
    have e : numA w s (p :: t) = numA w (s ++ bytV w p) t := rfl
    rw [e, h1, List.length_cons, Nat.mul_succ]
    omega
def pfxV (l : List S35) : ByteArray := pfxA (bytV 1 l.length) l
def numV (w : Nat) (l : List Int) : ByteArray := numA w (bytV 1 l.length) l
theorem pfxs_val (l : List S35) (hl : l.length ≤ 1048576) (hg : ∀ p, p ∈ l → 0 ≤ p.f1 ∧ p.f1 ≤ 32) (k : Nat) (hk : l.length + 12 ≤ k) : spec_l4Prefixes.f k l = some (pfxV l) ∧ impl_prefixesBytes.f k l = some (pfxV l) := by
  have key : ∀ (rest pre : List S35) (s : ByteArray) (k : Nat), l = pre ++ rest → rest.length + 11 ≤ k → s.size + 5 * rest.length ≤ 100000000 →
      spec_l4Prefixes.l0 k s l (l.length : Int) (pre.length : Int) = some (pfxA s rest) ∧ impl_prefixesBytes.l0 k s l (l.length : Int) (pre.length : Int) = some (pfxA s rest) := by
    intro rest
    induction rest with
    | nil =>
      intro pre s k e hk _
      obtain ⟨k, rfl⟩ : ∃ m, k = m + 1 := ⟨k - 1, by omega⟩
      rw [spec_l4Prefixes.l0, impl_prefixesBytes.l0, if_neg (by rw [e]; simp), if_neg (by rw [e]; simp)]
      exact ⟨rfl, rfl⟩
    | cons p rest ih =>
      intro pre s k e hk hs
      simp only [List.length_cons] at hk hs
      obtain ⟨k, rfl⟩ : ∃ m, k = m + 1 := ⟨k - 1, by omega⟩
      have h1 : rd_T35 l (pre.length : Int) = p := by rw [e]; exact rdm_Prefix _ _ _
      have hlt : (pre.length : Int) < (l.length : Int) := by rw [e]; exact lt_mid _ _ _
      have hp := hg p (by rw [e]; simp)
      obtain ⟨v1, v2⟩ := pref_val k (by omega) p.f0 p.f1 hp.1 hp.2
      have hz := prefV_size p.f0 p.f1
      obtain ⟨i1, i2⟩ := ih (pre ++ [p]) (s ++ prefV p.f0 p.f1) k (by rw [e]; simp) (by omega) (by rw [ByteArray.size_append]; omega)
      have hw : wrap64 ((pre.length : Int) + 1) = ((pre ++ [p]).length : Int) := wrap_mid (rest := rest) (by rw [← e]; simp only [maxLen]; omega)
      constructor
      · rw [spec_l4Prefixes.l0, if_pos hlt, if_pos (len_nn _), if_pos hlt, h1, v1, Option.bind_some, if_pos (by omega), hw, i1]; rfl
      · rw [impl_prefixesBytes.l0, if_pos hlt, if_pos (len_nn _), if_pos hlt, h1, v2, Option.bind_some, if_pos (by omega), hw, i2]; rfl
  obtain ⟨k1, k2⟩ := key l [] (bytV 1 l.length) k rfl (by omega) (by rw [bytV_size]; omega)
  unfold spec_l4Prefixes.f impl_prefixesBytes.f
  have s1 := spec_bytes k 1 (l.length : Int) (by omega) (by omega)
  have i1 := impl_bytes k 1 (l.length : Int) (by omega) (by omega)
  rw [show ((1 : Nat) : Int) = 1 from rfl] at s1 i1
  rw [s1, i1, Option.bind_some, Option.bind_some]
  exact ⟨k1, k2⟩
theorem nums_val (w : Nat) (hw4 : w ≤ 4) (l : List Int) (hl : l.length ≤ 1048576) (k : Nat) (hk : l.length + 12 ≤ k) : spec_l4Numbers.f k l (w : Int) = some (numV w l) ∧ impl_numbersBytes.f k l (w : Int) = some (numV w l) := by
  have key : ∀ (rest pre : List Int) (s : ByteArray) (k : Nat), l = pre ++ rest → rest.length + 11 ≤ k → s.size + 4 * rest.length ≤ 100000000 →
      spec_l4Numbers.l0 k (w : Int) s l (l.length : Int) (pre.length : Int) = some (numA w s rest) ∧ impl_numbersBytes.l0 k (w : Int) s l (l.length : Int) (pre.length : Int) = some (numA w s rest) := by
    intro rest
    induction rest with
    | nil =>
      intro pre s k e hk _
      obtain ⟨k, rfl⟩ : ∃ m, k = m + 1 := ⟨k - 1, by omega⟩
      rw [spec_l4Numbers.l0, impl_numbersBytes.l0, if_neg (by rw [e]; simp), if_neg (by rw [e]; simp)]
      exact ⟨rfl, rfl⟩
    | cons p rest ih =>
      intro pre s k e hk hs
      simp only [List.length_cons] at hk hs
      obtain ⟨k, rfl⟩ : ∃ m, k = m + 1 := ⟨k - 1, by omega⟩
      have h1 : rd l (pre.length : Int) = p := by rw [e]; exact rd_mid _ _ _
      have hlt : (pre.length : Int) < (l.length : Int) := by rw [e]; exact lt_mid _ _ _
      have hz := bytV_size w p
      obtain ⟨i1, i2⟩ := ih (pre ++ [p]) (s ++ bytV w p) k (by rw [e]; simp) (by omega) (by rw [ByteArray.size_append]; omega)
      have hw : wrap64 ((pre.length : Int) + 1) = ((pre ++ [p]).length : Int) := wrap_mid (rest := rest) (by rw [← e]; simp only [maxLen]; omega)
      constructor
      · rw [spec_l4Numbers.l0, if_pos hlt, if_pos (len_nn _), if_pos hlt, h1, spec_bytes k w p (by omega) hw4, Option.bind_some, if_pos (by omega), hw, i1]; rfl
      · rw [impl_numbersBytes.l0, if_pos hlt, if_pos (len_nn _), if_pos hlt, h1, impl_bytes k w p (by omega) hw4, Option.bind_some, if_pos (by omega), hw, i2]; rfl
  obtain ⟨k1, k2⟩ := key l [] (bytV 1 l.length) k rfl (by omega) (by rw [bytV_size]; omega)
  unfold spec_l4Numbers.f impl_numbersBytes.f
  have s1 := spec_bytes k 1 (l.length : Int) (by omega) (by omega)
  have i1 := impl_bytes k 1 (l.length : Int) (by omega) (by omega)
  rw [show ((1 : Nat) : Int) = 1 from rfl] at s1 i1
  rw [s1, i1, Option.bind_some, Option.bind_some]
  exact ⟨k1, k2⟩
def updV (g : List S35) (a : Int) (l : List Int) (b c d : Int) (m : List Int) (e : List S35) : ByteArray :=
  if e.length = 0 then pfxV g else pfxV g ++ (bytV 1 a ++ (numV 2 l ++ (bytV 4 b ++ (bytV 3 c ++ (bytV 3 d ++ (numV 3 m ++ pfxV e))))))
theorem upd_val (g : List S35) (a : Int) (l : List Int) (b c d : Int) (m : List Int) (e : List S35) (hg : g.length ≤ 1048576) (hl : l.length ≤ 1048576) (hm : m.length ≤ 1048576) (he : e.length ≤ 1048576)
    (hgg : ∀ p, p ∈ g → 0 ≤ p.f1 ∧ p.f1 ≤ 32) (hge : ∀ p, p ∈ e → 0 ≤ p.f1 ∧ p.f1 ≤ 32) (k : Nat) (hk : g.length + l.length + m.length + e.length + 12 ≤ k) : spec_l4Update.f k g a l b c d m e = some (updV g a l b c d m e) ∧ impl_updateBytes.f k g a l b c d m e = some (updV g a l b c d m e) := by
  obtain ⟨g1, g2⟩ := pfxs_val g hg hgg k (by omega)
  obtain ⟨e1, e2⟩ := pfxs_val e he hge k (by omega)
  obtain ⟨l1, l2⟩ := nums_val 2 (by omega) l hl k (by omega)
  obtain ⟨m1, m2⟩ := nums_val 3 (by omega) m hm k (by omega)
  rw [show ((2 : Nat) : Int) = 2 from rfl] at l1 l2
  rw [show ((3 : Nat) : Int) = 3 from rfl] at m1 m2
  have sg : (pfxV g).size ≤ 1 + 5 * g.length := by have := pfxA_size g (bytV 1 g.length); rwa [bytV_size] at this
  have se : (pfxV e).size ≤ 1 + 5 * e.length := by have := pfxA_size e (bytV 1 e.length); rwa [bytV_size] at this
  have sl : (numV 2 l).size = 1 + 2 * l.length := by have := numA_size 2 l (bytV 1 l.length); rwa [bytV_size] at this
  have sm : (numV 3 m).size = 1 + 3 * m.length := by have := numA_size 3 m (bytV 1 m.length); rwa [bytV_size] at this
  have a1 := spec_bytes k 1 a (by omega) (by omega)
  have a2 := impl_bytes k 1 a (by omega) (by omega)
  have b1 := spec_bytes k 4 b (by omega) (by omega)
  have b2 := impl_bytes k 4 b (by omega) (by omega)
  have c1 := spec_bytes k 3 c (by omega) (by omega)
  have c2 := impl_bytes k 3 c (by omega) (by omega)
  have d1 := spec_bytes k 3 d (by omega) (by omega)
  have d2 := impl_bytes k 3 d (by omega) (by omega)
  rw [show ((1 : Nat) : Int) = 1 from rfl] at a1 a2
  rw [show ((4 : Nat) : Int) = 4 from rfl] at b1 b2
  rw [show ((3 : Nat) : Int) = 3 from rfl] at c1 c2 d1 d2
  unfold updV
  by_cases h0 : e.length = 0
  · rw [if_pos h0]
    constructor
    · unfold spec_l4Update.f; rw [g1, Option.bind_some, if_pos (by omega)]
    · unfold impl_updateBytes.f; rw [g2, Option.bind_some, if_pos (by omega)]
  · rw [if_neg h0]
    constructor
    · unfold spec_l4Update.f spec_l4Attrs.f
      rw [g1, e1, l1, m1, a1, b1, c1, d1]
      simp only [Option.bind_some]
      rw [if_neg (by omega), if_pos (by simp only [bytV_size, sl]; omega), if_pos (by simp only [ByteArray.size_append, bytV_size, sl]; omega), if_pos (by simp only [ByteArray.size_append, bytV_size, sl]; omega), if_pos (by simp only [ByteArray.size_append, bytV_size, sl]; omega), if_pos (by simp only [ByteArray.size_append, bytV_size, sl, sm]; omega)]
      simp only [Option.bind_some]
      rw [if_pos (by simp only [ByteArray.size_append, bytV_size, sl, sm]; omega), if_pos (by simp only [ByteArray.size_append, bytV_size, sl, sm]; omega)]
      simp only [ByteArray.append_assoc]
    · unfold impl_updateBytes.f
      rw [g2, e2, l2, m2, a2, b2, c2, d2]
      simp only [Option.bind_some]
      rw [if_neg (by omega), if_pos (by simp only [bytV_size]; omega), if_pos (by simp only [ByteArray.size_append, bytV_size, sl]; omega), if_pos (by simp only [ByteArray.size_append, bytV_size, sl]; omega), if_pos (by simp only [ByteArray.size_append, bytV_size, sl]; omega), if_pos (by simp only [ByteArray.size_append, bytV_size, sl]; omega), if_pos (by simp only [ByteArray.size_append, bytV_size, sl, sm]; omega), if_pos (by simp only [ByteArray.size_append, bytV_size, sl, sm]; omega)]
      simp only [ByteArray.append_assoc]
theorem updOk_facts {g : List S35} {a : Int} {l : List Int} {b c d : Int} {m : List Int} {e : List S35} (h : updOk g a l b c d m e = true) : (∀ p, p ∈ g → good p.f0 p.f1 = true) ∧ (∀ p, p ∈ e → good p.f0 p.f1 = true) ∧ g.length ≤ 10 ∧ e.length ≤ 10 ∧ attrsOk a l b c d m = true := by
  unfold updOk at h
  simp only [Bool.and_eq_true, decide_eq_true_eq] at h
  obtain ⟨⟨h1, h2⟩, ⟨h3, h4⟩, h5, _⟩ := h
  exact ⟨fun p hp => rising_good h1 (pr p) (List.mem_map.2 ⟨p, hp, rfl⟩), fun p hp => rising_good h3 (pr p) (List.mem_map.2 ⟨p, hp, rfl⟩), h2, h4, h5⟩
def updBR (g : List S35) (a : Int) (l : List Int) (b c d : Int) (m : List Int) (e : List S35) : ByteArray × Bool := if updOk g a l b c d m e = true then (updV g a l b c d m e, true) else (⟨#[]⟩, false)
theorem UpdateBytes_is (g : List S35) (a : Int) (l : List Int) (b c d : Int) (m : List Int) (e : List S35) (hg : g.length ≤ 1048576) (he : e.length ≤ 1048576) (hl : l.length ≤ 1048576) (hm : m.length ≤ 1048576) :
    Ev (fun k => spec_UpdateBytes.f k g a l b c d m e) (updBR g a l b c d m e) ∧ Ev (fun k => impl_UpdateBytes.f k g a l b c d m e) (updBR g a l b c d m e) := by
  obtain ⟨K1, h1⟩ := spec_GoodUpdate_is g a l b c d m e hg he hl hm
  obtain ⟨K2, h2⟩ := impl_GoodUpdate_is g a l b c d m e hg he hl hm
  replace h1 : ∀ k, K1 ≤ k → spec_GoodUpdate.f k g a l b c d m e = _ := h1
  replace h2 : ∀ k, K2 ≤ k → impl_GoodUpdate.f k g a l b c d m e = _ := h2
  unfold updBR
  by_cases h : updOk g a l b c d m e = true
  · rw [if_pos h]
    obtain ⟨f1, f2, _⟩ := updOk_facts h
    have f1' : ∀ p, p ∈ g → 0 ≤ p.f1 ∧ p.f1 ≤ 32 := fun p hp => by have := good_iff.1 (f1 p hp); exact ⟨this.1, this.2.1⟩
    have f2' : ∀ p, p ∈ e → 0 ≤ p.f1 ∧ p.f1 ≤ 32 := fun p hp => by have := good_iff.1 (f2 p hp); exact ⟨this.1, this.2.1⟩
    refine ⟨⟨K1 + g.length + l.length + m.length + e.length + 12, fun k hk => ?_⟩, ⟨K2 + g.length + l.length + m.length + e.length + 12, fun k hk => ?_⟩⟩
    · show spec_UpdateBytes.f k g a l b c d m e = _
      unfold spec_UpdateBytes.f
      rw [h1 _ (by omega), Option.bind_some, if_pos h, (upd_val g a l b c d m e hg hl hm he f1' f2' k (by omega)).1]
      rfl
    · show impl_UpdateBytes.f k g a l b c d m e = _
      unfold impl_UpdateBytes.f
      rw [h2 _ (by omega), Option.bind_some, if_pos h, (upd_val g a l b c d m e hg hl hm he f1' f2' k (by omega)).2]
      rfl
  · rw [if_neg h]
    refine ⟨⟨K1, fun k hk => ?_⟩, ⟨K2, fun k hk => ?_⟩⟩
    · show spec_UpdateBytes.f k g a l b c d m e = _
      unfold spec_UpdateBytes.f
      rw [h1 _ (by omega), Option.bind_some, if_neg h]
    · show impl_UpdateBytes.f k g a l b c d m e = _
      unfold impl_UpdateBytes.f
      rw [h2 _ (by omega), Option.bind_some, if_neg h]

end FnExactUpdateBytesUses
open Go.RowKit Go.Proofs.Ytlnfcobloolnnaa.PFnExactUpdateBytes Go.Proofs.YtlnfcobloolnnaaW.PrintWords Go.Proofs.YtlnfcobloolnnaaW.PrintLast Go.Proofs.YtlnfcobloolnnaaW.PrintMore Go.Proofs.Ytlnfcobloolnnaa.Pfx Go.Proofs.Ytlnfcobloolnnaa.Loop Go.Proofs.Ytlnfcobloolnnaa.Tbl FnExactUpdateBytesUses
set_option linter.unusedVariables false
theorem FnExactUpdateBytes (l0_0 : List S32) (a0_1_0 : Int) (l0_1_1 : List Int) (a0_1_2 : Int) (a0_1_3 : Int) (a0_1_4 : Int) (l0_1_5 : List Int) (l0_2 : List S32) (m0_0 : l0_0.length ≤ maxLen) (w0_0 : ∀ a, a ∈ l0_0 → ((Lit.int .i64 a.f0).wf = true ∧ (Lit.int .i64 a.f1).wf = true)) (w0_1_0 : (Lit.int .i64 a0_1_0).wf = true) (m0_1_1 : l0_1_1.length ≤ maxLen) (w0_1_1 : ∀ a, a ∈ l0_1_1 → (Lit.int .i64 a).wf = true) (w0_1_2 : (Lit.int .i64 a0_1_2).wf = true) (w0_1_3 : (Lit.int .i64 a0_1_3).wf = true) (w0_1_4 : (Lit.int .i64 a0_1_4).wf = true) (m0_1_5 : l0_1_5.length ≤ maxLen) (w0_1_5 : ∀ a, a ∈ l0_1_5 → (Lit.int .i64 a).wf = true) (m0_2 : l0_2.length ≤ maxLen) (w0_2 : ∀ a, a ∈ l0_2 → ((Lit.int .i64 a.f0).wf = true ∧ (Lit.int .i64 a.f1).wf = true)) : ∃ k, laws_FnExactUpdateBytes.f k l0_0 a0_1_0 l0_1_1 a0_1_2 a0_1_3 a0_1_4 l0_1_5 l0_2 = some true := by
  obtain ⟨r, hr, hb⟩ := laws_szUpdate_ex l0_0 a0_1_0 l0_1_1 a0_1_2 a0_1_3 a0_1_4 l0_1_5 l0_2 m0_0 m0_1_1 m0_1_5 m0_2
  by_cases h : r < 0
  · exact ⟨0, by unfold laws_FnExactUpdateBytes.f; rw [hr, Option.bind_some, if_pos h]⟩
  · obtain ⟨hg, hl, hm, he⟩ := hb h
    have eg : (l0_0.map fun p => (⟨p.f0, p.f1⟩ : S35)).length = l0_0.length := List.length_map ..
    have ee : (l0_2.map fun p => (⟨p.f0, p.f1⟩ : S35)).length = l0_2.length := List.length_map ..
    obtain ⟨⟨K1, h1⟩, ⟨K2, h2⟩⟩ := UpdateBytes_is (l0_0.map fun p => (⟨p.f0, p.f1⟩ : S35)) a0_1_0 l0_1_1 a0_1_2 a0_1_3 a0_1_4 l0_1_5 (l0_2.map fun p => (⟨p.f0, p.f1⟩ : S35)) (by omega) (by omega) hl hm
    replace h1 : ∀ k, K1 ≤ k → spec_UpdateBytes.f k _ _ _ _ _ _ _ _ = _ := h1
    replace h2 : ∀ k, K2 ≤ k → impl_UpdateBytes.f k _ _ _ _ _ _ _ _ = _ := h2
    obtain ⟨K, hK⟩ : ∃ K : Nat, K1 + K2 + l0_0.length + l0_1_1.length + l0_1_5.length + l0_2.length + 1 ≤ K := ⟨_, Nat.le_refl _⟩
    refine ⟨K + 1, ?_⟩
    unfold laws_FnExactUpdateBytes.f
    rw [hr, Option.bind_some, if_neg h, laws_toUpdate_is _ _ _ _ _ _ _ _ _ hg hl hm he (by omega)]
    simp only [Option.bind_some]
    rw [h1 _ (by omega), h2 _ (by omega)]
    simp only [Option.bind_some, bne_self_eq_false, if_true]
    rw [laws_FnExactUpdateBytes.j0, if_neg (by simp), laws_toUpdate_is _ _ _ _ _ _ _ _ _ hg hl hm he (by omega)]
    simp only [Option.bind_some]
    rw [laws_eqUpdate_refl _ _ _ _ _ _ _ _ _ (by simp only [maxLen]; omega) (by simp only [maxLen]; omega) (by simp only [maxLen]; omega) (by simp only [maxLen]; omega) (by omega)]
    simp
end Go.Proofs.Ytlnfcobloolnnaa.Pure
