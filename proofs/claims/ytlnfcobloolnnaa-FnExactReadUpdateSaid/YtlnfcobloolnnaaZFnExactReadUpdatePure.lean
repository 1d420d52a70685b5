/- The pure statement of FnExactReadUpdate: what the printed functions tell is what the reference tells. No condition but the arguments' own bounds. -/
import Derived.Test.YtlnfcobloolnnaaYFnExactReadUpdatex19
import Derived.Test.YtlnfcobloolnnaaQFnExactReadUpdate
namespace Go.Proofs.Ytlnfcobloolnnaa.Pure
namespace FnExactReadUpdateUses
open Go.RowKit Go.Proofs.Ytlnfcobloolnnaa.PFnExactReadUpdate Go.Proofs.YtlnfcobloolnnaaW.PrintWords Go.Proofs.YtlnfcobloolnnaaW.PrintLast Go.Proofs.YtlnfcobloolnnaaW.PrintMore Go.Proofs.Ytlnfcobloolnnaa.Pfx Go.Proofs.Ytlnfcobloolnnaa.Loop Go.Proofs.Ytlnfcobloolnnaa.Tbl
open Option renaming bind_some → kz
open _root_.ByteArray renaming size_append → kq, toList_eq → ke, data_append → kc
open List renaming length_append → ky, length_singleton → kj, append_assoc → kk, length_cons → kv, append_nil → kg, map_cons → kb, map_singleton → kd, map_append → ko
open Bool renaming false_and → kh, true_and → kf
set_option linter.unusedVariables false
set_option linter.unusedSimpArgs false

theorem spec_l1In_is (a lo hi : Int) : spec_l1In.f a lo hi = some (decide (lo ≤ a ∧ a ≤ hi)) := by
  unfold spec_l1In.f
  by_cases h : lo ≤ a
  · rw [if_pos h]; simp [h]
  · rw [if_neg h]; simp [h]
theorem impl_within_is (a lo hi : Int) : impl_within.f a lo hi = some (decide (lo ≤ a ∧ a ≤ hi)) := by
  unfold impl_within.f
  by_cases h : lo ≤ a
  · rw [if_pos h]; simp [h]
  · rw [if_neg h]; simp [h]
theorem spec_l1Addr_is (a : Int) : spec_l1Addr.f a = some (decide (0 ≤ a ∧ a ≤ 4294967295)) := by
  unfold spec_l1Addr.f; rw [spec_l1In_is]; rfl
theorem impl_isAddr_is (a : Int) : impl_isAddr.f a = some (decide (0 ≤ a ∧ a ≤ 4294967295)) := by
  unfold impl_isAddr.f; rw [impl_within_is]; rfl
theorem impl_sizeOf_is {n : Int} (h0 : 0 ≤ n) (h1 : n ≤ 32) : impl_sizeOf.f n = some (sz n) := by
  unfold impl_sizeOf.f
  rw [shl_sz h0 h1, if_pos (by rw [wrap_id (by omega) (by omega)]; omega)]
theorem spec_l1Size_is (a : Int) {n : Int} (h0 : 0 ≤ n) (h1 : n ≤ 32) : spec_l1Size.f a n = some (sz n) := by
  unfold spec_l1Size.f
  have e : IntKind.u64.wrap (wrap64 (32 - n)) = wrap64 (32 - n) := by rw [wrap_id (by omega) (by omega), u64_id (by omega) (by omega)]
  rw [e, shl_sz h0 h1, if_pos (by rw [wrap_id (by omega) (by omega)]; omega)]
theorem impl_GoodPrefix_is (a n : Int) : impl_GoodPrefix.f a n = some (good a n) := by
  unfold impl_GoodPrefix.f
  rw [impl_within_is, kz]
  by_cases h : 0 ≤ n ∧ n ≤ 32
  · rw [if_pos (decide_eq_true h), impl_isAddr_is, kz]
    by_cases h' : 0 ≤ a ∧ a ≤ 4294967295
    · rw [if_pos (decide_eq_true h'), impl_sizeOf_is h.1 h.2, kz, if_neg (by have := sz_pos n; omega), Int.tmod_eq_emod_of_nonneg h'.1]
      simp [good, h.1, h.2, h'.1, h'.2, beq_dec]
    · rw [if_neg (by simpa using h')]
      have : good a n = false := by simp [good]; omega
      rw [this]
  · rw [if_neg (by simpa using h)]
    have : good a n = false := by simp [good]; omega
    rw [this]
theorem spec_GoodPrefix_is (a n : Int) : spec_GoodPrefix.f a n = some (good a n) := by
  unfold spec_GoodPrefix.f
  rw [spec_l1In_is, kz]
  by_cases h : 0 ≤ n ∧ n ≤ 32
  · rw [if_pos (decide_eq_true h), spec_l1Addr_is, kz]
    by_cases h' : 0 ≤ a ∧ a ≤ 4294967295
    · rw [if_pos (decide_eq_true h'), spec_l1Size_is a h.1 h.2, kz, if_neg (by have := sz_pos n; omega), Int.tmod_eq_emod_of_nonneg h'.1]
      simp [good, h.1, h.2, h'.1, h'.2, beq_dec]
    · rw [if_neg (by simpa using h')]
      have : good a n = false := by simp [good]; omega
      rw [this]
  · rw [if_neg (by simpa using h)]
    have : good a n = false := by simp [good]; omega
    rw [this]
theorem cmp_isNaN_int_is (a : Int) : cmp_isNaN_int.f a = some false := by unfold cmp_isNaN_int.f; simp
theorem cmp_Compare_int_is (a b : Int) : cmp_Compare_int.f a b = some (if a < b then -1 else if a > b then 1 else 0) := by
  unfold cmp_Compare_int.f
  simp only [cmp_isNaN_int_is, kz, Bool.false_eq_true, if_false]
  by_cases h1 : a < b
  · simp [h1]
  · by_cases h2 : a > b
    · simp [h1, h2]
    · simp [h1, h2]
theorem impl_compare_is (k : Nat) (a n b m : Int) : impl_compare.f (k + 3) a n b m = some (cmpP a n b m) := by
  unfold impl_compare.f cmp_Or_int.f
  rw [cmp_Compare_int_is, kz, cmp_Compare_int_is, kz]
  have w1 : wrap64 (0 + 1) = 1 := wrap_id (by omega) (by omega)
  have w2 : wrap64 (1 + 1) = 2 := wrap_id (by omega) (by omega)
  simp only [cmp_Or_int.l0, rd, kv, List.length_nil, w1, w2]
  unfold cmpP
  by_cases h1 : a < b
  · simp [h1]
  · by_cases h2 : b < a
    · have : ¬ a = b := by omega
      simp [h1, h2, this]
    · obtain rfl : a = b := by omega
      by_cases h3 : n < m
      · simp [h3]
      · by_cases h4 : m < n
        · have : ¬ n = m := by omega
          simp [h3, h4, this]
        · obtain rfl : n = m := by omega
          simp
theorem spec_l1Compare_is (k : Nat) (a n b m : Int) : spec_l1Compare.f (k + 1) a n b m = some (cmpP a n b m) := by
  unfold spec_l1Compare.f cmpP
  simp only [spec_l1Compare.j0]
  by_cases h1 : a < b
  · simp [h1]
  · by_cases h2 : a = b
    · subst h2
      by_cases h3 : n < m
      · simp [h3]
      · by_cases h4 : n = m
        · subst h4; simp
        · simp [h3, h4]
    · simp [h1, h2]
theorem laws_eqPrefix_is (a n b m : Int) : laws_eqPrefix.f a n b m = some (decide (a = b ∧ n = m)) := by
  unfold laws_eqPrefix.f
  by_cases h : a = b
  · by_cases h' : n = m
    · rw [if_pos h, if_pos h']; simp [h, h']
    · rw [if_pos h, if_neg h']; simp [h']
  · rw [if_neg h]; simp [h]
theorem rdm_Prefix (pre : List S35) (a : S35) (rest : List S35) : rd_T35 (pre ++ a :: rest) (pre.length : Int) = a := by unfold rd_T35; simp
def pr (p : S35) : Pr := (p.f0, p.f1)
theorem laws_eqPrefixS_refl (k : Nat) (l : List S35) (hl : l.length ≤ maxLen) (hk : l.length < k) : laws_eqPrefixS.f k l l = some true := by
  unfold laws_eqPrefixS.f
  rw [if_pos rfl]
  have key : ∀ (rest pre : List S35) (k : Nat), l = pre ++ rest → rest.length < k → laws_eqPrefixS.l0 k l l (pre.length : Int) = some true := by
    intro rest
    induction rest with
    | nil =>
      intro pre k e hk
      obtain ⟨k, rfl⟩ : ∃ m, k = m + 1 := ⟨k - 1, by omega⟩
      simp only [laws_eqPrefixS.l0]
      rw [if_neg (by rw [e]; simp)]
    | cons a rest ih =>
      intro pre k e hk
      obtain ⟨k, rfl⟩ : ∃ m, k = m + 1 := ⟨k - 1, by omega⟩
      simp only [laws_eqPrefixS.l0]
      rw [if_pos (by rw [e]; exact lt_mid _ _ _), if_pos (len_nn _), if_pos (by rw [e]; exact lt_mid _ _ _), laws_eqPrefix_is]
      simp only [kz, and_self, decide_true, if_true]
      rw [wrap_mid (rest := rest) (by rw [← e]; exact hl)]
      exact ih (pre ++ [a]) k (by rw [e]; simp) (by simp at hk; omega)
  exact key l [] k rfl hk
theorem impl_areRising_is (k : Nat) (l : List S35) (hl : l.length ≤ 1048576) (hk : l.length + 4 < k) : impl_areRising.f k l = some (rising (l.map pr)) := by
  unfold impl_areRising.f
  have key : ∀ (rest pre : List S35) (k : Nat), l = pre ++ rest → rest.length + 4 < k →
      impl_areRising.l0 k l l (l.length : Int) (pre.length : Int) = some (risingFrom ((pre.map pr).getLast?) (rest.map pr)) := by
    intro rest
    induction rest with
    | nil =>
      intro pre k e hk
      obtain ⟨k, rfl⟩ : ∃ m, k = m + 1 := ⟨k - 1, by omega⟩
      simp only [impl_areRising.l0]
      rw [if_neg (by rw [e]; simp)]
      simp [risingFrom]
    | cons a rest ih =>
      intro pre k e hk
      obtain ⟨k, rfl⟩ : ∃ m, k = m + 1 := ⟨k - 1, by omega⟩
      have h1 : rd_T35 l (pre.length : Int) = a := by rw [e]; exact rdm_Prefix _ _ _
      have hih := ih (pre ++ [a]) k (by rw [e]; simp) (by simp at hk; omega)
      rw [ko, kd, List.getLast?_concat] at hih
      simp only [impl_areRising.l0]
      rw [if_pos (by rw [e]; exact lt_mid _ _ _), if_pos (len_nn _), if_pos (by rw [e]; exact lt_mid _ _ _), h1, impl_GoodPrefix_is, kz, wrap_mid (rest := rest) (by rw [← e]; simp only [maxLen]; omega)]
      simp only [kb, risingFrom]
      by_cases hg : good a.f0 a.f1 = true
      · rw [if_pos hg]
        rcases snoc_cases pre with rfl | ⟨pre', q, rfl⟩
        · rw [if_neg (by simp)]
          simp only [List.nil_append, kj] at hih
          rw [show (([] : List S35) ++ [a]).length = 1 from rfl, hih]
          simp [pr, hg]
        · have h2 : wrap64 (((pre' ++ [q]).length : Int) - 1) = (pre'.length : Int) := by
            have : (pre' ++ [q] ++ a :: rest).length ≤ 1048576 := by rw [← e]; exact hl
            simp at this
            rw [ky, kj, wrap_id (by omega) (by omega)]; omega
          have h3 : rd_T35 l (pre'.length : Int) = q := by rw [e, kk]; exact rdm_Prefix _ _ _
          obtain ⟨k', rfl⟩ : ∃ m, k = m + 3 := ⟨k - 3, by simp at hk; omega⟩
          rw [if_pos (by rw [ky, kj]; omega), h2, if_pos (len_nn _), if_pos (by rw [e, ky, ky, kj]; omega), h3, impl_compare_is, kz, hih, ko, kd, List.getLast?_concat]
          by_cases hc : cmpP q.f0 q.f1 a.f0 a.f1 ≥ 0
          · rw [if_pos hc]
            have : ¬ cmpP q.f0 q.f1 a.f0 a.f1 < 0 := by omega
            simp [pr, this]
          · rw [if_neg hc]
            have : cmpP q.f0 q.f1 a.f0 a.f1 < 0 := by omega
            simp [pr, hg, this]
      · rw [if_neg hg]
        simp [pr, hg]
  exact key l [] k rfl hk
def mk_Prefix : Int → Nat → List S35
  | _, 0 => []
  | q, n + 1 => ⟨q, q + 1⟩ :: mk_Prefix (q + 2) n
theorem mk_Prefix_len (q : Int) (n : Nat) : (mk_Prefix q n).length = n := by
  induction n generalizing q with
  | zero => rfl
  | succ n ih => simp [mk_Prefix, ih]
theorem laws_markPrefixS_is (l : List S35) (hl : l.length ≤ 1000000000) (q : Int) (hq : 0 ≤ q) (hq2 : q ≤ 1000000000000) (k : Nat) (hk : l.length < k) : laws_markPrefixS.f k l q = some (q + 2 * l.length, mk_Prefix q l.length) := by
  have key : ∀ (rest pre : List S35) (k : Nat) (q : Int), 0 ≤ q → q + 2 * rest.length ≤ 4000000000000 → (pre ++ rest).length ≤ 1000000000 → rest.length < k →
      laws_markPrefixS.l0 k (pre ++ rest) q (pre.length : Int) = some (q + 2 * rest.length, pre ++ mk_Prefix q rest.length) := by
    intro rest
    induction rest with
    | nil =>
      intro pre k q h0 h1 h2 hk
      obtain ⟨k, rfl⟩ : ∃ m, k = m + 1 := ⟨k - 1, by omega⟩
      simp only [laws_markPrefixS.l0]
      rw [if_neg (by simp)]
      simp [mk_Prefix]
    | cons a rest ih =>
      intro pre k q h0 h1 h2 hk
      obtain ⟨k, rfl⟩ : ∃ m, k = m + 1 := ⟨k - 1, by omega⟩
      simp only [kv] at h1 hk
      simp only [laws_markPrefixS.l0]
      rw [if_pos (lt_mid _ _ _), if_pos (len_nn _), rdm_Prefix, set_mid, kz, rdm_Prefix, set_mid, wrap_id (x := q + 1) (by omega) (by omega), wrap_id (x := q + 1 + 1) (by omega) (by omega), wrap_mid (a := a) (rest := rest) (by simp only [maxLen, ky, kv] at h2 ⊢; omega), snoc_cons]
      have := ih (pre ++ [⟨q, q + 1⟩]) k (q + 2) (by omega) (by omega) (by simp at h2 ⊢; omega) (by omega)
      rw [show q + 1 + 1 = q + 2 by omega]
      simp only [ky, kj] at this ⊢
      rw [this]
      simp [mk_Prefix]; omega
  unfold laws_markPrefixS.f
  have := key l [] k q hq (by omega) (by simpa using hl) hk
  simpa using this
theorem laws_heldPrefixS_is (n : Nat) (hn : n ≤ 1000000000) (q : Int) (hq : 0 ≤ q) (hq2 : q ≤ 1000000000000) (k : Nat) (hk : n < k) : laws_heldPrefixS.f k (mk_Prefix q n) q = some (q + 2 * n) := by
  have key : ∀ (n : Nat) (pre : List S35) (k : Nat) (q : Int), 0 ≤ q → q + 2 * n ≤ 4000000000000 → pre.length + n ≤ 1000000000 → n < k →
      laws_heldPrefixS.l0 k (pre ++ mk_Prefix q n) q (pre.length : Int) = some (q + 2 * n) := by
    intro n
    induction n with
    | zero =>
      intro pre k q h0 h1 h2 hk
      obtain ⟨k, rfl⟩ : ∃ m, k = m + 1 := ⟨k - 1, by omega⟩
      rw [show mk_Prefix q 0 = [] from rfl, kg]
      simp only [laws_heldPrefixS.l0]
      rw [if_neg (by omega)]
      simp
    | succ n ih =>
      intro pre k q h0 h1 h2 hk
      obtain ⟨k, rfl⟩ : ∃ m, k = m + 1 := ⟨k - 1, by omega⟩
      rw [show mk_Prefix q (n + 1) = ⟨q, q + 1⟩ :: mk_Prefix (q + 2) n from rfl]
      simp only [laws_heldPrefixS.l0]
      have hlen : (pre ++ (⟨q, q + 1⟩ : S35) :: mk_Prefix (q + 2) n).length ≤ maxLen := by
        simp only [maxLen, ky, kv, mk_Prefix_len]; omega
      rw [if_pos (lt_mid _ _ _), if_pos (len_nn _), rdm_Prefix, if_pos rfl, wrap_id (x := q + 1) (by omega) (by omega), if_pos rfl, wrap_id (x := q + 1 + 1) (by omega) (by omega), wrap_mid hlen, snoc_cons]
      have := ih (pre ++ [⟨q, q + 1⟩]) k (q + 2) (by omega) (by omega) (by simp; omega) (by omega)
      rw [show q + 1 + 1 = q + 2 by omega]
      rw [this]
      congr 1; omega
  unfold laws_heldPrefixS.f
  have := key n [] k q hq (by omega) (by simpa using hn) hk
  simpa using this
theorem laws_eqIntS_refl (k : Nat) (l : List Int) (hl : l.length ≤ maxLen) (hk : l.length < k) : laws_eqIntS.f k l l = some true := by
  unfold laws_eqIntS.f
  rw [if_pos rfl]
  have key : ∀ (rest pre : List Int) (k : Nat), l = pre ++ rest → rest.length < k → laws_eqIntS.l0 k l l (pre.length : Int) = some true := by
    intro rest
    induction rest with
    | nil =>
      intro pre k e hk
      obtain ⟨k, rfl⟩ : ∃ m, k = m + 1 := ⟨k - 1, by omega⟩
      simp only [laws_eqIntS.l0]
      rw [if_neg (by rw [e]; simp)]
    | cons a rest ih =>
      intro pre k e hk
      obtain ⟨k, rfl⟩ : ∃ m, k = m + 1 := ⟨k - 1, by omega⟩
      simp only [laws_eqIntS.l0]
      rw [if_pos (by rw [e]; exact lt_mid _ _ _), if_pos (len_nn _), if_pos (by rw [e]; exact lt_mid _ _ _)]
      simp only [if_true]
      rw [wrap_mid (rest := rest) (by rw [← e]; exact hl)]
      exact ih (pre ++ [a]) k (by rw [e]; simp) (by simp at hk; omega)
  exact key l [] k rfl hk
theorem laws_eqAttrs_refl (k : Nat) (a : Int) (l : List Int) (b c d : Int) (m : List Int) (hl : l.length ≤ maxLen) (hm : m.length ≤ maxLen) (hk : l.length + m.length < k) : laws_eqAttrs.f k a l b c d m a l b c d m = some true := by
  unfold laws_eqAttrs.f
  rw [if_pos rfl, laws_eqIntS_refl k l hl (by omega), kz, if_pos rfl, if_pos rfl, if_pos rfl, if_pos rfl, laws_eqIntS_refl k m hm (by omega), kz, if_pos rfl]
def pathOk (l : List Int) : Bool := l.all fun a => decide (1 ≤ a ∧ a ≤ 65535)
theorem idx_Path (l : List Int) (hl : l.length ≤ maxLen) : ∀ (rest pre : List Int), l = pre ++ rest →
    ∃ r : Int, Ev (fun k => slices_IndexFunc_int_int.l0 k l (l.length : Int) (pre.length : Int)) r ∧ (decide (r ≥ 0) = !pathOk rest) := by
  intro rest
  induction rest with
  | nil =>
    intro pre e
    refine ⟨-1, Ev.step (f := fun _ => some (-1)) (fun k => ?_) (Ev.now _), by simp [pathOk]⟩
    simp only [slices_IndexFunc_int_int.l0]
    rw [if_neg (by rw [e]; simp)]
  | cons a rest ih =>
    intro pre e
    have hlt : (pre.length : Int) < (l.length : Int) := by rw [e]; exact lt_mid _ _ _
    have h1 : rd l (pre.length : Int) = a := by rw [e]; exact rd_mid _ _ _
    by_cases hm : 1 ≤ a ∧ a ≤ 65535
    · obtain ⟨r, hr, hb⟩ := ih (pre ++ [a]) (by rw [e]; simp)
      refine ⟨r, Ev.step (fun k => ?_) hr, by rw [hb]; simp [pathOk, hm]⟩
      simp only [slices_IndexFunc_int_int.l0, impl_isPath_1.f, impl_isAsn.f]
      rw [if_pos hlt, if_pos (len_nn _), if_pos hlt, h1, impl_within_is]
      simp only [kz]
      rw [if_neg (by simp [hm]), wrap_mid (rest := rest) (by rw [← e]; exact hl)]
    · refine ⟨(pre.length : Int), Ev.step (f := fun _ => some (pre.length : Int)) (fun k => ?_) (Ev.now _), ?_⟩
      · simp only [slices_IndexFunc_int_int.l0, impl_isPath_1.f, impl_isAsn.f]
        rw [if_pos hlt, if_pos (len_nn _), if_pos hlt, h1, impl_within_is]
        simp only [kz]
        rw [if_pos (by simp; omega)]
      · have : pathOk (a :: rest) = false := by
          unfold pathOk
          rw [List.all_cons, decide_eq_false hm, kh]
        rw [this]; simp
theorem impl_isPath_is (l : List Int) (hl : l.length ≤ maxLen) : Ev (fun k => impl_isPath.f k l) (decide (l.length ≤ 10) && pathOk l) := by
  by_cases h : (l.length : Int) ≤ 10
  · have h' : l.length ≤ 10 := by omega
    obtain ⟨r, hr, hb⟩ := idx_Path l hl l [] rfl
    refine Ev.congr (fun k => by unfold impl_isPath.f slices_ContainsFunc_int_int.f; rw [if_pos h]) (Ev.bind (f := fun _ b => some (!b)) (Ev.bind (g := fun k => slices_IndexFunc_int_int.f k l) (f := fun _ t => some (decide (t ≥ 0))) hr (Ev.now _)) ?_)
    rw [hb]
    simp only [h', decide_true, kf, Bool.not_not]
    exact Ev.now _
  · have h' : ¬ l.length ≤ 10 := by omega
    rw [show (decide (l.length ≤ 10) && pathOk l) = false by simp [h']]
    exact Ev.congr (fun k => by unfold impl_isPath.f; rw [if_neg h]) (Ev.now _)
def commOk : Int → List Int → Bool
  | _, [] => true
  | p, a :: t => decide (0 ≤ a ∧ a ≤ 1000000) && (decide (p < a) && commOk a t)
def prevOf (pre : List Int) : Int := if pre = [] then -1 else rd pre ((pre.length : Int) - 1)
theorem prevOf_snoc (pre : List Int) (a : Int) : prevOf (pre ++ [a]) = a := by
  unfold prevOf
  rw [if_neg (by simp)]
  rw [show (((pre ++ [a]).length : Int) - 1) = (pre.length : Int) by simp]
  exact rd_mid pre a []
theorem rd_prev {pre : List Int} (h : pre ≠ []) (rest : List Int) : rd (pre ++ rest) ((pre.length : Int) - 1) = prevOf pre := by
  obtain h2 | ⟨p, q, rfl⟩ := snoc_cases pre
  · exact absurd h2 h
  · rw [prevOf_snoc]
    rw [show (((p ++ [q]).length : Int) - 1) = (p.length : Int) by simp, kk]
    exact rd_mid p q rest
theorem impl_areComms_is (l : List Int) (hl : l.length ≤ 1048576) : Ev (fun k => impl_areComms.f k l) (commOk (-1) l && decide (l.length ≤ 6)) := by
  have key : ∀ (rest pre : List Int), l = pre ++ rest →
      Ev (fun k => impl_areComms.l0 k l l (l.length : Int) (pre.length : Int)) (commOk (prevOf pre) rest && decide (l.length ≤ 6)) := by
    intro rest
    induction rest with
    | nil =>
      intro pre e
      refine Ev.step (f := fun _ => some (decide (l.length ≤ 6))) (fun k => ?_) (by simp only [commOk, kf]; exact Ev.now _)
      simp only [impl_areComms.l0]
      rw [if_neg (by rw [e]; simp)]
      congr 1
      exact decide_eq_decide.mpr (by omega)
    | cons a rest ih =>
      intro pre e
      have hlt : (pre.length : Int) < (l.length : Int) := by rw [e]; exact lt_mid _ _ _
      have h1 : rd l (pre.length : Int) = a := by rw [e]; exact rd_mid _ _ _
      have hr := ih (pre ++ [a]) (by rw [e]; simp)
      rw [prevOf_snoc] at hr
      have hw := wrap_mid (pre := pre) (a := a) (rest := rest) (by rw [← e]; simp only [maxLen]; omega)
      simp only [commOk]
      by_cases hm : 0 ≤ a ∧ a ≤ 1000000
      · rw [decide_eq_true hm, kf]
        by_cases hp : pre = []
        · have hq : prevOf pre < a := by unfold prevOf; rw [if_pos hp]; omega
          rw [decide_eq_true hq, kf]
          refine Ev.step (fun k => ?_) hr
          simp only [impl_areComms.l0, impl_isValue.f]
          rw [if_pos hlt, if_pos (len_nn _), if_pos hlt, h1, impl_within_is]
          simp only [kz]
          rw [if_pos (decide_eq_true hm), if_neg (by rw [hp]; simp), hw]
        · have hn : 0 < pre.length := List.length_pos_iff.mpr hp
          have hv : wrap64 ((pre.length : Int) - 1) = (pre.length : Int) - 1 := wrap_id (by omega) (by omega)
          have hr2 : rd l ((pre.length : Int) - 1) = prevOf pre := by rw [e]; exact rd_prev hp _
          by_cases hq : prevOf pre < a
          · rw [decide_eq_true hq, kf]
            refine Ev.step (fun k => ?_) hr
            simp only [impl_areComms.l0, impl_isValue.f]
            rw [if_pos hlt, if_pos (len_nn _), if_pos hlt, h1, impl_within_is]
            simp only [kz]
            rw [if_pos (decide_eq_true hm), if_pos (by omega), hv, if_pos (by omega), if_pos (by omega), hr2, if_neg (by omega), hw]
          · rw [decide_eq_false hq, kh]
            refine Ev.step (f := fun _ => some false) (fun k => ?_) (Ev.now _)
            simp only [impl_areComms.l0, impl_isValue.f]
            rw [if_pos hlt, if_pos (len_nn _), if_pos hlt, h1, impl_within_is]
            simp only [kz]
            rw [if_pos (decide_eq_true hm), if_pos (by omega), hv, if_pos (by omega), if_pos (by omega), hr2, if_pos (by omega)]
      · rw [decide_eq_false hm, kh, kh]
        refine Ev.step (f := fun _ => some false) (fun k => ?_) (Ev.now _)
        simp only [impl_areComms.l0, impl_isValue.f]
        rw [if_pos hlt, if_pos (len_nn _), if_pos hlt, h1, impl_within_is]
        simp only [kz]
        rw [if_neg (by rw [decide_eq_false hm]; simp)]
  exact key l [] rfl
def attrsOk (a : Int) (l : List Int) (b c d : Int) (m : List Int) : Bool :=
  decide (0 ≤ a ∧ a ≤ 2) && ((decide (l.length ≤ 10) && pathOk l) && (decide (0 ≤ b ∧ b ≤ 4294967295) && (decide (0 ≤ c ∧ c ≤ 1000000) && (decide (0 ≤ d ∧ d ≤ 1000000) && (commOk (-1) m && decide (m.length ≤ 6))))))
theorem Ev_and {x y : Bool} {g : Nat → Option Bool} (h : Ev g y) : Ev (fun k => if x = true then g k else some false) (x && y) := by
  cases x with
  | true => exact Ev.congr (fun k => if_pos rfl) h
  | false => exact Ev.congr (fun k => if_neg (by simp)) (Ev.now _)
theorem impl_GoodAttrs_is (a : Int) (l : List Int) (b c d : Int) (m : List Int) (hl : l.length ≤ 1048576) (hm : m.length ≤ 1048576) : Ev (fun k => impl_GoodAttrs.f k a l b c d m) (attrsOk a l b c d m) := by
  obtain ⟨K1, h1⟩ := impl_isPath_is l (by simp only [maxLen]; omega)
  obtain ⟨K2, h2⟩ := impl_areComms_is m hm
  replace h1 : ∀ k, K1 ≤ k → impl_isPath.f k l = _ := h1
  replace h2 : ∀ k, K2 ≤ k → impl_areComms.f k m = _ := h2
  refine ⟨K1 + K2, fun k hk => ?_⟩
  simp only [impl_GoodAttrs.f, impl_isAddr.f, impl_isValue.f, impl_within_is, kz]
  rw [h1 k (by omega), h2 k (by omega)]
  simp only [kz]
  unfold attrsOk
  generalize decide (0 ≤ a ∧ a ≤ 2) = x1
  generalize (decide (l.length ≤ 10) && pathOk l) = x2
  generalize decide (0 ≤ b ∧ b ≤ 4294967295) = x3
  generalize decide (0 ≤ c ∧ c ≤ 1000000) = x4
  generalize decide (0 ≤ d ∧ d ≤ 1000000) = x5
  generalize (commOk (-1) m && decide (m.length ≤ 6)) = x6
  cases x1 <;> cases x2 <;> cases x3 <;> cases x4 <;> cases x5 <;> cases x6 <;> rfl
theorem spec_GoodAttrs_is (a : Int) (l : List Int) (b c d : Int) (m : List Int) (hl : l.length ≤ 1048576) (hm : m.length ≤ 1048576) : Ev (fun k => spec_GoodAttrs.f k a l b c d m) (attrsOk a l b c d m) := by
  have k1 : ∀ (rest pre : List Int), m = pre ++ rest →
      Ev (fun k => spec_GoodAttrs.l1 k m (m.length : Int) (pre.length : Int) a l b c d m) (commOk (prevOf pre) rest && (decide (0 ≤ a ∧ a ≤ 2) && (decide (l.length ≤ 10) && (decide (0 ≤ b ∧ b ≤ 4294967295) && (decide (0 ≤ c ∧ c ≤ 1000000) && (decide (0 ≤ d ∧ d ≤ 1000000) && decide (m.length ≤ 6))))))) := by
    intro rest
    induction rest with
    | nil =>
      intro pre e
      simp only [commOk, kf]
      refine Ev.step (f := fun _ => _) (fun k => ?_) (Ev_and (Ev_and (Ev_and (Ev_and (Ev_and (Ev.now _))))))
      simp only [spec_GoodAttrs.l1]
      rw [if_neg (by rw [e]; simp), spec_l1In_is, kz]
      by_cases h1 : 0 ≤ a ∧ a ≤ 2
      · rw [if_pos (decide_eq_true h1), if_pos (decide_eq_true h1)]
        by_cases h2 : (l.length : Int) ≤ 10
        · have h2' : l.length ≤ 10 := by omega
          rw [if_pos h2, if_pos (decide_eq_true h2')]
          simp only [spec_l1Addr_is, spec_l1In_is, kz]
          have : decide ((m.length : Int) ≤ 6) = decide (m.length ≤ 6) := decide_eq_decide.mpr (by omega)
          rw [this]
        · have h2' : ¬ l.length ≤ 10 := by omega
          rw [if_neg h2, if_neg (by simpa using h2')]
      · rw [if_neg (by rw [decide_eq_false h1]; simp), if_neg (by rw [decide_eq_false h1]; simp)]
    | cons x rest ih =>
      intro pre e
      have hlt : (pre.length : Int) < (m.length : Int) := by rw [e]; exact lt_mid _ _ _
      have h1 : rd m (pre.length : Int) = x := by rw [e]; exact rd_mid _ _ _
      have hr := ih (pre ++ [x]) (by rw [e]; simp)
      rw [prevOf_snoc] at hr
      have hw := wrap_mid (pre := pre) (a := x) (rest := rest) (by rw [← e]; simp only [maxLen]; omega)
      simp only [commOk]
      by_cases hm : 0 ≤ x ∧ x ≤ 1000000
      · rw [decide_eq_true hm, kf]
        by_cases hp : pre = []
        · have hq : prevOf pre < x := by unfold prevOf; rw [if_pos hp]; omega
          rw [decide_eq_true hq, kf]
          refine Ev.step (fun k => ?_) hr
          simp only [spec_GoodAttrs.l1]
          rw [if_pos hlt, if_pos (len_nn _), if_pos hlt, h1, spec_l1In_is]
          simp only [kz]
          rw [if_pos (decide_eq_true hm), if_neg (by rw [hp]; simp), hw]
        · have hn : 0 < pre.length := List.length_pos_iff.mpr hp
          have hv : wrap64 ((pre.length : Int) - 1) = (pre.length : Int) - 1 := wrap_id (by omega) (by omega)
          have hr2 : rd m ((pre.length : Int) - 1) = prevOf pre := by rw [e]; exact rd_prev hp _
          by_cases hq : prevOf pre < x
          · rw [decide_eq_true hq, kf]
            refine Ev.step (fun k => ?_) hr
            simp only [spec_GoodAttrs.l1]
            rw [if_pos hlt, if_pos (len_nn _), if_pos hlt, h1, spec_l1In_is]
            simp only [kz]
            rw [if_pos (decide_eq_true hm), if_pos (by omega), hv, if_pos (by omega), if_pos (by omega), hr2, if_neg (by omega), hw]
          · rw [decide_eq_false hq, kh]
            refine Ev.step (f := fun _ => some false) (fun k => ?_) (Ev.now _)
            simp only [spec_GoodAttrs.l1]
            rw [if_pos hlt, if_pos (len_nn _), if_pos hlt, h1, spec_l1In_is]
            simp only [kz]
            rw [if_pos (decide_eq_true hm), if_pos (by omega), hv, if_pos (by omega), if_pos (by omega), hr2, if_pos (by omega)]
      · rw [decide_eq_false hm, kh, kh]
        refine Ev.step (f := fun _ => some false) (fun k => ?_) (Ev.now _)
        simp only [spec_GoodAttrs.l1]
        rw [if_pos hlt, if_pos (len_nn _), if_pos hlt, h1, spec_l1In_is]
        simp only [kz]
        rw [if_neg (by rw [decide_eq_false hm]; simp)]
  have k0 : ∀ (rest pre : List Int) (r : Bool), Ev (fun k => spec_GoodAttrs.l1 k m (m.length : Int) 0 a l b c d m) r → l = pre ++ rest →
      Ev (fun k => spec_GoodAttrs.l0 k l (l.length : Int) (pre.length : Int) a l b c d m) (pathOk rest && r) := by
    intro rest
    induction rest with
    | nil =>
      intro pre r hr e
      rw [show (pathOk [] && r) = r by simp [pathOk]]
      refine Ev.step (fun k => ?_) hr
      simp only [spec_GoodAttrs.l0]
      rw [if_neg (by rw [e]; simp)]
    | cons x rest ih =>
      intro pre r hr e
      have hlt : (pre.length : Int) < (l.length : Int) := by rw [e]; exact lt_mid _ _ _
      have h1 : rd l (pre.length : Int) = x := by rw [e]; exact rd_mid _ _ _
      have hw := wrap_mid (pre := pre) (a := x) (rest := rest) (by rw [← e]; simp only [maxLen]; omega)
      have hi := ih (pre ++ [x]) r hr (by rw [e]; simp)
      by_cases hx : 1 ≤ x ∧ x ≤ 65535
      · rw [show pathOk (x :: rest) = pathOk rest by unfold pathOk; rw [List.all_cons, decide_eq_true hx, kf]]
        refine Ev.step (fun k => ?_) hi
        simp only [spec_GoodAttrs.l0]
        rw [if_pos hlt, if_pos (len_nn _), if_pos hlt, h1, spec_l1In_is]
        simp only [kz]
        rw [if_pos (decide_eq_true hx), hw]
      · rw [show pathOk (x :: rest) = false by unfold pathOk; rw [List.all_cons, decide_eq_false hx, kh], kh]
        refine Ev.step (f := fun _ => some false) (fun k => ?_) (Ev.now _)
        simp only [spec_GoodAttrs.l0]
        rw [if_pos hlt, if_pos (len_nn _), if_pos hlt, h1, spec_l1In_is]
        simp only [kz]
        rw [if_neg (by rw [decide_eq_false hx]; simp)]
  have := k0 l [] _ (k1 m [] rfl) rfl
  have e : attrsOk a l b c d m = (pathOk l && (commOk (prevOf []) m && (decide (0 ≤ a ∧ a ≤ 2) && (decide (l.length ≤ 10) && (decide (0 ≤ b ∧ b ≤ 4294967295) && (decide (0 ≤ c ∧ c ≤ 1000000) && (decide (0 ≤ d ∧ d ≤ 1000000) && decide (m.length ≤ 6)))))))) := by
    rw [show prevOf [] = -1 from rfl]
    unfold attrsOk
    generalize decide (0 ≤ a ∧ a ≤ 2) = x1
    generalize decide (l.length ≤ 10) = x2
    generalize decide (0 ≤ b ∧ b ≤ 4294967295) = x3
    generalize decide (0 ≤ c ∧ c ≤ 1000000) = x4
    generalize decide (0 ≤ d ∧ d ≤ 1000000) = x5
    generalize decide (m.length ≤ 6) = x6
    generalize pathOk l = x7
    generalize commOk (-1) m = x8
    cases x1 <;> cases x2 <;> cases x3 <;> cases x4 <;> cases x5 <;> cases x6 <;> cases x7 <;> cases x8 <;> rfl
  rw [e]; exact this
def readN (s : ByteArray) : Nat → Int → Int → Int
  | 0, _, x => x
  | n + 1, i, x => readN s n (i + 1) (Go.bits .or .i64 (wrap64 (x * 256)) (wrap64 (bt s i)))
theorem spec_number_l0 (s : ByteArray) (hs : s.size ≤ 1000000000) : ∀ (n k : Nat) (i x e : Int), n < k → 0 ≤ i → i + n ≤ s.size → spec_l4R_number.l0 k n x s i e = some (readN s n i x, s, i + n, e)
  | 0, k + 1, i, x, e, _, _, _ => by
    simp only [spec_l4R_number.l0]
    rw [if_neg (by omega)]
    simp [readN]
  | n + 1, k + 1, i, x, e, hk, h0, h1 => by
    simp only [spec_l4R_number.l0]
    rw [if_pos (by omega), if_pos h0, if_pos (by omega), wrap_id (x := ((n + 1 : Nat) : Int) - 1) (by omega) (by omega), wrap_id (x := i + 1) (by omega) (by omega)]
    rw [show ((n + 1 : Nat) : Int) - 1 = (n : Int) by omega, spec_number_l0 s hs n k (i + 1) _ e (by omega) (by omega) (by omega)]
    rw [show i + 1 + (n : Int) = i + ((n + 1 : Nat) : Int) by omega]
    rfl
theorem impl_number_l0 (s : ByteArray) (hs : s.size ≤ 1000000000) : ∀ (n k : Nat) (i x e j : Int), n < k → 0 ≤ i → i + n ≤ s.size → 0 ≤ j → j + n ≤ 1000000000 → impl_input_number.l0 k x (j + n) j s i e = some (readN s n i x, s, i + n, e)
  | 0, k + 1, i, x, e, j, _, _, _, _, _ => by
    simp only [impl_input_number.l0]
    rw [if_neg (by omega)]
    simp [readN]
  | n + 1, k + 1, i, x, e, j, hk, h0, h1, h2, h3 => by
    simp only [impl_input_number.l0]
    rw [if_pos (by omega), if_pos h0, if_pos (by omega), wrap_id (x := j + 1) (by omega) (by omega), wrap_id (x := i + 1) (by omega) (by omega)]
    rw [show j + ((n + 1 : Nat) : Int) = (j + 1) + (n : Int) by omega, impl_number_l0 s hs n k (i + 1) _ e (j + 1) (by omega) (by omega) (by omega) (by omega) (by omega)]
    rw [show i + 1 + (n : Int) = i + ((n + 1 : Nat) : Int) by omega]
    rfl
theorem spec_number_is (s : ByteArray) (hs : s.size ≤ 1000000000) (n k : Nat) (i : Int) (hk : n + 2 ≤ k) (hn : n ≤ 1000000) (h0 : 0 ≤ i) (h1 : i ≤ s.size) : spec_l4R_number.f k s i 0 n = some (if i + n ≤ s.size then (readN s n i 0, s, i + n, 0) else (0, s, i, 1)) := by
  obtain ⟨k, rfl⟩ : ∃ m, k = m + 1 := ⟨k - 1, by omega⟩
  unfold spec_l4R_number.f
  rw [if_pos rfl]
  simp only [spec_l4R_number.j0]
  rw [wrap_id (x := (s.size : Int) - i) (by omega) (by omega)]
  by_cases h : i + n ≤ s.size
  · rw [if_neg (by simp; omega), if_pos h, spec_number_l0 s hs n k i 0 0 (by omega) h0 h]
  · rw [if_pos (by simp; omega), if_neg h, if_pos trivial]
theorem impl_number_is (s : ByteArray) (hs : s.size ≤ 1000000000) (n k : Nat) (i : Int) (hk : n + 3 ≤ k) (hn : n ≤ 1000000) (h0 : 0 ≤ i) (h1 : i ≤ s.size) : impl_input_number.f k s i 0 n = some (if i + n ≤ s.size then (readN s n i 0, s, i + n, 0) else (0, s, i, 1)) := by
  obtain ⟨k, rfl⟩ : ∃ m, k = m + 2 := ⟨k - 2, by omega⟩
  unfold impl_input_number.f
  rw [if_pos rfl]
  simp only [impl_input_number.j0, impl_input_number.j1]
  rw [wrap_id (x := i + (n : Int)) (by omega) (by omega)]
  by_cases h : i + n ≤ s.size
  · have := impl_number_l0 s hs n k i 0 0 0 (by omega) h0 h (by omega) (by omega)
    rw [show (0 : Int) + (n : Int) = n by omega] at this
    rw [if_neg (by simp; omega), if_pos trivial, if_pos h, this]
  · rw [if_pos (by simp; omega), if_neg h, if_neg (by omega)]
theorem or_zero (n : Nat) (h : n < 256) : Go.bits .or .i64 0 (n : Int) = (n : Int) := by
  have e1 : (BitVec.ofInt 64 0 ||| BitVec.ofInt 64 (n : Int)).toNat = n := by
    rw [BitVec.toNat_or, BitVec.ofInt_natCast, BitVec.toNat_ofNat]
    have e0 : (BitVec.ofInt 64 0).toNat = 0 := rfl
    rw [e0, Nat.zero_or]
    exact Nat.mod_eq_of_lt (by omega)
  show IntKind.i64.wrap ((BitVec.ofInt 64 0 ||| BitVec.ofInt 64 (n : Int)).toNat : Int) = _
  rw [e1]
  have e : (n : Int) % 2 ^ 64 = n := Int.emod_eq_of_lt (by omega) (by omega)
  simp only [IntKind.wrap, IntKind.bits, IntKind.signed, e]
  rw [if_neg]
  simp
  omega
theorem readN_one (s : ByteArray) (i : Int) : readN s 1 i 0 = bt s i := by
  have hb := bt_range s i
  simp only [readN]
  rw [show (0 : Int) * 256 = 0 by omega, show wrap64 0 = 0 from wrap_id (by omega) (by omega), wrap_id (x := bt s i) (by omega) (by omega)]
  obtain ⟨n, hn⟩ := Int.eq_ofNat_of_zero_le hb.1
  rw [hn]
  exact or_zero n (by omega)
def octets (L : Int) : Nat := ((L + 7) / 8).toNat
def takeP (s : ByteArray) (i : Int) : Option (Int × Int × Int) :=
  if i + 1 ≤ s.size then
    if bt s i > 32 then none else
    if i + 1 + octets (bt s i) ≤ s.size then some (shl .i64 (readN s (octets (bt s i)) (i + 1) 0) (32 - 8 * (octets (bt s i) : Int)), bt s i, i + 1 + octets (bt s i)) else none
  else none
theorem octets_is {L : Int} (h0 : 0 ≤ L) (h1 : L ≤ 255) : wrap64 (Int.tdiv (wrap64 (L + 7)) 8) = (octets L : Int) ∧ ((octets L : Nat) : Int) = (L + 7) / 8 := by
  unfold octets
  have e : Int.tdiv (L + 7) 8 = (L + 7) / 8 := Int.tdiv_eq_ediv_of_nonneg (by omega)
  rw [wrap_id (x := L + 7) (by omega) (by omega), e, wrap_id (by omega) (by omega)]
  omega
def hb (x : Int) : Nat → List Int
  | 0 => []
  | n + 1 => (shr .i64 x (8 * (n : Int))) % 256 :: hb x n
theorem impl_bytesOf_l0 : ∀ (n k : Nat) (x : Int) (acc : List Int), n < k → n + acc.length ≤ 1000000 → impl_bytesOf.l0 k x acc ((n : Int) - 1) = some (strOfNums (acc ++ hb x n))
  | 0, k + 1, x, acc, _, _ => by
    simp only [impl_bytesOf.l0]
    rw [if_neg (by omega)]
    simp [hb]
  | n + 1, k + 1, x, acc, hk, hl => by
    simp only [impl_bytesOf.l0]
    rw [show ((n + 1 : Nat) : Int) - 1 = (n : Int) by omega, if_pos (by omega), wrap_id (x := 8 * (n : Int)) (by omega) (by omega), if_pos (by omega), if_pos (by omega), wrap_id (by omega) (by omega)]
    rw [impl_bytesOf_l0 n k x _ (by omega) (by simp; omega)]
    simp [hb]
theorem impl_bytesOf_is (k n : Nat) (x : Int) (hk : n < k) (hn : n ≤ 100000) : impl_bytesOf.f k x (n : Int) = some (strOfNums (hb x n)) := by
  unfold impl_bytesOf.f
  rw [wrap_id (by omega) (by omega)]
  have := impl_bytesOf_l0 n k x [] hk (by simp; omega)
  simpa using this
def mk_Int (q : Int) : Nat → List Int
  | 0 => []
  | n + 1 => q :: mk_Int (q + 1) n
theorem mk_Int_len (q : Int) (n : Nat) : (mk_Int q n).length = n := by
  induction n generalizing q with
  | zero => rfl
  | succ n ih => simp [mk_Int, ih]
theorem laws_markIntS_is (l : List Int) (hl : l.length ≤ 1000000000) (q : Int) (hq : 0 ≤ q) (hq2 : q ≤ 1000000000000) (k : Nat) (hk : l.length < k) : laws_markIntS.f k l q = some (q + l.length, mk_Int q l.length) := by
  have key : ∀ (rest pre : List Int) (k : Nat) (q : Int), (pre ++ rest).length ≤ 1000000000 → 0 ≤ q → q + rest.length ≤ 2000000000000 → rest.length < k → laws_markIntS.l0 k (pre ++ rest) q (pre.length : Int) = some (q + rest.length, pre ++ mk_Int q rest.length) := by
    intro rest
    induction rest with
    | nil =>
      intro pre k q _ _ _ hk
      obtain ⟨k, rfl⟩ : ∃ m, k = m + 1 := ⟨k - 1, by omega⟩
      rw [laws_markIntS.l0, if_neg (by simp)]
      simp [mk_Int]
    | cons a rest ih =>
      intro pre k q hp h0 h1 hk
      obtain ⟨k, rfl⟩ : ∃ m, k = m + 1 := ⟨k - 1, by omega⟩
      simp only [kv] at h1 hk
      rw [laws_markIntS.l0, if_pos (lt_mid _ _ _), if_pos (len_nn _), set_mid, wrap_id (x := q + 1) (by omega) (by omega), wrap_mid (pre := pre) (a := a) (rest := rest) (by simp only [maxLen]; omega)]
      have := ih (pre ++ [q]) k (q + 1) (by simp at hp ⊢; omega) (by omega) (by omega) (by omega)
      simp only [kk, List.singleton_append] at this
      rw [show ((pre ++ [a]).length : Int) = ((pre ++ [q]).length : Int) by simp, this]
      simp only [kv, mk_Int]
      congr 2
      omega
  have := key l [] k q (by simpa using hl) hq (by omega) hk
  simpa [laws_markIntS.f] using this
theorem laws_heldIntS_is (n : Nat) (hn : n ≤ 1000000000) (q : Int) (hq : 0 ≤ q) (hq2 : q ≤ 1000000000000) (k : Nat) (hk : n < k) : laws_heldIntS.f k (mk_Int q n) q = some (q + n) := by
  have key : ∀ (n : Nat) (pre : List Int) (k : Nat) (q : Int), pre.length + n ≤ 1000000000 → 0 ≤ q → q + n ≤ 2000000000000 → n < k → laws_heldIntS.l0 k (pre ++ mk_Int q n) q (pre.length : Int) = some (q + n) := by
    intro n
    induction n with
    | zero =>
      intro pre k q _ _ _ hk
      obtain ⟨k, rfl⟩ : ∃ m, k = m + 1 := ⟨k - 1, by omega⟩
      rw [laws_heldIntS.l0, if_neg (by simp [mk_Int])]
      simp
    | succ n ih =>
      intro pre k q hp h0 h1 hk
      obtain ⟨k, rfl⟩ : ∃ m, k = m + 1 := ⟨k - 1, by omega⟩
      have hlen : (pre ++ q :: mk_Int (q + 1) n).length ≤ maxLen := by simp [mk_Int_len, maxLen]; omega
      simp only [mk_Int]
      rw [laws_heldIntS.l0, if_pos (lt_mid _ _ _), if_pos (len_nn _), rd_mid, if_pos rfl, wrap_id (x := q + 1) (by omega) (by omega), wrap_mid (rest := mk_Int (q + 1) n) hlen]
      have := ih (pre ++ [q]) k (q + 1) (by simp; omega) (by omega) (by omega) (by omega)
      simp only [kk, List.singleton_append] at this
      rw [this]
      congr 1
      omega
  have := key n [] k q (by simpa using hn) hq (by omega) hk
  simpa [laws_heldIntS.f] using this
theorem contains_Prefix (k : Nat) (l : List S35) (a b : Int) (hl : l.length ≤ 1048576) (hk : l.length < k) : slices_Contains_impl_Prefix_impl_Prefix.f k l a b = some (l.any fun q => a == q.f0 && b == q.f1) := by
  unfold slices_Contains_impl_Prefix_impl_Prefix.f slices_Index_impl_Prefix_impl_Prefix.f
  exact any_gen (fun k i => slices_Index_impl_Prefix_impl_Prefix.l0 k l (l.length : Int) i a b) l (fun q => a == q.f0 && b == q.f1) (fun k => by
      show slices_Index_impl_Prefix_impl_Prefix.l0 (k + 1) l (l.length : Int) (l.length : Int) a b = _
      rw [slices_Index_impl_Prefix_impl_Prefix.l0, if_neg (not_lt_end l)]) (fun k pre x rest e => by
      show slices_Index_impl_Prefix_impl_Prefix.l0 (k + 1) l (l.length : Int) (pre.length : Int) a b = _
      have h1 : rd_T35 l (pre.length : Int) = x := by rw [e]; exact rdm_Prefix _ _ _
      rw [slices_Index_impl_Prefix_impl_Prefix.l0, if_pos (by rw [e]; exact lt_mid _ _ _), if_pos (len_nn _), if_pos (by rw [e]; exact lt_mid _ _ _), h1, wrap_mid (rest := rest) (by rw [← e]; simp only [maxLen]; omega)]) k hk
theorem spec_l4In_is (k : Nat) (l : List S35) (a b : Int) (hl : l.length ≤ 1048576) (hk : l.length < k) : spec_l4In.f k l a b = some (l.any fun q => a == q.f0 && b == q.f1) := by
  unfold spec_l4In.f
  have key : ∀ (rest pre : List S35) (k : Nat), l = pre ++ rest → rest.length < k → spec_l4In.l0 k l (l.length : Int) (pre.length : Int) a b = some (rest.any fun q => a == q.f0 && b == q.f1) := by
    intro rest
    induction rest with
    | nil =>
      intro pre k e hk
      obtain ⟨k, rfl⟩ : ∃ m, k = m + 1 := ⟨k - 1, by omega⟩
      rw [spec_l4In.l0, if_neg (by rw [e]; simp)]
      rfl
    | cons x rest ih =>
      intro pre k e hk
      obtain ⟨k, rfl⟩ : ∃ m, k = m + 1 := ⟨k - 1, by omega⟩
      have h1 : rd_T35 l (pre.length : Int) = x := by rw [e]; exact rdm_Prefix _ _ _
      rw [spec_l4In.l0, if_pos (by rw [e]; exact lt_mid _ _ _), if_pos (len_nn _), if_pos (by rw [e]; exact lt_mid _ _ _), h1, wrap_mid (rest := rest) (by rw [← e]; simp only [maxLen]; omega), ih (pre ++ [x]) k (by rw [e]; simp) (by simp at hk; omega)]
      have hs : (x.f0 == a && x.f1 == b) = (a == x.f0 && b == x.f1) := by rw [Bool.beq_comm, Bool.beq_comm (a := x.f1)]
      rw [hs, List.any_cons]
      cases (a == x.f0 && b == x.f1)
      · rw [if_neg (by decide)]; rfl
      · rw [if_pos rfl]; rfl
  exact key l [] k rfl hk
theorem spec_l4Rising_is (k : Nat) (l : List S35) (hl : l.length ≤ 1048576) (hk : l.length + 4 < k) : spec_l4Rising.f k l = some (rising (l.map pr) && decide (l.length ≤ 10)) := by
  unfold spec_l4Rising.f
  have key : ∀ (rest pre : List S35) (k : Nat), l = pre ++ rest → rest.length + 4 < k →
      spec_l4Rising.l0 k l l (l.length : Int) (pre.length : Int) = some (risingFrom ((pre.map pr).getLast?) (rest.map pr) && decide (l.length ≤ 10)) := by
    intro rest
    induction rest with
    | nil =>
      intro pre k e hk
      obtain ⟨k, rfl⟩ : ∃ m, k = m + 1 := ⟨k - 1, by omega⟩
      simp only [spec_l4Rising.l0]
      rw [if_neg (by rw [e]; simp)]
      have : decide ((l.length : Int) ≤ 10) = decide (l.length ≤ 10) := decide_eq_decide.mpr (by omega)
      rw [this]
      simp [risingFrom]
    | cons a rest ih =>
      intro pre k e hk
      obtain ⟨k, rfl⟩ : ∃ m, k = m + 1 := ⟨k - 1, by omega⟩
      have h1 : rd_T35 l (pre.length : Int) = a := by rw [e]; exact rdm_Prefix _ _ _
      have hih := ih (pre ++ [a]) k (by rw [e]; simp) (by simp at hk; omega)
      rw [ko, kd, List.getLast?_concat] at hih
      simp only [spec_l4Rising.l0]
      rw [if_pos (by rw [e]; exact lt_mid _ _ _), if_pos (len_nn _), if_pos (by rw [e]; exact lt_mid _ _ _), h1, spec_GoodPrefix_is, kz, wrap_mid (rest := rest) (by rw [← e]; simp only [maxLen]; omega)]
      simp only [kb, risingFrom]
      by_cases hg : good a.f0 a.f1 = true
      · rw [if_pos hg]
        rcases snoc_cases pre with rfl | ⟨pre', q, rfl⟩
        · rw [if_neg (by simp)]
          simp only [List.nil_append, kj] at hih
          rw [show (([] : List S35) ++ [a]).length = 1 from rfl, hih]
          simp [pr, hg]
        · have h2 : wrap64 (((pre' ++ [q]).length : Int) - 1) = (pre'.length : Int) := by
            have : (pre' ++ [q] ++ a :: rest).length ≤ 1048576 := by rw [← e]; exact hl
            simp at this
            rw [ky, kj, wrap_id (by omega) (by omega)]; omega
          have h3 : rd_T35 l (pre'.length : Int) = q := by rw [e, kk]; exact rdm_Prefix _ _ _
          obtain ⟨k', rfl⟩ : ∃ m, k = m + 1 := ⟨k - 1, by simp at hk; omega⟩
          rw [if_pos (by rw [ky, kj]; omega), h2, if_pos (len_nn _), if_pos (by rw [e, ky, ky, kj]; omega), h3, spec_l1Compare_is, kz, hih, ko, kd, List.getLast?_concat]
          by_cases hc : cmpP q.f0 q.f1 a.f0 a.f1 ≥ 0
          · rw [if_pos hc]
            have : ¬ cmpP q.f0 q.f1 a.f0 a.f1 < 0 := by omega
            simp [pr, this]
          · rw [if_neg hc]
            have : cmpP q.f0 q.f1 a.f0 a.f1 < 0 := by omega
            simp [pr, hg, this]
      · rw [if_neg hg]
        simp [pr, hg]
  exact key l [] k rfl hk
def zeroA (a : Int) (l : List Int) (b c d : Int) (m : List Int) : Bool := a == 0 && (decide (l.length = 0) && (b == 0 && (c == 0 && (d == 0 && decide (m.length = 0)))))
def clash (g e : List S35) : Bool := e.any fun p => g.any fun q => p.f0 == q.f0 && p.f1 == q.f1
def updOk (g : List S35) (a : Int) (l : List Int) (b c d : Int) (m : List Int) (e : List S35) : Bool :=
  (rising (g.map pr) && decide (g.length ≤ 10)) && ((rising (e.map pr) && decide (e.length ≤ 10)) && (attrsOk a l b c d m && (!clash g e && (decide (0 < e.length) || zeroA a l b c d m))))
theorem clash_swap (g e : List S35) : (g.any fun p => e.any fun q => p.f0 == q.f0 && p.f1 == q.f1) = clash g e := by
  unfold clash
  rw [Bool.eq_iff_iff]
  simp only [List.any_eq_true, Bool.and_eq_true, beq_iff_eq]
  constructor
  · rintro ⟨p, hp, q, hq, h1, h2⟩; exact ⟨q, hq, p, hp, h1.symm, h2.symm⟩
  · rintro ⟨p, hp, q, hq, h1, h2⟩; exact ⟨q, hq, p, hp, h1.symm, h2.symm⟩
theorem equal_nil (k : Nat) (l : List Int) : slices_Equal_int_int.f (k + 1) l [] = some (decide (l.length = 0)) := by
  unfold slices_Equal_int_int.f
  by_cases h : l.length = 0
  · have e : l = [] := List.eq_nil_of_length_eq_zero h
    subst e
    rw [if_pos rfl, slices_Equal_int_int.l0, if_neg (by decide)]
    rfl
  · rw [if_neg (by simp; exact fun h' => h (by simp [h']))]
    simp only [h, decide_false]
theorem impl_sameAttrs_zero (k : Nat) (a : Int) (l : List Int) (b c d : Int) (m : List Int) : impl_sameAttrs.f (k + 1) a l b c d m 0 [] 0 0 0 [] = some (zeroA a l b c d m) := by
  unfold impl_sameAttrs.f zeroA
  rw [equal_nil, equal_nil]
  simp only [kz]
  by_cases h1 : a = 0
  · rw [if_pos h1]
    by_cases h2 : l.length = 0
    · rw [if_pos (decide_eq_true h2)]
      by_cases h3 : b = 0
      · rw [if_pos h3]
        by_cases h4 : c = 0
        · rw [if_pos h4]
          by_cases h5 : d = 0
          · rw [if_pos h5]; simp [h1, h2, h3, h4, h5]
          · rw [if_neg h5]; simp [h5]
        · rw [if_neg h4]; simp [h4]
      · rw [if_neg h3]; simp [h3]
    · rw [if_neg (by simpa using h2)]
      have : decide (l.length = 0) = false := decide_eq_false h2
      rw [this]; simp only [kh, Bool.and_false]
  · rw [if_neg h1]; simp [h1]
theorem impl_clash (k : Nat) (g e : List S35) (hg : g.length ≤ 1048576) (he : e.length ≤ 1048576) (hk : g.length + e.length + 1 < k) : impl_GoodUpdate_ct.f k g e = some (clash g e) := by
  unfold impl_GoodUpdate_ct.f impl_GoodUpdate_ix.f
  rw [← clash_swap]
  exact any_genK (e.length + 1) (fun k i => impl_GoodUpdate_ix.l0 e k g (g.length : Int) i) g (fun p => e.any fun q => p.f0 == q.f0 && p.f1 == q.f1) (fun k => by
      show impl_GoodUpdate_ix.l0 e (k + 1) g (g.length : Int) (g.length : Int) = _
      rw [impl_GoodUpdate_ix.l0, if_neg (not_lt_end g)]) (fun k hk pre x rest e' => by
      show impl_GoodUpdate_ix.l0 e (k + 1) g (g.length : Int) (pre.length : Int) = _
      have h1 : rd_T35 g (pre.length : Int) = x := by rw [e']; exact rdm_Prefix _ _ _
      rw [impl_GoodUpdate_ix.l0, if_pos (by rw [e']; exact lt_mid _ _ _), if_pos (len_nn _), if_pos (by rw [e']; exact lt_mid _ _ _), h1]
      unfold impl_GoodUpdate_1.f
      rw [contains_Prefix k e x.f0 x.f1 he (by omega), kz, wrap_mid (rest := rest) (by rw [← e']; simp only [maxLen]; omega)]) k (by omega)
theorem impl_GoodUpdate_is (g : List S35) (a : Int) (l : List Int) (b c d : Int) (m : List Int) (e : List S35) (hg : g.length ≤ 1048576) (he : e.length ≤ 1048576) (hl : l.length ≤ 1048576) (hm : m.length ≤ 1048576) :
    Ev (fun k => impl_GoodUpdate.f k g a l b c d m e) (updOk g a l b c d m e) := by
  obtain ⟨K, hK⟩ := impl_GoodAttrs_is a l b c d m hl hm
  replace hK : ∀ k, K ≤ k → impl_GoodAttrs.f k a l b c d m = _ := hK
  refine ⟨K + g.length + e.length + 10, fun k hk => ?_⟩
  obtain ⟨k, rfl⟩ : ∃ j, k = j + 1 := ⟨k - 1, by omega⟩
  show impl_GoodUpdate.f (k + 1) g a l b c d m e = _
  unfold impl_GoodUpdate.f updOk
  have eg : ((g.length : Int) > 10) ↔ ¬ g.length ≤ 10 := by omega
  have ee : ((e.length : Int) > 10) ↔ ¬ e.length ≤ 10 := by omega
  by_cases h1 : g.length ≤ 10
  · rw [if_neg (fun h => eg.1 h h1), decide_eq_true h1, Bool.and_true]
    by_cases h2 : e.length ≤ 10
    · rw [if_neg (fun h => ee.1 h h2), decide_eq_true h2, Bool.and_true, impl_areRising_is _ g hg (by omega), kz, impl_areRising_is _ e he (by omega), hK _ (by omega), impl_clash _ g e hg he (by omega), impl_sameAttrs_zero]
      simp only [kz]
      generalize rising (g.map pr) = x1
      generalize rising (e.map pr) = x2
      generalize attrsOk a l b c d m = x3
      generalize clash g e = x4
      generalize zeroA a l b c d m = x6
      by_cases h5 : (e.length : Int) > 0
      · rw [if_pos h5]
        have h5' : 0 < e.length := by omega
        rw [decide_eq_true h5']
        cases x1 <;> cases x2 <;> cases x3 <;> cases x4 <;> rfl
      · rw [if_neg h5]
        have h5' : ¬ 0 < e.length := by omega
        rw [decide_eq_false h5']
        cases x1 <;> cases x2 <;> cases x3 <;> cases x4 <;> rfl
    · rw [if_pos (ee.2 h2), decide_eq_false h2]
      cases rising (g.map pr) <;> simp
  · rw [if_pos (eg.2 h1), decide_eq_false h1]
    simp
theorem spec_l4Zero_is (a : Int) (l : List Int) (b c d : Int) (m : List Int) : spec_l4Zero.f a l b c d m = some (zeroA a l b c d m) := by
  unfold spec_l4Zero.f zeroA
  have e1 : ((l.length : Int) = 0) ↔ l.length = 0 := by omega
  have e2 : (((m.length : Int) == 0)) = decide (m.length = 0) := by rw [beq_dec]; exact decide_eq_decide.mpr (by omega)
  rw [e2]
  by_cases h1 : a = 0
  · rw [if_pos h1]
    by_cases h2 : l.length = 0
    · rw [if_pos (e1.2 h2)]
      by_cases h3 : b = 0
      · rw [if_pos h3]
        by_cases h4 : c = 0
        · rw [if_pos h4]
          by_cases h5 : d = 0
          · rw [if_pos h5]; simp [h1, h2, h3, h4, h5]
          · rw [if_neg h5]; simp [h5]
        · rw [if_neg h4]; simp [h4]
      · rw [if_neg h3]; simp [h3]
    · rw [if_neg (fun h => h2 (e1.1 h))]
      have : decide (l.length = 0) = false := decide_eq_false h2
      rw [this]; simp only [kh, Bool.and_false]
  · rw [if_neg h1]; simp [h1]
theorem spec_GoodUpdate_is (g : List S35) (a : Int) (l : List Int) (b c d : Int) (m : List Int) (e : List S35) (hg : g.length ≤ 1048576) (he : e.length ≤ 1048576) (hl : l.length ≤ 1048576) (hm : m.length ≤ 1048576) :
    Ev (fun k => spec_GoodUpdate.f k g a l b c d m e) (updOk g a l b c d m e) := by
  obtain ⟨K, hK⟩ := spec_GoodAttrs_is a l b c d m hl hm
  replace hK : ∀ k, K ≤ k → spec_GoodAttrs.f k a l b c d m = _ := hK
  have key : ∀ (rest pre : List S35) (k : Nat), e = pre ++ rest → rest.length + K + g.length + e.length + 10 < k →
      spec_GoodUpdate.l0 k e (e.length : Int) (pre.length : Int) g a l b c d m e = some (if clash g rest = true then false else ((rising (g.map pr) && decide (g.length ≤ 10)) && ((rising (e.map pr) && decide (e.length ≤ 10)) && (attrsOk a l b c d m && (decide (0 < e.length) || zeroA a l b c d m))))) := by
    intro rest
    induction rest with
    | nil =>
      intro pre k e' hk
      obtain ⟨k, rfl⟩ : ∃ m, k = m + 1 := ⟨k - 1, by omega⟩
      rw [spec_GoodUpdate.l0, if_neg (by rw [e']; simp), spec_l4Rising_is _ g hg (by simp at hk; omega), kz, spec_l4Rising_is _ e he (by simp at hk; omega), hK _ (by simp at hk; omega), spec_l4Zero_is]
      simp only [kz]
      have hc : clash g [] = false := rfl
      have hc' : ¬ clash g [] = true := by rw [hc]; decide
      rw [if_neg hc']
      generalize (rising (g.map pr) && decide (g.length ≤ 10)) = x1
      generalize (rising (e.map pr) && decide (e.length ≤ 10)) = x2
      generalize attrsOk a l b c d m = x3
      generalize zeroA a l b c d m = x6
      by_cases h5 : (e.length : Int) > 0
      · rw [if_pos h5]
        have h5' : 0 < e.length := by omega
        rw [decide_eq_true h5']
        cases x1 <;> cases x2 <;> cases x3 <;> rfl
      · rw [if_neg h5]
        have h5' : ¬ 0 < e.length := by omega
        rw [decide_eq_false h5']
        cases x1 <;> cases x2 <;> cases x3 <;> rfl
    | cons x rest ih =>
      intro pre k e' hk
      obtain ⟨k, rfl⟩ : ∃ m, k = m + 1 := ⟨k - 1, by omega⟩
      simp only [kv] at hk
      have h1 : rd_T35 e (pre.length : Int) = x := by rw [e']; exact rdm_Prefix _ _ _
      rw [spec_GoodUpdate.l0, if_pos (by rw [e']; exact lt_mid _ _ _), if_pos (len_nn _), if_pos (by rw [e']; exact lt_mid _ _ _), h1, spec_l4In_is k g x.f0 x.f1 hg (by omega), kz, wrap_mid (rest := rest) (by rw [← e']; simp only [maxLen]; omega), ih (pre ++ [x]) k (by rw [e']; simp) (by omega)]
      have hc : clash g (x :: rest) = ((g.any fun q => x.f0 == q.f0 && x.f1 == q.f1) || clash g rest) := rfl
      rw [hc]
      cases (g.any fun q => x.f0 == q.f0 && x.f1 == q.f1)
      · rw [if_neg (by decide), Bool.false_or]
      · rw [if_pos rfl, Bool.true_or, if_pos rfl]
  refine ⟨e.length + K + g.length + e.length + 11, fun k hk => ?_⟩
  show spec_GoodUpdate.f k g a l b c d m e = _
  unfold spec_GoodUpdate.f updOk
  have := key e [] k rfl (by omega)
  simp only [List.length_nil, Int.natCast_zero] at this
  rw [this]
  congr 1
  generalize (rising (g.map pr) && decide (g.length ≤ 10)) = x1
  generalize (rising (e.map pr) && decide (e.length ≤ 10)) = x2
  generalize attrsOk a l b c d m = x3
  generalize (decide (0 < e.length) || zeroA a l b c d m) = x5
  cases clash g e <;> cases x1 <;> cases x2 <;> cases x3 <;> cases x5 <;> rfl
theorem laws_eqUpdate_refl (k : Nat) (g : List S35) (a : Int) (l : List Int) (b c d : Int) (m : List Int) (e : List S35) (hg : g.length ≤ maxLen) (hl : l.length ≤ maxLen) (hm : m.length ≤ maxLen) (he : e.length ≤ maxLen) (hk : g.length + l.length + m.length + e.length < k) :
    laws_eqUpdate.f k g a l b c d m e g a l b c d m e = some true := by
  unfold laws_eqUpdate.f
  rw [laws_eqPrefixS_refl k g hg (by omega), kz, if_pos rfl, laws_eqAttrs_refl k a l b c d m hl hm (by omega), kz, if_pos rfl, laws_eqPrefixS_refl k e he (by omega), kz, if_pos rfl]
theorem hb_len (x : Int) (n : Nat) : (hb x n).length = n := by
  induction n with
  | zero => rfl
  | succ n ih => simp [hb, ih]
def bW (n : Nat) (x : Int) : ByteArray := strOfNums (hb x n)
theorem bW_size (n : Nat) (x : Int) : (bW n x).size = n := by
  have : (strOfNums (hb x n)).size = (hb x n).length := by simp [strOfNums, ByteArray.size]
  unfold bW; rw [this, hb_len]
theorem bW_val (k n : Nat) (x : Int) (hk : n < k) (hn : n ≤ 4) : impl_bytesOf.f k x (n : Int) = some (bW n x) := impl_bytesOf_is k n x hk (by omega)
def seg (s : ByteArray) (i n : Nat) : List UInt8 := (s.data.toList.drop i).take n
theorem seg_zero (s : ByteArray) (i : Nat) : seg s i 0 = [] := by unfold seg; simp
theorem seg_succ (s : ByteArray) (i n : Nat) (h : i < s.size) : seg s i (n + 1) = UInt8.ofNat (bt s (i : Int)).toNat :: seg s (i + 1) n := by
  unfold seg
  have hl : i < s.data.toList.length := by simpa using h
  rw [List.drop_eq_getElem_cons hl, List.take_succ_cons]
  congr 1
  have : bt s (i : Int) = ((s[i]'h).toNat : Int) := by unfold bt; rw [dif_pos (by simpa using h)]; rfl
  rw [this, Int.toNat_natCast]
  have e2 : s.data.toList[i] = s[i]'h := by simp [ByteArray.getElem_eq_getElem_data]
  rw [e2]
  simp
theorem seg_add (s : ByteArray) (i m n : Nat) : seg s i (m + n) = seg s i m ++ seg s (i + m) n := by
  unfold seg
  rw [List.take_add, List.drop_drop]
theorem seg_all (s : ByteArray) : seg s 0 s.size = s.data.toList := by
  unfold seg
  rw [List.drop_zero, List.take_of_length_le]
  rw [Array.length_toList]
  exact Nat.le_refl _
theorem seg_len (s : ByteArray) (i n : Nat) (h : i + n ≤ s.size) : (seg s i n).length = n := by
  unfold seg
  rw [List.length_take, List.length_drop]
  have : s.data.toList.length = s.size := by rw [Array.length_toList]; rfl
  omega
theorem orB {x b : Int} (h0 : 0 ≤ x) (h1 : x ≤ 1099511627776) (b0 : 0 ≤ b) (b1 : b ≤ 255) : Go.bits .or .i64 (wrap64 (x * 256)) (wrap64 b) = x * 256 + b := by
  rw [wrap_id (x := x * 256) (by omega) (by omega), wrap_id (x := b) (by omega) (by omega)]
  exact bits_join .i64 62 (by decide) (fun n h2 h3 => by
    have h4 : n < 4611686018427387904 := by simpa using h3
    show IntKind.i64.wrap n = n
    rw [IntKind.wrap_i64]; omega) 8 (x * 256) b (by omega) (by show x * 256 % 256 = 0; omega) (by show x * 256 < 4611686018427387904; omega) b0 (by show b < 256; omega) (by show b < 4611686018427387904; omega)
theorem readN_step (s : ByteArray) (n : Nat) (i x : Int) (h0 : 0 ≤ x) (h1 : x ≤ 1099511627776) : readN s (n + 1) i x = readN s n (i + 1) (x * 256 + bt s i) := by
  have hb := bt_range s i
  rw [readN, orB h0 h1 hb.1 hb.2]
theorem shr_lit (x : Int) (n : Nat) (h : n ≤ 64) : shr .i64 x (n : Int) = x / 2 ^ n := by
  unfold shr
  rw [show min (n : Int).toNat IntKind.i64.bits = n by show min (n : Int).toNat 64 = n; omega]
theorem hb_four (x : Int) : hb x 4 = [x / 16777216 % 256, x / 65536 % 256, x / 256 % 256, x % 256] ∧ hb x 3 = [x / 65536 % 256, x / 256 % 256, x % 256] ∧ hb x 2 = [x / 256 % 256, x % 256] ∧ hb x 1 = [x % 256] := by
  have e0 : shr .i64 x (8 * ((0 : Nat) : Int)) = x := by have := shr_lit x 0 (by omega); simpa using this
  have e1 : shr .i64 x (8 * ((1 : Nat) : Int)) = x / 256 := by have := shr_lit x 8 (by omega); simpa using this
  have e2 : shr .i64 x (8 * ((2 : Nat) : Int)) = x / 65536 := by have := shr_lit x 16 (by omega); simpa using this
  have e3 : shr .i64 x (8 * ((3 : Nat) : Int)) = x / 16777216 := by have := shr_lit x 24 (by omega); simpa using this
  refine ⟨?_, ?_, ?_, ?_⟩ <;> simp only [hb, e0, e1, e2, e3]
theorem bW_list (n : Nat) (x : Int) : (bW n x).data.toList = (hb x n).map (fun n => UInt8.ofNat n.toNat) := by unfold bW strOfNums; simp
theorem readN_range (s : ByteArray) : ∀ (n : Nat) (i : Int), n ≤ 4 → 0 ≤ readN s n i 0 ∧ readN s n i 0 < 4294967296
  | 0, i, _ => by simp [readN]
  | 1, i, _ => by
    have h0 := bt_range s i
    rw [readN_step s 0 i 0 (by omega) (by omega), readN]; omega
  | 2, i, _ => by
    have h0 := bt_range s i; have h1 := bt_range s (i + 1)
    rw [readN_step s 1 i 0 (by omega) (by omega), readN_step s 0 _ _ (by omega) (by omega), readN]; omega
  | 3, i, _ => by
    have h0 := bt_range s i; have h1 := bt_range s (i + 1); have h2 := bt_range s (i + 1 + 1)
    rw [readN_step s 2 i 0 (by omega) (by omega), readN_step s 1 _ _ (by omega) (by omega), readN_step s 0 _ _ (by omega) (by omega), readN]; omega
  | 4, i, _ => by
    have h0 := bt_range s i; have h1 := bt_range s (i + 1); have h2 := bt_range s (i + 1 + 1); have h3 := bt_range s (i + 1 + 1 + 1)
    rw [readN_step s 3 i 0 (by omega) (by omega), readN_step s 2 _ _ (by omega) (by omega), readN_step s 1 _ _ (by omega) (by omega), readN_step s 0 _ _ (by omega) (by omega), readN]; omega
  | n + 5, i, h => by omega
theorem num_seg (s : ByteArray) : ∀ (n i : Nat), n ≤ 4 → i + n ≤ s.size → (bW n (readN s n (i : Int) 0)).data.toList = seg s i n
  | 0, i, _, _ => by rw [bW_list, seg_zero]; rfl
  | 1, i, _, h => by
    have h0 := bt_range s (i : Int)
    rw [bW_list, seg_succ s i 0 (by omega), seg_zero, readN_step s 0 i 0 (by omega) (by omega), readN, (hb_four _).2.2.2]
    simp only [kb, List.map_nil]
    rw [show ((0 : Int) * 256 + bt s (i : Int)) % 256 = bt s (i : Int) by omega]
  | 2, i, _, h => by
    have h0 := bt_range s (i : Int); have h1 := bt_range s ((i : Int) + 1)
    rw [bW_list, seg_succ s i 1 (by omega), seg_succ s (i + 1) 0 (by omega), seg_zero, readN_step s 1 i 0 (by omega) (by omega), readN_step s 0 _ _ (by omega) (by omega), readN, (hb_four _).2.2.1]
    simp only [kb, List.map_nil]
    rw [show (((0 : Int) * 256 + bt s (i : Int)) * 256 + bt s ((i : Int) + 1)) / 256 % 256 = bt s (i : Int) by omega, show (((0 : Int) * 256 + bt s (i : Int)) * 256 + bt s ((i : Int) + 1)) % 256 = bt s ((i : Int) + 1) by omega, show (((i + 1 : Nat) : Int)) = (i : Int) + 1 by omega]
  | 3, i, _, h => by
    have h0 := bt_range s (i : Int); have h1 := bt_range s ((i : Int) + 1); have h2 := bt_range s ((i : Int) + 1 + 1)
    rw [bW_list, seg_succ s i 2 (by omega), seg_succ s (i + 1) 1 (by omega), seg_succ s (i + 1 + 1) 0 (by omega), seg_zero, readN_step s 2 i 0 (by omega) (by omega), readN_step s 1 _ _ (by omega) (by omega), readN_step s 0 _ _ (by omega) (by omega), readN, (hb_four _).2.1]
    simp only [kb, List.map_nil]
    rw [show ((i + 1 : Nat) : Int) = (i : Int) + 1 by omega, show ((i + 1 + 1 : Nat) : Int) = (i : Int) + 1 + 1 by omega]
    generalize bt s (i : Int) = a at h0 ⊢
    generalize bt s ((i : Int) + 1) = b at h1 ⊢
    generalize bt s ((i : Int) + 1 + 1) = c at h2 ⊢
    rw [show (((0 * 256 + a) * 256 + b) * 256 + c) / 65536 % 256 = a by omega, show (((0 * 256 + a) * 256 + b) * 256 + c) / 256 % 256 = b by omega, show (((0 * 256 + a) * 256 + b) * 256 + c) % 256 = c by omega]
  | 4, i, _, h => by
    have h0 := bt_range s (i : Int); have h1 := bt_range s ((i : Int) + 1); have h2 := bt_range s ((i : Int) + 1 + 1); have h3 := bt_range s ((i : Int) + 1 + 1 + 1)
    rw [bW_list, seg_succ s i 3 (by omega), seg_succ s (i + 1) 2 (by omega), seg_succ s (i + 1 + 1) 1 (by omega), seg_succ s (i + 1 + 1 + 1) 0 (by omega), seg_zero, readN_step s 3 i 0 (by omega) (by omega), readN_step s 2 _ _ (by omega) (by omega), readN_step s 1 _ _ (by omega) (by omega), readN_step s 0 _ _ (by omega) (by omega), readN, (hb_four _).1]
    simp only [kb, List.map_nil]
    rw [show ((i + 1 : Nat) : Int) = (i : Int) + 1 by omega, show ((i + 1 + 1 : Nat) : Int) = (i : Int) + 1 + 1 by omega, show ((i + 1 + 1 + 1 : Nat) : Int) = (i : Int) + 1 + 1 + 1 by omega]
    generalize bt s (i : Int) = a at h0 ⊢
    generalize bt s ((i : Int) + 1) = b at h1 ⊢
    generalize bt s ((i : Int) + 1 + 1) = c at h2 ⊢
    generalize bt s ((i : Int) + 1 + 1 + 1) = d at h3 ⊢
    rw [show ((((0 * 256 + a) * 256 + b) * 256 + c) * 256 + d) / 16777216 % 256 = a by omega, show ((((0 * 256 + a) * 256 + b) * 256 + c) * 256 + d) / 65536 % 256 = b by omega, show ((((0 * 256 + a) * 256 + b) * 256 + c) * 256 + d) / 256 % 256 = c by omega, show ((((0 * 256 + a) * 256 + b) * 256 + c) * 256 + d) % 256 = d by omega]
  | n + 5, i, h, _ => by omega
def prefW (a n : Int) : ByteArray := bW 1 n ++ strOfNums ((hb a 4).take (octets n))
theorem prefW_size (a n : Int) : (prefW a n).size ≤ 5 := by
  unfold prefW
  have : (strOfNums ((hb a 4).take (octets n))).size = ((hb a 4).take (octets n)).length := by simp [strOfNums, ByteArray.size]
  rw [kq, bW_size, this, List.length_take, hb_len]
  omega
theorem ru_pfx (k : Nat) (hk : 10 ≤ k) (a n : Int) (h0 : 0 ≤ n) (h1 : n ≤ 32) : impl_prefixBytes.f k a n = some (prefW a n) := by
  obtain ⟨hm, hm4⟩ := octets_is h0 (by omega)
  have hle : octets n ≤ 4 := by omega
  unfold prefW
  generalize octets n = m at hm hm4 hle ⊢
  have i1 := bW_val k 1 n (by omega) (by omega)
  have i4 := bW_val k 4 a (by omega) (by omega)
  rw [show ((1 : Nat) : Int) = 1 from rfl] at i1
  rw [show ((4 : Nat) : Int) = 4 from rfl] at i4
  unfold impl_prefixBytes.f
  rw [i1, i4, hm]
  simp only [kz]
  have hx : (bW 4 a).extract 0 m = strOfNums ((hb a 4).take m) := by
    unfold bW strOfNums; ext1; simp [ByteArray.data_extract]
  have hs : (strOfNums ((hb a 4).take m)).size = ((hb a 4).take m).length := by simp [strOfNums, ByteArray.size]
  rw [if_pos (by omega), if_pos (by rw [bW_size]; omega), show ((m : Int)).toNat = m by omega, hx, if_pos (by rw [bW_size, hs, List.length_take, hb_len]; omega)]
theorem pfx_seg (s : ByteArray) (i : Nat) (hi : i ≤ s.size) {t : Int × Int × Int} (h : takeP s (i : Int) = some t) : 0 ≤ t.2.1 ∧ t.2.1 ≤ 32 ∧ ∃ n : Nat, t.2.2 = ((i + n : Nat) : Int) ∧ i + n ≤ s.size ∧ 1 ≤ n ∧ (prefW t.1 t.2.1).data.toList = seg s i n := by
  unfold takeP at h
  split at h
  · rename_i c1
    split at h
    · cases h
    · rename_i c2
      split at h
      · rename_i c3
        cases h
        have hbt := bt_range s (i : Int)
        obtain ⟨_, ho⟩ := octets_is hbt.1 hbt.2
        have hle : octets (bt s (i : Int)) ≤ 4 := by omega
        refine ⟨hbt.1, by dsimp only; omega, 1 + octets (bt s (i : Int)), by dsimp only; omega, by omega, by omega, ?_⟩
        dsimp only
        unfold prefW
        have hone : (bW 1 (bt s (i : Int))).data.toList = seg s i 1 := by
          have := num_seg s 1 i (by omega) (by omega)
          rw [readN_one] at this
          exact this
        rw [kc, Array.toList_append, hone, seg_add]
        congr 1
        have hnum := num_seg s (octets (bt s (i : Int))) (i + 1) hle (by omega)
        rw [show ((i + 1 : Nat) : Int) = (i : Int) + 1 by omega] at hnum
        rw [← hnum, bW_list]
        have hr := readN_range s (octets (bt s (i : Int))) ((i : Int) + 1) hle
        have hsz : ∀ (x : Int) (m : Nat), m = octets (bt s (i : Int)) → 0 ≤ x → x < 256 ^ m → (hb (shl .i64 x (32 - 8 * (m : Int))) 4).take m = hb x m := by
          intro x m hm hx0 hx1
          have hm4 : m ≤ 4 := by omega
          have hsh : shl .i64 x (32 - 8 * (m : Int)) = x * 2 ^ (32 - 8 * m) := by
            unfold shl
            have e : min (32 - 8 * (m : Int)).toNat IntKind.i64.bits = 32 - 8 * m := by show min (32 - 8 * (m : Int)).toNat 64 = _; omega
            rw [e]
            rw [i64_w]
            refine wrap_id ?_ ?_
            · have : 0 ≤ x * 2 ^ (32 - 8 * m) := Int.mul_nonneg hx0 (by exact_mod_cast Nat.zero_le _)
              omega
            · have h5 : m = 0 ∨ m = 1 ∨ m = 2 ∨ m = 3 ∨ m = 4 := by omega
              rcases h5 with rfl | rfl | rfl | rfl | rfl <;> simp at hx1 ⊢ <;> omega
          rw [hsh, (hb_four _).1]
          have h5 : m = 0 ∨ m = 1 ∨ m = 2 ∨ m = 3 ∨ m = 4 := by omega
          rcases h5 with rfl | rfl | rfl | rfl | rfl
          · rfl
          · rw [(hb_four x).2.2.2]; simp at hx1 ⊢ <;> omega
          · rw [(hb_four x).2.2.1]; simp at hx1 ⊢ <;> omega
          · rw [(hb_four x).2.1]; simp at hx1 ⊢ <;> omega
          · rw [(hb_four x).1]; simp at hx1 ⊢
        have hlt : ∀ (m : Nat) (j : Int), m ≤ 4 → readN s m j 0 < 256 ^ m := by
          intro m j hm
          have h5 : m = 0 ∨ m = 1 ∨ m = 2 ∨ m = 3 ∨ m = 4 := by omega
          have g0 := bt_range s j; have g1 := bt_range s (j + 1); have g2 := bt_range s (j + 1 + 1)
          rcases h5 with rfl | rfl | rfl | rfl | rfl
          · simp [readN]
          · rw [readN_step s 0 _ 0 (by omega) (by omega), readN]; simp; omega
          · rw [readN_step s 1 _ 0 (by omega) (by omega), readN_step s 0 _ _ (by omega) (by omega), readN]; simp; omega
          · rw [readN_step s 2 _ 0 (by omega) (by omega), readN_step s 1 _ _ (by omega) (by omega), readN_step s 0 _ _ (by omega) (by omega), readN]; simp; omega
          · have := (readN_range s 4 j (by omega)).2; simpa using this
        rw [← hsz _ _ rfl hr.1 (hlt _ _ hle)]
        unfold strOfNums
        simp
      · cases h
  · cases h
def codeP (s : ByteArray) (i : Int) : Int := if i + 1 ≤ s.size then (if bt s i > 32 then 3 else 1) else 1
theorem codeP_ne (s : ByteArray) (i : Int) : codeP s i ≠ 0 := by unfold codeP; split <;> (try split) <;> omega
theorem spec_prefix_code (s : ByteArray) (hs : s.size ≤ 1000000000) (k : Nat) (hk : 100 ≤ k) (i : Int) (h0 : 0 ≤ i) (h1 : i ≤ s.size) : ∃ q, spec_l4R_prefix.f k s i 0 = some q ∧ (∀ t, takeP s i = some t → q = (t.1, t.2.1, s, t.2.2, 0)) ∧ (takeP s i = none → q.2.2.2.2 = codeP s i) ∧ q.2.2.1 = s := by
  obtain ⟨k, rfl⟩ : ∃ m, k = m + 1 := ⟨k - 1, by omega⟩
  have hn := spec_number_is s hs 1 (k + 1) i (by omega) (by omega) h0 h1
  unfold spec_l4R_prefix.f takeP
  rw [show ((1 : Nat) : Int) = 1 from rfl] at hn
  rw [hn, kz, readN_one]
  have hb := bt_range s i
  have ho := octets_is hb.1 hb.2
  by_cases h2 : i + 1 ≤ (s.size : Int)
  · rw [if_pos h2, if_pos h2]
    simp only [if_true, spec_l4R_prefix.j0]
    by_cases h3 : bt s i > 32
    · rw [if_pos (decide_eq_true h3), if_pos h3]
      have hz : ∀ n, spec_l4R_number.f k s (i + 1) 3 n = some (0, s, i + 1, 3) := by
        intro n
        obtain ⟨k, rfl⟩ : ∃ m, k = m + 1 := ⟨k - 1, by omega⟩
        unfold spec_l4R_number.f
        rw [if_neg (by omega)]
        simp only [spec_l4R_number.j0]
        simp
      rw [hz]
      simp only [kz]
      rw [if_neg (by omega)]
      exact ⟨_, rfl, fun t h => by simp at h, fun _ => by first | simp [codeP, h2, h3] | simp [codeP, h2], rfl⟩
    · rw [if_neg (by simpa using h3), if_neg h3, ho.1, spec_number_is s hs (octets (bt s i)) k (i + 1) (by omega) (by omega) (by omega) h2]
      simp only [kz]
      by_cases h4 : i + 1 + (octets (bt s i) : Int) ≤ s.size
      · rw [if_pos h4, if_pos h4]
        simp only [if_true]
        rw [wrap_id (x := 8 * (octets (bt s i) : Int)) (by omega) (by omega), wrap_id (x := 32 - 8 * (octets (bt s i) : Int)) (by omega) (by omega), u64_id (by omega) (by omega), if_pos (by omega)]
        exact ⟨_, rfl, fun t h => by cases h; rfl, fun h => by simp at h, rfl⟩
      · rw [if_neg h4, if_neg h4]
        simp only []
        rw [if_neg (by omega)]
        exact ⟨_, rfl, fun t h => by simp at h, fun _ => by first | simp [codeP, h2, h3] | simp [codeP, h2], rfl⟩
  · rw [if_neg h2, if_neg h2]
    simp only []
    rw [if_neg (by omega)]
    simp only [spec_l4R_prefix.j0]
    rw [if_neg (by simp)]
    have hz : spec_l4R_number.f k s i 1 (wrap64 (Int.tdiv (wrap64 (0 + 7)) 8)) = some (0, s, i, 1) := by
      obtain ⟨k, rfl⟩ : ∃ m, k = m + 1 := ⟨k - 1, by omega⟩
      unfold spec_l4R_number.f
      rw [if_neg (by omega)]
      simp only [spec_l4R_number.j0]
      simp
    rw [hz]
    simp only [kz]
    rw [if_neg (by omega)]
    exact ⟨_, rfl, fun t h => by simp at h, fun _ => by first | simp [codeP, h2, h3] | simp [codeP, h2], rfl⟩
theorem impl_prefix_code (s : ByteArray) (hs : s.size ≤ 1000000000) (k : Nat) (hk : 100 ≤ k) (i : Int) (h0 : 0 ≤ i) (h1 : i ≤ s.size) : ∃ q, impl_input_prefix.f k s i 0 = some q ∧ (∀ t, takeP s i = some t → q = (t.1, t.2.1, s, t.2.2, 0)) ∧ (takeP s i = none → q.2.2.2.2 = codeP s i) ∧ q.2.2.1 = s := by
  obtain ⟨k, rfl⟩ : ∃ m, k = m + 1 := ⟨k - 1, by omega⟩
  have hn := impl_number_is s hs 1 (k + 1) i (by omega) (by omega) h0 h1
  unfold impl_input_prefix.f takeP
  rw [show ((1 : Nat) : Int) = 1 from rfl] at hn
  rw [hn, kz, readN_one]
  have hb := bt_range s i
  have ho := octets_is hb.1 hb.2
  by_cases h2 : i + 1 ≤ (s.size : Int)
  · rw [if_pos h2, if_pos h2]
    simp only [if_true, impl_input_prefix.j0]
    by_cases h3 : bt s i > 32
    · rw [if_pos (decide_eq_true h3), if_pos h3]
      exact ⟨_, rfl, fun t h => by simp at h, fun _ => by first | simp [codeP, h2, h3] | simp [codeP, h2], rfl⟩
    · rw [if_neg (by simpa using h3), if_neg h3, ho.1, impl_number_is s hs (octets (bt s i)) k (i + 1) (by omega) (by omega) (by omega) h2]
      rw [kz]
      have w1 : wrap64 (8 * (octets (bt s i) : Int)) = 8 * (octets (bt s i) : Int) := wrap_id (by omega) (by omega)
      have w2 : wrap64 (32 - 8 * (octets (bt s i) : Int)) = 32 - 8 * (octets (bt s i) : Int) := wrap_id (by omega) (by omega)
      have w3 : 0 ≤ 32 - 8 * (octets (bt s i) : Int) := by omega
      by_cases h4 : i + 1 + (octets (bt s i) : Int) ≤ s.size
      · rw [if_pos h4, if_pos h4]
        rw [w1, w2, if_pos w3]
        dsimp only
        exact ⟨_, rfl, fun t h => by cases h; rfl, fun h => by simp at h, rfl⟩
      · rw [if_neg h4, if_neg h4]
        rw [w1, w2, if_pos w3]
        dsimp only
        exact ⟨_, rfl, fun t h => by simp at h, fun _ => by first | simp [codeP, h2, h3] | simp [codeP, h2], rfl⟩
  · rw [if_neg h2, if_neg h2]
    simp only []
    rw [if_neg (by omega)]
    simp only [impl_input_prefix.j0]
    rw [if_neg (by simp), if_neg (by omega)]
    exact ⟨_, rfl, fun t h => by simp at h, fun _ => by first | simp [codeP, h2, h3] | simp [codeP, h2], rfl⟩

def Same (s : ByteArray) (i1 i2 e : Int) : Prop := e = 0 → i1 = i2 ∧ 0 ≤ i1 ∧ i1 ≤ (s.size : Int)
theorem spec_number_bad (s : ByteArray) (k : Nat) (i e n : Int) (he : e ≠ 0) (hk : 1 ≤ k) : spec_l4R_number.f k s i e n = some (0, s, i, e) := by
  obtain ⟨k, rfl⟩ : ∃ m, k = m + 1 := ⟨k - 1, by omega⟩
  unfold spec_l4R_number.f
  rw [if_neg he, spec_l4R_number.j0, if_pos rfl, if_neg he]
theorem impl_number_bad (s : ByteArray) (k : Nat) (i e n : Int) (he : e ≠ 0) (hk : 2 ≤ k) : impl_input_number.f k s i e n = some (0, s, i, e) := by
  obtain ⟨k, rfl⟩ : ∃ m, k = m + 1 + 1 := ⟨k - 2, by omega⟩
  unfold impl_input_number.f
  rw [if_neg he, impl_input_number.j0, if_neg (by simp), impl_input_number.j1, if_neg he]
theorem stage_number (s : ByteArray) (hs : s.size ≤ 1000) (n : Nat) (hn : n ≤ 4) (i1 i2 e : Int) (h : Same s i1 i2 e) : ∃ v1 j1 v2 j2 e', (∀ k, 10 ≤ k → spec_l4R_number.f k s i1 e n = some (v1, s, j1, e')) ∧ (∀ k, 10 ≤ k → impl_input_number.f k s i2 e n = some (v2, s, j2, e')) ∧ Same s j1 j2 e' ∧ (e' = 0 → e = 0 ∧ v1 = v2 ∧ j1 = i1 + n ∧ v1 = readN s n i1 0) := by
  by_cases he : e = 0
  · subst he
    obtain ⟨rfl, h0, h1⟩ := h rfl
    by_cases hb : i1 + n ≤ (s.size : Int)
    · refine ⟨readN s n i1 0, i1 + n, readN s n i1 0, i1 + n, 0, fun k hk => ?_, fun k hk => ?_, fun _ => ⟨rfl, by omega, hb⟩, fun _ => ⟨rfl, rfl, rfl, rfl⟩⟩
      · rw [spec_number_is s (by omega) n k i1 (by omega) (by omega) h0 h1, if_pos hb]
      · rw [impl_number_is s (by omega) n k i1 (by omega) (by omega) h0 h1, if_pos hb]
    · refine ⟨0, i1, 0, i1, 1, fun k hk => ?_, fun k hk => ?_, fun hf => by omega, fun hf => by omega⟩
      · rw [spec_number_is s (by omega) n k i1 (by omega) (by omega) h0 h1, if_neg hb]
      · rw [impl_number_is s (by omega) n k i1 (by omega) (by omega) h0 h1, if_neg hb]
  · exact ⟨0, i1, 0, i2, e, fun k hk => spec_number_bad s k i1 e n he (by omega), fun k hk => impl_number_bad s k i2 e n he (by omega), fun hf => absurd hf he, fun hf => absurd hf he⟩
theorem stage_nums (s : ByteArray) (hs : s.size ≤ 1000) (w : Nat) (hw : w ≤ 4) : ∀ (m : Nat) (i1 i2 e : Int) (o1 o2 : List Int), m ≤ 255 → o1.length + m ≤ 1000 → o2.length + m ≤ 1000 → Same s i1 i2 e → ∃ l1 j1 l2 j2 e', (∀ k, 11 + m ≤ k → spec_l4R_numbers.l0 k (w : Int) o1 (m : Int) s i1 e = some (o1 ++ l1, s, j1, e')) ∧ (∀ k, 11 + m ≤ k → impl_input_numbers.l0 k (w : Int) o2 (m : Int) s i2 e = some (o2 ++ l2, s, j2, e')) ∧ Same s j1 j2 e' ∧ (e' = 0 → e = 0 ∧ l1 = l2 ∧ l1.length = m ∧ (∀ i : Nat, i1 = i → ∃ q : Nat, j1 = ((i + q : Nat) : Int) ∧ i + q ≤ s.size ∧ l1.flatMap (fun x => (bW w x).data.toList) = seg s i q)) := by
  intro m
  induction m with
  | zero =>
    intro i1 i2 e o1 o2 _ _ _ h
    refine ⟨[], i1, [], i2, e, fun k hk => ?_, fun k hk => ?_, h, fun he => ⟨he, rfl, rfl, fun i hi => ⟨0, by omega, by have := (h he).2.2; omega, by rw [seg_zero]; rfl⟩⟩⟩
    · obtain ⟨k, rfl⟩ : ∃ q, k = q + 1 := ⟨k - 1, by omega⟩
      rw [spec_l4R_numbers.l0, if_neg (by omega), kg]
    · obtain ⟨k, rfl⟩ : ∃ q, k = q + 1 := ⟨k - 1, by omega⟩
      rw [impl_input_numbers.l0, if_neg (by omega), kg]
  | succ m ih =>
    intro i1 i2 e o1 o2 hm h1 h2 h
    by_cases he : e = 0
    · obtain ⟨v1, j1, v2, j2, e1, s1, s2, hS, hv⟩ := stage_number s hs w hw i1 i2 e h
      obtain ⟨l1, p1, l2, p2, e2, t1, t2, hT, hl⟩ := ih j1 j2 e1 (o1 ++ [v1]) (o2 ++ [v2]) (by omega) (by simp; omega) (by simp; omega) hS
      have hwr : wrap64 (((m + 1 : Nat) : Int) - 1) = (m : Int) := by rw [wrap_id (by omega) (by omega)]; omega
      refine ⟨v1 :: l1, p1, v2 :: l2, p2, e2, fun k hk => ?_, fun k hk => ?_, hT, fun hz => ?_⟩
      · obtain ⟨k, rfl⟩ : ∃ q, k = q + 1 := ⟨k - 1, by omega⟩
        rw [spec_l4R_numbers.l0, if_pos (by omega), if_pos he, s1 k (by omega), kz]
        dsimp only
        rw [if_pos (by omega), hwr, t1 k (by omega), kk]
        rfl
      · obtain ⟨k, rfl⟩ : ∃ q, k = q + 1 := ⟨k - 1, by omega⟩
        rw [impl_input_numbers.l0, if_pos (by omega), if_pos he, s2 k (by omega), kz]
        dsimp only
        rw [if_pos (by omega), hwr, t2 k (by omega), kk]
        rfl
      · obtain ⟨a1, a2, a3, a4⟩ := hl hz
        obtain ⟨b1, b2, b3, b4⟩ := hv a1
        refine ⟨he, by rw [a2, b2], by simp [a3], fun i hi => ?_⟩
        have hj := (hS a1).2.2
        obtain ⟨q, c1, c2, c3⟩ := a4 (i + w) (by omega)
        refine ⟨w + q, by omega, by omega, ?_⟩
        rw [List.flatMap_cons, c3, b4, hi, num_seg s w i hw (by omega), seg_add]
    · refine ⟨[], i1, [], i2, e, fun k hk => ?_, fun k hk => ?_, h, fun hf => absurd hf he⟩
      · obtain ⟨k, rfl⟩ : ∃ q, k = q + 1 := ⟨k - 1, by omega⟩
        rw [spec_l4R_numbers.l0, if_pos (by omega), if_neg he, kg]
      · obtain ⟨k, rfl⟩ : ∃ q, k = q + 1 := ⟨k - 1, by omega⟩
        rw [impl_input_numbers.l0, if_pos (by omega), if_neg he, kg]
def numsW (w : Nat) (l : List Int) : ByteArray := l.foldl (fun s x => s ++ bW w x) (bW 1 l.length)
theorem foldW {α : Type} (f : α → ByteArray) : ∀ (l : List α) (s : ByteArray), (l.foldl (fun s x => s ++ f x) s).data.toList = s.data.toList ++ l.flatMap (fun x => (f x).data.toList)
  | [], s => by simp
  | a :: l, s => by
    rw [List.foldl_cons, foldW f l, kc, Array.toList_append, List.flatMap_cons, kk]
theorem stage_numbers (s : ByteArray) (hs : s.size ≤ 1000) (w : Nat) (hw : w ≤ 4) (i1 i2 e : Int) (h : Same s i1 i2 e) : ∃ l1 j1 l2 j2 e', (∀ k, 300 ≤ k → spec_l4R_numbers.f k s i1 e w = some (l1, s, j1, e')) ∧ (∀ k, 300 ≤ k → impl_input_numbers.f k s i2 e w = some (l2, s, j2, e')) ∧ Same s j1 j2 e' ∧ (e' = 0 → e = 0 ∧ l1 = l2 ∧ l1.length ≤ 255 ∧ (∀ i : Nat, i1 = i → ∃ q : Nat, j1 = ((i + q : Nat) : Int) ∧ i + q ≤ s.size ∧ (numsW w l1).data.toList = seg s i q)) := by
  obtain ⟨v1, j1, v2, j2, e1, s1, s2, hS, hv⟩ := stage_number s hs 1 (by omega) i1 i2 e h
  rw [show ((1 : Nat) : Int) = 1 from rfl] at s1 s2
  by_cases he : e1 = 0
  · obtain ⟨b1, b2, b3, b4⟩ := hv he
    rw [readN_one] at b4
    have hb := bt_range s i1
    have hv1 : v1 = ((bt s i1).toNat : Int) := by omega
    obtain ⟨l1, p1, l2, p2, e2, t1, t2, hT, hl⟩ := stage_nums s hs w hw (bt s i1).toNat j1 j2 e1 [] [] (by omega) (by simp; omega) (by simp; omega) hS
    refine ⟨l1, p1, l2, p2, e2, fun k hk => ?_, fun k hk => ?_, hT, fun hz => ?_⟩
    · unfold spec_l4R_numbers.f
      rw [s1 k (by omega), kz]
      dsimp only
      rw [hv1]
      exact t1 k (by omega)
    · unfold impl_input_numbers.f
      rw [s2 k (by omega), kz]
      dsimp only
      rw [← b2, hv1]
      exact t2 k (by omega)
    · obtain ⟨a1, a2, a3, a4⟩ := hl hz
      refine ⟨b1, a2, by omega, fun i hi => ?_⟩
      have hj := (hS he).2.2
      obtain ⟨q, c1, c2, c3⟩ := a4 (i + 1) (by omega)
      refine ⟨1 + q, by omega, by omega, ?_⟩
      unfold numsW
      rw [foldW, c3, seg_add]
      congr 1
      have := num_seg s 1 i (by omega) (by omega)
      rw [readN_one, ← hi] at this
      rw [a3, show (((bt s i1).toNat : Nat) : Int) = bt s i1 by omega, this]
  · obtain ⟨l1, p1, l2, p2, e2, t1, t2, hT, hl⟩ := stage_nums s hs w hw 0 j1 j2 e1 [] [] (by omega) (by simp) (by simp) hS
    have hz1 : ∀ k, 11 ≤ k → spec_l4R_numbers.l0 k (w : Int) [] v1 s j1 e1 = some ([], s, j1, e1) := fun k hk => by
      obtain ⟨k, rfl⟩ : ∃ q, k = q + 1 := ⟨k - 1, by omega⟩
      rw [spec_l4R_numbers.l0, if_neg he]
      split <;> rfl
    have hz2 : ∀ k, 11 ≤ k → impl_input_numbers.l0 k (w : Int) [] v2 s j2 e1 = some ([], s, j2, e1) := fun k hk => by
      obtain ⟨k, rfl⟩ : ∃ q, k = q + 1 := ⟨k - 1, by omega⟩
      rw [impl_input_numbers.l0, if_neg he]
      split <;> rfl
    refine ⟨[], j1, [], j2, e1, fun k hk => ?_, fun k hk => ?_, hS, fun hf => absurd hf he⟩
    · unfold spec_l4R_numbers.f
      rw [s1 k (by omega), kz]
      exact hz1 k (by omega)
    · unfold impl_input_numbers.f
      rw [s2 k (by omega), kz]
      exact hz2 k (by omega)
theorem stage_pfxs (s : ByteArray) (hs : s.size ≤ 1000) : ∀ (m : Nat) (i1 i2 e : Int) (o1 o2 : List S35), m ≤ 255 → o1.length + m ≤ 1000 → o2.length + m ≤ 1000 → Same s i1 i2 e → ∃ l1 j1 l2 j2 e', (∀ k, 101 + m ≤ k → spec_l4R_prefixes.l0 k o1 (m : Int) s i1 e = some (o1 ++ l1, s, j1, e')) ∧ (∀ k, 101 + m ≤ k → impl_input_prefixes.l0 k o2 (m : Int) s i2 e = some (o2 ++ l2, s, j2, e')) ∧ Same s j1 j2 e' ∧ (e' = 0 → e = 0 ∧ l1 = l2 ∧ l1.length = m ∧ (∀ p, p ∈ l1 → 0 ≤ p.f1 ∧ p.f1 ≤ 32) ∧ (∀ i : Nat, i1 = i → ∃ q : Nat, j1 = ((i + q : Nat) : Int) ∧ i + q ≤ s.size ∧ l1.flatMap (fun p => (prefW p.f0 p.f1).data.toList) = seg s i q)) := by
  intro m
  induction m with
  | zero =>
    intro i1 i2 e o1 o2 _ _ _ h
    refine ⟨[], i1, [], i2, e, fun k hk => ?_, fun k hk => ?_, h, fun he => ⟨he, rfl, rfl, by simp, fun i hi => ⟨0, by omega, by have := (h he).2.2; omega, by rw [seg_zero]; rfl⟩⟩⟩
    · obtain ⟨k, rfl⟩ : ∃ q, k = q + 1 := ⟨k - 1, by omega⟩
      rw [spec_l4R_prefixes.l0, if_neg (by omega), kg]
    · obtain ⟨k, rfl⟩ : ∃ q, k = q + 1 := ⟨k - 1, by omega⟩
      rw [impl_input_prefixes.l0, if_neg (by omega), kg]
  | succ m ih =>
    intro i1 i2 e o1 o2 hm h1 h2 h
    have hwr : wrap64 (((m + 1 : Nat) : Int) - 1) = (m : Int) := by rw [wrap_id (by omega) (by omega)]; omega
    by_cases he : e = 0
    · subst he
      obtain ⟨rfl, g0, g1⟩ := h rfl
      cases ht : takeP s i1 with
      | none =>
        have st : ∀ k, 100 ≤ k → ∃ a n j, spec_l4R_prefix.f k s i1 0 = some (a, n, s, j, codeP s i1) := fun k hk => by
          obtain ⟨⟨a, n, s', j, c⟩, q1, _, q2, q3⟩ := spec_prefix_code s (by omega) k hk i1 g0 g1
          have e1 : c = codeP s i1 := q2 ht
          have e2 : s' = s := q3
          subst e1; subst e2
          exact ⟨a, n, j, q1⟩
        have im : ∀ k, 100 ≤ k → ∃ a n j, impl_input_prefix.f k s i1 0 = some (a, n, s, j, codeP s i1) := fun k hk => by
          obtain ⟨⟨a, n, s', j, c⟩, q1, _, q2, q3⟩ := impl_prefix_code s (by omega) k hk i1 g0 g1
          have e1 : c = codeP s i1 := q2 ht
          have e2 : s' = s := q3
          subst e1; subst e2
          exact ⟨a, n, j, q1⟩
        obtain ⟨a1, n1, j1, f1⟩ := st 100 (by omega)
        obtain ⟨a2, n2, j2, f2⟩ := im 100 (by omega)
        have f1' : ∀ k, 100 ≤ k → spec_l4R_prefix.f k s i1 0 = some (a1, n1, s, j1, codeP s i1) := fun k hk => at_rounds (fun k => spec_l4R_prefix.mono _ _ _ k) hk f1
        have f2' : ∀ k, 100 ≤ k → impl_input_prefix.f k s i1 0 = some (a2, n2, s, j2, codeP s i1) := fun k hk => at_rounds (fun k => impl_input_prefix.mono _ _ _ k) hk f2
        have hc := codeP_ne s i1
        refine ⟨[⟨a1, n1⟩], j1, [⟨a2, n2⟩], j2, codeP s i1, fun k hk => ?_, fun k hk => ?_, fun hf => absurd hf hc, fun hf => absurd hf hc⟩
        · obtain ⟨k, rfl⟩ : ∃ q, k = q + 1 + 1 := ⟨k - 2, by omega⟩
          rw [spec_l4R_prefixes.l0, if_pos (by omega), if_pos rfl, f1' (k + 1) (by omega), kz]
          dsimp only
          rw [if_pos (by omega), hwr, spec_l4R_prefixes.l0, if_neg hc]
          split <;> rfl
        · obtain ⟨k, rfl⟩ : ∃ q, k = q + 1 + 1 := ⟨k - 2, by omega⟩
          rw [impl_input_prefixes.l0, if_pos (by omega), if_pos rfl, f2' (k + 1) (by omega), kz]
          dsimp only
          rw [if_pos (by omega), hwr, impl_input_prefixes.l0, if_neg hc]
          split <;> rfl
      | some t =>
        have hn1 : i1 = ((i1.toNat : Nat) : Int) := by omega
        obtain ⟨u0, u1, n, u2, u3, u4, u5⟩ := pfx_seg s i1.toNat (by omega) (t := t) (by rw [← hn1]; exact ht)
        have f1 : ∀ k, 100 ≤ k → spec_l4R_prefix.f k s i1 0 = some (t.1, t.2.1, s, t.2.2, 0) := fun k hk => by
          obtain ⟨q, q1, q2, _⟩ := spec_prefix_code s (by omega) k hk i1 g0 g1
          rw [q1, q2 t ht]
        have f2 : ∀ k, 100 ≤ k → impl_input_prefix.f k s i1 0 = some (t.1, t.2.1, s, t.2.2, 0) := fun k hk => by
          obtain ⟨q, q1, q2, _⟩ := impl_prefix_code s (by omega) k hk i1 g0 g1
          rw [q1, q2 t ht]
        obtain ⟨l1, p1, l2, p2, e2, t1, t2, hT, hl⟩ := ih t.2.2 t.2.2 0 (o1 ++ [⟨t.1, t.2.1⟩]) (o2 ++ [⟨t.1, t.2.1⟩]) (by omega) (by simp; omega) (by simp; omega) (fun _ => ⟨rfl, by omega, by omega⟩)
        refine ⟨⟨t.1, t.2.1⟩ :: l1, p1, ⟨t.1, t.2.1⟩ :: l2, p2, e2, fun k hk => ?_, fun k hk => ?_, hT, fun hz => ?_⟩
        · obtain ⟨k, rfl⟩ : ∃ q, k = q + 1 := ⟨k - 1, by omega⟩
          rw [spec_l4R_prefixes.l0, if_pos (by omega), if_pos rfl, f1 k (by omega), kz]
          dsimp only
          rw [if_pos (by omega), hwr, t1 k (by omega), kk]
          rfl
        · obtain ⟨k, rfl⟩ : ∃ q, k = q + 1 := ⟨k - 1, by omega⟩
          rw [impl_input_prefixes.l0, if_pos (by omega), if_pos rfl, f2 k (by omega), kz]
          dsimp only
          rw [if_pos (by omega), hwr, t2 k (by omega), kk]
          rfl
        · obtain ⟨a1, a2, a3, a4, a5⟩ := hl hz
          refine ⟨rfl, by rw [a2], by simp [a3], fun p hp => ?_, fun i hi => ?_⟩
          · rcases List.mem_cons.1 hp with rfl | hp
            · exact ⟨u0, u1⟩
            · exact a4 p hp
          · obtain ⟨q, c1, c2, c3⟩ := a5 (i1.toNat + n) u2
            refine ⟨n + q, by omega, by omega, ?_⟩
            rw [List.flatMap_cons, c3]
            dsimp only
            rw [u5, show i1.toNat = i by omega, seg_add]
    · refine ⟨[], i1, [], i2, e, fun k hk => ?_, fun k hk => ?_, h, fun hf => absurd hf he⟩
      · obtain ⟨k, rfl⟩ : ∃ q, k = q + 1 := ⟨k - 1, by omega⟩
        rw [spec_l4R_prefixes.l0, if_pos (by omega), if_neg he, kg]
      · obtain ⟨k, rfl⟩ : ∃ q, k = q + 1 := ⟨k - 1, by omega⟩
        rw [impl_input_prefixes.l0, if_pos (by omega), if_neg he, kg]
def pfxsW (l : List S35) : ByteArray := l.foldl (fun s p => s ++ prefW p.f0 p.f1) (bW 1 l.length)
theorem stage_prefixes (s : ByteArray) (hs : s.size ≤ 1000) (i1 i2 e : Int) (h : Same s i1 i2 e) : ∃ l1 j1 l2 j2 e', (∀ k, 400 ≤ k → spec_l4R_prefixes.f k s i1 e = some (l1, s, j1, e')) ∧ (∀ k, 400 ≤ k → impl_input_prefixes.f k s i2 e = some (l2, s, j2, e')) ∧ Same s j1 j2 e' ∧ (e' = 0 → e = 0 ∧ l1 = l2 ∧ l1.length ≤ 255 ∧ (∀ p, p ∈ l1 → 0 ≤ p.f1 ∧ p.f1 ≤ 32) ∧ (∀ i : Nat, i1 = i → ∃ q : Nat, j1 = ((i + q : Nat) : Int) ∧ i + q ≤ s.size ∧ 1 ≤ q ∧ (pfxsW l1).data.toList = seg s i q)) := by
  obtain ⟨v1, j1, v2, j2, e1, s1, s2, hS, hv⟩ := stage_number s hs 1 (by omega) i1 i2 e h
  rw [show ((1 : Nat) : Int) = 1 from rfl] at s1 s2
  by_cases he : e1 = 0
  · obtain ⟨b1, b2, b3, b4⟩ := hv he
    rw [readN_one] at b4
    have hb := bt_range s i1
    have hv1 : v1 = ((bt s i1).toNat : Int) := by omega
    obtain ⟨l1, p1, l2, p2, e2, t1, t2, hT, hl⟩ := stage_pfxs s hs (bt s i1).toNat j1 j2 e1 [] [] (by omega) (by simp; omega) (by simp; omega) hS
    refine ⟨l1, p1, l2, p2, e2, fun k hk => ?_, fun k hk => ?_, hT, fun hz => ?_⟩
    · unfold spec_l4R_prefixes.f
      rw [s1 k (by omega), kz]
      dsimp only
      rw [hv1]
      exact t1 k (by omega)
    · unfold impl_input_prefixes.f
      rw [s2 k (by omega), kz]
      dsimp only
      rw [← b2, hv1]
      exact t2 k (by omega)
    · obtain ⟨a1, a2, a3, a4, a5⟩ := hl hz
      refine ⟨b1, a2, by omega, a4, fun i hi => ?_⟩
      have hj := (hS he).2.2
      obtain ⟨q, c1, c2, c3⟩ := a5 (i + 1) (by omega)
      refine ⟨1 + q, by omega, by omega, by omega, ?_⟩
      unfold pfxsW
      rw [foldW (fun p : S35 => prefW p.f0 p.f1), c3, seg_add]
      congr 1
      have := num_seg s 1 i (by omega) (by omega)
      rw [readN_one, ← hi] at this
      rw [a3, show (((bt s i1).toNat : Nat) : Int) = bt s i1 by omega, this]
  · have hz1 : ∀ k, 11 ≤ k → spec_l4R_prefixes.l0 k [] v1 s j1 e1 = some ([], s, j1, e1) := fun k hk => by
      obtain ⟨k, rfl⟩ : ∃ q, k = q + 1 := ⟨k - 1, by omega⟩
      rw [spec_l4R_prefixes.l0, if_neg he]
      split <;> rfl
    have hz2 : ∀ k, 11 ≤ k → impl_input_prefixes.l0 k [] v2 s j2 e1 = some ([], s, j2, e1) := fun k hk => by
      obtain ⟨k, rfl⟩ : ∃ q, k = q + 1 := ⟨k - 1, by omega⟩
      rw [impl_input_prefixes.l0, if_neg he]
      split <;> rfl
    refine ⟨[], j1, [], j2, e1, fun k hk => ?_, fun k hk => ?_, hS, fun hf => absurd hf he⟩
    · unfold spec_l4R_prefixes.f
      rw [s1 k (by omega), kz]
      exact hz1 k (by omega)
    · unfold impl_input_prefixes.f
      rw [s2 k (by omega), kz]
      exact hz2 k (by omega)
theorem foldW_size {α : Type} (f : α → ByteArray) (c : Nat) (hf : ∀ x, (f x).size ≤ c) : ∀ (l : List α) (s : ByteArray), (l.foldl (fun s x => s ++ f x) s).size ≤ s.size + c * l.length
  | [], s => by simp
  | a :: l, s => by
    have h1 := foldW_size f c hf l (s ++ f a)
    have h2 := hf a
    rw [kq] at h1
    rw [List.foldl_cons, kv, Nat.mul_succ]
    omega
theorem ru_pfxs (l : List S35) (hl : l.length ≤ 1000) (hg : ∀ p, p ∈ l → 0 ≤ p.f1 ∧ p.f1 ≤ 32) (k : Nat) (hk : l.length + 12 ≤ k) : impl_prefixesBytes.f k l = some (pfxsW l) := by
  have key : ∀ (rest pre : List S35) (s : ByteArray) (k : Nat), l = pre ++ rest → rest.length + 11 ≤ k → s.size + 5 * rest.length ≤ 100000000 → impl_prefixesBytes.l0 k s l (l.length : Int) (pre.length : Int) = some (rest.foldl (fun s p => s ++ prefW p.f0 p.f1) s) := by
    intro rest
    induction rest with
    | nil =>
      intro pre s k e hk _
      obtain ⟨k, rfl⟩ : ∃ m, k = m + 1 := ⟨k - 1, by omega⟩
      rw [impl_prefixesBytes.l0, if_neg (by rw [e]; simp)]
      rfl
    | cons p rest ih =>
      intro pre s k e hk hs
      simp only [kv] at hk hs
      obtain ⟨k, rfl⟩ : ∃ m, k = m + 1 := ⟨k - 1, by omega⟩
      have h1 : rd_T35 l (pre.length : Int) = p := by rw [e]; exact rdm_Prefix _ _ _
      have hlt : (pre.length : Int) < (l.length : Int) := by rw [e]; exact lt_mid _ _ _
      have hp := hg p (by rw [e]; simp)
      have hz := prefW_size p.f0 p.f1
      have i2 := ih (pre ++ [p]) (s ++ prefW p.f0 p.f1) k (by rw [e]; simp) (by omega) (by rw [kq]; omega)
      have hw : wrap64 ((pre.length : Int) + 1) = ((pre ++ [p]).length : Int) := wrap_mid (rest := rest) (by rw [← e]; simp only [maxLen]; omega)
      rw [impl_prefixesBytes.l0, if_pos hlt, if_pos (len_nn _), if_pos hlt, h1, ru_pfx k (by omega) p.f0 p.f1 hp.1 hp.2, kz, if_pos (by omega), hw, i2]; rfl
  have k2 := key l [] (bW 1 l.length) k rfl (by omega) (by rw [bW_size]; omega)
  unfold impl_prefixesBytes.f
  have i1 := bW_val k 1 (l.length : Int) (by omega) (by omega)
  rw [show ((1 : Nat) : Int) = 1 from rfl] at i1
  rw [i1, kz]
  exact k2
theorem ru_nums (w : Nat) (hw4 : w ≤ 4) (l : List Int) (hl : l.length ≤ 1000) (k : Nat) (hk : l.length + 12 ≤ k) : impl_numbersBytes.f k l (w : Int) = some (numsW w l) := by
  have key : ∀ (rest pre : List Int) (s : ByteArray) (k : Nat), l = pre ++ rest → rest.length + 11 ≤ k → s.size + 4 * rest.length ≤ 100000000 → impl_numbersBytes.l0 k (w : Int) s l (l.length : Int) (pre.length : Int) = some (rest.foldl (fun s x => s ++ bW w x) s) := by
    intro rest
    induction rest with
    | nil =>
      intro pre s k e hk _
      obtain ⟨k, rfl⟩ : ∃ m, k = m + 1 := ⟨k - 1, by omega⟩
      rw [impl_numbersBytes.l0, if_neg (by rw [e]; simp)]
      rfl
    | cons p rest ih =>
      intro pre s k e hk hs
      simp only [kv] at hk hs
      obtain ⟨k, rfl⟩ : ∃ m, k = m + 1 := ⟨k - 1, by omega⟩
      have h1 : rd l (pre.length : Int) = p := by rw [e]; exact rd_mid _ _ _
      have hlt : (pre.length : Int) < (l.length : Int) := by rw [e]; exact lt_mid _ _ _
      have hz := bW_size w p
      have i2 := ih (pre ++ [p]) (s ++ bW w p) k (by rw [e]; simp) (by omega) (by rw [kq]; omega)
      have hw : wrap64 ((pre.length : Int) + 1) = ((pre ++ [p]).length : Int) := wrap_mid (rest := rest) (by rw [← e]; simp only [maxLen]; omega)
      rw [impl_numbersBytes.l0, if_pos hlt, if_pos (len_nn _), if_pos hlt, h1, bW_val k w p (by omega) hw4, kz, if_pos (by omega), hw, i2]; rfl
  have k2 := key l [] (bW 1 l.length) k rfl (by omega) (by rw [bW_size]; omega)
  unfold impl_numbersBytes.f
  have i1 := bW_val k 1 (l.length : Int) (by omega) (by omega)
  rw [show ((1 : Nat) : Int) = 1 from rfl] at i1
  rw [i1, kz]
  exact k2
def updW (g : List S35) (a : Int) (l : List Int) (b c d : Int) (m : List Int) (e : List S35) : ByteArray :=
  if e.length = 0 then pfxsW g else pfxsW g ++ (bW 1 a ++ (numsW 2 l ++ (bW 4 b ++ (bW 3 c ++ (bW 3 d ++ (numsW 3 m ++ pfxsW e))))))
theorem ru_upd (g : List S35) (a : Int) (l : List Int) (b c d : Int) (m : List Int) (e : List S35) (hg : g.length ≤ 1000) (hl : l.length ≤ 1000) (hm : m.length ≤ 1000) (he : e.length ≤ 1000)
    (hgg : ∀ p, p ∈ g → 0 ≤ p.f1 ∧ p.f1 ≤ 32) (hge : ∀ p, p ∈ e → 0 ≤ p.f1 ∧ p.f1 ≤ 32) (k : Nat) (hk : g.length + l.length + m.length + e.length + 12 ≤ k) : impl_updateBytes.f k g a l b c d m e = some (updW g a l b c d m e) := by
  have g2 := ru_pfxs g hg hgg k (by omega)
  have e2 := ru_pfxs e he hge k (by omega)
  have l2 := ru_nums 2 (by omega) l hl k (by omega)
  have m2 := ru_nums 3 (by omega) m hm k (by omega)
  rw [show ((2 : Nat) : Int) = 2 from rfl] at l2
  rw [show ((3 : Nat) : Int) = 3 from rfl] at m2
  have sg : (pfxsW g).size ≤ 1 + 5 * g.length := by have := foldW_size (fun p : S35 => prefW p.f0 p.f1) 5 (fun p => prefW_size _ _) g (bW 1 g.length); rwa [bW_size] at this
  have se : (pfxsW e).size ≤ 1 + 5 * e.length := by have := foldW_size (fun p : S35 => prefW p.f0 p.f1) 5 (fun p => prefW_size _ _) e (bW 1 e.length); rwa [bW_size] at this
  have sl : (numsW 2 l).size ≤ 1 + 2 * l.length := by have := foldW_size (fun x => bW 2 x) 2 (fun x => by rw [bW_size]; omega) l (bW 1 l.length); rwa [bW_size] at this
  have sm : (numsW 3 m).size ≤ 1 + 3 * m.length := by have := foldW_size (fun x => bW 3 x) 3 (fun x => by rw [bW_size]; omega) m (bW 1 m.length); rwa [bW_size] at this
  have a2 := bW_val k 1 a (by omega) (by omega)
  have b2 := bW_val k 4 b (by omega) (by omega)
  have c2 := bW_val k 3 c (by omega) (by omega)
  have d2 := bW_val k 3 d (by omega) (by omega)
  rw [show ((1 : Nat) : Int) = 1 from rfl] at a2
  rw [show ((4 : Nat) : Int) = 4 from rfl] at b2
  rw [show ((3 : Nat) : Int) = 3 from rfl] at c2 d2
  unfold updW
  by_cases h0 : e.length = 0
  · rw [if_pos h0]
    unfold impl_updateBytes.f; rw [g2, kz, if_pos (by omega)]
  · rw [if_neg h0]
    unfold impl_updateBytes.f
    rw [g2, e2, l2, m2, a2, b2, c2, d2]
    simp only [kz]
    rw [if_neg (by omega), if_pos (by simp only [bW_size]; omega), if_pos (by simp only [kq, bW_size]; omega), if_pos (by simp only [kq, bW_size]; omega), if_pos (by simp only [kq, bW_size]; omega), if_pos (by simp only [kq, bW_size]; omega), if_pos (by simp only [kq, bW_size]; omega), if_pos (by simp only [kq, bW_size]; omega)]
    simp only [ByteArray.append_assoc]
abbrev RU := List S35 × Int × List Int × Int × Int × Int × List Int × List S35 × Int × Bool
def failU (c : Int) : RU := ([], 0, [], 0, 0, 0, [], [], c, false)
theorem list_ne {a b : ByteArray} (h : a.size ≠ b.size) : ¬ a.toList = b.toList := by
  rw [ke, ke]
  intro e
  have := congrArg List.length e
  simp only [Array.length_toList] at this
  exact h this
theorem list_eq {a b : ByteArray} (h : a.data.toList = b.data.toList) : a.toList = b.toList := by
  rw [ke, ke, h]
theorem size_list (a : ByteArray) : a.size = a.data.toList.length := by rw [Array.length_toList]; rfl
theorem ru_end (s : ByteArray) (come : Bool) (j1 j2 e : Int) (hS : Same s j1 j2 e) (g1 g2 : List S35) (a1 a2 : Int) (l1 l2 : List Int) (b1 b2 c1 c2 d1 d2 : Int) (m1 m2 : List Int) (x1 x2 : List S35)
    (hv : e = 0 → g1 = g2 ∧ a1 = a2 ∧ l1 = l2 ∧ b1 = b2 ∧ c1 = c2 ∧ d1 = d2 ∧ m1 = m2 ∧ x1 = x2 ∧ g1.length ≤ 255 ∧ l1.length ≤ 255 ∧ m1.length ≤ 255 ∧ x1.length ≤ 255 ∧ (∀ p, p ∈ g1 → 0 ≤ p.f1 ∧ p.f1 ≤ 32) ∧ (∀ p, p ∈ x1 → 0 ≤ p.f1 ∧ p.f1 ≤ 32) ∧ (come = true → x1.length = 0 → (pfxsW g1).size < s.size) ∧ (come = false → x1.length = 0) ∧ ((come = true → x1.length ≠ 0) → j1 = s.size → (updW g1 a1 l1 b1 c1 d1 m1 x1).data.toList = s.data.toList)) :
    ∃ r : RU, (∃ K, ∀ k, K ≤ k → spec_ReadUpdate.j1 k s come s j1 e g1 a1 l1 b1 c1 d1 m1 x1 = some r) ∧ (∃ K, ∀ k, K ≤ k → impl_ReadUpdate.j1 k s s j2 e g2 a2 l2 b2 c2 d2 m2 x2 = some r) ∧ r.1.length ≤ 255 ∧ r.2.2.1.length ≤ 255 ∧ r.2.2.2.2.2.2.1.length ≤ 255 ∧ r.2.2.2.2.2.2.2.1.length ≤ 255 := by
  by_cases he : e = 0
  · obtain ⟨rfl, rfl, rfl, rfl, rfl, rfl, rfl, rfl, hg, hl, hm, hx, hgp, hxp, h1, h2, h3⟩ := hv he
    obtain ⟨rfl, q0, q1⟩ := hS he
    by_cases hlt : j1 < (s.size : Int)
    · refine ⟨failU 2, ⟨1, fun k hk => ?_⟩, ⟨1, fun k hk => ?_⟩, by simp [failU], by simp [failU], by simp [failU], by simp [failU]⟩
      · obtain ⟨k, rfl⟩ : ∃ k', k = k' + 1 := ⟨k - 1, by omega⟩
        rw [spec_ReadUpdate.j1, if_pos he, if_pos hlt]; rfl
      · obtain ⟨k, rfl⟩ : ∃ k', k = k' + 1 := ⟨k - 1, by omega⟩
        rw [impl_ReadUpdate.j1, if_pos he, if_pos hlt]; rfl
    · have hj : j1 = s.size := by omega
      obtain ⟨K1, G1⟩ := spec_GoodUpdate_is g1 a1 l1 b1 c1 d1 m1 x1 (by omega) (by omega) (by omega) (by omega)
      obtain ⟨K2, G2⟩ := impl_GoodUpdate_is g1 a1 l1 b1 c1 d1 m1 x1 (by omega) (by omega) (by omega) (by omega)
      replace G1 : ∀ k, K1 ≤ k → spec_GoodUpdate.f k g1 a1 l1 b1 c1 d1 m1 x1 = some (updOk g1 a1 l1 b1 c1 d1 m1 x1) := G1
      replace G2 : ∀ k, K2 ≤ k → impl_GoodUpdate.f k g1 a1 l1 b1 c1 d1 m1 x1 = some (updOk g1 a1 l1 b1 c1 d1 m1 x1) := G2
      have hU := ru_upd g1 a1 l1 b1 c1 d1 m1 x1 (by omega) (by omega) (by omega) (by omega) hgp hxp
      by_cases hz : come = true ∧ x1.length = 0
      · refine ⟨failU 3, ⟨1, fun k hk => ?_⟩, ⟨K2 + 2000, fun k hk => ?_⟩, by simp [failU], by simp [failU], by simp [failU], by simp [failU]⟩
        · obtain ⟨k, rfl⟩ : ∃ k', k = k' + 1 := ⟨k - 1, by omega⟩
          rw [spec_ReadUpdate.j1, if_pos he, if_neg hlt, if_pos hz.1, if_pos (by omega)]; rfl
        · obtain ⟨k, rfl⟩ : ∃ k', k = k' + 1 := ⟨k - 1, by omega⟩
          rw [impl_ReadUpdate.j1, if_pos he, if_neg hlt, G2 k (by omega), kz]
          by_cases hok : updOk g1 a1 l1 b1 c1 d1 m1 x1 = true
          · have hne : ¬ (updW g1 a1 l1 b1 c1 d1 m1 x1).toList = s.toList := by
              refine list_ne ?_
              unfold updW
              rw [if_pos hz.2]
              have := h1 hz.1 hz.2
              omega
            rw [if_pos hok, hU k (by omega), kz, if_neg hne]; rfl
          · rw [if_neg hok]; rfl
      · have hb := h3 (fun hc hx0 => hz ⟨hc, hx0⟩) hj
        refine ⟨if updOk g1 a1 l1 b1 c1 d1 m1 x1 = true then (g1, a1, l1, b1, c1, d1, m1, x1, 0, true) else failU 3, ⟨K1 + 2, fun k hk => ?_⟩, ⟨K2 + 2000, fun k hk => ?_⟩, ?_, ?_, ?_, ?_⟩
        · obtain ⟨k, rfl⟩ : ∃ k', k = k' + 1 := ⟨k - 1, by omega⟩
          rw [spec_ReadUpdate.j1, if_pos he, if_neg hlt]
          by_cases hc : come = true
          · rw [if_pos hc, if_neg (by have : x1.length ≠ 0 := fun h => hz ⟨hc, h⟩; omega), G1 k (by omega), kz]
            split <;> rfl
          · rw [if_neg hc, G1 k (by omega), kz]
            split <;> rfl
        · obtain ⟨k, rfl⟩ : ∃ k', k = k' + 1 := ⟨k - 1, by omega⟩
          rw [impl_ReadUpdate.j1, if_pos he, if_neg hlt, G2 k (by omega), kz]
          by_cases hok : updOk g1 a1 l1 b1 c1 d1 m1 x1 = true
          · rw [if_pos hok, if_pos hok, hU k (by omega), kz, if_pos (list_eq hb)]
          · rw [if_neg hok, if_neg hok]; rfl
        · split
          · exact hg
          · simp [failU]
        · split
          · exact hl
          · simp [failU]
        · split
          · exact hm
          · simp [failU]
        · split
          · exact hx
          · simp [failU]
  · refine ⟨failU e, ⟨1, fun k hk => ?_⟩, ⟨1, fun k hk => ?_⟩, by simp [failU], by simp [failU], by simp [failU], by simp [failU]⟩
    · obtain ⟨k, rfl⟩ : ∃ k', k = k' + 1 := ⟨k - 1, by omega⟩
      rw [spec_ReadUpdate.j1, if_neg he]; rfl
    · obtain ⟨k, rfl⟩ : ∃ k', k = k' + 1 := ⟨k - 1, by omega⟩
      rw [impl_ReadUpdate.j1, if_neg he]; rfl
theorem updW_list (g : List S35) (a : Int) (l : List Int) (b c d : Int) (m : List Int) (e : List S35) (he : e.length ≠ 0) : (updW g a l b c d m e).data.toList = (pfxsW g).data.toList ++ ((bW 1 a).data.toList ++ ((numsW 2 l).data.toList ++ ((bW 4 b).data.toList ++ ((bW 3 c).data.toList ++ ((bW 3 d).data.toList ++ ((numsW 3 m).data.toList ++ (pfxsW e).data.toList)))))) := by
  unfold updW
  rw [if_neg he]
  simp only [kc, Array.toList_append]
theorem ReadUpdate_same (s : ByteArray) : ∃ r : RU, (∃ K, ∀ k, K ≤ k → spec_ReadUpdate.f k s = some r) ∧ (∃ K, ∀ k, K ≤ k → impl_ReadUpdate.f k s = some r) ∧ r.1.length ≤ 255 ∧ r.2.2.1.length ≤ 255 ∧ r.2.2.2.2.2.2.1.length ≤ 255 ∧ r.2.2.2.2.2.2.2.1.length ≤ 255 := by
  by_cases hsz : (s.size : Int) > 1000
  · refine ⟨failU 0, ⟨0, fun k _ => ?_⟩, ⟨0, fun k _ => ?_⟩, by simp [failU], by simp [failU], by simp [failU], by simp [failU]⟩
    · unfold spec_ReadUpdate.f; rw [if_pos hsz]; rfl
    · unfold impl_ReadUpdate.f; rw [if_pos hsz]; rfl
  have hs : s.size ≤ 1000 := by omega
  obtain ⟨g1, p1, g2, p2, e0, G1, G2, S0, V0⟩ := stage_prefixes s hs 0 0 0 (fun _ => ⟨rfl, by omega, by omega⟩)
  by_cases hc : e0 = 0 ∧ p1 < (s.size : Int)
  ·
    obtain ⟨hc1, hc2⟩ := hc
    obtain ⟨_, w1, w2, w3, w4⟩ := V0 hc1
    obtain ⟨hpp, hp0, hp1⟩ := S0 hc1
    obtain ⟨a1, q1, a2, q2, f1, A1, A2, S1, V1⟩ := stage_number s hs 1 (by omega) p1 p2 e0 S0
    obtain ⟨l1, r1, l2, r2, f2, L1, L2, S2, V2⟩ := stage_numbers s hs 2 (by omega) q1 q2 f1 S1
    obtain ⟨b1, t1, b2, t2, f3, B1, B2, S3, V3⟩ := stage_number s hs 4 (by omega) r1 r2 f2 S2
    obtain ⟨c1, u1, c2, u2, f4, C1, C2, S4, V4⟩ := stage_number s hs 3 (by omega) t1 t2 f3 S3
    obtain ⟨d1, v1, d2, v2, f5, D1, D2, S5, V5⟩ := stage_number s hs 3 (by omega) u1 u2 f4 S4
    obtain ⟨m1, x1, m2, x2, f6, M1, M2, S6, V6⟩ := stage_numbers s hs 3 (by omega) v1 v2 f5 S5
    obtain ⟨n1, y1, n2, y2, f7, N1, N2, S7, V7⟩ := stage_prefixes s hs x1 x2 f6 S6
    rw [show ((1 : Nat) : Int) = 1 from rfl] at A1 A2
    rw [show ((2 : Nat) : Int) = 2 from rfl] at L1 L2
    rw [show ((4 : Nat) : Int) = 4 from rfl] at B1 B2
    rw [show ((3 : Nat) : Int) = 3 from rfl] at C1 C2 D1 D2 M1 M2
    obtain ⟨r, ⟨K1, R1⟩, ⟨K2, R2⟩, hr⟩ := ru_end s true y1 y2 f7 S7 g1 g2 a1 a2 l1 l2 b1 b2 c1 c2 d1 d2 m1 m2 n1 n2 (fun he => by
      obtain ⟨h6, n_1, n_2, n_3, n_4⟩ := V7 he
      obtain ⟨h5, m_1, m_2, m_3⟩ := V6 h6
      obtain ⟨h4, d_1, d_2, d_3⟩ := V5 h5
      obtain ⟨h3, c_1, c_2, c_3⟩ := V4 h4
      obtain ⟨h2, b_1, b_2, b_3⟩ := V3 h3
      obtain ⟨h1, l_1, l_2, l_3⟩ := V2 h2
      obtain ⟨h0, a_1, a_2, a_3⟩ := V1 h1
      obtain ⟨i0, z1, z2, z3, z4⟩ := w4 0 rfl
      rw [Nat.zero_add] at z1 z2
      have k1 := (S1 h1).2
      have k3 := (S3 h3).2
      have k4 := (S4 h4).2
      have k5 := (S5 h5).2
      obtain ⟨i1, y_1, y_2, y_3⟩ := l_3 (i0 + 1) (by omega)
      obtain ⟨i2, x_1, x_2, x_3⟩ := m_3 (i0 + 1 + i1 + 4 + 3 + 3) (by omega)
      obtain ⟨i3, t_1, t_2, t_3, t_4⟩ := n_4 (i0 + 1 + i1 + 4 + 3 + 3 + i2) (by omega)
      refine ⟨w1, a_1, l_1, b_1, c_1, d_1, m_1, n_1, w2, l_2, m_2, n_2, w3, n_3, fun _ _ => ?_, fun hf => (by cases hf), fun hne hj => ?_⟩
      · rw [size_list, z4, seg_len s 0 i0 (by omega)]
        omega
      · rw [updW_list _ _ _ _ _ _ _ _ (hne rfl), z4, y_3, x_3, t_4]
        have nA := num_seg s 1 i0 (by omega) (by omega)
        have nB := num_seg s 4 (i0 + 1 + i1) (by omega) (by omega)
        have nC := num_seg s 3 (i0 + 1 + i1 + 4) (by omega) (by omega)
        have nD := num_seg s 3 (i0 + 1 + i1 + 4 + 3) (by omega) (by omega)
        rw [show a1 = readN s 1 (i0 : Int) 0 by rw [a_3, z1], nA, show b1 = readN s 4 ((i0 + 1 + i1 : Nat) : Int) 0 by rw [b_3, y_1], nB, show c1 = readN s 3 ((i0 + 1 + i1 + 4 : Nat) : Int) 0 by rw [c_3]; congr 1; omega, nC, show d1 = readN s 3 ((i0 + 1 + i1 + 4 + 3 : Nat) : Int) 0 by rw [d_3]; congr 1; omega, nD]
        have hend : s.size = i0 + (1 + (i1 + (4 + (3 + (3 + (i2 + i3)))))) := by omega
        have hall := seg_all s
        rw [hend, seg_add, seg_add, seg_add, seg_add, seg_add, seg_add, seg_add] at hall
        rw [← hall]
        simp only [Nat.zero_add])
    refine ⟨r, ⟨K1 + 401, fun k hk => ?_⟩, ⟨K2 + 401, fun k hk => ?_⟩, hr⟩
    · obtain ⟨k, rfl⟩ : ∃ k', k = k' + 1 := ⟨k - 1, by omega⟩
      unfold spec_ReadUpdate.f
      rw [if_neg hsz, G1 _ (by omega), kz]
      dsimp only
      rw [if_pos hc1, decide_eq_true hc2, spec_ReadUpdate.j0, if_pos rfl, A1 _ (by omega), kz]
      dsimp only
      rw [L1 _ (by omega), kz]
      dsimp only
      rw [B1 _ (by omega), kz]
      dsimp only
      rw [C1 _ (by omega), kz]
      dsimp only
      rw [D1 _ (by omega), kz]
      dsimp only
      rw [M1 _ (by omega), kz]
      dsimp only
      rw [N1 _ (by omega), kz]
      exact R1 k (by omega)
    · obtain ⟨k, rfl⟩ : ∃ k', k = k' + 1 := ⟨k - 1, by omega⟩
      unfold impl_ReadUpdate.f
      rw [if_neg hsz, G2 _ (by omega), kz]
      dsimp only
      rw [if_pos hc1, ← hpp, decide_eq_true hc2, impl_ReadUpdate.j0, if_pos rfl, hpp, A2 _ (by omega), kz]
      dsimp only
      rw [L2 _ (by omega), kz]
      dsimp only
      rw [B2 _ (by omega), kz]
      dsimp only
      rw [C2 _ (by omega), kz]
      dsimp only
      rw [D2 _ (by omega), kz]
      dsimp only
      rw [M2 _ (by omega), kz]
      dsimp only
      rw [N2 _ (by omega), kz]
      exact R2 k (by omega)
  · obtain ⟨r, ⟨K1, R1⟩, ⟨K2, R2⟩, hr⟩ := ru_end s false p1 p2 e0 S0 g1 g2 0 0 [] [] 0 0 0 0 0 0 [] [] [] [] (fun he => by
      obtain ⟨_, w1, w2, w3, w4⟩ := V0 he
      obtain ⟨i0, z1, z2, z3, z4⟩ := w4 0 rfl
      rw [Nat.zero_add] at z1 z2
      refine ⟨w1, rfl, rfl, rfl, rfl, rfl, rfl, rfl, w2, by simp, by simp, by simp, w3, by simp, fun hf => (by cases hf), fun _ => rfl, fun _ hj => ?_⟩
      unfold updW
      rw [if_pos (show ([] : List S35).length = 0 from rfl), z4, ← seg_all s]
      congr 1
      omega)
    have hd : e0 = 0 → decide (p1 < (s.size : Int)) = false := fun he => decide_eq_false (fun hlt => hc ⟨he, hlt⟩)
    refine ⟨r, ⟨K1 + 401, fun k hk => ?_⟩, ⟨K2 + 401, fun k hk => ?_⟩, hr⟩
    · obtain ⟨k, rfl⟩ : ∃ k', k = k' + 1 := ⟨k - 1, by omega⟩
      have hj : spec_ReadUpdate.j0 (k + 1) s false false s p1 e0 g1 0 0 0 0 = some r := by
        rw [spec_ReadUpdate.j0, if_neg (by simp)]
        exact R1 k (by omega)
      unfold spec_ReadUpdate.f
      rw [if_neg hsz, G1 _ (by omega), kz]
      dsimp only
      by_cases he : e0 = 0
      · rw [if_pos he, hd he]; exact hj
      · rw [if_neg he]; exact hj
    · obtain ⟨k, rfl⟩ : ∃ k', k = k' + 1 := ⟨k - 1, by omega⟩
      have hj : impl_ReadUpdate.j0 (k + 1) s false s p2 e0 g2 0 0 0 0 = some r := by
        rw [impl_ReadUpdate.j0, if_neg (by simp)]
        exact R2 k (by omega)
      unfold impl_ReadUpdate.f
      rw [if_neg hsz, G2 _ (by omega), kz]
      dsimp only
      by_cases he : e0 = 0
      · rw [if_pos he, ← (S0 he).1, hd he, (S0 he).1]; exact hj
      · rw [if_neg he]; exact hj
theorem laws_markUpdate_is (g : List S35) (a : Int) (l : List Int) (b c d : Int) (m : List Int) (e : List S35) (hg : g.length ≤ 1000) (hl : l.length ≤ 1000) (hm : m.length ≤ 1000) (he : e.length ≤ 1000) (k : Nat) (hk : 1001 ≤ k) :
    ∃ g' l' m' e' q, laws_markUpdate.f k g a l b c d m e 1 = some (q, g', l', m', e') ∧ 0 ≤ q ∧ ∀ k', 1001 ≤ k' → laws_heldUpdate.f k' g' a l' b c d m' e' 1 = some q := by
  refine ⟨mk_Prefix 1 g.length, mk_Int (1 + 2 * (g.length : Int)) l.length, mk_Int (1 + 2 * (g.length : Int) + l.length) m.length, mk_Prefix (1 + 2 * (g.length : Int) + l.length + m.length) e.length, 1 + 2 * (g.length : Int) + l.length + m.length + 2 * e.length, ?_, by omega, fun k' hk' => ?_⟩
  · unfold laws_markUpdate.f laws_markAttrs.f
    rw [laws_markPrefixS_is g (by omega) 1 (by omega) (by omega) k (by omega), kz]
    dsimp only
    rw [laws_markIntS_is l (by omega) (1 + 2 * (g.length : Int)) (by omega) (by omega) k (by omega), kz]
    dsimp only
    rw [laws_markIntS_is m (by omega) (1 + 2 * (g.length : Int) + l.length) (by omega) (by omega) k (by omega), kz, kz]
    dsimp only
    rw [laws_markPrefixS_is e (by omega) (1 + 2 * (g.length : Int) + l.length + m.length) (by omega) (by omega) k (by omega), kz]
  · unfold laws_heldUpdate.f laws_heldAttrs.f
    rw [laws_heldPrefixS_is g.length (by omega) 1 (by omega) (by omega) k' (by omega), kz, if_neg (by omega), laws_heldIntS_is l.length (by omega) (1 + 2 * (g.length : Int)) (by omega) (by omega) k' (by omega), kz, if_neg (by omega), laws_heldIntS_is m.length (by omega) (1 + 2 * (g.length : Int) + l.length) (by omega) (by omega) k' (by omega), kz, if_neg (by omega), kz, if_neg (by omega), laws_heldPrefixS_is e.length (by omega) (1 + 2 * (g.length : Int) + l.length + m.length) (by omega) (by omega) k' (by omega), kz, if_neg (by omega)]

end FnExactReadUpdateUses
open Go.RowKit Go.Proofs.Ytlnfcobloolnnaa.PFnExactReadUpdate Go.Proofs.YtlnfcobloolnnaaW.PrintWords Go.Proofs.YtlnfcobloolnnaaW.PrintLast Go.Proofs.YtlnfcobloolnnaaW.PrintMore Go.Proofs.Ytlnfcobloolnnaa.Pfx Go.Proofs.Ytlnfcobloolnnaa.Loop Go.Proofs.Ytlnfcobloolnnaa.Tbl FnExactReadUpdateUses
open Option renaming bind_some → kz
open _root_.ByteArray renaming size_append → kq, toList_eq → ke, data_append → kc
open List renaming length_append → ky, length_singleton → kj, append_assoc → kk, length_cons → kv, append_nil → kg, map_cons → kb, map_singleton → kd, map_append → ko
open Bool renaming false_and → kh, true_and → kf
set_option linter.unusedVariables false
theorem FnExactReadUpdate : laws_FnExactReadUpdate.Pure := by
  intro s hs
  by_cases hsz : (s.size : Int) > 1048576
  · exact ⟨0, by unfold laws_FnExactReadUpdate.f; rw [if_pos hsz]⟩
  obtain ⟨⟨g, a, l, b, c, d, m, e, cd, ok⟩, ⟨K1, h1⟩, ⟨K2, h2⟩, hg, hl, hm, he⟩ := ReadUpdate_same s
  dsimp only at hg hl hm he
  obtain ⟨K, hK⟩ : ∃ K : Nat, K1 + K2 + 2000 ≤ K := ⟨_, Nat.le_refl _⟩
  have heq : ∀ k, K ≤ k → laws_eqUpdate.f k g a l b c d m e g a l b c d m e = some true := fun k hk => laws_eqUpdate_refl k g a l b c d m e (by simp only [maxLen]; omega) (by simp only [maxLen]; omega) (by simp only [maxLen]; omega) (by simp only [maxLen]; omega) (by omega)
  obtain ⟨g', l', m', e', q, m1, q0, m2⟩ := laws_markUpdate_is g a l b c d m e (by omega) (by omega) (by omega) (by omega) (K + 1) (by omega)
  refine ⟨K + 1 + 1, ?_⟩
  unfold laws_FnExactReadUpdate.f
  rw [if_neg hsz, h1 _ (by omega), kz, h2 _ (by omega), kz]
  dsimp only
  rw [heq _ (by omega), kz, if_pos rfl, if_pos rfl, bne_self_eq_false]
  rw [laws_FnExactReadUpdate.j0, if_neg (by simp), m1, kz]
  dsimp only
  rw [m2 _ (by omega), kz, if_neg (by omega), if_pos rfl, h2 _ (by omega), kz]
  dsimp only
  rw [heq _ (by omega), kz, if_pos rfl, if_pos rfl, bne_self_eq_false]
  rw [laws_FnExactReadUpdate.j1, if_neg (by simp), m2 _ (by omega), kz, if_neg (by omega), if_pos rfl]
end Go.Proofs.Ytlnfcobloolnnaa.Pure
