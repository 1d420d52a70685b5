/- The pure statement of FnTrieSteps: what the printed functions tell is what the reference tells. No condition but the arguments' own bounds. -/
import Derived.Test.YtakoaogbkajkcaaYFnTrieStepsx24
import Derived.Test.YtakoaogbkajkcaaQFnTrieSteps
namespace Go.Proofs.Ytakoaogbkajkcaa.Pure
namespace FnTrieStepsUses
open Go.RowKit Go.Proofs.Ytakoaogbkajkcaa.PFnTrieSteps Go.Proofs.YtakoaogbkajkcaaW.PrintWords Go.Proofs.YtakoaogbkajkcaaW.PrintLast Go.Proofs.YtakoaogbkajkcaaW.PrintMore Go.Proofs.Ytakoaogbkajkcaa.Pfx Go.Proofs.Ytakoaogbkajkcaa.Loop Go.Proofs.Ytakoaogbkajkcaa.Tbl
open Option renaming bind_some → kz
open List renaming length_singleton → kq, replicate → ky, length_cons → kj, length_set → kk, countP_cons → kh, length_append → kg, pairwise_cons → kd, mem_cons → kc, map_singleton → ko, map_append → kx, length_map → km, append_assoc → ku, nil_append → kt, filter_cons_of_neg → kn, filter_cons_of_pos → kl, length_replicate → ki, length_filter_le → kw, getElem_mem → ka, map_cons → kZ, append_nil → kY, mem_append → kJ, mem_filter → kX
open Int renaming dvd_of_emod_eq_zero → kv, mul_le_mul_of_nonneg_left → kf, le_refl → ke, eq_ofNat_of_zero_le → kp, add_zero → kU, mul_add → vz
open Bool renaming and_eq_true → kb, not_true → ks, false_or → kQ, not_false → kT, true_and → vq, true → vy, false → vj
open Option.some renaming inj → kr
open Nat renaming pow_succ → kV
set_option linter.unusedVariables false
set_option linter.unusedSimpArgs false

theorem a8 (a lo hi : Int) : spec_l1In.f a lo hi = some (decide (lo ≤ a ∧ a ≤ hi)) := by
  unfold spec_l1In.f
  by_cases h : lo ≤ a
  · rw [if_pos h]; simp [h]
  · rw [if_neg h]; simp [h]
theorem aj (a lo hi : Int) : impl_within.f a lo hi = some (decide (lo ≤ a ∧ a ≤ hi)) := by
  unfold impl_within.f
  by_cases h : lo ≤ a
  · rw [if_pos h]; simp [h]
  · rw [if_neg h]; simp [h]
theorem dz (a : Int) : spec_l1Addr.f a = some (decide (0 ≤ a ∧ a ≤ 4294967295)) := by
  unfold spec_l1Addr.f; rw [a8]; rfl
theorem d6 (a : Int) : impl_isAddr.f a = some (decide (0 ≤ a ∧ a ≤ 4294967295)) := by
  unfold impl_isAddr.f; rw [aj]; rfl
theorem cn {n : Int} (h0 : 0 ≤ n) (h1 : n ≤ 32) : impl_sizeOf.f n = some (sz n) := by
  unfold impl_sizeOf.f
  rw [shl_sz h0 h1, if_pos (by rw [wrap_id (by omega) (by omega)]; omega)]
theorem bl (a : Int) {n : Int} (h0 : 0 ≤ n) (h1 : n ≤ 32) : spec_l1Size.f a n = some (sz n) := by
  unfold spec_l1Size.f
  have e : IntKind.u64.wrap (wrap64 (32 - n)) = wrap64 (32 - n) := by rw [wrap_id (by omega) (by omega), u64_id (by omega) (by omega)]
  rw [e, shl_sz h0 h1, if_pos (by rw [wrap_id (by omega) (by omega)]; omega)]
theorem an (a n : Int) : impl_GoodPrefix.f a n = some (good a n) := by
  unfold impl_GoodPrefix.f
  rw [aj, kz]
  by_cases h : 0 ≤ n ∧ n ≤ 32
  · rw [if_pos (decide_eq_true h), d6, kz]
    by_cases h' : 0 ≤ a ∧ a ≤ 4294967295
    · rw [if_pos (decide_eq_true h'), cn h.1 h.2, kz, if_neg (by have := sz_pos n; omega), Int.tmod_eq_emod_of_nonneg h'.1]
      simp [good, h.1, h.2, h'.1, h'.2, beq_dec]
    · rw [if_neg (by simpa using h')]
      have : good a n = false := by simp [good]; omega
      rw [this]
  · rw [if_neg (by simpa using h)]
    have : good a n = false := by simp [good]; omega
    rw [this]
theorem ai (a n : Int) : spec_GoodPrefix.f a n = some (good a n) := by
  unfold spec_GoodPrefix.f
  rw [a8, kz]
  by_cases h : 0 ≤ n ∧ n ≤ 32
  · rw [if_pos (decide_eq_true h), dz, kz]
    by_cases h' : 0 ≤ a ∧ a ≤ 4294967295
    · rw [if_pos (decide_eq_true h'), bl a h.1 h.2, kz, if_neg (by have := sz_pos n; omega), Int.tmod_eq_emod_of_nonneg h'.1]
      simp [good, h.1, h.2, h'.1, h'.2, beq_dec]
    · rw [if_neg (by simpa using h')]
      have : good a n = false := by simp [good]; omega
      rw [this]
  · rw [if_neg (by simpa using h)]
    have : good a n = false := by simp [good]; omega
    rw [this]
theorem dj {a n : Int} (h0 : 0 ≤ n) (h1 : n < 32) (h2 : 0 ≤ a) (h3 : a ≤ 4294967295) : spec_l1Halves.f a n = some (a, n + 1, a + sz (n + 1), n + 1) := by
  have hs := sz_pos (n + 1)
  have h9 := sz_le (n := n + 1) (by omega)
  unfold spec_l1Halves.f
  rw [wrap_id (x := n + 1) (by omega) (by omega), bl a (by omega) (by omega), kz, wrap_id (by omega) (by omega)]
theorem bd {a n : Int} (h0 : 0 ≤ n) (h1 : n < 32) (h2 : 0 ≤ a) (h3 : a ≤ 4294967295) : impl_Prefix_halves.f a n = some (a, n + 1, a + sz (n + 1), n + 1) := by
  have hs := sz_pos (n + 1)
  have h9 := sz_le (n := n + 1) (by omega)
  unfold impl_Prefix_halves.f
  rw [wrap_id (x := n + 1) (by omega) (by omega), cn (by omega) (by omega), kz, wrap_id (by omega) (by omega)]
theorem dn (a : Int) : cmp_isNaN_int.f a = some false := by unfold cmp_isNaN_int.f; simp
theorem br (a b : Int) : cmp_Compare_int.f a b = some (if a < b then -1 else if a > b then 1 else 0) := by
  unfold cmp_Compare_int.f
  simp only [dn, kz, Bool.false_eq_true, if_false]
  by_cases h1 : a < b
  · simp [h1]
  · by_cases h2 : a > b
    · simp [h1, h2]
    · simp [h1, h2]
theorem du (k : Nat) (a n b m : Int) : impl_compare.f (k + 3) a n b m = some (cmpP a n b m) := by
  unfold impl_compare.f cmp_Or_int.f
  rw [br, kz, br, kz]
  have w1 : wrap64 (0 + 1) = 1 := wrap_id (by omega) (by omega)
  have w2 : wrap64 (1 + 1) = 2 := wrap_id (by omega) (by omega)
  simp only [cmp_Or_int.l0, rd, kj, List.length_nil, w1, w2]
  unfold cmpP
  by_cases h1 : a < b
  · simp [h1]
  · by_cases h2 : b < a
    · have : ¬ a = b := by omega
      simp [h1, h2, this]
    · obtain rfl : a = b := by omega
      by_cases h3 : n < m
      · simp [h3]
      · by_cases h4 : m < n
        · have : ¬ n = m := by omega
          simp [h3, h4, this]
        · obtain rfl : n = m := by omega
          simp
theorem ar (k : Nat) (a n b m : Int) : spec_l1Compare.f (k + 1) a n b m = some (cmpP a n b m) := by
  unfold spec_l1Compare.f cmpP
  simp only [spec_l1Compare.j0]
  by_cases h1 : a < b
  · simp [h1]
  · by_cases h2 : a = b
    · subst h2
      by_cases h3 : n < m
      · simp [h3]
      · by_cases h4 : n = m
        · subst h4; simp
        · simp [h3, h4]
    · simp [h1, h2]
theorem c7 (pre : List S37) (a : S37) (rest : List S37) : rd_T37 (pre ++ a :: rest) (pre.length : Int) = a := by unfold rd_T37; simp
def pr (p : S37) : Pr := (p.f0, p.f1)
theorem ay (pre : List S39) (a : S39) (rest : List S39) : rd_T39 (pre ++ a :: rest) (pre.length : Int) = a := by unfold rd_T39; simp
theorem df (k : Nat) (l : List S37) (hl : l.length ≤ 1048576) (hk : l.length + 4 < k) : impl_areRising.f k l = some (rising (l.map pr)) := by
  unfold impl_areRising.f
  have key : ∀ (rest pre : List S37) (k : Nat), l = pre ++ rest → rest.length + 4 < k →
      impl_areRising.l0 k l l (l.length : Int) (pre.length : Int) = some (risingFrom ((pre.map pr).getLast?) (rest.map pr)) := by
    intro rest
    induction rest with
    | nil =>
      intro pre k e hk
      obtain ⟨k, rfl⟩ : ∃ m, k = m + 1 := ⟨k - 1, by omega⟩
      simp only [impl_areRising.l0]
      rw [if_neg (by rw [e]; simp)]
      simp [risingFrom]
    | cons a rest ih =>
      intro pre k e hk
      obtain ⟨k, rfl⟩ : ∃ m, k = m + 1 := ⟨k - 1, by omega⟩
      have h1 : rd_T37 l (pre.length : Int) = a := by rw [e]; exact c7 _ _ _
      have hih := ih (pre ++ [a]) k (by rw [e]; simp) (by simp at hk; omega)
      rw [kx, ko, List.getLast?_concat] at hih
      simp only [impl_areRising.l0]
      rw [if_pos (by rw [e]; exact lt_mid _ _ _), if_pos (len_nn _), if_pos (by rw [e]; exact lt_mid _ _ _), h1, an, kz, wrap_mid (rest := rest) (by rw [← e]; simp only [maxLen]; omega)]
      simp only [kZ, risingFrom]
      by_cases hg : good a.f0 a.f1 = true
      · rw [if_pos hg]
        rcases snoc_cases pre with rfl | ⟨pre', q, rfl⟩
        · rw [if_neg (by simp)]
          simp only [kt, kq] at hih
          rw [show (([] : List S37) ++ [a]).length = 1 from rfl, hih]
          simp [pr, hg]
        · have h2 : wrap64 (((pre' ++ [q]).length : Int) - 1) = (pre'.length : Int) := by
            have : (pre' ++ [q] ++ a :: rest).length ≤ 1048576 := by rw [← e]; exact hl
            simp at this
            rw [kg, kq, wrap_id (by omega) (by omega)]; omega
          have h3 : rd_T37 l (pre'.length : Int) = q := by rw [e, ku]; exact c7 _ _ _
          obtain ⟨k', rfl⟩ : ∃ m, k = m + 3 := ⟨k - 3, by simp at hk; omega⟩
          rw [if_pos (by rw [kg, kq]; omega), h2, if_pos (len_nn _), if_pos (by rw [e, kg, kg, kq]; omega), h3, du, kz, hih, kx, ko, List.getLast?_concat]
          by_cases hc : cmpP q.f0 q.f1 a.f0 a.f1 ≥ 0
          · rw [if_pos hc]
            have : ¬ cmpP q.f0 q.f1 a.f0 a.f1 < 0 := by omega
            simp [pr, this]
          · rw [if_neg hc]
            have : cmpP q.f0 q.f1 a.f0 a.f1 < 0 := by omega
            simp [pr, hg, this]
      · rw [if_neg hg]
        simp [pr, hg]
  exact key l [] k rfl hk
theorem bj (a : Int) : impl_isValue.f a = some (isVal a) := by
  unfold impl_isValue.f; rw [aj]; rfl
theorem cf (a : Int) : spec_l2Value.f a = some (isVal a) := by
  unfold spec_l2Value.f; rw [a8]; rfl
theorem bp (k : Nat) (l : List S39) (hl : l.length ≤ 1048576) (hk : l.length < k) : impl_prefixesOf.f k l = some (l.map fun x => (⟨x.f0.f0, x.f0.f1⟩ : S37)) := by
  unfold impl_prefixesOf.f
  have key : ∀ (rest pre : List S39) (k : Nat), l = pre ++ rest → rest.length < k →
      impl_prefixesOf.l0 k (pre.map fun x => (⟨x.f0.f0, x.f0.f1⟩ : S37)) l (l.length : Int) (pre.length : Int) = some (l.map fun x => (⟨x.f0.f0, x.f0.f1⟩ : S37)) := by
    intro rest
    induction rest with
    | nil =>
      intro pre k e hk
      obtain ⟨k, rfl⟩ : ∃ m, k = m + 1 := ⟨k - 1, by omega⟩
      simp only [impl_prefixesOf.l0]
      rw [if_neg (by rw [e]; simp)]
      simp [e]
    | cons a rest ih =>
      intro pre k e hk
      obtain ⟨k, rfl⟩ : ∃ m, k = m + 1 := ⟨k - 1, by omega⟩
      have h1 : rd_T39 l (pre.length : Int) = a := by rw [e]; exact ay _ _ _
      have hlen : pre.length < 8796093022208 := by
        have : (pre ++ a :: rest).length ≤ 1048576 := by rw [← e]; exact hl
        simp at this; omega
      have hih := ih (pre ++ [a]) k (by rw [e]; simp) (by simp at hk; omega)
      rw [kx, ko] at hih
      simp only [impl_prefixesOf.l0]
      rw [if_pos (by rw [e]; exact lt_mid _ _ _), if_pos (len_nn _), if_pos (by rw [e]; exact lt_mid _ _ _), if_pos (by simpa using hlen), h1, wrap_mid (rest := rest) (by rw [← e]; simp only [maxLen]; omega)]
      exact hih
  exact key l [] k rfl hk
theorem cz (a n v : Int) : impl_GoodTable_1.f a n v = some (!isVal v) := by
  unfold impl_GoodTable_1.f; rw [bj]; rfl
def ent (e : S39) : Pr := (e.f0.f0, e.f0.f1)
def ae (l : List S39) : Bool := decide (l.length ≤ 30) && rising (l.map ent) && l.all (fun e => isVal e.f1)
theorem c8 (k : Nat) (l : List S39) (hl : l.length ≤ 1048576) (hk : l.length < k) : slices_ContainsFunc_impl_Entry_impl_Entry.f k l = some (l.any fun e => !isVal e.f1) := by
  unfold slices_ContainsFunc_impl_Entry_impl_Entry.f slices_IndexFunc_impl_Entry_impl_Entry.f
  have key : ∀ (rest pre : List S39) (k : Nat), l = pre ++ rest → rest.length < k →
      ∃ r : Int, slices_IndexFunc_impl_Entry_impl_Entry.l0 k l (l.length : Int) (pre.length : Int) = some r ∧ (0 ≤ r ↔ (rest.any fun e => !isVal e.f1) = true) := by
    intro rest
    induction rest with
    | nil =>
      intro pre k e hk
      obtain ⟨k, rfl⟩ : ∃ m, k = m + 1 := ⟨k - 1, by omega⟩
      refine ⟨-1, ?_, by simp⟩
      simp only [slices_IndexFunc_impl_Entry_impl_Entry.l0]
      rw [if_neg (by rw [e]; simp)]
    | cons a rest ih =>
      intro pre k e hk
      obtain ⟨k, rfl⟩ : ∃ m, k = m + 1 := ⟨k - 1, by omega⟩
      have h1 : rd_T39 l (pre.length : Int) = a := by rw [e]; exact ay _ _ _
      simp only [slices_IndexFunc_impl_Entry_impl_Entry.l0]
      rw [if_pos (by rw [e]; exact lt_mid _ _ _), if_pos (len_nn _), if_pos (by rw [e]; exact lt_mid _ _ _), h1, cz, kz, wrap_mid (rest := rest) (by rw [← e]; simp only [maxLen]; omega)]
      by_cases hv : (!isVal a.f1) = true
      · rw [if_pos hv]
        exact ⟨_, rfl, by simp [hv]⟩
      · rw [if_neg hv]
        obtain ⟨r, hr, hi⟩ := ih (pre ++ [a]) k (by rw [e]; simp) (by simp at hk; omega)
        refine ⟨r, hr, ?_⟩
        rw [hi]; simp [hv]
  obtain ⟨r, hr, hi⟩ := key l [] k rfl hk
  have hr' : slices_IndexFunc_impl_Entry_impl_Entry.l0 k l (l.length : Int) 0 = some r := hr
  rw [hr', kz]
  congr 1
  by_cases h : 0 ≤ r
  · rw [hi.1 h]; simp [h]
  · have : (l.any fun e => !isVal e.f1) = false := by
      cases hb : (l.any fun e => !isVal e.f1) with
      | false => rfl
      | true => exact absurd (hi.2 hb) h
    rw [this]; simp; omega
theorem a9 (k : Nat) (l : List S39) (hl : l.length ≤ 1048576) (hk : l.length + 4 < k) : impl_GoodTable.f k l = some (ae l) := by
  unfold impl_GoodTable.f ae
  by_cases h : (l.length : Int) ≤ 30
  · rw [if_pos h, bp k l hl (by omega), kz, df k _ (by simpa using hl) (by simpa using hk), kz]
    have he : ((l.map fun x => (⟨x.f0.f0, x.f0.f1⟩ : S37)).map pr) = l.map ent := by rw [List.map_map]; rfl
    rw [he]
    have h30 : l.length ≤ 30 := by omega
    by_cases hr : rising (l.map ent) = true
    · rw [if_pos hr, c8 k l hl (by omega), kz]
      simp only [h30, decide_true, hr, vq, List.not_any_eq_all_not, Bool.not_not]
    · rw [if_neg hr]
      simp [hr]
  · rw [if_neg h]
    have h30 : ¬ l.length ≤ 30 := by omega
    simp [h30]
theorem bs (k : Nat) (l : List S39) (hl : l.length ≤ 1048576) (hk : l.length + 2 < k) : spec_GoodTable.f k l = some (ae l) := by
  unfold spec_GoodTable.f
  have key : ∀ (rest pre : List S39) (k : Nat), l = pre ++ rest → rest.length + 2 < k →
      spec_GoodTable.l0 k l l (l.length : Int) (pre.length : Int) = some (decide (l.length ≤ 30) && risingFrom ((pre.map ent).getLast?) (rest.map ent) && rest.all (fun e => isVal e.f1)) := by
    intro rest
    induction rest with
    | nil =>
      intro pre k e hk
      obtain ⟨k, rfl⟩ : ∃ m, k = m + 1 := ⟨k - 1, by omega⟩
      simp only [spec_GoodTable.l0]
      rw [if_neg (by rw [e]; simp)]
      have : ((l.length : Int) ≤ 30) ↔ l.length ≤ 30 := by omega
      simp [risingFrom, this]
    | cons a rest ih =>
      intro pre k e hk
      obtain ⟨k, rfl⟩ : ∃ m, k = m + 1 := ⟨k - 1, by omega⟩
      have h1 : rd_T39 l (pre.length : Int) = a := by rw [e]; exact ay _ _ _
      have hih := ih (pre ++ [a]) k (by rw [e]; simp) (by simp at hk; omega)
      rw [kx, ko, List.getLast?_concat] at hih
      simp only [spec_GoodTable.l0]
      rw [if_pos (by rw [e]; exact lt_mid _ _ _), if_pos (len_nn _), if_pos (by rw [e]; exact lt_mid _ _ _), h1, ai, kz, cf, kz, wrap_mid (rest := rest) (by rw [← e]; simp only [maxLen]; omega)]
      simp only [kZ, risingFrom, List.all_cons]
      by_cases hg : good a.f0.f0 a.f0.f1 = true
      · rw [if_pos hg]
        by_cases hv : isVal a.f1 = true
        · rw [if_pos hv]
          rcases snoc_cases pre with rfl | ⟨pre', q, rfl⟩
          · rw [if_neg (by simp)]
            simp only [kt, kq] at hih
            rw [show (([] : List S39) ++ [a]).length = 1 from rfl, hih]
            simp [ent, hg, hv]
          · have h2 : wrap64 (((pre' ++ [q]).length : Int) - 1) = (pre'.length : Int) := by
              have : (pre' ++ [q] ++ a :: rest).length ≤ 1048576 := by rw [← e]; exact hl
              simp at this
              rw [kg, kq, wrap_id (by omega) (by omega)]; omega
            have h3 : rd_T39 l (pre'.length : Int) = q := by rw [e, ku]; exact ay _ _ _
            obtain ⟨k', rfl⟩ : ∃ m, k = m + 1 := ⟨k - 1, by simp at hk; omega⟩
            rw [if_pos (by rw [kg, kq]; omega), h2, if_pos (len_nn _), if_pos (by rw [e, kg, kg, kq]; omega), h3, ar, kz, hih, kx, ko, List.getLast?_concat]
            by_cases hc : cmpP q.f0.f0 q.f0.f1 a.f0.f0 a.f0.f1 ≥ 0
            · rw [if_pos hc]
              have : ¬ cmpP q.f0.f0 q.f0.f1 a.f0.f0 a.f0.f1 < 0 := by omega
              simp [ent, this]
            · rw [if_neg hc]
              have : cmpP q.f0.f0 q.f0.f1 a.f0.f0 a.f0.f1 < 0 := by omega
              simp [ent, hg, hv, this]
        · rw [if_neg hv]
          simp [hv]
      · rw [if_neg hg]
        simp [ent, hg]
  exact key l [] k rfl hk
theorem bc {l : List S39} (h : ae l = true) : ∀ e, e ∈ l → good e.f0.f0 e.f0.f1 = true := by
  intro e he
  unfold ae at h
  simp only [kb] at h
  exact rising_good h.1.2 (ent e) (List.mem_map.2 ⟨e, he, rfl⟩)
theorem db (a n : Int) (h0 : 0 ≤ n) (h1 : n ≤ 17592186044416) : slices_Repeat_int_int.f [a] n = some (ky n.toNat a) := by
  unfold slices_Repeat_int_int.f
  dsimp only
  rw [if_pos h0, if_pos h1]
theorem dc (pre : List S86) (a : S86) (rest : List S86) : rd_T86 (pre ++ a :: rest) (pre.length : Int) = a := by unfold rd_T86; simp
def bh (n i : Int) (D : List Int) (x : Int) : Option (List Int) := if x = 0 then some D else if i + 1 ≤ x ∧ x ≤ n - 1 ∧ rd D x < 0 then some (D.set x.toNat (rd D i + 1)) else none
def aq (i : Int) (a : S86) : Bool := isVal a.f3 && (a.f2 || (a.f3 == 0 && !(decide (0 < i) && (a.f0 == 0 && a.f1 == 0))))
def av (n : Int) : List S86 → Int → List Int → Int → Bool
  | [], _, _, c => decide (c ≤ 30)
  | a :: t, i, D, c => if rd D i < 0 ∨ rd D i > 32 then false else if aq i a = true then
      (match (bh n i D a.f0).bind (fun D => bh n i D a.f1) with
      | none => false
      | some D' => av n t (i + 1) D' (if a.f2 = true then c + 1 else c)) else false
def aa (l : List S86) : Bool := if 1 ≤ (l.length : Int) ∧ (l.length : Int) ≤ 2000 then av l.length l 0 ((ky l.length (-1 : Int)).set 0 0) 0 else false
theorem ah {D : List Int} {x y : Int} {v : Int} (hx : 0 ≤ x) (hy : 0 ≤ y) (h : x ≠ y) : rd (D.set x.toNat v) y = rd D y := by
  unfold rd
  have : x.toNat ≠ y.toNat := by omega
  simp only [List.getD_eq_getElem?_getD, List.getElem?_set_ne this]
theorem az {D : List Int} {x : Int} {v : Int} (hx : 0 ≤ x) (h : x < (D.length : Int)) : rd (D.set x.toNat v) x = v := by
  unfold rd
  have : x.toNat < D.length := by omega
  simp [List.getD_eq_getElem?_getD, List.getElem?_set, this]
def fk (D : List Int) : Prop := ∀ j : Int, 0 ≤ j → -1 ≤ rd D j ∧ rd D j ≤ 33
theorem dw {n i : Int} {D D' : List Int} {x : Int} (h : bh n i D x = some D') (hi : 0 ≤ i) (hb : fk D) (hd : rd D i ≤ 32) (hn : (D.length : Int) = n) : D'.length = D.length ∧ fk D' ∧ rd D' i = rd D i ∧ (∀ j, 0 ≤ j → 0 ≤ rd D j → rd D' j = rd D j) := by
  unfold bh at h
  by_cases h0 : x = 0
  · rw [if_pos h0] at h; cases h; exact ⟨rfl, hb, rfl, fun _ _ _ => rfl⟩
  · rw [if_neg h0] at h
    by_cases h1 : i + 1 ≤ x ∧ x ≤ n - 1 ∧ rd D x < 0
    · rw [if_pos h1] at h
      cases h
      refine ⟨kk .., fun j hj => ?_, ah (by omega) hi (by omega), fun j hj hd2 => ah (by omega) hj (fun e => by subst e; omega)⟩
      by_cases e : x = j
      · subst e
        rw [az hj (by omega)]
        have := hb i hi
        omega
      · rw [ah (by omega) hj e]; exact hb j hj
    · rw [if_neg h1] at h; cases h
theorem ci {l : List S86} {D L : List Int} {c i : Int} {r : Bool} (hn : (l.length : Int) ≤ 2000) (hD : D.length = l.length) (hb : fk D) (hi : 0 ≤ i) (hi2 : i < (l.length : Int)) (hd : 0 ≤ rd D i ∧ rd D i ≤ 32)
    (q : Nat) (hL : L.length = 2) (hq : q < 2)
    (h : match bh (l.length : Int) i D (rd L q) with | none => r = false | some D' => Ev (fun k => impl_GoodTrie.l1 k l D' c i l (l.length : Int) i L 2 ((q + 1 : Nat) : Int)) r) :
    Ev (fun k => impl_GoodTrie.l1 k l D c i l (l.length : Int) i L 2 (q : Int)) r := by
  have hw : wrap64 ((q : Int) + 1) = ((q + 1 : Nat) : Int) := by rw [wrap_id (by omega) (by omega)]; omega
  have hw1 : wrap64 (i + 1) = i + 1 := wrap_id (by omega) (by omega)
  have hw2 : wrap64 ((l.length : Int) - 1) = (l.length : Int) - 1 := wrap_id (by omega) (by omega)
  have hw3 : wrap64 (rd D i + 1) = rd D i + 1 := wrap_id (by omega) (by omega)
  unfold bh at h
  by_cases h0 : rd L q = 0
  · rw [if_pos h0] at h
    refine Ev.step (fun k => ?_) h
    rw [impl_GoodTrie.l1, if_pos (by omega), if_pos (by omega), if_pos (by rw [hL]; omega), if_pos h0, hw]
  · rw [if_neg h0] at h
    by_cases h1 : i + 1 ≤ rd L q ∧ rd L q ≤ (l.length : Int) - 1
    · by_cases h2 : rd D (rd L q) < 0
      · rw [if_pos ⟨h1.1, h1.2, h2⟩] at h
        refine Ev.step (fun k => ?_) h
        rw [impl_GoodTrie.l1, if_pos (by omega), if_pos (by omega), if_pos (by rw [hL]; omega), if_neg h0, aj, kz, hw1, hw2, if_pos (decide_eq_true h1), if_pos (by omega), if_pos (by rw [hD]; omega), if_neg (by omega), if_pos hi, if_pos (by rw [hD]; omega), hw, hw3]
      · rw [if_neg (fun h' => h2 h'.2.2)] at h
        subst h
        refine Ev.step (fun k => ?_) (Ev.now _)
        rw [impl_GoodTrie.l1, if_pos (by omega), if_pos (by omega), if_pos (by rw [hL]; omega), if_neg h0, aj, kz, hw1, hw2, if_pos (decide_eq_true h1), if_pos (by omega), if_pos (by rw [hD]; omega), if_pos (by omega)]
    · rw [if_neg (fun h' => h1 ⟨h'.1, h'.2.1⟩)] at h
      subst h
      refine Ev.step (fun k => ?_) (Ev.now _)
      rw [impl_GoodTrie.l1, if_pos (by omega), if_pos (by omega), if_pos (by rw [hL]; omega), if_neg h0, aj, kz, hw1, hw2, if_neg (by simpa using h1)]
theorem de {l : List S86} (hn : (l.length : Int) ≤ 2000) : ∀ (rest pre : List S86) (D : List Int) (c : Int), l = pre ++ rest → D.length = l.length → fk D → 0 ≤ c → c ≤ pre.length →
    Ev (fun k => impl_GoodTrie.l0 k l D c l (l.length : Int) (pre.length : Int)) (av l.length rest pre.length D c)
  | [], pre, D, c, e, hD, hb, c0, c1 => by
    refine Ev.step (fun k => ?_) (Ev.now _)
    rw [impl_GoodTrie.l0, if_neg (by rw [e]; simp), av]
  | a :: rest, pre, D, c, e, hD, hb, c0, c1 => by
    have hlen : (l.length : Int) = pre.length + (rest.length + 1) := by rw [e]; simp
    have h1 : rd_T86 l (pre.length : Int) = a := by rw [e]; exact dc _ _ _
    have hbi := hb (pre.length : Int) (by omega)
    have step : ∀ bad : Bool, (bad = (decide (rd D (pre.length : Int) < 0 ∨ rd D (pre.length : Int) > 32) || !aq (pre.length : Int) a)) → ∀ k, impl_GoodTrie.l0 (k + 1) l D c l (l.length : Int) (pre.length : Int) = impl_GoodTrie.j1 k l D c (pre.length : Int) l (l.length : Int) (pre.length : Int) bad a.f0 a.f1 a.f2 a.f3 := by
      intro bad hbad k
      rw [impl_GoodTrie.l0, if_pos (by omega), if_pos (by omega), if_pos (by omega), if_pos (by rw [hD]; omega), h1]
      subst hbad
      by_cases b1 : rd D (pre.length : Int) < 0
      · rw [if_pos b1]; simp [b1]
      · rw [if_neg b1]
        by_cases b2 : rd D (pre.length : Int) > 32
        · rw [if_pos b2]; simp [b2]
        · rw [if_neg b2, bj, kz]
          have b3 : (decide (rd D (pre.length : Int) < 0 ∨ rd D (pre.length : Int) > 32)) = false := decide_eq_false (fun h => h.elim b1 b2)
          rw [b3, kQ]
          unfold aq
          cases hv : isVal a.f3
          · rfl
          · rw [if_pos rfl]
            cases hh : a.f2
            · rw [if_neg (by simp)]
              by_cases b4 : a.f3 = 0
              · rw [if_pos b4]
                by_cases b5 : (pre.length : Int) > 0
                · rw [if_pos b5]
                  by_cases b6 : a.f0 = 0
                  · rw [if_pos b6]
                    have b5' : decide (0 < (pre.length : Int)) = true := decide_eq_true b5
                    simp only [b4, b5', b6, beq_self_eq_true, vq, kQ, Bool.not_not]
                  · rw [if_neg b6]
                    have b6' : (a.f0 == 0) = false := by simpa using b6
                    simp [b4, b6']
                · rw [if_neg b5]
                  have b5' : decide (0 < (pre.length : Int)) = false := decide_eq_false b5
                  simp only [b4, b5', beq_self_eq_true, vq, Bool.false_and, kT, Bool.or_true, ks]
              · rw [if_neg b4]
                have b4' : (a.f3 == 0) = false := by simpa using b4
                simp [b4']
            · rw [if_pos rfl]
              by_cases b5 : (pre.length : Int) > 0
              · rw [if_pos b5]; simp
              · rw [if_neg b5]; simp
    refine Ev.step (step _ rfl) ?_
    rw [av]
    by_cases hd : rd D (pre.length : Int) < 0 ∨ rd D (pre.length : Int) > 32
    · rw [if_pos hd, decide_eq_true hd]
      refine Ev.step (fun k => ?_) (Ev.now _)
      rw [impl_GoodTrie.j1, if_pos (by rfl)]
    · rw [if_neg hd, decide_eq_false hd, kQ]
      cases hok : aq (pre.length : Int) a
      · rw [if_neg (by simp)]
        refine Ev.step (fun k => ?_) (Ev.now _)
        rw [impl_GoodTrie.j1, if_pos (by rfl)]
      · rw [if_pos rfl]
        have hd2 : 0 ≤ rd D (pre.length : Int) ∧ rd D (pre.length : Int) ≤ 32 := by omega
        have hwc : wrap64 (c + 1) = c + 1 := wrap_id (by omega) (by omega)
        have hcc : (0 ≤ if a.f2 = true then c + 1 else c) ∧ (if a.f2 = true then c + 1 else c) ≤ (pre.length : Int) + 1 := by by_cases h : a.f2 = true <;> simp only [h, if_true, if_false, Bool.false_eq_true] <;> omega
        have key : ∀ c', 0 ≤ c' → c' ≤ (pre.length : Int) + 1 → Ev (fun k => impl_GoodTrie.j2 k l D c' (pre.length : Int) l (l.length : Int) (pre.length : Int) a.f0 a.f1 a.f2 a.f3) (match (bh (l.length : Int) (pre.length : Int) D a.f0).bind (fun D => bh (l.length : Int) (pre.length : Int) D a.f1) with | none => false | some D' => av (l.length : Int) rest ((pre.length : Int) + 1) D' c') := by
          intro c' g0 g1
          refine Ev.step (f := fun k => impl_GoodTrie.l1 k l D c' (pre.length : Int) l (l.length : Int) (pre.length : Int) [a.f0, a.f1] 2 ((0 : Nat) : Int)) (fun k => ?_) ?_
          · rw [impl_GoodTrie.j2, kz]; rfl
          · refine ci hn hD hb (by omega) (by omega) hd2 0 rfl (by omega) ?_
            rw [show rd [a.f0, a.f1] ((0 : Nat) : Int) = a.f0 from rfl]
            cases hp : bh (l.length : Int) (pre.length : Int) D a.f0 with
            | none => rfl
            | some D1 =>
              obtain ⟨g2, g3, g4, _⟩ := dw hp (by omega) hb hd2.2 (by rw [hD])
              refine ci hn (by omega) g3 (by omega) (by omega) (by omega) 1 rfl (by omega) ?_
              rw [show rd [a.f0, a.f1] ((1 : Nat) : Int) = a.f1 from rfl, kz]
              cases hp2 : bh (l.length : Int) (pre.length : Int) D1 a.f1 with
              | none => rfl
              | some D2 =>
                obtain ⟨g5, g6, g7, _⟩ := dw hp2 (by omega) g3 (by omega) (by rw [g2, hD])
                refine Ev.step (f := fun k => impl_GoodTrie.l0 k l D2 c' l (l.length : Int) ((pre ++ [a]).length : Int)) (fun k => ?_) ?_
                · rw [impl_GoodTrie.l1, if_neg (by decide), wrap_mid (rest := rest) (by rw [← e]; simp only [maxLen]; omega)]
                · have := de hn rest (pre ++ [a]) D2 c' (by rw [e]; simp) (by omega) g6 g0 (by simp; omega)
                  rwa [show ((pre ++ [a]).length : Int) = (pre.length : Int) + 1 by simp] at this ⊢
        refine Ev.step (f := fun k => impl_GoodTrie.j2 k l D (if a.f2 = true then c + 1 else c) (pre.length : Int) l (l.length : Int) (pre.length : Int) a.f0 a.f1 a.f2 a.f3) (fun k => ?_) (key _ hcc.1 hcc.2)
        rw [impl_GoodTrie.j1, if_neg (by decide), hwc]
        by_cases h : a.f2 = true
        · rw [if_pos h, if_pos h]
        · rw [if_neg h, if_neg h]
theorem d7 (n : Nat) : fk ((ky n (-1 : Int)).set 0 0) := by
  intro j hj
  unfold rd
  rw [List.getD_eq_getElem?_getD, List.getElem?_set]
  by_cases h : 0 = j.toNat
  · rw [if_pos h]
    by_cases h2 : 0 < (ky n (-1 : Int)).length
    · rw [if_pos h2]; simp
    · rw [if_neg h2]; simp
  · rw [if_neg h, List.getElem?_replicate]
    by_cases h2 : j.toNat < n
    · rw [if_pos h2]; simp
    · rw [if_neg h2]; simp
theorem am (l : List S86) : Ev (fun k => impl_GoodTrie.f k l) (aa l) := by
  unfold aa
  by_cases h : 1 ≤ (l.length : Int) ∧ (l.length : Int) ≤ 2000
  · rw [if_pos h]
    refine Ev.congr (f := fun k => impl_GoodTrie.l0 k l ((ky l.length (-1 : Int)).set 0 0) 0 l (l.length : Int) (([] : List S86).length : Int)) (fun k => ?_) (de h.2 l [] _ 0 rfl (by simp) (d7 _) (by omega) (by simp))
    unfold impl_GoodTrie.f
    rw [aj, kz, if_pos (decide_eq_true h)]
    rw [db _ _ (by omega) (by omega), kz, if_pos (by rw [ki]; omega)]
    simp
  · rw [if_neg h]
    refine Ev.congr (fun k => ?_) (Ev.now false)
    unfold impl_GoodTrie.f
    rw [aj, kz, if_neg (by simpa using h)]
structure TRel (D U E : List Int) : Prop where
  lu : U.length = D.length
  le : E.length = D.length
  zero : rd U 0 = 0 ∧ rd D 0 = 0 ∧ rd E 0 = 0
  other : ∀ j : Int, 0 < j → j < (D.length : Int) → (rd D j < 0 ∧ rd U j = 0) ∨ (0 ≤ rd D j ∧ rd U j = 1 ∧ rd E j = rd D j)
theorem TRel.deep {D U E : List Int} (h : TRel D U E) {j : Int} (h0 : 0 ≤ j) (h1 : j < (D.length : Int)) (h2 : 0 ≤ rd D j) : rd E j = rd D j := by
  by_cases e : j = 0
  · subst e; rw [h.zero.2.1, h.zero.2.2]
  · rcases h.other j (by omega) h1 with h3 | h3
    · omega
    · exact h3.2.2
theorem TRel.put {D U E : List Int} (h : TRel D U E) {x v : Int} (h0 : 0 < x) (h1 : x < (D.length : Int)) (hv : 0 ≤ v) : TRel (D.set x.toNat v) (U.set x.toNat 1) (E.set x.toNat v) := by
  refine ⟨by simp [h.lu], by simp [h.le], ⟨?_, ?_, ?_⟩, fun j h2 h3 => ?_⟩
  · rw [ah (by omega) (by omega) (by omega)]; exact h.zero.1
  · rw [ah (by omega) (by omega) (by omega)]; exact h.zero.2.1
  · rw [ah (by omega) (by omega) (by omega)]; exact h.zero.2.2
  · have h3' : j < (D.length : Int) := by simpa using h3
    by_cases e : x = j
    · subst e
      rw [az (by omega) h1, az (by omega) (by rw [h.lu]; exact h1), az (by omega) (by rw [h.le]; exact h1)]
      exact .inr ⟨hv, rfl, rfl⟩
    · rw [ah (by omega) (by omega) e, ah (by omega) (by omega) e, ah (by omega) (by omega) e]
      exact h.other j h2 h3'
theorem ce {l : List S86} {D U E L : List Int} {c i z o v : Int} {hs : Bool} {r : Bool} (hn : (l.length : Int) ≤ 2000) (hD : D.length = l.length) (hb : fk D) (hR : TRel D U E) (hi : 0 ≤ i) (hi2 : i < (l.length : Int)) (hd : 0 ≤ rd D i ∧ rd D i ≤ 32)
    (q : Nat) (hL : L.length = 2) (hq : q < 2)
    (h : match bh (l.length : Int) i D (rd L q) with | none => r = false | some D' => ∀ U' E', TRel D' U' E' → Ev (fun k => spec_GoodTrie.l1 k l U' E' c i l (l.length : Int) i L 2 ((q + 1 : Nat) : Int) z o hs v) r) :
    Ev (fun k => spec_GoodTrie.l1 k l U E c i l (l.length : Int) i L 2 (q : Int) z o hs v) r := by
  have hw : wrap64 ((q : Int) + 1) = ((q + 1 : Nat) : Int) := by rw [wrap_id (by omega) (by omega)]; omega
  have hE : rd E i = rd D i := hR.deep hi (by omega) hd.1
  have hw3 : wrap64 (rd E i + 1) = rd D i + 1 := by rw [hE]; exact wrap_id (by omega) (by omega)
  have lu := hR.lu
  have le := hR.le
  unfold bh at h
  by_cases h0 : rd L q = 0
  · rw [if_pos h0] at h
    refine Ev.step (fun k => ?_) (h U E hR)
    rw [spec_GoodTrie.l1, if_pos (by omega), if_pos (by omega), if_pos (by rw [hL]; omega), if_pos h0, hw]
  · rw [if_neg h0] at h
    by_cases h1 : i + 1 ≤ rd L q ∧ rd L q ≤ (l.length : Int) - 1
    · rcases hR.other (rd L q) (by omega) (by omega) with h3 | h3
      · rw [if_pos ⟨h1.1, h1.2, h3.1⟩] at h
        refine Ev.step (fun k => ?_) (h _ _ (hR.put (x := rd L q) (v := rd D i + 1) (by omega) (by omega) (by omega)))
        rw [spec_GoodTrie.l1, if_pos (by omega), if_pos (by omega), if_pos (by rw [hL]; omega), if_neg h0, if_neg (by omega), if_neg (by omega), if_pos (by omega), if_pos (by omega), if_pos h3.2, if_pos hi, if_pos (by omega), if_pos (by omega), hw, hw3]
      · rw [if_neg (fun h' => by omega)] at h
        subst h
        refine Ev.step (fun k => ?_) (Ev.now _)
        rw [spec_GoodTrie.l1, if_pos (by omega), if_pos (by omega), if_pos (by rw [hL]; omega), if_neg h0, if_neg (by omega), if_neg (by omega), if_pos (by omega), if_pos (by omega), if_neg (by omega)]
    · rw [if_neg (fun h' => h1 ⟨h'.1, h'.2.1⟩)] at h
      subst h
      refine Ev.step (fun k => ?_) (Ev.now _)
      by_cases h4 : rd L q ≤ i
      · rw [spec_GoodTrie.l1, if_pos (by omega), if_pos (by omega), if_pos (by rw [hL]; omega), if_neg h0, if_pos h4]
      · rw [spec_GoodTrie.l1, if_pos (by omega), if_pos (by omega), if_pos (by rw [hL]; omega), if_neg h0, if_neg h4, if_pos (by omega)]
theorem d9 (l : List S86) (U E : List Int) (c i : Int) (a : S86) (L : List Int) (r : Bool) (hi : 0 ≤ i)
    (h : aq i a = true → Ev (fun k => spec_GoodTrie.l0 k l U E (if a.f2 = true then wrap64 (c + 1) else c) l (l.length : Int) (wrap64 (i + 1))) r) (h' : aq i a = false → r = false) :
    Ev (fun k => spec_GoodTrie.l1 k l U E c i l (l.length : Int) i L 2 ((2 : Nat) : Int) a.f0 a.f1 a.f2 a.f3) r := by
  have st : ∀ k, spec_GoodTrie.l1 (k + 1) l U E c i l (l.length : Int) i L 2 ((2 : Nat) : Int) a.f0 a.f1 a.f2 a.f3 = if aq i a = true then spec_GoodTrie.l0 k l U E (if a.f2 = true then wrap64 (c + 1) else c) l (l.length : Int) (wrap64 (i + 1)) else some false := by
    intro k
    rw [spec_GoodTrie.l1, if_neg (by decide), cf]
    simp only [kz]
    unfold aq
    cases hv : isVal a.f3
    · cases hh : a.f2
      · by_cases b4 : a.f3 = 0
        · simp [b4]
        · simp [b4]
      · simp
    · cases hh : a.f2
      · by_cases b4 : a.f3 = 0
        · by_cases b5 : i > 0
          · by_cases b6 : a.f0 = 0
            · by_cases b7 : a.f1 = 0
              · simp [b4, b5, b6, b7]
              · simp [b4, b5, b6, b7]
            · simp [b4, b5, b6]
          · simp [b4, b5]
        · simp [b4]
      · by_cases b5 : i > 0
        · by_cases b6 : a.f0 = 0
          · by_cases b7 : a.f1 = 0
            · simp [b5, b6, b7]
            · simp [b5, b6, b7]
          · simp [b5, b6]
        · simp [b5]
  cases hok : aq i a
  · rw [h' hok]
    refine Ev.step (fun k => ?_) (Ev.now _)
    rw [st, if_neg (by rw [hok]; decide)]
  · refine Ev.step (fun k => ?_) (h hok)
    rw [st, if_pos hok]
theorem da {l : List S86} (hn : (l.length : Int) ≤ 2000) : ∀ (rest pre : List S86) (D U E : List Int) (c : Int), l = pre ++ rest → D.length = l.length → fk D → TRel D U E → 0 ≤ c → c ≤ pre.length →
    Ev (fun k => spec_GoodTrie.l0 k l U E c l (l.length : Int) (pre.length : Int)) (av l.length rest pre.length D c)
  | [], pre, D, U, E, c, e, hD, hb, hR, c0, c1 => by
    refine Ev.step (fun k => ?_) (Ev.now _)
    rw [spec_GoodTrie.l0, if_neg (by rw [e]; simp), av]
  | a :: rest, pre, D, U, E, c, e, hD, hb, hR, c0, c1 => by
    have hlen : (l.length : Int) = pre.length + (rest.length + 1) := by rw [e]; simp
    have h1 : rd_T86 l (pre.length : Int) = a := by rw [e]; exact dc _ _ _
    have lu := hR.lu
    have le := hR.le
    have step : ∀ k, spec_GoodTrie.l0 (k + 1) l U E c l (l.length : Int) (pre.length : Int) = spec_GoodTrie.j1 k l U E c (pre.length : Int) l (l.length : Int) (pre.length : Int) (decide (rd D (pre.length : Int) < 0 ∨ rd D (pre.length : Int) > 32)) a.f0 a.f1 a.f2 a.f3 := by
      intro k
      rw [spec_GoodTrie.l0, if_pos (by omega), if_pos (by omega), if_pos (by omega), h1]
      by_cases b5 : (pre.length : Int) > 0
      · rw [if_pos b5, if_pos (by omega)]
        rcases hR.other (pre.length : Int) (by omega) (by omega) with h3 | h3
        · rw [if_pos h3.2, decide_eq_true (Or.inl h3.1)]
        · have h4 : ¬ rd D (pre.length : Int) < 0 := by omega
          rw [if_neg (by omega), if_pos (by omega), h3.2.2]
          simp [h4]
      · have e0 : (pre.length : Int) = 0 := by omega
        rw [if_neg b5, if_pos (by omega), e0, hR.zero.2.1, hR.zero.2.2]
        simp
    refine Ev.step step ?_
    rw [av]
    by_cases hd : rd D (pre.length : Int) < 0 ∨ rd D (pre.length : Int) > 32
    · rw [if_pos hd, decide_eq_true hd]
      refine Ev.step (fun k => ?_) (Ev.now _)
      rw [spec_GoodTrie.j1, if_pos rfl]
    · rw [if_neg hd, decide_eq_false hd]
      have hd2 : 0 ≤ rd D (pre.length : Int) ∧ rd D (pre.length : Int) ≤ 32 := by omega
      refine Ev.step (f := fun k => spec_GoodTrie.l1 k l U E c (pre.length : Int) l (l.length : Int) (pre.length : Int) [a.f0, a.f1] 2 ((0 : Nat) : Int) a.f0 a.f1 a.f2 a.f3) (fun k => ?_) ?_
      · rw [spec_GoodTrie.j1, if_neg (by decide), kz]; rfl
      · have hfin : ∀ r : Bool, aq (pre.length : Int) a = false → (if aq (pre.length : Int) a = true then r else false) = false := fun r h => by rw [if_neg (by rw [h]; decide)]
        refine ce hn hD hb hR (by omega) (by omega) hd2 0 rfl (by omega) ?_
        rw [show rd [a.f0, a.f1] ((0 : Nat) : Int) = a.f0 from rfl]
        cases hp : bh (l.length : Int) (pre.length : Int) D a.f0 with
        | none => by_cases hok : aq (pre.length : Int) a = true <;> simp [hok]
        | some D1 =>
          intro U1 E1 hR1
          obtain ⟨g2, g3, g4, _⟩ := dw hp (by omega) hb hd2.2 (by rw [hD])
          refine ce hn (by omega) g3 hR1 (by omega) (by omega) (by omega) 1 rfl (by omega) ?_
          rw [show rd [a.f0, a.f1] ((1 : Nat) : Int) = a.f1 from rfl, kz]
          cases hp2 : bh (l.length : Int) (pre.length : Int) D1 a.f1 with
          | none => by_cases hok : aq (pre.length : Int) a = true <;> simp [hok]
          | some D2 =>
            intro U2 E2 hR2
            obtain ⟨g5, g6, g7, _⟩ := dw hp2 (by omega) g3 (by omega) (by rw [g2, hD])
            refine d9 l U2 E2 c (pre.length : Int) a [a.f0, a.f1] _ (by omega) (fun hok => ?_) (hfin _)
            rw [if_pos hok, wrap_mid (rest := rest) (by rw [← e]; simp only [maxLen]; omega)]
            have hwc : wrap64 (c + 1) = c + 1 := wrap_id (by omega) (by omega)
            rw [hwc]
            have hcc : (0 ≤ if a.f2 = true then c + 1 else c) ∧ (if a.f2 = true then c + 1 else c) ≤ (pre.length : Int) + 1 := by by_cases h : a.f2 = true <;> simp only [h, if_true, if_false, Bool.false_eq_true] <;> omega
            have := da hn rest (pre ++ [a]) D2 U2 E2 (if a.f2 = true then c + 1 else c) (by rw [e]; simp) (by omega) g6 hR2 hcc.1 (by simp; omega)
            rwa [show ((pre ++ [a]).length : Int) = (pre.length : Int) + 1 by simp] at this ⊢
theorem fg (n : Nat) : TRel ((ky n (-1 : Int)).set 0 0) (ky n 0) (ky n 0) := by
  have hz : ∀ j : Int, rd (ky n (0 : Int)) j = 0 := by
    intro j
    unfold rd
    rw [List.getD_eq_getElem?_getD, List.getElem?_replicate]
    by_cases h2 : j.toNat < n
    · rw [if_pos h2]; rfl
    · rw [if_neg h2]; rfl
  refine ⟨by simp, by simp, ⟨hz 0, ?_, hz 0⟩, fun j h0 h1 => .inl ⟨?_, hz j⟩⟩
  · unfold rd
    rw [List.getD_eq_getElem?_getD, List.getElem?_set]
    by_cases h2 : 0 < n
    · simp [h2]
    · simp [h2]
  · have h1' : j < (n : Int) := by simpa using h1
    rw [show (0 : Nat) = (0 : Int).toNat from rfl, ah (by omega) (by omega) (by omega)]
    unfold rd
    rw [List.getD_eq_getElem?_getD, List.getElem?_replicate, if_pos (by omega)]
    simp
theorem ax (l : List S86) : Ev (fun k => spec_GoodTrie.f k l) (aa l) := by
  unfold aa
  by_cases h : 1 ≤ (l.length : Int) ∧ (l.length : Int) ≤ 2000
  · rw [if_pos h]
    refine Ev.congr (f := fun k => spec_GoodTrie.l0 k l (ky l.length 0) (ky l.length 0) 0 l (l.length : Int) (([] : List S86).length : Int)) (fun k => ?_) (da h.2 l [] _ _ _ 0 rfl (by simp) (d7 _) (fg _) (by omega) (by simp))
    unfold spec_GoodTrie.f
    rw [a8, kz, if_pos (decide_eq_true h), if_pos (by omega), if_pos (by omega)]
    rfl
  · rw [if_neg h]
    refine Ev.congr (fun k => ?_) (Ev.now false)
    unfold spec_GoodTrie.f
    rw [a8, kz, if_neg (by simpa using h)]
def ch (n i x : Int) : Prop := x = 0 ∨ (i + 1 ≤ x ∧ x ≤ n - 1)
theorem e5 {n i : Int} {D D' : List Int} {x : Int} (h : bh n i D x = some D') : ch n i x := by
  unfold bh at h
  by_cases h0 : x = 0
  · exact .inl h0
  · rw [if_neg h0] at h
    by_cases h1 : i + 1 ≤ x ∧ x ≤ n - 1 ∧ rd D x < 0
    · exact .inr ⟨h1.1, h1.2.1⟩
    · rw [if_neg h1] at h; cases h
theorem dr (n : Int) : ∀ (rest : List S86) (i : Int) (D : List Int) (c : Int), av n rest i D c = true → ∀ (j : Nat) (a : S86), rest[j]? = some a → (ch n (i + j) a.f0 ∧ ch n (i + j) a.f1) ∧ isVal a.f3 = true
  | [], _, _, _, _, j, a, h => by simp at h
  | b :: t, i, D, c, ht, j, a, h => by
    rw [av] at ht
    by_cases hd : rd D i < 0 ∨ rd D i > 32
    · rw [if_pos hd] at ht; cases ht
    · rw [if_neg hd] at ht
      cases hok : aq i b
      · rw [hok, if_neg (by decide)] at ht; cases ht
      · rw [hok, if_pos rfl] at ht
        cases hp : bh n i D b.f0 with
        | none => rw [hp] at ht; cases ht
        | some D1 =>
          rw [hp, kz] at ht
          cases hp2 : bh n i D1 b.f1 with
          | none => rw [hp2] at ht; cases ht
          | some D2 =>
            rw [hp2] at ht
            cases j with
            | zero =>
              simp at h
              subst h
              refine ⟨by simpa using ⟨e5 hp, e5 hp2⟩, ?_⟩
              unfold aq at hok
              simp only [kb] at hok
              exact hok.1
            | succ j =>
              have := dr n t (i + 1) D2 _ ht j a (by simpa using h)
              rwa [show i + 1 + (j : Int) = i + ((j + 1 : Nat) : Int) by omega] at this
theorem al {l : List S86} (h : aa l = true) : 1 ≤ (l.length : Int) ∧ (l.length : Int) ≤ 2000 := by
  unfold aa at h
  by_cases h1 : 1 ≤ (l.length : Int) ∧ (l.length : Int) ≤ 2000
  · exact h1
  · rw [if_neg h1] at h; cases h
theorem bu {l : List S86} (h : aa l = true) {i : Int} (h0 : 0 ≤ i) (h1 : i < (l.length : Int)) : (ch l.length i (rd_T86 l i).f0 ∧ ch l.length i (rd_T86 l i).f1) ∧ isVal (rd_T86 l i).f3 = true := by
  have hl := al h
  unfold aa at h
  rw [if_pos hl] at h
  have hi : i.toNat < l.length := by omega
  have := dr _ l 0 _ _ h i.toNat (l[i.toNat]'hi) (List.getElem?_eq_getElem hi)
  have e : rd_T86 l i = l[i.toNat]'hi := by unfold rd_T86; rw [List.getD_eq_getElem?_getD, List.getElem?_eq_getElem hi]; rfl
  rw [e]
  rwa [show (0 : Int) + (i.toNat : Int) = i by omega] at this
def au (a d : Int) : Int := Go.bits .and .i64 (shr .i64 a (31 - d)) 1
theorem bg (a d : Int) : au a d = 0 ∨ au a d = 1 := by
  unfold au
  show IntKind.i64.wrap ((BitVec.ofInt 64 _ &&& BitVec.ofInt 64 1).toNat : Int) = 0 ∨ IntKind.i64.wrap ((BitVec.ofInt 64 _ &&& BitVec.ofInt 64 1).toNat : Int) = 1
  rw [BitVec.toNat_and]
  have h := @Nat.and_le_right (BitVec.ofInt 64 (shr .i64 a (31 - d))).toNat (BitVec.ofInt 64 1).toNat
  have h1 : (BitVec.ofInt 64 1).toNat = 1 := by decide
  rw [h1] at h ⊢
  generalize (BitVec.ofInt 64 (shr .i64 a (31 - d))).toNat &&& 1 = q at h ⊢
  rw [i64_w, wrap_id (by omega) (by omega)]
  omega
theorem ee (a d : Int) (h0 : 0 ≤ d) (h1 : d ≤ 31) : impl_bitOf.f a d = some (au a d) := by
  unfold impl_bitOf.f au
  rw [wrap_id (by omega) (by omega), if_pos (by omega)]
theorem ed (a d : Int) (h0 : 0 ≤ d) (h1 : d ≤ 31) : spec_l2Bit.f a d = some (au a d) := by
  unfold spec_l2Bit.f au
  rw [wrap_id (by omega) (by omega), u64_id (by omega) (by omega), if_pos (by omega)]
def ab (a : S86) (b : Int) : Int := if b = 1 then a.f1 else a.f0
theorem ew (a : S86) (b : Int) (h : b = 0 ∨ b = 1) : impl_TrieNode_half.f a.f0 a.f1 a.f2 a.f3 b = some (ab a b) := by
  unfold impl_TrieNode_half.f ab
  rcases h with rfl | rfl
  · rw [if_pos rfl, if_neg (by decide)]
  · rw [if_neg (by decide), if_pos rfl]
theorem er (a : S86) (b : Int) : spec_l2Half.f a.f0 a.f1 a.f2 a.f3 b = some (ab a b) := by
  unfold spec_l2Half.f ab
  by_cases h : b = 1
  · rw [if_pos h, if_pos h]
  · rw [if_neg h, if_neg h]
theorem dl {n i b : Int} {a : S86} (h : ch n i a.f0 ∧ ch n i a.f1) : ch n i (ab a b) := by
  unfold ab
  by_cases hb : b = 1
  · rw [if_pos hb]; exact h.2
  · rw [if_neg hb]; exact h.1
def KidsV (l : List S86) : Prop := ∀ i : Int, 0 ≤ i → i < (l.length : Int) → ch l.length i (rd_T86 l i).f0 ∧ ch l.length i (rd_T86 l i).f1
theorem bb {l : List S86} (h : aa l = true) : KidsV l := fun _ h0 h1 => (bu h h0 h1).1
theorem a6 {l : List S86} {x y : Int} {v : S86} (hx : 0 ≤ x) (hy : 0 ≤ y) (h : x ≠ y) : rd_T86 (l.set x.toNat v) y = rd_T86 l y := by
  unfold rd_T86
  have : x.toNat ≠ y.toNat := by omega
  simp only [List.getD_eq_getElem?_getD, List.getElem?_set_ne this]
theorem a7 {l : List S86} {x : Int} {v : S86} (hx : 0 ≤ x) (h : x < (l.length : Int)) : rd_T86 (l.set x.toNat v) x = v := by
  unfold rd_T86
  have : x.toNat < l.length := by omega
  simp [List.getD_eq_getElem?_getD, List.getElem?_set, this]
theorem dd {l m : List S86} {x : Int} (hx : 0 ≤ x) (h : x < (l.length : Int)) : rd_T86 (l ++ m) x = rd_T86 l x := by
  unfold rd_T86
  rw [List.getD_eq_getElem?_getD, List.getD_eq_getElem?_getD, List.getElem?_append_left (by omega)]
theorem d4 {l : List S86} {a : S86} : rd_T86 (l ++ [a]) (l.length : Int) = a := by unfold rd_T86; simp
def ad (a : S86) (b n : Int) : S86 := if b = 1 then ⟨a.f0, n, a.f2, a.f3⟩ else ⟨n, a.f1, a.f2, a.f3⟩
def ag (v a : Int) : Nat → Int → List S86 → Int → List S86
  | 0, _, l, i => l.set i.toNat ⟨(rd_T86 l i).f0, (rd_T86 l i).f1, true, v⟩
  | m + 1, d, l, i => if ab (rd_T86 l i) (au a d) = 0 then ag v a m (d + 1) ((l ++ [(⟨0, 0, false, 0⟩ : S86)]).set i.toNat (ad (rd_T86 l i) (au a d) (l.length : Int))) (l.length : Int) else ag v a m (d + 1) l (ab (rd_T86 l i) (au a d))
theorem KidsV.grow {l : List S86} (h : KidsV l) {i : Int} (b : Int) (h0 : 0 ≤ i) (h1 : i < (l.length : Int)) : KidsV ((l ++ [(⟨0, 0, false, 0⟩ : S86)]).set i.toNat (ad (rd_T86 l i) b (l.length : Int))) := by
  have hlen : ((((l ++ [(⟨0, 0, false, 0⟩ : S86)]).set i.toNat (ad (rd_T86 l i) b (l.length : Int))).length : Nat) : Int) = (l.length : Int) + 1 := by simp
  have up : ∀ {j x : Int}, ch l.length j x → ch ((l.length : Int) + 1) j x := fun hk => hk.elim .inl (fun hk => .inr ⟨hk.1, by omega⟩)
  intro j hj hj2
  rw [hlen] at hj2 ⊢
  by_cases e : i = j
  · subst e
    rw [a7 h0 (by simp; omega)]
    have hk := h i h0 h1
    unfold ad
    by_cases hb : b = 1
    · rw [if_pos hb]; dsimp only; exact ⟨up hk.1, .inr ⟨by omega, by omega⟩⟩
    · rw [if_neg hb]; dsimp only; exact ⟨.inr ⟨by omega, by omega⟩, up hk.2⟩
  · rw [a6 h0 hj e]
    by_cases e2 : j < (l.length : Int)
    · rw [dd hj e2]
      have hk := h j hj e2
      exact ⟨up hk.1, up hk.2⟩
    · have : j = (l.length : Int) := by omega
      subst this
      rw [d4]
      exact ⟨.inl rfl, .inl rfl⟩
theorem bo (v a : Int) : ∀ (m : Nat) (d : Int) (l : List S86) (i : Int), l.length ≤ (ag v a m d l i).length ∧ (ag v a m d l i).length ≤ l.length + m
  | 0, _, l, i => by simp [ag]
  | m + 1, d, l, i => by
    rw [ag]
    by_cases h : ab (rd_T86 l i) (au a d) = 0
    · rw [if_pos h]
      have := bo v a m (d + 1) ((l ++ [(⟨0, 0, false, 0⟩ : S86)]).set i.toNat (ad (rd_T86 l i) (au a d) (l.length : Int))) (l.length : Int)
      simp only [kk, kg, kq] at this
      omega
    · rw [if_neg h]
      have := bo v a m (d + 1) l (ab (rd_T86 l i) (au a d))
      omega
theorem d5 (v a : Int) : ∀ (m : Nat) (d : Int) (l : List S86) (i : Int), KidsV l → 0 ≤ i → i < (l.length : Int) → ∃ j : Int, 0 ≤ j ∧ j < ((ag v a m d l i).length : Int) ∧ (rd_T86 (ag v a m d l i) j).f3 = v
  | 0, _, l, i, _, h0, h1 => ⟨i, h0, by simpa [ag] using h1, by rw [ag, a7 h0 h1]⟩
  | m + 1, d, l, i, hk, h0, h1 => by
    rw [ag]
    by_cases h : ab (rd_T86 l i) (au a d) = 0
    · rw [if_pos h]
      exact d5 v a m (d + 1) _ _ (hk.grow _ h0 h1) (by omega) (by simp; omega)
    · rw [if_neg h]
      have hv := dl (b := au a d) (hk i h0 h1)
      exact d5 v a m (d + 1) l _ hk (by rcases hv with e | e; exact absurd e h; omega) (by rcases hv with e | e; exact absurd e h; omega)
theorem fa {l : List S86} {i v : Int} (h0 : 0 ≤ i) (h1 : i < (l.length : Int)) : ((some (l.set (i : Int).toNat (⟨(rd_T86 l i).f0, (rd_T86 l i).f1, true, (rd_T86 l i).f3⟩ : S86) : List S86)).bind fun y => (some (y.set (i : Int).toNat (⟨(rd_T86 y i).f0, (rd_T86 y i).f1, (rd_T86 y i).f2, v⟩ : S86)))) = some (l.set i.toNat ⟨(rd_T86 l i).f0, (rd_T86 l i).f1, true, v⟩) := by
  rw [kz, a7 h0 h1, List.set_set]
theorem be (v a p : Int) : ∀ (m : Nat) (d : Int) (l : List S86) (i : Int) (k : Nat), KidsV l → 0 ≤ i → i < (l.length : Int) → 0 ≤ d → d + m = p → p ≤ 32 → l.length + m ≤ 100000000 → m < k → impl_inserted.l0 k v l i p d a p = some (ag v a m d l i)
  | 0, d, l, i, k, hk, h0, h1, h2, h3, h4, h5, h6 => by
    obtain ⟨k, rfl⟩ : ∃ j, k = j + 1 := ⟨k - 1, by omega⟩
    rw [impl_inserted.l0, if_neg (by omega), if_pos h0, if_pos h1, fa h0 h1]
    rfl
  | m + 1, d, l, i, k, hk, h0, h1, h2, h3, h4, h5, h6 => by
    obtain ⟨k, rfl⟩ : ∃ j, k = j + 1 := ⟨k - 1, by omega⟩
    have hb := bg a d
    have hw : wrap64 (d + 1) = d + 1 := wrap_id (by omega) (by omega)
    rw [impl_inserted.l0, if_pos (by omega), ee _ _ h2 (by omega), kz, if_pos h0, if_pos h1, ew _ _ hb, kz, ag, hw]
    by_cases h : ab (rd_T86 l i) (au a d) = 0
    · rw [if_pos h, if_pos h, if_pos (by omega), kz, dd h0 h1]
      have hg := hk.grow (au a d) h0 h1
      have ih := be v a p m (d + 1) _ (l.length : Int) k hg (by omega) (by simp; omega) (by omega) (by omega) h4 (by simp; omega) (by omega)
      unfold ad at ih ⊢
      rcases hb with e | e
      · rw [if_pos e, if_pos (by simp; omega)]
        rw [if_neg (show ¬ au a d = 1 by omega)] at ih ⊢
        exact ih
      · rw [if_neg (show ¬ au a d = 0 by omega), if_pos (by simp; omega)]
        rw [if_pos e] at ih ⊢
        exact ih
    · rw [if_neg h, if_neg h]
      have hv := dl (b := au a d) (hk i h0 h1)
      exact be v a p m (d + 1) l _ k hk (by rcases hv with e | e; exact absurd e h; omega) (by rcases hv with e | e; exact absurd e h; omega) (by omega) (by omega) h4 (by omega) (by omega)
theorem bm (v a p : Int) : ∀ (m : Nat) (d : Int) (l : List S86) (i : Int) (k : Nat), KidsV l → 0 ≤ i → i < (l.length : Int) → 0 ≤ d → d + m = p → p ≤ 32 → l.length + m ≤ 100000000 → m < k → spec_l2Insert.l0 k l v i d a p = some (ag v a m d l i)
  | 0, d, l, i, k, hk, h0, h1, h2, h3, h4, h5, h6 => by
    obtain ⟨k, rfl⟩ : ∃ j, k = j + 1 := ⟨k - 1, by omega⟩
    rw [spec_l2Insert.l0, if_neg (by omega), if_pos h0, if_pos h1, fa h0 h1]
    rfl
  | m + 1, d, l, i, k, hk, h0, h1, h2, h3, h4, h5, h6 => by
    obtain ⟨k, rfl⟩ : ∃ j, k = j + 1 := ⟨k - 1, by omega⟩
    have hb := bg a d
    have hw : wrap64 (d + 1) = d + 1 := wrap_id (by omega) (by omega)
    rw [spec_l2Insert.l0, if_pos (by omega), ed _ _ h2 (by omega), kz, if_pos h0, if_pos h1, er, kz, ag, hw]
    by_cases h : ab (rd_T86 l i) (au a d) = 0
    · rw [if_pos h, if_pos h, if_pos (by omega), kz, dd h0 h1]
      have hg := hk.grow (au a d) h0 h1
      have ih := bm v a p m (d + 1) _ (l.length : Int) k hg (by omega) (by simp; omega) (by omega) (by omega) h4 (by simp; omega) (by omega)
      unfold ad at ih ⊢
      rcases hb with e | e
      · rw [if_neg (show ¬ au a d = 1 by omega), if_pos (by simp; omega)]
        rw [if_neg (show ¬ au a d = 1 by omega)] at ih ⊢
        exact ih
      · rw [if_pos e, if_pos (by simp; omega)]
        rw [if_pos e] at ih ⊢
        exact ih
    · rw [if_neg h, if_neg h]
      have hv := dl (b := au a d) (hk i h0 h1)
      exact bm v a p m (d + 1) l _ k hk (by rcases hv with e | e; exact absurd e h; omega) (by rcases hv with e | e; exact absurd e h; omega) (by omega) (by omega) h4 (by omega) (by omega)
theorem bz (l : List S86) (a p v : Int) (k : Nat) (hk : KidsV l) (h1 : 1 ≤ l.length) (h2 : l.length ≤ 1000000) (h3 : 0 ≤ p) (h4 : p ≤ 32) (h5 : 33 ≤ k) : impl_inserted.f k l a p v = some (ag v a p.toNat 0 l 0) := by
  unfold impl_inserted.f slices_Clone_impl_TrieNode_impl_TrieNode.f
  rw [if_pos (by omega), kz]
  exact be v a p p.toNat 0 l 0 k hk (by omega) (by omega) (by omega) (by omega) h4 (by omega) (by omega)
theorem bw (l : List S86) (a p v : Int) (k : Nat) (hk : KidsV l) (h1 : 1 ≤ l.length) (h2 : l.length ≤ 1000000) (h3 : 0 ≤ p) (h4 : p ≤ 32) (h5 : 33 ≤ k) : spec_l2Insert.f k l a p v = some (ag v a p.toNat 0 l 0) := by
  unfold spec_l2Insert.f
  exact bm v a p p.toNat 0 l 0 k hk (by omega) (by omega) (by omega) (by omega) h4 (by omega) (by omega)
theorem eg (l : List S86) (a p v : Int) : ∃ r : List S86 × Bool, Ev (fun k => spec_InsertIn.f k l a p v) r ∧ Ev (fun k => impl_InsertIn.f k l a p v) r ∧ r.1.length ≤ 3000 ∧ (r.2 = true → aa l = true ∧ good a p = true ∧ aa (ag v a p.toNat 0 l 0) = true ∧ r.1 = ag v a p.toNat 0 l 0) := by
  obtain ⟨K1, h1⟩ := ax l
  obtain ⟨K2, h2⟩ := am l
  replace h1 : ∀ k, K1 ≤ k → spec_GoodTrie.f k l = _ := h1
  replace h2 : ∀ k, K2 ≤ k → impl_GoodTrie.f k l = _ := h2
  have bad1 : ∀ k, spec_InsertIn.j0 (k + 1) l v true a p = some ([], false) := fun k => by rw [spec_InsertIn.j0, if_pos rfl]
  have bad2 : ∀ k, impl_InsertIn.j0 (k + 1) l v true a p = some ([], false) := fun k => by rw [impl_InsertIn.j0, if_pos rfl]
  by_cases hg : aa l = true
  · by_cases hp : good a p = true
    · have hl := al hg
      obtain ⟨p0, p1, _⟩ := good_iff.1 hp
      have hkv := bb hg
      obtain ⟨K3, h3⟩ := ax (ag v a p.toNat 0 l 0)
      obtain ⟨K4, h4⟩ := am (ag v a p.toNat 0 l 0)
      replace h3 : ∀ k, K3 ≤ k → spec_GoodTrie.f k _ = _ := h3
      replace h4 : ∀ k, K4 ≤ k → impl_GoodTrie.f k _ = _ := h4
      have hlen := bo v a p.toNat 0 l 0
      have hv : aa (ag v a p.toNat 0 l 0) = true → isVal v = true := by
        intro h
        obtain ⟨j, j0, j1, j2⟩ := d5 v a p.toNat 0 l 0 hkv (by omega) (by omega)
        have := (bu h j0 j1).2
        rwa [j2] at this
      refine ⟨if aa (ag v a p.toNat 0 l 0) = true then (ag v a p.toNat 0 l 0, true) else ([], false), ⟨K1 + K3 + 40, fun k hk => ?_⟩, ⟨K2 + K4 + 40, fun k hk => ?_⟩, ?_, fun hr => ?_⟩
      · show spec_InsertIn.f k l a p v = _
        obtain ⟨k, rfl⟩ : ∃ m, k = m + 1 := ⟨k - 1, by omega⟩
        unfold spec_InsertIn.f
        rw [h1 _ (by omega), kz, if_pos hg, ai, kz, hp, spec_InsertIn.j0, if_neg (by decide), kz, if_pos (by simp; omega), kt, bw l a p v k hkv (by omega) (by omega) p0 p1 (by omega), kz, h3 _ (by omega), kz]
        by_cases hh : aa (ag v a p.toNat 0 l 0) = true
        · rw [if_pos hh, if_pos hh]
        · rw [if_neg hh, if_neg hh]
      · show impl_InsertIn.f k l a p v = _
        obtain ⟨k, rfl⟩ : ∃ m, k = m + 1 := ⟨k - 1, by omega⟩
        unfold impl_InsertIn.f
        rw [h2 _ (by omega), kz, if_pos hg, an, kz, if_pos hp, bj, kz]
        cases hvv : isVal v
        · have hh : ¬ aa (ag v a p.toNat 0 l 0) = true := fun h => by have := hv h; rw [hvv] at this; cases this
          rw [if_neg hh]
          exact bad2 k
        · rw [impl_InsertIn.j0, if_neg (by decide), bz l a p v k hkv (by omega) (by omega) p0 p1 (by omega), kz, h4 _ (by omega), kz]
          by_cases hh : aa (ag v a p.toNat 0 l 0) = true
          · rw [if_pos hh, if_pos hh]
          · rw [if_neg hh, if_neg hh]
      · by_cases hh : aa (ag v a p.toNat 0 l 0) = true
        · rw [if_pos hh]; show (ag v a p.toNat 0 l 0).length ≤ 3000; omega
        · rw [if_neg hh]; show ([] : List S86).length ≤ 3000; simp
      · by_cases hh : aa (ag v a p.toNat 0 l 0) = true
        · rw [if_pos hh]; exact ⟨hg, hp, hh, rfl⟩
        · rw [if_neg hh] at hr; cases hr
    · refine ⟨([], false), ⟨K1 + 1, fun k hk => ?_⟩, ⟨K2 + 1, fun k hk => ?_⟩, by simp, fun hr => by cases hr⟩
      · show spec_InsertIn.f k l a p v = _
        obtain ⟨k, rfl⟩ : ∃ m, k = m + 1 := ⟨k - 1, by omega⟩
        unfold spec_InsertIn.f
        have hp' : good a p = false := by simpa using hp
        rw [h1 _ (by omega), kz, if_pos hg, ai, kz, hp']
        exact bad1 k
      · show impl_InsertIn.f k l a p v = _
        obtain ⟨k, rfl⟩ : ∃ m, k = m + 1 := ⟨k - 1, by omega⟩
        unfold impl_InsertIn.f
        rw [h2 _ (by omega), kz, if_pos hg, an, kz, if_neg hp]
        exact bad2 k
  · refine ⟨([], false), ⟨K1 + 1, fun k hk => ?_⟩, ⟨K2 + 1, fun k hk => ?_⟩, by simp, fun hr => by cases hr⟩
    · show spec_InsertIn.f k l a p v = _
      obtain ⟨k, rfl⟩ : ∃ m, k = m + 1 := ⟨k - 1, by omega⟩
      unfold spec_InsertIn.f
      rw [h1 _ (by omega), kz, if_neg hg]
      exact bad1 k
    · show impl_InsertIn.f k l a p v = _
      obtain ⟨k, rfl⟩ : ∃ m, k = m + 1 := ⟨k - 1, by omega⟩
      unfold impl_InsertIn.f
      rw [h2 _ (by omega), kz, if_neg hg]
      exact bad2 k
def ac (t : List S86) : Nat → Int → Int → Int → List S39 → List S39
  | 0, i, a, n, out => if (rd_T86 t i).f2 = true then out ++ [⟨⟨a, n⟩, (rd_T86 t i).f3⟩] else out
  | m + 1, i, a, n, out =>
    let o1 := if (rd_T86 t i).f2 = true then out ++ [⟨⟨a, n⟩, (rd_T86 t i).f3⟩] else out
    let o2 := if (rd_T86 t i).f0 = 0 then o1 else ac t m (rd_T86 t i).f0 a (n + 1) o1
    if (rd_T86 t i).f1 = 0 then o2 else ac t m (rd_T86 t i).f1 (a + sz (n + 1)) (n + 1) o2
theorem ct (t : List S86) : ∀ (m : Nat) (i a n : Int) (out : List S39), (ac t m i a n out).length + 1 ≤ out.length + 2 ^ (m + 1)
  | 0, i, a, n, out => by
    rw [ac]
    by_cases h : (rd_T86 t i).f2 = true
    · rw [if_pos h]; simp
    · rw [if_neg h]; simp; try omega
  | m + 1, i, a, n, out => by
    rw [ac]
    have h1 : (if (rd_T86 t i).f2 = true then out ++ [⟨⟨a, n⟩, (rd_T86 t i).f3⟩] else out).length ≤ out.length + 1 := by
      by_cases h : (rd_T86 t i).f2 = true
      · rw [if_pos h]; simp
      · rw [if_neg h]; omega
    generalize (if (rd_T86 t i).f2 = true then out ++ [⟨⟨a, n⟩, (rd_T86 t i).f3⟩] else out) = o1 at h1 ⊢
    have hp : (2 : Nat) ^ (m + 1 + 1) = 2 ^ (m + 1) + 2 ^ (m + 1) := by rw [kV]; omega
    have hq : 1 ≤ (2 : Nat) ^ (m + 1) := Nat.one_le_two_pow
    have h2 : (if (rd_T86 t i).f0 = 0 then o1 else ac t m (rd_T86 t i).f0 a (n + 1) o1).length + 1 ≤ o1.length + 2 ^ (m + 1) := by
      by_cases h : (rd_T86 t i).f0 = 0
      · rw [if_pos h]; omega
      · rw [if_neg h]; exact ct t m _ _ _ _
    generalize (if (rd_T86 t i).f0 = 0 then o1 else ac t m (rd_T86 t i).f0 a (n + 1) o1) = o2 at h2 ⊢
    by_cases h : (rd_T86 t i).f1 = 0
    · rw [if_pos h]; omega
    · rw [if_neg h]
      have := ct t m (rd_T86 t i).f1 (a + sz (n + 1)) (n + 1) o2
      omega
theorem bv {t : List S86} (hk : KidsV t) : ∀ (m : Nat) (i a n : Int) (out : List S39) (k : Nat), 0 ≤ i → i < (t.length : Int) → 0 ≤ n → n + m = 32 → 0 ≤ a → a + sz n ≤ 4294967296 → out.length + 2 ^ (m + 1) ≤ 100000000000 → 2 * m + 2 ≤ k →
    spec_l2Walk.f k t i a n out = some (ac t m i a n out) ∧ impl_entriesBelow.f k t i a n out = some (ac t m i a n out)
  | 0, i, a, n, out, k, i0, i1, n0, hn, a0, a1, ho, hkk => by
    obtain ⟨k, rfl⟩ : ∃ j, k = j + 1 + 1 := ⟨k - 2, by omega⟩
    rw [spec_l2Walk.f, impl_entriesBelow.f, if_pos i0, if_pos i0, if_pos i1, if_pos i1, ac]
    by_cases h : (rd_T86 t i).f2 = true
    · rw [if_pos h, if_pos h, if_pos h, if_pos (by omega), if_pos (by omega), spec_l2Walk.j0, impl_entriesBelow.j0, if_pos (show n = 32 by omega), if_pos (show n = 32 by omega)]
      exact ⟨rfl, rfl⟩
    · rw [if_neg h, if_neg h, if_neg h, spec_l2Walk.j0, impl_entriesBelow.j0, if_pos (show n = 32 by omega), if_pos (show n = 32 by omega)]
      exact ⟨rfl, rfl⟩
  | m + 1, i, a, n, out, k, i0, i1, n0, hn, a0, a1, ho, hkk => by
    obtain ⟨k, rfl⟩ : ∃ j, k = j + 1 + 1 := ⟨k - 2, by omega⟩
    have hki := hk i i0 i1
    have hs := sz_succ n0 (by omega)
    have hs1 := sz_pos (n + 1)
    have hp : (2 : Nat) ^ (m + 1 + 1) = 2 ^ (m + 1) + 2 ^ (m + 1) := by rw [kV]; omega
    have hq : 2 ≤ (2 : Nat) ^ (m + 1) := by have := @Nat.one_le_two_pow m; rw [kV]; omega
    have mid : ∀ o1 : List S39, o1.length ≤ out.length + 1 →
        spec_l2Walk.j0 (k + 1) t i o1 a n = some (if (rd_T86 t i).f1 = 0 then (if (rd_T86 t i).f0 = 0 then o1 else ac t m (rd_T86 t i).f0 a (n + 1) o1) else ac t m (rd_T86 t i).f1 (a + sz (n + 1)) (n + 1) (if (rd_T86 t i).f0 = 0 then o1 else ac t m (rd_T86 t i).f0 a (n + 1) o1)) ∧
        impl_entriesBelow.j0 (k + 1) t o1 a n (rd_T86 t i).f0 (rd_T86 t i).f1 (rd_T86 t i).f2 (rd_T86 t i).f3 = some (if (rd_T86 t i).f1 = 0 then (if (rd_T86 t i).f0 = 0 then o1 else ac t m (rd_T86 t i).f0 a (n + 1) o1) else ac t m (rd_T86 t i).f1 (a + sz (n + 1)) (n + 1) (if (rd_T86 t i).f0 = 0 then o1 else ac t m (rd_T86 t i).f0 a (n + 1) o1)) := by
      intro o1 h1
      rw [spec_l2Walk.j0, impl_entriesBelow.j0, if_neg (show ¬ n = 32 by omega), if_neg (show ¬ n = 32 by omega), dj n0 (by omega) a0 (by omega), bd n0 (by omega) a0 (by omega), kz, kz, if_pos i0, if_pos i1]
      dsimp only
      by_cases z0 : (rd_T86 t i).f0 = 0
      · rw [if_pos z0, if_neg (show ¬ (rd_T86 t i).f0 > 0 by omega)]
        by_cases z1 : (rd_T86 t i).f1 = 0
        · rw [if_pos z1, if_neg (show ¬ (rd_T86 t i).f1 > 0 by omega), if_pos z1, if_pos z0]
          exact ⟨rfl, rfl⟩
        · have hv : i + 1 ≤ (rd_T86 t i).f1 ∧ (rd_T86 t i).f1 ≤ (t.length : Int) - 1 := hki.2.elim (fun e => absurd e z1) id
          obtain ⟨r1, r2⟩ := bv hk m (rd_T86 t i).f1 (a + sz (n + 1)) (n + 1) o1 k (by omega) (by omega) (by omega) (by omega) (by omega) (by omega) (by omega) (by omega)
          rw [if_neg z1, if_pos (show (rd_T86 t i).f1 > 0 by omega), if_neg z1, if_pos z0, r1, r2]
          exact ⟨rfl, rfl⟩
      · have hv0 : i + 1 ≤ (rd_T86 t i).f0 ∧ (rd_T86 t i).f0 ≤ (t.length : Int) - 1 := hki.1.elim (fun e => absurd e z0) id
        obtain ⟨q1, q2⟩ := bv hk m (rd_T86 t i).f0 a (n + 1) o1 k (by omega) (by omega) (by omega) (by omega) a0 (by omega) (by omega) (by omega)
        have hl := ct t m (rd_T86 t i).f0 a (n + 1) o1
        rw [if_neg z0, if_pos (show (rd_T86 t i).f0 > 0 by omega), q1, q2, kz, kz]
        by_cases z1 : (rd_T86 t i).f1 = 0
        · rw [if_pos z1, if_neg (show ¬ (rd_T86 t i).f1 > 0 by omega), if_pos z1, if_neg z0]
          exact ⟨rfl, rfl⟩
        · have hv : i + 1 ≤ (rd_T86 t i).f1 ∧ (rd_T86 t i).f1 ≤ (t.length : Int) - 1 := hki.2.elim (fun e => absurd e z1) id
          obtain ⟨r1, r2⟩ := bv hk m (rd_T86 t i).f1 (a + sz (n + 1)) (n + 1) (ac t m (rd_T86 t i).f0 a (n + 1) o1) k (by omega) (by omega) (by omega) (by omega) (by omega) (by omega) (by omega) (by omega)
          rw [if_neg z1, if_pos (show (rd_T86 t i).f1 > 0 by omega), if_neg z1, if_neg z0, r1, r2]
          exact ⟨rfl, rfl⟩
    rw [spec_l2Walk.f, impl_entriesBelow.f, if_pos i0, if_pos i0, if_pos i1, if_pos i1, ac]
    by_cases h : (rd_T86 t i).f2 = true
    · simp only [if_pos h]
      rw [if_pos (show out.length < 5864062014805 by omega), if_pos (show out.length < 5864062014805 by omega)]
      exact mid _ (by simp)
    · simp only [if_neg h]
      exact mid _ (by omega)
def dh (t : List S86) : List S39 × Bool := if aa t = true then (ac t 32 0 0 0 [], true) else ([], false)
theorem cq (t : List S86) : Ev (fun k => spec_TrieEntries.f k t) (dh t) ∧ Ev (fun k => impl_TrieEntries.f k t) (dh t) := by
  obtain ⟨K1, h1⟩ := ax t
  obtain ⟨K2, h2⟩ := am t
  replace h1 : ∀ k, K1 ≤ k → spec_GoodTrie.f k t = _ := h1
  replace h2 : ∀ k, K2 ≤ k → impl_GoodTrie.f k t = _ := h2
  unfold dh
  by_cases hg : aa t = true
  · rw [if_pos hg]
    have hl := al hg
    have hw : ∀ k, 66 ≤ k → spec_l2Walk.f k t 0 0 0 [] = some (ac t 32 0 0 0 []) ∧ impl_entriesBelow.f k t 0 0 0 [] = some (ac t 32 0 0 0 []) := fun k hk =>
      bv (bb hg) 32 0 0 0 [] k (by omega) (by omega) (by omega) (by omega) (by omega) (by rw [sz_lit.1]; omega) (by simp) (by omega)
    refine ⟨⟨K1 + 66, fun k hk => ?_⟩, ⟨K2 + 66, fun k hk => ?_⟩⟩
    · show spec_TrieEntries.f k t = _
      unfold spec_TrieEntries.f
      rw [h1 _ (by omega), kz, if_pos hg, (hw k (by omega)).1]; rfl
    · show impl_TrieEntries.f k t = _
      unfold impl_TrieEntries.f
      rw [h2 _ (by omega), kz, if_pos hg, (hw k (by omega)).2]; rfl
  · rw [if_neg hg]
    refine ⟨⟨K1, fun k hk => ?_⟩, ⟨K2, fun k hk => ?_⟩⟩
    · show spec_TrieEntries.f k t = _
      unfold spec_TrieEntries.f
      rw [h1 _ (by omega), kz, if_neg hg]
    · show impl_TrieEntries.f k t = _
      unfold impl_TrieEntries.f
      rw [h2 _ (by omega), kz, if_neg hg]
def Bts (c : List Int) : Prop := c.length ≤ 140737488351232 ∧ ∀ x, x ∈ c → 0 ≤ x ∧ x ≤ 255
theorem Bts.at_ {c : List Int} (h : Bts c) {i : Int} (h0 : 0 ≤ i) (h1 : i < (c.length : Int)) : 0 ≤ rd c i ∧ rd c i ≤ 255 := by
  have : i.toNat < c.length := by omega
  unfold rd
  rw [List.getD_eq_getElem?_getD, List.getElem?_eq_getElem this]
  exact h.2 _ (ka this)
theorem fo (x : Int) : 0 ≤ IntKind.u64.wrap x ∧ IntKind.u64.wrap x < 18446744073709551616 := by
  simp only [IntKind.wrap, IntKind.bits, IntKind.signed]
  constructor
  · simp; omega
  · simp; omega
theorem ff {x : Int} (h0 : 0 ≤ x) (h1 : x < 18446744073709551616) : Go.bits .and .u64 x 255 = x % 256 :=
  bits_mask .u64 64 (by decide) (fun n h2 h3 => by simp only [IntKind.wrap, IntKind.bits, IntKind.signed]; simp; omega) 8 (by decide) x h0 h1
theorem fm {c : List Int} (hc : Bts c) {i : Int} (s : Int) (h0 : 0 ≤ i) (h1 : i ≤ 1000000000000000) : ∃ b s', spec_l1Cur_next.f c i s = some (b, i + 1, s') ∧ 0 ≤ b ∧ b ≤ 255 := by
  have hl := hc.1
  unfold spec_l1Cur_next.f
  rw [wrap_id (x := i + 1) (by omega) (by omega)]
  by_cases h : i < (c.length : Int)
  · have hb := hc.at_ h0 h
    rw [if_pos h, if_pos h0, if_pos (by omega)]
    exact ⟨_, _, rfl, by rw [wrap_id (by omega) (by omega)]; exact hb.1, by rw [wrap_id (by omega) (by omega)]; exact hb.2⟩
  · rw [if_neg h, if_neg (by omega)]
    refine ⟨_, _, rfl, ?_⟩
    have hr := fo (IntKind.u64.wrap (IntKind.u64.wrap (s * 6364136223846793005)) + 1442695040888963407)
    generalize IntKind.u64.wrap (IntKind.u64.wrap (IntKind.u64.wrap (s * 6364136223846793005)) + 1442695040888963407) = X at hr
    rw [ff (by omega) (by omega), wrap_id (by omega) (by omega)]
    omega
theorem a5 {c : List Int} (hc : Bts c) {i : Int} (s : Int) {n : Int} (h0 : 0 ≤ i) (h1 : i ≤ 100000000000000) (hn : n ≤ 1000000) : ∃ b i' s', spec_l1Cur_pick.f c i s n = some (b, i', s') ∧ 0 ≤ b ∧ (b < n ∨ b = 0) ∧ i ≤ i' ∧ i' ≤ i + 2 := by
  unfold spec_l1Cur_pick.f
  by_cases h : n ≤ 1
  · rw [if_pos h]
    exact ⟨_, _, _, rfl, by omega, .inr rfl, by omega, by omega⟩
  · rw [if_neg h]
    obtain ⟨b, s1, e1, b0, b1⟩ := fm hc s h0 (by omega)
    rw [e1, kz]
    have hmod : ∀ x : Int, 0 ≤ x → 0 ≤ Int.tmod x n ∧ Int.tmod x n < n := fun x hx => ⟨Int.tmod_nonneg _ hx, Int.tmod_lt_of_pos _ (by omega)⟩
    by_cases h2 : n > 200
    · rw [if_pos h2]
      dsimp only
      obtain ⟨d, s2, e2, d0, d1⟩ := fm hc (i := i + 1) s1 (by omega) (by omega)
      rw [e2, kz, if_neg (by omega)]
      dsimp only
      rw [wrap_id (x := b * 256) (by omega) (by omega), wrap_id (by omega) (by omega)]
      obtain ⟨m0, m1⟩ := hmod (b * 256 + d) (by omega)
      exact ⟨_, _, _, rfl, m0, .inl m1, by omega, by omega⟩
    · rw [if_neg h2, if_neg (by omega)]
      dsimp only
      obtain ⟨m0, m1⟩ := hmod b b0
      exact ⟨_, _, _, rfl, m0, .inl m1, by omega, by omega⟩
theorem eu {c : List Int} (hc : Bts c) {i : Int} (s : Int) {n : Int} (h0 : 0 ≤ i) (h1 : i ≤ 100000000000000) (hn : n ≤ 1000000) : ∃ b i' s', spec_l1Cur_one.f c i s n = some (b, i', s') ∧ i ≤ i' ∧ i' ≤ i + 2 := by
  unfold spec_l1Cur_one.f
  obtain ⟨b, i', s', e, _, _, h2, h3⟩ := a5 hc s h0 h1 hn
  rw [e, kz]
  exact ⟨_, _, _, rfl, h2, h3⟩
theorem cp {c : List Int} (hc : Bts c) {i : Int} (s : Int) (l : List Int) (h0 : 0 ≤ i) (h1 : i ≤ 100000000000000) (hl : l ≠ []) (hn : l.length ≤ 1000) : ∃ v i' s', spec_l1Cur_among.f c i s l = some (v, i', s') ∧ v ∈ l ∧ i ≤ i' ∧ i' ≤ i + 2 := by
  unfold spec_l1Cur_among.f
  have hpos : 0 < l.length := List.length_pos_iff.2 hl
  obtain ⟨b, i', s', e, b0, b1, h2, h3⟩ := a5 hc s (n := (l.length : Int)) h0 h1 (by omega)
  have hb : b < (l.length : Int) := by omega
  rw [e, kz, if_pos b0, if_pos hb]
  refine ⟨_, _, _, rfl, ?_, h2, h3⟩
  have : b.toNat < l.length := by omega
  unfold rd
  rw [List.getD_eq_getElem?_getD, List.getElem?_eq_getElem this]
  exact ka this
theorem cu {c : List Int} (hc : Bts c) {i : Int} (s : Int) (h0 : 0 ≤ i) (h1 : i ≤ 10000000000000) : ∃ a n i' s', spec_l1Cur_prefix.f c i s = some (a, n, i', s') ∧ i ≤ i' ∧ i' ≤ i + 8 := by
  unfold spec_l1Cur_prefix.f
  obtain ⟨n, i1, s1, e1, m1, a1, b1⟩ := cp hc s [0, 1, 2, 3, 4, 8, 8, 16, 24, 31, 32] h0 (by omega) (by simp) (by simp)
  rw [e1, kz]
  dsimp only
  obtain ⟨a, i2, s2, e2, m2, a2, b2⟩ := cp hc s1 [0, 167772160, 167837696, 3232235520, 2147483648, 4294967295, 3758096384, 167772165] (i := i1) (by omega) (by omega) (by simp) (by simp)
  rw [e2, kz]
  have hn : 0 ≤ n ∧ n ≤ 32 := by
    simp only [kc, List.not_mem_nil, or_false] at m1
    omega
  have hs := sz_pos n
  dsimp only
  rw [bl _ hn.1 hn.2, kz, if_neg (by omega)]
  obtain ⟨b, i3, s3, e3, _, _, a3, b3⟩ := a5 hc s2 (n := 30) (i := i2) (by omega) (by omega) (by omega)
  rw [e3, kz]
  dsimp only
  by_cases hb : b = 0
  · rw [if_pos hb]; exact ⟨_, _, _, _, rfl, by omega, by omega⟩
  · rw [if_neg hb]
    by_cases hb2 : b = 1
    · rw [if_pos hb2]
      obtain ⟨v, i4, s4, e4, _, a4, b4⟩ := cp hc s3 [(-1), 33] (i := i3) (by omega) (by omega) (by simp) (by simp)
      rw [e4, kz]
      exact ⟨_, _, _, _, rfl, by dsimp only; omega, by dsimp only; omega⟩
    · rw [if_neg hb2]; exact ⟨_, _, _, _, rfl, by omega, by omega⟩
theorem fv {c : List Int} (hc : Bts c) {i : Int} (s : Int) (h0 : 0 ≤ i) (h1 : i ≤ 10000000000000) : ∃ a n i' s', spec_l1Cur_fine.f c i s = some (a, n, i', s') ∧ good a n = true ∧ i ≤ i' ∧ i' ≤ i + 8 := by
  unfold spec_l1Cur_fine.f
  obtain ⟨a, n, i1, s1, e1, a1, b1⟩ := cu hc s h0 h1
  rw [e1, kz, ai, kz]
  dsimp only
  by_cases hg : good a n = true
  · rw [if_pos hg]; exact ⟨_, _, _, _, rfl, hg, a1, b1⟩
  · rw [if_neg hg]
    refine ⟨_, _, _, _, rfl, ?_, a1, b1⟩
    refine good_iff.2 ⟨by omega, by omega, by omega, by omega, ?_⟩
    have : sz 8 = 16777216 := by unfold sz; rfl
    rw [this]; rfl
def ap (l : List S86) : Nat := l.countP (fun a => a.f2)
structure TInv (l : List S86) (dep par : Int → Int) (cur : Int) : Prop where
  dep0 : dep 0 = 0
  kid : ∀ i b : Int, 0 ≤ i → i < (l.length : Int) → (b = 0 ∨ b = 1) → ab (rd_T86 l i) b ≠ 0 → i < ab (rd_T86 l i) b ∧ ab (rd_T86 l i) b < (l.length : Int) ∧ dep (ab (rd_T86 l i) b) = dep i + 1 ∧ par (ab (rd_T86 l i) b) = 2 * i + b
  up : ∀ x : Int, 0 < x → x < (l.length : Int) → ∃ j b : Int, 0 ≤ j ∧ j < x ∧ (b = 0 ∨ b = 1) ∧ ab (rd_T86 l j) b = x
  rng : ∀ i : Int, 0 ≤ i → i < (l.length : Int) → 0 ≤ dep i ∧ dep i ≤ 32
  val : ∀ i : Int, 0 ≤ i → i < (l.length : Int) → isVal (rd_T86 l i).f3 = true ∧ ((rd_T86 l i).f2 = true ∨ (rd_T86 l i).f3 = 0)
  full : ∀ i : Int, 0 < i → i < (l.length : Int) → i ≠ cur → (rd_T86 l i).f2 = true ∨ (rd_T86 l i).f0 ≠ 0 ∨ (rd_T86 l i).f1 ≠ 0
theorem cb (a : S86) : ab a 0 = a.f0 := rfl
theorem cw (a : S86) : ab a 1 = a.f1 := rfl
theorem TInv.kids {l : List S86} {dep par : Int → Int} {cur : Int} (h : TInv l dep par cur) : KidsV l := fun i h0 h1 => by
  constructor
  · by_cases e : (rd_T86 l i).f0 = 0
    · exact .inl e
    · have := h.kid i 0 h0 h1 (.inl rfl) e
      rw [cb] at this
      exact .inr ⟨by omega, by omega⟩
  · by_cases e : (rd_T86 l i).f1 = 0
    · exact .inl e
    · have := h.kid i 1 h0 h1 (.inr rfl) e
      rw [cw] at this
      exact .inr ⟨by omega, by omega⟩
def DS (l : List S86) (dep par : Int → Int) (m : Int) (D : List Int) : Prop := D.length = l.length ∧ ∀ x : Int, 0 ≤ x → x < (l.length : Int) → rd D x = if x = 0 ∨ par x < m then dep x else -1
theorem TInv.par_lt {l : List S86} {dep par : Int → Int} {cur : Int} (h : TInv l dep par cur) {x : Int} (h0 : 0 < x) (h1 : x < (l.length : Int)) : par x < 2 * x := by
  obtain ⟨j, b, j0, j1, hb, e⟩ := h.up x h0 h1
  have := (h.kid j b j0 (by omega) hb (by omega)).2.2.2
  rw [e] at this
  omega
theorem DS.step {l : List S86} {dep par : Int → Int} {cur : Int} (h : TInv l dep par cur) {i b : Int} {D : List Int} (h0 : 0 ≤ i) (h1 : i < (l.length : Int)) (hb : b = 0 ∨ b = 1) (hD : DS l dep par (2 * i + b) D) : ∃ D', bh (l.length : Int) i D (ab (rd_T86 l i) b) = some D' ∧ DS l dep par (2 * i + b + 1) D' := by
  have hdi : rd D i = dep i := by
    rw [hD.2 i h0 h1, if_pos]
    by_cases e : i = 0
    · exact .inl e
    · have := h.par_lt (x := i) (by omega) h1
      exact .inr (by omega)
  unfold bh
  by_cases e : ab (rd_T86 l i) b = 0
  · rw [if_pos e]
    refine ⟨D, rfl, hD.1, fun x x0 x1 => ?_⟩
    rw [hD.2 x x0 x1]
    by_cases hx : x = 0
    · rw [if_pos (.inl hx), if_pos (.inl hx)]
    · obtain ⟨j, c, j0, j1, hc, e2⟩ := h.up x (by omega) x1
      have hp := (h.kid j c j0 (by omega) hc (by omega)).2.2.2
      rw [e2] at hp
      have hne : par x ≠ 2 * i + b := fun hh => by
        have ej : j = i := by omega
        have ec : c = b := by omega
        rw [ej, ec, e] at e2
        exact hx e2.symm
      by_cases hlt : par x < 2 * i + b
      · rw [if_pos (.inr hlt), if_pos (.inr (by omega))]
      · rw [if_neg (by omega), if_neg (by omega)]
  · obtain ⟨k1, k2, k3, k4⟩ := h.kid i b h0 h1 hb e
    have hx : rd D (ab (rd_T86 l i) b) < 0 := by
      rw [hD.2 _ (by omega) k2, if_neg (by omega)]
      omega
    rw [if_neg e, if_pos ⟨by omega, by omega, hx⟩]
    refine ⟨_, rfl, by rw [kk]; exact hD.1, fun x x0 x1 => ?_⟩
    have hDl := hD.1
    by_cases ex : ab (rd_T86 l i) b = x
    · rw [← ex, az (by omega) (by omega), hdi, if_pos (.inr (by omega)), k3]
    · rw [ah (by omega) x0 ex, hD.2 x x0 x1]
      by_cases hz : x = 0
      · rw [if_pos (.inl hz), if_pos (.inl hz)]
      · obtain ⟨j, c, j0, j1, hc, e2⟩ := h.up x (by omega) x1
        have hp := (h.kid j c j0 (by omega) hc (by omega)).2.2.2
        rw [e2] at hp
        have hne : par x ≠ 2 * i + b := fun hh => by
          have ej : j = i := by omega
          have ec : c = b := by omega
          rw [ej, ec] at e2
          exact ex e2
        by_cases hlt : par x < 2 * i + b
        · rw [if_pos (.inr hlt), if_pos (.inr (by omega))]
        · rw [if_neg (by omega), if_neg (by omega)]
theorem ev {l pre rest : List S86} {a : S86} (e : l = pre ++ a :: rest) : rd_T86 l (pre.length : Int) = a := by rw [e]; exact dc _ _ _
theorem eh {l : List S86} {dep par : Int → Int} (h : TInv l dep par 0) : ∀ (rest pre : List S86) (D : List Int) (c : Int), l = pre ++ rest → DS l dep par (2 * (pre.length : Int)) D → c + ap rest ≤ 30 → av (l.length : Int) rest (pre.length : Int) D c = true
  | [], pre, D, c, _, _, hc => by
    rw [av]
    simp [ap] at hc
    exact decide_eq_true hc
  | a :: rest, pre, D, c, e, hD, hc => by
    have hlen : (pre.length : Int) < (l.length : Int) := by rw [e]; simp; omega
    have ea := ev e
    have h0 : (0 : Int) ≤ (pre.length : Int) := by omega
    have hr := h.rng _ h0 hlen
    have hdi : rd D (pre.length : Int) = dep (pre.length : Int) := by
      rw [hD.2 _ h0 hlen, if_pos]
      by_cases e0 : (pre.length : Int) = 0
      · exact .inl e0
      · have := h.par_lt (x := (pre.length : Int)) (by omega) hlen
        exact .inr (by omega)
    obtain ⟨v1, v2⟩ := h.val _ h0 hlen
    have hfull := h.full (pre.length : Int)
    obtain ⟨D1, t1, d1⟩ := DS.step h h0 hlen (.inl rfl) (by rw [kU]; exact hD)
    obtain ⟨D2, t2, d2⟩ := DS.step h h0 hlen (b := 1) (.inr rfl) (by rw [kU] at d1; exact d1)
    rw [ea] at v1 v2 hfull t1 t2
    rw [cb] at t1
    rw [cw] at t2
    have hok : aq (pre.length : Int) a = true := by
      unfold aq
      rw [v1, vq]
      cases h2 : a.f2 with
      | true => rfl
      | false =>
        rw [kQ]
        have h3 : a.f3 = 0 := v2.resolve_left (by rw [h2]; decide)
        rw [h3]
        by_cases hp : 0 < (pre.length : Int)
        · have := (hfull hp hlen (by omega)).resolve_left (by rw [h2]; decide)
          rcases this with h4 | h4
          · simp [h4]
          · simp [h4]
        · have hp' : ¬ 0 < pre.length := by omega
          simp [hp']
    rw [av, if_neg (by rw [hdi]; omega), if_pos hok, t1, kz, t2]
    dsimp only
    have hcnt : ap (a :: rest) = ap rest + if a.f2 = true then 1 else 0 := by unfold ap; rw [kh]
    rw [hcnt] at hc
    have ih := eh h rest (pre ++ [a]) D2 (if a.f2 = true then c + 1 else c) (by rw [e]; simp) (by
      have : 2 * (pre.length : Int) + 1 + 1 = 2 * ((pre ++ [a]).length : Int) := by simp; omega
      rw [← this]; exact d2) (by split <;> rename_i hh <;> simp only [hh, if_true, if_false] at hc <;> (try simp at hc) <;> omega)
    simpa using ih
theorem ds {l : List S86} {dep par : Int → Int} (h : TInv l dep par 0) (h1 : 1 ≤ l.length) (h2 : l.length ≤ 2000) (hc : ap l ≤ 30) (hp : ∀ x, 0 < x → x < (l.length : Int) → 0 ≤ par x) : aa l = true := by
  unfold aa
  rw [if_pos ⟨by omega, by omega⟩]
  refine eh h l [] _ 0 rfl ⟨by simp, fun x x0 x1 => ?_⟩ (by rw [Int.zero_add]; exact_mod_cast hc)
  by_cases e : x = 0
  · subst e
    rw [if_pos (.inl rfl), h.dep0]
    show rd ((ky l.length (-1 : Int)).set (0 : Int).toNat 0) 0 = 0
    exact az (x := 0) (by omega) (by rw [ki]; omega)
  · have hpx := hp x (by omega) x1
    rw [if_neg (by simp; omega)]
    have := ah (D := ky l.length (-1 : Int)) (x := 0) (y := x) (v := 0) (by omega) x0 (fun h => e h.symm)
    rw [show ((0 : Int).toNat) = 0 from rfl] at this
    rw [this]
    unfold rd
    rw [List.getD_eq_getElem?_getD, List.getElem?_replicate, if_pos (by omega)]
    rfl
theorem fe : ∀ (l : List S86) (i : Nat) (a : S86), ap (l.set i a) ≤ ap l + 1
  | [], i, a => by simp [ap]
  | x :: l, 0, a => by
    unfold ap
    rw [List.set_cons_zero, kh, kh]
    split <;> split <;> omega
  | x :: l, i + 1, a => by
    have := fe l i a
    unfold ap at *
    rw [List.set_cons_succ, kh, kh]
    omega
theorem c4 : ∀ (l : List S86) (i : Nat) (a : S86), (∀ h : i < l.length, a.f2 = (l[i]).f2) → ap (l.set i a) = ap l
  | [], i, a, _ => by simp [ap]
  | x :: l, 0, a, h => by
    have := h (by simp)
    unfold ap
    rw [List.set_cons_zero, kh, kh, this]
    rfl
  | x :: l, i + 1, a, h => by
    have := c4 l i a (fun hi => h (by rw [kj]; omega))
    unfold ap at *
    rw [List.set_cons_succ, kh, kh, this]
theorem bf (a : S86) {b b' n : Int} (hb : b = 0 ∨ b = 1) (hb' : b' = 0 ∨ b' = 1) : ab (ad a b n) b' = if b = b' then n else ab a b' := by
  rcases hb with rfl | rfl <;> rcases hb' with rfl | rfl <;> simp [ab, ad]
theorem b9 (a : S86) (b n : Int) : (ad a b n).f2 = a.f2 ∧ (ad a b n).f3 = a.f3 := by
  unfold ad; split <;> exact ⟨rfl, rfl⟩
theorem ft (a : S86) (b : Int) {n : Int} (hn : n ≠ 0) : (ad a b n).f0 ≠ 0 ∨ (ad a b n).f1 ≠ 0 := by
  unfold ad; split
  · exact .inr hn
  · exact .inl hn
theorem TInv.grow {l : List S86} {dep par : Int → Int} {i b : Int} (h : TInv l dep par i) (h0 : 0 ≤ i) (h1 : i < (l.length : Int)) (hb : b = 0 ∨ b = 1) (hz : ab (rd_T86 l i) b = 0) (hd : dep i + 1 ≤ 32) :
    TInv ((l ++ [(⟨0, 0, false, 0⟩ : S86)]).set i.toNat (ad (rd_T86 l i) b (l.length : Int))) (fun x => if x = (l.length : Int) then dep i + 1 else dep x) (fun x => if x = (l.length : Int) then 2 * i + b else par x) (l.length : Int) := by
  have hlen : ((((l ++ [(⟨0, 0, false, 0⟩ : S86)]).set i.toNat (ad (rd_T86 l i) b (l.length : Int))).length : Nat) : Int) = (l.length : Int) + 1 := by simp
  have at_i : rd_T86 ((l ++ [(⟨0, 0, false, 0⟩ : S86)]).set i.toNat (ad (rd_T86 l i) b (l.length : Int))) i = ad (rd_T86 l i) b (l.length : Int) := a7 h0 (by simp; omega)
  have at_n : rd_T86 ((l ++ [(⟨0, 0, false, 0⟩ : S86)]).set i.toNat (ad (rd_T86 l i) b (l.length : Int))) (l.length : Int) = ⟨0, 0, false, 0⟩ := by
    rw [a6 h0 (by omega) (by omega)]; exact d4
  have at_j : ∀ j : Int, 0 ≤ j → j < (l.length : Int) → j ≠ i → rd_T86 ((l ++ [(⟨0, 0, false, 0⟩ : S86)]).set i.toNat (ad (rd_T86 l i) b (l.length : Int))) j = rd_T86 l j := fun j j0 j1 hne => by
    rw [a6 h0 j0 (Ne.symm hne)]; exact dd j0 j1
  refine ⟨?_, fun j c j0 j1 hc hne => ?_, fun x x0 x1 => ?_, fun j j0 j1 => ?_, fun j j0 j1 => ?_, fun j j0 j1 hne => ?_⟩
  · try dsimp only
    rw [if_neg (by omega)]; exact h.dep0
  · rw [hlen] at j1 ⊢
    try dsimp only
    by_cases e : j = i
    · subst e
      rw [at_i, bf _ hb hc] at hne ⊢
      by_cases e2 : b = c
      · rw [if_pos e2, if_pos rfl, if_pos rfl, if_neg (by omega)]
        exact ⟨h1, by omega, rfl, by omega⟩
      · rw [if_neg e2] at hne ⊢
        obtain ⟨k1, k2, k3, k4⟩ := h.kid j c j0 h1 hc hne
        rw [if_neg (by omega), if_neg (by omega), if_neg (by omega)]
        exact ⟨k1, by omega, k3, k4⟩
    · by_cases e2 : j = (l.length : Int)
      · subst e2
        rw [at_n] at hne
        exact (hne (by unfold ab; split <;> rfl)).elim
      · rw [at_j j j0 (by omega) e] at hne ⊢
        obtain ⟨k1, k2, k3, k4⟩ := h.kid j c j0 (by omega) hc hne
        rw [if_neg (by omega), if_neg (by omega), if_neg (by omega)]
        exact ⟨k1, by omega, k3, k4⟩
  · rw [hlen] at x1
    by_cases e : x = (l.length : Int)
    · exact ⟨i, b, h0, by omega, hb, by rw [at_i, bf _ hb hb, if_pos rfl, e]⟩
    · obtain ⟨j, c, j0, j1, hc, e2⟩ := h.up x x0 (by omega)
      refine ⟨j, c, j0, j1, hc, ?_⟩
      by_cases e3 : j = i
      · subst e3
        have : b ≠ c := fun hh => by rw [← hh, hz] at e2; omega
        rw [at_i, bf _ hb hc, if_neg this, e2]
      · rw [at_j j j0 (by omega) e3, e2]
  · rw [hlen] at j1
    try dsimp only
    split
    · have := h.rng i h0 h1; omega
    · exact h.rng j j0 (by omega)
  · rw [hlen] at j1
    by_cases e : j = i
    · subst e
      have := h.val j j0 h1
      rw [at_i, (b9 _ _ _).1, (b9 _ _ _).2]
      exact this
    · by_cases e2 : j = (l.length : Int)
      · subst e2
        rw [at_n]
        exact ⟨by decide, .inr rfl⟩
      · rw [at_j j j0 (by omega) e]
        exact h.val j j0 (by omega)
  · rw [hlen] at j1
    by_cases e : j = i
    · subst e
      rw [at_i]
      exact .inr (ft _ _ (by omega))
    · rw [at_j j (by omega) (by omega) e]
      exact h.full j j0 (by omega) e
theorem TInv.go {l : List S86} {dep par : Int → Int} {i b : Int} (h : TInv l dep par i) (h0 : 0 ≤ i) (h1 : i < (l.length : Int)) (hz : ab (rd_T86 l i) b ≠ 0) (n : Int) : TInv l dep par n := by
  refine ⟨h.dep0, h.kid, h.up, h.rng, h.val, fun j j0 j1 _ => ?_⟩
  by_cases e : j = i
  · subst e
    right
    by_cases hb : b = 1
    · right; intro hh; exact hz (by unfold ab; rw [if_pos hb]; exact hh)
    · left; intro hh; exact hz (by unfold ab; rw [if_neg hb]; exact hh)
  · exact h.full j j0 j1 e
theorem cm (v a : Int) (hv : isVal v = true) : ∀ (m : Nat) (d : Int) (l : List S86) (i : Int) (dep par : Int → Int), TInv l dep par i → 0 ≤ i → i < (l.length : Int) → dep i = d → d + m ≤ 32 → (∀ x, 0 < x → x < (l.length : Int) → 0 ≤ par x) →
    ∃ dep' par', TInv (ag v a m d l i) dep' par' 0 ∧ (∀ x, 0 < x → x < ((ag v a m d l i).length : Int) → 0 ≤ par' x) ∧ ap (ag v a m d l i) ≤ ap l + 1
  | 0, d, l, i, dep, par, h, h0, h1, hd, hm, hp => by
    have at_i : rd_T86 (l.set i.toNat ⟨(rd_T86 l i).f0, (rd_T86 l i).f1, true, v⟩) i = ⟨(rd_T86 l i).f0, (rd_T86 l i).f1, true, v⟩ := a7 h0 h1
    have at_j : ∀ j : Int, 0 ≤ j → j ≠ i → rd_T86 (l.set i.toNat ⟨(rd_T86 l i).f0, (rd_T86 l i).f1, true, v⟩) j = rd_T86 l j := fun j j0 hne => a6 h0 j0 (Ne.symm hne)
    have hh : ∀ (j c : Int), 0 ≤ j → ab (rd_T86 (l.set i.toNat ⟨(rd_T86 l i).f0, (rd_T86 l i).f1, true, v⟩) j) c = ab (rd_T86 l j) c := fun j c j0 => by
      by_cases e : j = i
      · subst e; rw [at_i]; unfold ab; split <;> rfl
      · rw [at_j j j0 e]
    rw [ag]
    refine ⟨dep, par, ⟨h.dep0, fun j c j0 j1 hc hne => ?_, fun x x0 x1 => ?_, fun j j0 j1 => ?_, fun j j0 j1 => ?_, fun j j0 j1 _ => ?_⟩, fun x x0 x1 => ?_, fe _ _ _⟩
    · rw [kk] at j1 ⊢
      rw [hh j c j0] at hne ⊢
      exact h.kid j c j0 j1 hc hne
    · rw [kk] at x1
      obtain ⟨j, c, j0, j1, hc, e⟩ := h.up x x0 x1
      exact ⟨j, c, j0, j1, hc, by rw [hh j c j0]; exact e⟩
    · rw [kk] at j1; exact h.rng j j0 j1
    · rw [kk] at j1
      by_cases e : j = i
      · subst e; rw [at_i]; exact ⟨hv, .inl rfl⟩
      · rw [at_j j j0 e]; exact h.val j j0 j1
    · rw [kk] at j1
      by_cases e : j = i
      · subst e; rw [at_i]; exact .inl rfl
      · rw [at_j j (by omega) e]; exact h.full j j0 j1 e
    · rw [kk] at x1; exact hp x x0 x1
  | m + 1, d, l, i, dep, par, h, h0, h1, hd, hm, hp => by
    have hb := bg a d
    rw [ag]
    by_cases hz : ab (rd_T86 l i) (au a d) = 0
    · rw [if_pos hz]
      have hg := h.grow h0 h1 hb hz (by omega)
      obtain ⟨dep', par', i1, i2, i3⟩ := cm v a hv m (d + 1) _ (l.length : Int) _ _ hg (by omega) (by simp; omega) (by rw [if_pos rfl]; omega) (by omega) (fun x x0 x1 => by
        try dsimp only
        split
        · omega
        · exact hp x x0 (by simp at x1; omega))
      refine ⟨dep', par', i1, i2, ?_⟩
      have hc : ap ((l ++ [(⟨0, 0, false, 0⟩ : S86)]).set i.toNat (ad (rd_T86 l i) (au a d) (l.length : Int))) = ap l := by
        rw [c4 _ _ _ (fun hi => by
          rw [(b9 _ _ _).1]
          have hil : i.toNat < l.length := by omega
          rw [List.getElem_append_left hil]
          unfold rd_T86
          rw [List.getD_eq_getElem?_getD, List.getElem?_eq_getElem hil]
          rfl)]
        unfold ap
        rw [List.countP_append]
        simp
      omega
    · rw [if_neg hz]
      obtain ⟨k1, k2, k3, k4⟩ := h.kid i (au a d) h0 h1 hb hz
      exact cm v a hv m (d + 1) l _ dep par (h.go h0 h1 hz _) (by omega) k2 (by omega) (by omega) hp
def aw (es : List S39) : List S86 := es.foldl (fun t e => ag e.f1 e.f0.f0 e.f0.f1.toNat 0 t 0) [⟨0, 0, false, 0⟩]
theorem dp : ∀ (es : List S39) (t : List S86) (dep par : Int → Int), (∀ e, e ∈ es → good e.f0.f0 e.f0.f1 = true ∧ isVal e.f1 = true) → TInv t dep par 0 → 1 ≤ t.length → (∀ x, 0 < x → x < (t.length : Int) → 0 ≤ par x) →
    ∃ dep' par', TInv (es.foldl (fun t e => ag e.f1 e.f0.f0 e.f0.f1.toNat 0 t 0) t) dep' par' 0 ∧ (∀ x, 0 < x → x < ((es.foldl (fun t e => ag e.f1 e.f0.f0 e.f0.f1.toNat 0 t 0) t).length : Int) → 0 ≤ par' x) ∧ ap (es.foldl (fun t e => ag e.f1 e.f0.f0 e.f0.f1.toNat 0 t 0) t) ≤ ap t + es.length ∧ 1 ≤ (es.foldl (fun t e => ag e.f1 e.f0.f0 e.f0.f1.toNat 0 t 0) t).length ∧ (es.foldl (fun t e => ag e.f1 e.f0.f0 e.f0.f1.toNat 0 t 0) t).length ≤ t.length + 32 * es.length
  | [], t, dep, par, _, h, h1, hp => ⟨dep, par, h, hp, by simp, h1, by simp⟩
  | e :: es, t, dep, par, he, h, h1, hp => by
    obtain ⟨g1, g2⟩ := he e (by simp)
    obtain ⟨f1, f2, _⟩ := good_iff.1 g1
    obtain ⟨dep1, par1, i1, i2, i3⟩ := cm e.f1 e.f0.f0 g2 e.f0.f1.toNat 0 t 0 dep par h (by omega) (by omega) h.dep0 (by omega) hp
    have hl := bo e.f1 e.f0.f0 e.f0.f1.toNat 0 t 0
    obtain ⟨dep2, par2, j1, j2, j3, j4, j5⟩ := dp es _ dep1 par1 (fun x hx => he x (by simp [hx])) i1 (by omega) i2
    rw [List.foldl_cons]
    refine ⟨dep2, par2, j1, j2, ?_, j4, ?_⟩
    · rw [kj]; omega
    · rw [kj]; omega
theorem bk : TInv [(⟨0, 0, false, 0⟩ : S86)] (fun _ => 0) (fun _ => 0) 0 := by
  have at0 : rd_T86 [(⟨0, 0, false, 0⟩ : S86)] 0 = ⟨0, 0, false, 0⟩ := dc [] _ []
  refine ⟨rfl, fun i b h0 h1 _ hne => ?_, fun x x0 x1 => ?_, fun i h0 h1 => ⟨by omega, by omega⟩, fun i h0 h1 => ?_, fun i h0 h1 => ?_⟩
  · have : i = 0 := by simp at h1; omega
    subst this
    rw [at0] at hne
    exact (hne (by unfold ab; split <;> rfl)).elim
  · simp at x1; omega
  · have : i = 0 := by simp at h1; omega
    subst this
    rw [at0]
    exact ⟨by decide, .inr rfl⟩
  · simp at h1; omega
theorem ak {l : List S39} (h : ae l = true) : l.length ≤ 30 ∧ ∀ e, e ∈ l → good e.f0.f0 e.f0.f1 = true ∧ isVal e.f1 = true := by
  unfold ae at h
  simp only [kb] at h
  exact ⟨of_decide_eq_true h.1.1, fun e he => ⟨rising_good h.1.2 (ent e) (List.mem_map.2 ⟨e, he, rfl⟩), List.all_eq_true.1 h.2 e he⟩⟩
theorem c3 (es : List S39) (hl : es.length ≤ 30) (hg : ∀ e, e ∈ es → good e.f0.f0 e.f0.f1 = true ∧ isVal e.f1 = true) : ∀ (rest pre : List S39) (t : List S86) (dep par : Int → Int), es = pre ++ rest → TInv t dep par 0 → 1 ≤ t.length → t.length ≤ 1 + 32 * pre.length → (∀ x, 0 < x → x < (t.length : Int) → 0 ≤ par x) → ap t ≤ pre.length →
    ∃ K, ∀ k, K ≤ k → impl_BuildTrie.l0 k t es (es.length : Int) (pre.length : Int) = some (rest.foldl (fun t e => ag e.f1 e.f0.f0 e.f0.f1.toNat 0 t 0) t, true) := by
  intro rest
  induction rest with
  | nil =>
    intro pre t dep par e h h1 h2 hp hc
    have hpl : pre.length = es.length := by rw [e]; simp
    obtain ⟨K, hK⟩ := am t
    replace hK : ∀ k, K ≤ k → impl_GoodTrie.f k t = some (aa t) := hK
    refine ⟨K + 1, fun k hk => ?_⟩
    obtain ⟨k, rfl⟩ : ∃ k', k = k' + 1 := ⟨k - 1, by omega⟩
    rw [impl_BuildTrie.l0, if_neg (by omega), hK k (by omega), kz, ds h h1 (by omega) (by omega) hp, if_pos rfl]
    rfl
  | cons x rest ih =>
    intro pre t dep par e h h1 h2 hp hc
    have hlen : pre.length < es.length := by rw [e]; simp
    obtain ⟨g1, g2⟩ := hg x (by rw [e]; simp)
    obtain ⟨f1, f2, _⟩ := good_iff.1 g1
    have hr : rd_T39 es (pre.length : Int) = x := by rw [e]; exact ay _ _ _
    have hw : wrap64 ((pre.length : Int) + 1) = ((pre ++ [x]).length : Int) := by rw [wrap_id (by omega) (by omega)]; simp
    obtain ⟨dep1, par1, i1, i2, i3⟩ := cm x.f1 x.f0.f0 g2 x.f0.f1.toNat 0 t 0 dep par h (by omega) (by omega) h.dep0 (by omega) hp
    have hl2 := bo x.f1 x.f0.f0 x.f0.f1.toNat 0 t 0
    obtain ⟨K, hK⟩ := ih (pre ++ [x]) _ dep1 par1 (by rw [e]; simp) i1 (by omega) (by simp; omega) i2 (by simp; omega)
    refine ⟨K + 34, fun k hk => ?_⟩
    obtain ⟨k, rfl⟩ : ∃ k', k = k' + 1 := ⟨k - 1, by omega⟩
    rw [impl_BuildTrie.l0, if_pos (by omega), if_pos (len_nn _), if_pos (by omega), hr, bz t x.f0.f0 x.f0.f1 x.f1 k h.kids h1 (by omega) f1 f2 (by omega), kz, hw, hK k (by omega)]
    rfl
theorem c2 (es : List S39) (hl : es.length ≤ 30) (hg : ∀ e, e ∈ es → good e.f0.f0 e.f0.f1 = true ∧ isVal e.f1 = true) : ∀ (rest pre : List S39) (t : List S86) (dep par : Int → Int), es = pre ++ rest → TInv t dep par 0 → 1 ≤ t.length → t.length ≤ 1 + 32 * pre.length → (∀ x, 0 < x → x < (t.length : Int) → 0 ≤ par x) →
    ∀ k, 34 + rest.length ≤ k → spec_l2Build.l0 k t es (es.length : Int) (pre.length : Int) = some (rest.foldl (fun t e => ag e.f1 e.f0.f0 e.f0.f1.toNat 0 t 0) t) := by
  intro rest
  induction rest with
  | nil =>
    intro pre t dep par e h h1 h2 hp k hk
    have hpl : pre.length = es.length := by rw [e]; simp
    obtain ⟨k, rfl⟩ : ∃ k', k = k' + 1 := ⟨k - 1, by omega⟩
    rw [spec_l2Build.l0, if_neg (by omega)]
    rfl
  | cons x rest ih =>
    intro pre t dep par e h h1 h2 hp k hk
    rw [kj] at hk
    have hlen : pre.length < es.length := by rw [e]; simp
    obtain ⟨g1, g2⟩ := hg x (by rw [e]; simp)
    obtain ⟨f1, f2, _⟩ := good_iff.1 g1
    have hr : rd_T39 es (pre.length : Int) = x := by rw [e]; exact ay _ _ _
    have hw : wrap64 ((pre.length : Int) + 1) = ((pre ++ [x]).length : Int) := by rw [wrap_id (by omega) (by omega)]; simp
    obtain ⟨dep1, par1, i1, i2, i3⟩ := cm x.f1 x.f0.f0 g2 x.f0.f1.toNat 0 t 0 dep par h (by omega) (by omega) h.dep0 (by omega) hp
    have hl2 := bo x.f1 x.f0.f0 x.f0.f1.toNat 0 t 0
    obtain ⟨k, rfl⟩ : ∃ k', k = k' + 1 := ⟨k - 1, by omega⟩
    rw [spec_l2Build.l0, if_pos (by omega), if_pos (len_nn _), if_pos (by omega), hr, bw t x.f0.f0 x.f0.f1 x.f1 k h.kids h1 (by omega) f1 f2 (by omega), kz, hw]
    exact ih (pre ++ [x]) _ dep1 par1 (by rw [e]; simp) i1 (by omega) (by simp; omega) i2 k (by omega)
theorem fl {l : List S39} (h : ae l = true) : (∃ K, ∀ k, K ≤ k → impl_BuildTrie.f k l = some (aw l, true)) ∧ (∀ k, l.length + 50 ≤ k → spec_l2Build.f k l = some (aw l)) := by
  obtain ⟨h30, hg⟩ := ak h
  obtain ⟨K, hK⟩ := c3 l h30 hg l [] [⟨0, 0, false, 0⟩] _ _ rfl bk (by simp) (by simp) (fun x x0 x1 => ke _) (by simp [ap])
  have hS := c2 l h30 hg l [] [⟨0, 0, false, 0⟩] _ _ rfl bk (by simp) (by simp) (fun x x0 x1 => ke _)
  refine ⟨⟨K + l.length + 50, fun k hk => ?_⟩, fun k hk => ?_⟩
  · unfold impl_BuildTrie.f
    rw [a9 k l (by omega) (by omega), kz, if_pos h]
    exact hK k (by omega)
  · unfold spec_l2Build.f
    exact hS k (by omega)
theorem d8 (l : List S39) (hl : l.length ≤ 1048576) : ∃ r : List S86 × Bool, Ev (fun k => spec_BuildTrie.f k l) r ∧ Ev (fun k => impl_BuildTrie.f k l) r ∧ r.1.length ≤ 2000 ∧ (ae l = true → r = (aw l, true)) ∧ (¬ ae l = true → r = ([], false)) := by
  by_cases h : ae l = true
  · obtain ⟨h30, hg⟩ := ak h
    obtain ⟨dep', par', j1, j2, j3, j4, j5⟩ := dp l _ _ _ hg bk (by simp) (fun x x0 x1 => ke _)
    obtain ⟨K, hK⟩ := c3 l h30 hg l [] [⟨0, 0, false, 0⟩] _ _ rfl bk (by simp) (by simp) (fun x x0 x1 => ke _) (by simp [ap])
    have hS := c2 l h30 hg l [] [⟨0, 0, false, 0⟩] _ _ rfl bk (by simp) (by simp) (fun x x0 x1 => ke _)
    refine ⟨(aw l, true), ⟨l.length + 50, fun k hk => ?_⟩, ⟨K + l.length + 50, fun k hk => ?_⟩, ?_, fun _ => rfl, fun hn => (hn h).elim⟩
    · show spec_BuildTrie.f k l = _
      unfold spec_BuildTrie.f spec_l2Build.f
      rw [bs k l hl (by omega), kz, if_pos h]
      have := hS k (by omega)
      rw [show ((([] : List S39).length : Nat) : Int) = 0 from rfl] at this
      rw [this]
      rfl
    · show impl_BuildTrie.f k l = _
      unfold impl_BuildTrie.f
      rw [a9 k l hl (by omega), kz, if_pos h]
      exact hK k (by omega)
    · show (aw l).length ≤ 2000
      unfold aw
      simp only [kq] at j5
      omega
  · refine ⟨([], false), ⟨l.length + 50, fun k hk => ?_⟩, ⟨l.length + 50, fun k hk => ?_⟩, by simp, fun hn => (h hn).elim, fun _ => rfl⟩
    · show spec_BuildTrie.f k l = _
      unfold spec_BuildTrie.f
      rw [bs k l hl (by omega), kz, if_neg h]
    · show impl_BuildTrie.f k l = _
      unfold impl_BuildTrie.f
      rw [a9 k l hl (by omega), kz, if_neg h]
def ao (a n : Int) : Int := (4294967296 + a) / sz n
theorem cx {a : Int} (h0 : 0 ≤ a) (h1 : a ≤ 4294967295) : ao a 0 = 1 := by
  unfold ao; rw [sz_lit.1]; omega
theorem fs {a n : Int} (h0 : 0 ≤ a) (n0 : 0 ≤ n) : 1 ≤ ao a n := by
  unfold ao
  have h1 := sz_pos n
  have h2 := sz_le n0
  exact (Int.le_ediv_iff_mul_le (by omega)).2 (by omega)
theorem fx {x : Int} (h0 : 0 ≤ x) (h1 : x ≤ 4294967295) : Go.bits .and .i64 x 1 = x % 2 := by
  show IntKind.i64.wrap ((BitVec.ofInt 64 x &&& BitVec.ofInt 64 1).toNat : Int) = x % 2
  obtain ⟨n, rfl⟩ := kp h0
  have e : (BitVec.ofInt 64 (n : Int)).toNat = n := by
    rw [BitVec.toNat_ofInt]
    omega
  have e1 : (BitVec.ofInt 64 1).toNat = 1 := by decide
  rw [BitVec.toNat_and, e, e1, Nat.and_one_is_mod, i64_w, wrap_id (by omega) (by omega)]
  omega
theorem fw {a d : Int} (h0 : 0 ≤ a) (h1 : a ≤ 4294967295) (d0 : 0 ≤ d) (d1 : d ≤ 31) : au a d = (a / sz (d + 1)) % 2 := by
  unfold au
  have e : shr .i64 a (31 - d) = a / sz (d + 1) := by
    obtain ⟨n, hn⟩ := kp (show 0 ≤ 31 - d by omega)
    unfold sz shr
    rw [show (32 - (d + 1)).toNat = n by omega, hn, show min (n : Int).toNat IntKind.i64.bits = n by show min (n : Int).toNat 64 = n; omega]
  have hs := sz_pos (d + 1)
  rw [e, fx (Int.ediv_nonneg h0 (by omega)) (by
    have := Int.ediv_le_self (sz (d + 1)) h0
    omega)]
theorem cy {a d : Int} (h0 : 0 ≤ a) (h1 : a ≤ 4294967295) (d0 : 0 ≤ d) (d1 : d < 32) : ao a (d + 1) = 2 * ao a d + au a d := by
  rw [fw h0 h1 d0 (by omega)]
  unfold ao
  have hs := sz_pos (d + 1)
  have e0 : sz 0 = sz (d + 1) * 2 ^ (d + 1 - 0).toNat := sz_add (by omega) (by omega) (by omega)
  have e1 : (2 : Int) ^ (d + 1 - 0).toNat = 2 * 2 ^ d.toNat := by
    rw [show (d + 1 - 0).toNat = d.toNat + 1 by omega, Int.pow_succ]; omega
  rw [sz_lit.1, e1] at e0
  have e2 : (4294967296 + a) / sz (d + 1) = a / sz (d + 1) + 2 * 2 ^ d.toNat := by
    rw [e0, Int.add_comm, Int.add_mul_ediv_left _ _ (by omega)]
  have e3 : (4294967296 + a) / sz d = (4294967296 + a) / sz (d + 1) / 2 := by
    rw [sz_succ d0 d1, Int.mul_comm, Int.ediv_ediv_of_nonneg (by omega)]
  rw [e3, e2]
  generalize a / sz (d + 1) = q
  generalize (2 : Int) ^ d.toNat = p
  omega
theorem fd {a n x : Int} (ha : a % sz n = 0) (h0 : a ≤ x) (h1 : x ≤ a + sz n - 1) (n0 : 0 ≤ n) (n1 : n ≤ 32) : ao x n = ao a n := by
  unfold ao
  have hs := sz_pos n
  obtain ⟨q, hq⟩ := kv ha
  obtain ⟨p, hp⟩ : sz n ∣ 4294967296 := by rw [← sz_lit.1]; exact sz_dvd (by omega) n0 n1
  have e : ∀ r : Int, 0 ≤ r → r < sz n → (4294967296 + (a + r)) / sz n = p + q := fun r r0 r1 => by
    rw [hq, hp, show sz n * p + (sz n * q + r) = r + sz n * (p + q) by rw [vz]; omega, Int.add_mul_ediv_left _ _ (by omega), Int.ediv_eq_zero_of_lt r0 r1]
    omega
  have := e (x - a) (by omega) (by omega)
  rw [show a + (x - a) = x by omega] at this
  rw [this]
  have := e 0 (by omega) (by omega)
  rw [kU] at this
  exact this.symm
theorem bq {a n : Int} (h : good a n = true) : sz n * ao a n = 4294967296 + a := by
  obtain ⟨n0, n1, _, _, ha⟩ := good_iff.1 h
  have hs := sz_pos n
  obtain ⟨q, hq⟩ := kv ha
  obtain ⟨p, hp⟩ : sz n ∣ 4294967296 := by rw [← sz_lit.1]; exact sz_dvd (by omega) n0 n1
  unfold ao
  have : sz n ∣ 4294967296 + a := by rw [hq, hp, ← vz]; exact Int.dvd_mul_right _ _
  exact Int.mul_ediv_cancel' this
theorem co {a n a' n' : Int} (h : good a n = true) (h' : good a' n' = true) (e : ao a n = ao a' n') : a = a' ∧ n = n' := by
  obtain ⟨n0, n1, a0, a1, _⟩ := good_iff.1 h
  obtain ⟨m0, m1, b0, b1, _⟩ := good_iff.1 h'
  have e1 := bq h
  have e2 := bq h'
  rw [e] at e1
  have far : ∀ {n m a b q : Int}, 0 ≤ n → n < m → m ≤ 32 → sz n * q = 4294967296 + a → sz m * q = 4294967296 + b → a ≤ 4294967295 → 0 ≤ b → False := fun {n m a b q} n0 hnm hm e1 e2 ha hb => by
    have h1 := sz_succ n0 (by omega)
    have h2 := sz_mono (n := n + 1) (m := m) (by omega) (by omega) hm
    have hq : 0 ≤ q := by
      by_cases hq : 0 ≤ q
      · exact hq
      · have := kf (show q ≤ 0 by omega) (show 0 ≤ sz m by have := sz_pos m; omega)
        omega
    have h3 := Int.mul_le_mul_of_nonneg_right h2 hq
    rw [h1, Int.mul_assoc] at e1
    omega
  have hn : n = n' := by
    rcases Int.lt_trichotomy n n' with h | h | h
    · exact (far n0 h m1 e1 e2 a1 b0).elim
    · exact h
    · exact (far m0 h n1 e2 e1 b1 a0).elim
  rw [hn, e2] at e1
  exact ⟨by omega, hn⟩
structure PInv (l : List S86) (pc : Int → Int) : Prop where
  root : pc 0 = 1
  pos : ∀ i : Int, 0 ≤ i → i < (l.length : Int) → 1 ≤ pc i
  kid : ∀ i b : Int, 0 ≤ i → i < (l.length : Int) → (b = 0 ∨ b = 1) → ab (rd_T86 l i) b ≠ 0 → i < ab (rd_T86 l i) b ∧ ab (rd_T86 l i) b < (l.length : Int) ∧ pc (ab (rd_T86 l i) b) = 2 * pc i + b
  up : ∀ x : Int, 0 < x → x < (l.length : Int) → ∃ j b : Int, 0 ≤ j ∧ j < x ∧ (b = 0 ∨ b = 1) ∧ ab (rd_T86 l j) b = x
  inj : ∀ i j : Int, 0 ≤ i → i < (l.length : Int) → 0 ≤ j → j < (l.length : Int) → pc i = pc j → i = j
def b8 (l : List S86) (pc : Int → Int) (q v : Int) : Prop := ∃ j : Int, 0 ≤ j ∧ j < (l.length : Int) ∧ pc j = q ∧ (rd_T86 l j).f2 = true ∧ (rd_T86 l j).f3 = v
theorem PInv.grow {l : List S86} {pc : Int → Int} {i b : Int} (h : PInv l pc) (h0 : 0 ≤ i) (h1 : i < (l.length : Int)) (hb : b = 0 ∨ b = 1) (hz : ab (rd_T86 l i) b = 0) :
    PInv ((l ++ [(⟨0, 0, false, 0⟩ : S86)]).set i.toNat (ad (rd_T86 l i) b (l.length : Int))) (fun x => if x = (l.length : Int) then 2 * pc i + b else pc x) ∧ ∀ q v, b8 ((l ++ [(⟨0, 0, false, 0⟩ : S86)]).set i.toNat (ad (rd_T86 l i) b (l.length : Int))) (fun x => if x = (l.length : Int) then 2 * pc i + b else pc x) q v ↔ b8 l pc q v := by
  have hlen : ((((l ++ [(⟨0, 0, false, 0⟩ : S86)]).set i.toNat (ad (rd_T86 l i) b (l.length : Int))).length : Nat) : Int) = (l.length : Int) + 1 := by simp
  have at_i : rd_T86 ((l ++ [(⟨0, 0, false, 0⟩ : S86)]).set i.toNat (ad (rd_T86 l i) b (l.length : Int))) i = ad (rd_T86 l i) b (l.length : Int) := a7 h0 (by simp; omega)
  have at_n : rd_T86 ((l ++ [(⟨0, 0, false, 0⟩ : S86)]).set i.toNat (ad (rd_T86 l i) b (l.length : Int))) (l.length : Int) = ⟨0, 0, false, 0⟩ := by
    rw [a6 h0 (by omega) (by omega)]; exact d4
  have at_j : ∀ j : Int, 0 ≤ j → j < (l.length : Int) → j ≠ i → rd_T86 ((l ++ [(⟨0, 0, false, 0⟩ : S86)]).set i.toNat (ad (rd_T86 l i) b (l.length : Int))) j = rd_T86 l j := fun j j0 j1 hne => by
    rw [a6 h0 j0 (Ne.symm hne)]; exact dd j0 j1
  have fresh : ∀ j : Int, 0 ≤ j → j < (l.length : Int) → pc j ≠ 2 * pc i + b := fun j j0 j1 e => by
    have hpi := h.pos i h0 h1
    by_cases ej : j = 0
    · have := h.root
      rw [ej] at e
      omega
    · obtain ⟨p, c, p0, p1, hc, e2⟩ := h.up j (by omega) j1
      have k := (h.kid p c p0 (by omega) hc (by omega)).2.2
      rw [e2] at k
      have hp : p = i := h.inj p i p0 (by omega) h0 h1 (by omega)
      have hcb : c = b := by rw [hp] at k; omega
      rw [hp, hcb, hz] at e2
      omega
  generalize (l ++ [(⟨0, 0, false, 0⟩ : S86)]).set i.toNat (ad (rd_T86 l i) b (l.length : Int)) = l' at hlen at_i at_n at_j ⊢
  have pc_n : (fun x => if x = (l.length : Int) then 2 * pc i + b else pc x) (l.length : Int) = 2 * pc i + b := if_pos rfl
  have pc_j : ∀ j : Int, j ≠ (l.length : Int) → (fun x => if x = (l.length : Int) then 2 * pc i + b else pc x) j = pc j := fun j hj => if_neg hj
  generalize (fun x => if x = (l.length : Int) then 2 * pc i + b else pc x) = pc' at pc_n pc_j ⊢
  refine ⟨⟨?_, fun j j0 j1 => ?_, fun j c j0 j1 hc hne => ?_, fun x x0 x1 => ?_, fun x y x0 x1 y0 y1 e => ?_⟩, fun q v => ⟨?_, ?_⟩⟩
  · rw [pc_j _ (by omega)]; exact h.root
  · rw [hlen] at j1
    by_cases e : j = (l.length : Int)
    · have := h.pos i h0 h1
      rw [e, pc_n]; omega
    · rw [pc_j _ e]; exact h.pos j j0 (by omega)
  · rw [hlen] at j1 ⊢
    by_cases e : j = i
    · subst e
      rw [at_i, bf _ hb hc] at hne ⊢
      by_cases e2 : b = c
      · rw [if_pos e2, pc_n, pc_j _ (by omega)]
        exact ⟨h1, by omega, by omega⟩
      · rw [if_neg e2] at hne ⊢
        obtain ⟨k1, k2, k3⟩ := h.kid j c j0 h1 hc hne
        rw [pc_j _ (by omega), pc_j _ (by omega)]
        exact ⟨k1, by omega, k3⟩
    · by_cases e2 : j = (l.length : Int)
      · subst e2
        rw [at_n] at hne
        exact (hne (by unfold ab; split <;> rfl)).elim
      · rw [at_j j j0 (by omega) e] at hne ⊢
        obtain ⟨k1, k2, k3⟩ := h.kid j c j0 (by omega) hc hne
        rw [pc_j _ (by omega), pc_j _ (by omega)]
        exact ⟨k1, by omega, k3⟩
  · rw [hlen] at x1
    by_cases e : x = (l.length : Int)
    · exact ⟨i, b, h0, by omega, hb, by rw [at_i, bf _ hb hb, if_pos rfl, e]⟩
    · obtain ⟨j, c, j0, j1, hc, e2⟩ := h.up x x0 (by omega)
      refine ⟨j, c, j0, j1, hc, ?_⟩
      by_cases e3 : j = i
      · subst e3
        have : b ≠ c := fun hh => by rw [← hh, hz] at e2; omega
        rw [at_i, bf _ hb hc, if_neg this, e2]
      · rw [at_j j j0 (by omega) e3, e2]
  · rw [hlen] at x1 y1
    by_cases ex : x = (l.length : Int)
    · by_cases ey : y = (l.length : Int)
      · omega
      · rw [ex, pc_n, pc_j _ ey] at e
        exact (fresh y y0 (by omega) e.symm).elim
    · by_cases ey : y = (l.length : Int)
      · rw [ey, pc_n, pc_j _ ex] at e
        exact (fresh x x0 (by omega) e).elim
      · rw [pc_j _ ex, pc_j _ ey] at e
        exact h.inj x y x0 (by omega) y0 (by omega) e
  · rintro ⟨j, j0, j1, e, e2, e3⟩
    rw [hlen] at j1
    by_cases ej : j = (l.length : Int)
    · rw [ej, at_n] at e2
      exact absurd e2 (by decide)
    · rw [pc_j _ ej] at e
      by_cases ei : j = i
      · rw [ei, at_i] at e2 e3
        rw [(b9 _ _ _).1] at e2
        rw [(b9 _ _ _).2] at e3
        exact ⟨i, h0, h1, by rw [← ei]; exact e, e2, e3⟩
      · rw [at_j j j0 (by omega) ei] at e2 e3
        exact ⟨j, j0, by omega, e, e2, e3⟩
  · rintro ⟨j, j0, j1, e, e2, e3⟩
    refine ⟨j, j0, by omega, by rw [pc_j _ (by omega)]; exact e, ?_⟩
    by_cases ei : j = i
    · subst ei
      rw [at_i, (b9 _ _ _).1, (b9 _ _ _).2]
      exact ⟨e2, e3⟩
    · rw [at_j j j0 j1 ei]
      exact ⟨e2, e3⟩
theorem cv (v a : Int) (a0 : 0 ≤ a) (a1 : a ≤ 4294967295) : ∀ (m : Nat) (d : Int) (l : List S86) (i : Int) (pc : Int → Int), PInv l pc → 0 ≤ i → i < (l.length : Int) → pc i = ao a d → 0 ≤ d → d + m ≤ 32 →
    ∃ pc', PInv (ag v a m d l i) pc' ∧ ∀ q w, b8 (ag v a m d l i) pc' q w ↔ (q = ao a (d + m) ∧ w = v) ∨ (q ≠ ao a (d + m) ∧ b8 l pc q w)
  | 0, d, l, i, pc, h, i0, i1, e, d0, d1 => by
    rw [ag]
    have at_i : rd_T86 (l.set i.toNat (⟨(rd_T86 l i).f0, (rd_T86 l i).f1, true, v⟩ : S86)) i = ⟨(rd_T86 l i).f0, (rd_T86 l i).f1, true, v⟩ := a7 i0 i1
    have at_j : ∀ j : Int, 0 ≤ j → j ≠ i → rd_T86 (l.set i.toNat (⟨(rd_T86 l i).f0, (rd_T86 l i).f1, true, v⟩ : S86)) j = rd_T86 l j := fun j j0 hj => a6 i0 j0 (Ne.symm hj)
    have hlen : (((l.set i.toNat (⟨(rd_T86 l i).f0, (rd_T86 l i).f1, true, v⟩ : S86)).length : Nat) : Int) = (l.length : Int) := by simp
    generalize l.set i.toNat (⟨(rd_T86 l i).f0, (rd_T86 l i).f1, true, v⟩ : S86) = l' at at_i at_j hlen ⊢
    have same : ∀ j b : Int, 0 ≤ j → ab (rd_T86 l' j) b = ab (rd_T86 l j) b := fun j b j0 => by
      by_cases ej : j = i
      · rw [ej, at_i]; rfl
      · rw [at_j j j0 ej]
    refine ⟨pc, ⟨h.root, fun j j0 j1 => h.pos j j0 (by omega), fun j b j0 j1 hb hne => ?_, fun x x0 x1 => ?_, fun x y x0 x1 y0 y1 => h.inj x y x0 (by omega) y0 (by omega)⟩, fun q w => ?_⟩
    · rw [same j b j0] at hne ⊢
      rw [hlen]
      exact h.kid j b j0 (by omega) hb hne
    · obtain ⟨j, b, j0, j1, hb, e2⟩ := h.up x x0 (by omega)
      exact ⟨j, b, j0, j1, hb, by rw [same j b j0, e2]⟩
    · rw [show d + ((0 : Nat) : Int) = d by omega, ← e]
      constructor
      · rintro ⟨j, j0, j1, e1, e2, e3⟩
        by_cases ej : j = i
        · rw [ej, at_i] at e3
          exact .inl ⟨by rw [← e1, ej], e3.symm⟩
        · rw [at_j j j0 ej] at e2 e3
          exact .inr ⟨fun hq => ej (h.inj j i j0 (by omega) i0 i1 (by rw [e1, hq])), j, j0, by omega, e1, e2, e3⟩
      · rintro (⟨rfl, rfl⟩ | ⟨hq, j, j0, j1, e1, e2, e3⟩)
        · exact ⟨i, i0, by omega, rfl, by rw [at_i], by rw [at_i]⟩
        · have ej : j ≠ i := fun hj => hq (by rw [← e1, hj])
          exact ⟨j, j0, by omega, e1, by rw [at_j j j0 ej]; exact e2, by rw [at_j j j0 ej]; exact e3⟩
  | m + 1, d, l, i, pc, h, i0, i1, e, d0, d1 => by
    rw [ag, show d + ((m + 1 : Nat) : Int) = d + 1 + (m : Int) by omega]
    by_cases hz : ab (rd_T86 l i) (au a d) = 0
    · rw [if_pos hz]
      obtain ⟨g1, g2⟩ := h.grow i0 i1 (bg a d) hz
      obtain ⟨pc', p1, p2⟩ := cv v a a0 a1 m (d + 1) _ (l.length : Int) _ g1 (by omega) (by simp; omega) (by
        show (if (l.length : Int) = (l.length : Int) then _ else _) = _
        rw [if_pos rfl, e, cy a0 a1 d0 (by omega)]) (by omega) (by omega)
      exact ⟨pc', p1, fun q w => by rw [p2, g2]⟩
    · rw [if_neg hz]
      obtain ⟨k1, k2, k3⟩ := h.kid i _ i0 i1 (bg a d) hz
      exact cv v a a0 a1 m (d + 1) l _ pc h (by omega) k2 (by rw [k3, e, cy a0 a1 d0 (by omega)]) (by omega) (by omega)
theorem fh : PInv [(⟨0, 0, false, 0⟩ : S86)] (fun _ => 1) := ⟨rfl, fun _ _ _ => ke _, fun i b i0 i1 hb hne => by
    have : i = 0 := by simp at i1; omega
    subst this
    exact (hne (by show ab ⟨0, 0, false, 0⟩ b = 0; unfold ab; split <;> rfl)).elim, fun x x0 x1 => by simp at x1; omega, fun i j i0 i1 j0 j1 _ => by simp at i1 j1; omega⟩
theorem e9 (q v : Int) : ¬ b8 [(⟨0, 0, false, 0⟩ : S86)] (fun _ => 1) q v := by
  rintro ⟨j, j0, j1, _, e, _⟩
  have : j = 0 := by simp at j1; omega
  subst this
  exact absurd e (by decide)
theorem dt : ∀ (es : List S39) (t : List S86) (pc : Int → Int), PInv t pc → 1 ≤ t.length → (∀ e, e ∈ es → good e.f0.f0 e.f0.f1 = true) → es.Pairwise (fun e e' => ao e.f0.f0 e.f0.f1 ≠ ao e'.f0.f0 e'.f0.f1) →
    ∃ pc', PInv (es.foldl (fun t e => ag e.f1 e.f0.f0 e.f0.f1.toNat 0 t 0) t) pc' ∧ ∀ q w, b8 (es.foldl (fun t e => ag e.f1 e.f0.f0 e.f0.f1.toNat 0 t 0) t) pc' q w ↔ (∃ e, e ∈ es ∧ ao e.f0.f0 e.f0.f1 = q ∧ e.f1 = w) ∨ ((∀ e, e ∈ es → ao e.f0.f0 e.f0.f1 ≠ q) ∧ b8 t pc q w)
  | [], t, pc, h, _, _, _ => ⟨pc, h, fun q w => by simp⟩
  | e :: es, t, pc, h, ht, hg, hp => by
    obtain ⟨n0, n1, a0, a1, _⟩ := good_iff.1 (hg e (by simp))
    obtain ⟨pc1, h1, r1⟩ := cv e.f1 e.f0.f0 a0 a1 e.f0.f1.toNat 0 t 0 pc h (by omega) (by omega) (by rw [h.root, cx a0 a1]) (by omega) (by omega)
    have hlen := (bo e.f1 e.f0.f0 e.f0.f1.toNat 0 t 0).1
    obtain ⟨hp1, hp2⟩ := kd.1 hp
    obtain ⟨pc2, h2, r2⟩ := dt es _ pc1 h1 (by omega) (fun e' he => hg e' (by simp [he])) hp2
    refine ⟨pc2, h2, fun q w => ?_⟩
    rw [List.foldl_cons, r2, r1, show (0 : Int) + (e.f0.f1.toNat : Int) = e.f0.f1 by omega]
    constructor
    · rintro (⟨e', he, e1, e2⟩ | ⟨hn, ⟨e1, e2⟩ | ⟨e1, e2⟩⟩)
      · exact .inl ⟨e', by simp [he], e1, e2⟩
      · exact .inl ⟨e, by simp, e1.symm, e2.symm⟩
      · exact .inr ⟨fun e' he => by
          rcases kc.1 he with rfl | he
          · exact Ne.symm e1
          · exact hn e' he, e2⟩
    · rintro (⟨e', he, e1, e2⟩ | ⟨hn, e2⟩)
      · rcases kc.1 he with rfl | he
        · exact .inr ⟨fun e'' he' => by rw [← e1]; exact Ne.symm (hp1 e'' he'), .inl ⟨e1.symm, e2.symm⟩⟩
        · exact .inl ⟨e', he, e1, e2⟩
      · exact .inr ⟨fun e' he => hn e' (by simp [he]), .inr ⟨Ne.symm (hn e (by simp)), e2⟩⟩
theorem PInv.stop {l : List S86} {pc : Int → Int} (h : PInv l pc) {x i d : Int} (x0 : 0 ≤ x) (x1 : x ≤ 4294967295) (i0 : 0 ≤ i) (i1 : i < (l.length : Int)) (e : pc i = ao x d) (d0 : 0 ≤ d) (hz : ab (rd_T86 l i) (au x d) = 0) :
    ∀ (m : Nat) (j : Int), 0 ≤ j → j < (l.length : Int) → d + m < 32 → pc j ≠ ao x (d + m + 1) := by
  have step : ∀ (m : Nat) (j : Int), 0 ≤ j → j < (l.length : Int) → d + m < 32 → pc j = ao x (d + m + 1) → ∃ p, 0 ≤ p ∧ p < (l.length : Int) ∧ 0 < j ∧ ab (rd_T86 l p) (au x (d + m)) = j ∧ pc p = ao x (d + m) := fun m j j0 j1 hm ej => by
    rw [cy x0 x1 (d := d + m) (by omega) (by omega)] at ej
    have hb := bg x (d + m)
    have hc := fs (n := d + m) x0 (by omega)
    have hne : j ≠ 0 := fun h0 => by
      rw [h0, h.root] at ej
      omega
    obtain ⟨p, b, p0, p1, hb', e2⟩ := h.up j (by omega) j1
    have k := (h.kid p b p0 (by omega) hb' (by omega)).2.2
    rw [e2] at k
    have eb : b = au x (d + m) := by omega
    exact ⟨p, p0, by omega, by omega, by rw [← eb]; exact e2, by omega⟩
  intro m
  induction m with
  | zero =>
    intro j j0 j1 hm ej
    obtain ⟨p, p0, p1, jp, e2, ep⟩ := step 0 j j0 j1 hm ej
    rw [show d + ((0 : Nat) : Int) = d by omega] at e2 ep
    have hp : p = i := h.inj p i p0 p1 i0 i1 (by rw [ep, e])
    rw [hp, hz] at e2
    omega
  | succ m ih =>
    intro j j0 j1 hm ej
    obtain ⟨p, p0, p1, jp, e2, ep⟩ := step (m + 1) j j0 j1 hm ej
    exact ih p p0 p1 (by omega) (by rw [ep]; congr 1; omega)
def ltE (e e' : S39) : Prop := e.f0.f0 < e'.f0.f0 ∨ (e.f0.f0 = e'.f0.f0 ∧ e.f0.f1 < e'.f0.f1)
theorem fz {a n b m : Int} (h : cmpP a n b m < 0) : a < b ∨ a = b ∧ n < m := by
  unfold cmpP at h
  by_cases h1 : a < b ∨ a = b ∧ n < m
  · exact h1
  · rw [if_neg h1] at h
    split at h <;> omega
theorem cg : ∀ (l : List S39) (o : Option Pr2), risingFrom o (l.map ent) = true → (∀ q, o = some q → ∀ e, e ∈ l → q.1 < e.f0.f0 ∨ (q.1 = e.f0.f0 ∧ q.2 < e.f0.f1)) ∧ l.Pairwise ltE
  | [], o, _ => ⟨fun _ _ _ h => by simp at h, List.Pairwise.nil⟩
  | p :: t, o, h => by
    simp only [kZ, risingFrom, kb] at h
    obtain ⟨r1, r2⟩ := cg t (some (ent p)) h.2
    have hp := r1 _ rfl
    refine ⟨fun q hq x hx => ?_, kd.2 ⟨fun e he => hp e he, r2⟩⟩
    subst hq
    have h1 := fz (of_decide_eq_true h.1.2)
    rcases kc.1 hx with rfl | hx
    · exact h1
    · have h2 := hp x hx
      simp only [ent] at h1 h2
      omega
theorem cj {l : List S39} (h : ae l = true) : l.Pairwise ltE := by
  unfold ae at h
  simp only [kb] at h
  exact (cg l none h.1.2).2
theorem e7 {l : List S39} (h : ae l = true) : l.Pairwise (fun e e' => ao e.f0.f0 e.f0.f1 ≠ ao e'.f0.f0 e'.f0.f1) := by
  have hg := bc h
  refine List.Pairwise.imp_of_mem (fun {e e'} he he' hlt hc => ?_) (cj h)
  obtain ⟨h1, h2⟩ := co (hg e he) (hg e' he') hc
  unfold ltE at hlt
  omega
theorem dk {e e' : S39} (h : ltE e e') : ¬ ltE e' e := by unfold ltE at *; omega
theorem et : ∀ (l m : List S39), l.Pairwise ltE → m.Pairwise ltE → (∀ e, e ∈ l ↔ e ∈ m) → l = m
  | [], [], _, _, _ => rfl
  | [], b :: m, _, _, h => absurd ((h b).2 (by simp)) (by simp)
  | a :: l, [], _, _, h => absurd ((h a).1 (by simp)) (by simp)
  | a :: l, b :: m, hl, hm, h => by
    obtain ⟨l1, l2⟩ := kd.1 hl
    obtain ⟨m1, m2⟩ := kd.1 hm
    have hab : a = b := by
      rcases kc.1 ((h a).1 (by simp)) with e | ha
      · exact e
      · rcases kc.1 ((h b).2 (by simp)) with e | hb
        · exact e.symm
        · exact absurd (l1 b hb) (dk (m1 a ha))
    subst hab
    rw [et l m l2 m2 (fun e => ⟨fun he => by
      rcases kc.1 ((h e).1 (by simp [he])) with rfl | h'
      · exact absurd (l1 e he) (dk (l1 e he))
      · exact h', fun he => by
      rcases kc.1 ((h e).2 (by simp [he])) with rfl | h'
      · exact absurd (m1 e he) (dk (m1 e he))
      · exact h'⟩)]
theorem fp {a n : Int} (h : good a n = true) (hn : n < 32) : good a (n + 1) = true ∧ ao a (n + 1) = 2 * ao a n := by
  obtain ⟨n0, n1, a0, a1, ha⟩ := good_iff.1 h
  have hg : good a (n + 1) = true := good_iff.2 ⟨by omega, by omega, a0, a1, Int.emod_eq_zero_of_dvd (Int.dvd_trans (sz_dvd n0 (by omega) (by omega)) (kv ha))⟩
  refine ⟨hg, ?_⟩
  have e1 := bq h
  have e2 := bq hg
  have hs := sz_pos (n + 1)
  rw [sz_succ n0 hn, Int.mul_assoc, Int.mul_left_comm] at e1
  exact Int.eq_of_mul_eq_mul_left (show sz (n + 1) ≠ 0 by omega) (by rw [e2, e1])
theorem fi {a n : Int} (h : good a n = true) (hn : n < 32) : good (a + sz (n + 1)) (n + 1) = true ∧ ao (a + sz (n + 1)) (n + 1) = 2 * ao a n + 1 := by
  obtain ⟨n0, n1, a0, a1, ha⟩ := good_iff.1 h
  have hs := sz_pos (n + 1)
  have h2 := sz_succ n0 hn
  have hd : sz (n + 1) ∣ a := Int.dvd_trans (sz_dvd n0 (by omega) (by omega)) (kv ha)
  have hle : a + sz n ≤ 4294967296 := by
    have e1 := bq h
    have hd0 : sz n ∣ 4294967296 := by rw [← sz_lit.1]; exact sz_dvd (by omega) n0 n1
    obtain ⟨p, hp⟩ := hd0
    obtain ⟨q, hq⟩ := kv ha
    have hlt : q < p := by
      by_cases hqp : q < p
      · exact hqp
      · have := kf (show p ≤ q by omega) (show 0 ≤ sz n by have := sz_pos n; omega)
        omega
    have := kf (show q + 1 ≤ p by omega) (show 0 ≤ sz n by have := sz_pos n; omega)
    rw [vz] at this
    omega
  have hg : good (a + sz (n + 1)) (n + 1) = true := good_iff.2 ⟨by omega, by omega, by omega, by omega, Int.emod_eq_zero_of_dvd (Int.dvd_add hd (Int.dvd_refl _))⟩
  refine ⟨hg, ?_⟩
  have e1 := bq h
  have e2 := bq hg
  rw [h2, Int.mul_assoc, Int.mul_left_comm] at e1
  exact Int.eq_of_mul_eq_mul_left (show sz (n + 1) ≠ 0 by omega) (by rw [e2, vz, e1]; omega)
def InE (e : S39) (a n : Int) : Prop := good e.f0.f0 e.f0.f1 = true ∧ n ≤ e.f0.f1 ∧ a ≤ e.f0.f0 ∧ e.f0.f0 + sz e.f0.f1 ≤ a + sz n
theorem dy {t : List S86} {pc : Int → Int} (h : PInv t pc) : ∀ (m : Nat) (i a n : Int) (out : List S39), n + m = 32 → 0 ≤ i → i < (t.length : Int) → good a n = true → pc i = ao a n →
    ∃ w, ac t m i a n out = out ++ w ∧ w.Pairwise ltE ∧ ∀ e, e ∈ w ↔ (InE e a n ∧ b8 t pc (ao e.f0.f0 e.f0.f1) e.f1) := by
  have self : ∀ (i a n : Int) (out : List S39), 0 ≤ i → i < (t.length : Int) → pc i = ao a n → ∃ s, (if (rd_T86 t i).f2 = true then out ++ [(⟨⟨a, n⟩, (rd_T86 t i).f3⟩ : S39)] else out) = out ++ s ∧ s.Pairwise ltE ∧ ∀ e, e ∈ s ↔ (e.f0.f0 = a ∧ e.f0.f1 = n ∧ b8 t pc (ao a n) e.f1) := fun i a n out i0 i1 ei => by
    by_cases hf : (rd_T86 t i).f2 = true
    · refine ⟨[⟨⟨a, n⟩, (rd_T86 t i).f3⟩], if_pos hf, by simp, fun e => ⟨fun he => ?_, fun he => ?_⟩⟩
      · rw [List.mem_singleton.1 he]
        exact ⟨rfl, rfl, i, i0, i1, ei, hf, rfl⟩
      · obtain ⟨e1, e2, j, j0, j1, ej, _, e3⟩ := he
        rw [h.inj j i j0 j1 i0 i1 (by rw [ej, ei])] at e3
        cases e with
        | mk p v =>
          cases p with
          | mk p1 p2 =>
            dsimp only at e1 e2 e3
            rw [e1, e2, e3]
            exact List.mem_singleton.2 rfl
    · refine ⟨[], by rw [if_neg hf, kY], List.Pairwise.nil, fun e => ⟨fun he => by simp at he, fun he => ?_⟩⟩
      obtain ⟨_, _, j, j0, j1, ej, e2, _⟩ := he
      rw [h.inj j i j0 j1 i0 i1 (by rw [ej, ei])] at e2
      exact (hf e2).elim
  intro m
  induction m with
  | zero =>
    intro i a n out hn i0 i1 hg ei
    obtain ⟨s, s1, s2, s3⟩ := self i a n out i0 i1 ei
    have hn32 : n = 32 := by omega
    refine ⟨s, by rw [ac, s1], s2, fun e => ?_⟩
    rw [s3]
    constructor
    · rintro ⟨rfl, rfl, hh⟩
      exact ⟨⟨hg, ke _, ke _, ke _⟩, hh⟩
    · rintro ⟨⟨g, g1, g2, g3⟩, hh⟩
      have := (good_iff.1 g).2.1
      have en : e.f0.f1 = n := by omega
      rw [en] at g3
      have ea : e.f0.f0 = a := by omega
      rw [ea, en] at hh
      exact ⟨ea, en, hh⟩
  | succ m ih =>
    intro i a n out hn i0 i1 hg ei
    obtain ⟨n0, n1, a0, a1, ha⟩ := good_iff.1 hg
    obtain ⟨gl, cl⟩ := fp hg (by omega)
    obtain ⟨gr, cr⟩ := fi hg (by omega)
    have hs := sz_pos (n + 1)
    have h2 := sz_succ n0 (by omega)
    have half : ∀ (b c : Int) (out : List S39), (b = 0 ∨ b = 1) → good c (n + 1) = true → ao c (n + 1) = 2 * ao a n + b → a ≤ c → c + sz (n + 1) ≤ a + sz n →
        ∃ w, (if ab (rd_T86 t i) b = 0 then out else ac t m (ab (rd_T86 t i) b) c (n + 1) out) = out ++ w ∧ w.Pairwise ltE ∧ ∀ e, e ∈ w ↔ (InE e c (n + 1) ∧ b8 t pc (ao e.f0.f0 e.f0.f1) e.f1) := fun b c out hb gc cc c0 c1 => by
      by_cases hz : ab (rd_T86 t i) b = 0
      · refine ⟨[], by rw [if_pos hz, kY], List.Pairwise.nil, fun e => ⟨fun he => by simp at he, fun he => ?_⟩⟩
        obtain ⟨⟨g, g1, g2, g3⟩, j, j0, j1, ej, _, _⟩ := he
        obtain ⟨m0, m1, b0, b1, _⟩ := good_iff.1 g
        have hse := sz_pos e.f0.f1
        have r1 : ao e.f0.f0 n = ao a n := fd ha (by omega) (by omega) n0 n1
        have r2 : ao e.f0.f0 (n + 1) = ao c (n + 1) := fd (good_iff.1 gc).2.2.2.2 (by omega) (by omega) (by omega) (by omega)
        rw [cy b0 b1 n0 (by omega), cc, r1] at r2
        have hbit : au e.f0.f0 n = b := by omega
        obtain ⟨q, hq⟩ := kp (show 0 ≤ e.f0.f1 - n - 1 by omega)
        exact (h.stop b0 b1 i0 i1 (by rw [ei, r1]) n0 (by rw [hbit]; exact hz) q j j0 j1 (by omega) (by rw [ej]; congr 1; omega)).elim
      · obtain ⟨k1, k2, k3⟩ := h.kid i b i0 i1 hb hz
        obtain ⟨w, w1, w2, w3⟩ := ih (ab (rd_T86 t i) b) c (n + 1) out (by omega) (by omega) k2 gc (by rw [k3, ei, cc])
        exact ⟨w, by rw [if_neg hz, w1], w2, w3⟩
    obtain ⟨s, s1, s2, s3⟩ := self i a n out i0 i1 ei
    obtain ⟨wl, l1, l2, l3⟩ := half 0 a (out ++ s) (.inl rfl) gl (by rw [cl]; omega) (ke _) (by omega)
    obtain ⟨wr, r1, r2, r3⟩ := half 1 (a + sz (n + 1)) (out ++ s ++ wl) (.inr rfl) gr cr (by omega) (by omega)
    rw [cb] at l1
    rw [cw] at r1
    refine ⟨s ++ wl ++ wr, ?_, ?_, fun e => ?_⟩
    · rw [ac]
      rw [s1, l1, r1]
      simp only [ku]
    · refine List.pairwise_append.2 ⟨List.pairwise_append.2 ⟨s2, l2, fun x hx y hy => ?_⟩, r2, fun x hx y hy => ?_⟩
      · obtain ⟨e1, e2, _⟩ := (s3 x).1 hx
        obtain ⟨⟨_, g1, g2, _⟩, _⟩ := (l3 y).1 hy
        unfold ltE
        omega
      · obtain ⟨⟨_, g1, g2, _⟩, _⟩ := (r3 y).1 hy
        unfold ltE
        rcases kJ.1 hx with hx | hx
        · obtain ⟨e1, e2, _⟩ := (s3 x).1 hx
          omega
        · obtain ⟨⟨_, q1, q2, q3⟩, _⟩ := (l3 x).1 hx
          have := sz_pos x.f0.f1
          omega
    · rw [kJ, kJ, s3, l3, r3]
      constructor
      · rintro ((⟨rfl, rfl, hh⟩ | ⟨⟨g, g1, g2, g3⟩, hh⟩) | ⟨⟨g, g1, g2, g3⟩, hh⟩)
        · exact ⟨⟨hg, ke _, ke _, ke _⟩, hh⟩
        · exact ⟨⟨g, by omega, g2, by omega⟩, hh⟩
        · exact ⟨⟨g, by omega, by omega, by omega⟩, hh⟩
      · rintro ⟨⟨g, g1, g2, g3⟩, hh⟩
        by_cases en : e.f0.f1 = n
        · rw [en] at g3
          have ea : e.f0.f0 = a := by omega
          rw [ea, en] at hh
          exact .inl (.inl ⟨ea, en, hh⟩)
        · obtain ⟨m0, m1, b0, b1, hm⟩ := good_iff.1 g
          have hse := sz_pos e.f0.f1
          by_cases hlt : e.f0.f0 < a + sz (n + 1)
          · refine .inl (.inr ⟨⟨g, by omega, g2, ?_⟩, hh⟩)
            have d1 : sz e.f0.f1 ∣ a := Int.dvd_trans (sz_dvd n0 (by omega) m1) (kv ha)
            have d2 : sz e.f0.f1 ∣ sz (n + 1) := sz_dvd (by omega) (by omega) m1
            have d3 : sz e.f0.f1 ∣ a + sz (n + 1) - e.f0.f0 := Int.dvd_sub (Int.dvd_add d1 d2) (kv hm)
            have := Int.le_of_dvd (by omega) d3
            omega
          · exact .inr ⟨⟨g, by omega, by omega, by omega⟩, hh⟩
theorem cs {t : List S86} (hk : KidsV t) : ∀ (m : Nat) (i a n : Int) (out : List S39) (k : Nat), 0 ≤ i → i < (t.length : Int) → 0 ≤ n → n + m = 32 → 0 ≤ a → a + sz n ≤ 4294967296 → out.length + 2 ^ (m + 1) ≤ 100000000000 → 2 * m + 2 ≤ k →
    impl_entriesBelow.f k t i a n out = some (ac t m i a n out)
  | 0, i, a, n, out, k, i0, i1, n0, hn, a0, a1, ho, hkk => by
    obtain ⟨k, rfl⟩ : ∃ j, k = j + 1 + 1 := ⟨k - 2, by omega⟩
    rw [impl_entriesBelow.f, if_pos i0, if_pos i1, ac]
    by_cases h : (rd_T86 t i).f2 = true
    · rw [if_pos h, if_pos h, if_pos (by omega), impl_entriesBelow.j0, if_pos (show n = 32 by omega)]
    · rw [if_neg h, if_neg h, impl_entriesBelow.j0, if_pos (show n = 32 by omega)]
  | m + 1, i, a, n, out, k, i0, i1, n0, hn, a0, a1, ho, hkk => by
    obtain ⟨k, rfl⟩ : ∃ j, k = j + 1 + 1 := ⟨k - 2, by omega⟩
    have hki := hk i i0 i1
    have hs := sz_succ n0 (by omega)
    have hs1 := sz_pos (n + 1)
    have hp : (2 : Nat) ^ (m + 1 + 1) = 2 ^ (m + 1) + 2 ^ (m + 1) := by rw [kV]; omega
    have hq : 2 ≤ (2 : Nat) ^ (m + 1) := by have := @Nat.one_le_two_pow m; rw [kV]; omega
    have mid : ∀ o1 : List S39, o1.length ≤ out.length + 1 →
        impl_entriesBelow.j0 (k + 1) t o1 a n (rd_T86 t i).f0 (rd_T86 t i).f1 (rd_T86 t i).f2 (rd_T86 t i).f3 = some (if (rd_T86 t i).f1 = 0 then (if (rd_T86 t i).f0 = 0 then o1 else ac t m (rd_T86 t i).f0 a (n + 1) o1) else ac t m (rd_T86 t i).f1 (a + sz (n + 1)) (n + 1) (if (rd_T86 t i).f0 = 0 then o1 else ac t m (rd_T86 t i).f0 a (n + 1) o1)) := by
      intro o1 h1
      rw [impl_entriesBelow.j0, if_neg (show ¬ n = 32 by omega), bd n0 (by omega) a0 (by omega), kz]
      dsimp only
      by_cases z0 : (rd_T86 t i).f0 = 0
      · rw [if_neg (show ¬ (rd_T86 t i).f0 > 0 by omega), if_pos z0]
        by_cases z1 : (rd_T86 t i).f1 = 0
        · rw [if_neg (show ¬ (rd_T86 t i).f1 > 0 by omega), if_pos z1]
        · have hv : i + 1 ≤ (rd_T86 t i).f1 ∧ (rd_T86 t i).f1 ≤ (t.length : Int) - 1 := hki.2.elim (fun e => absurd e z1) id
          have r2 := cs hk m (rd_T86 t i).f1 (a + sz (n + 1)) (n + 1) o1 k (by omega) (by omega) (by omega) (by omega) (by omega) (by omega) (by omega) (by omega)
          rw [if_pos (show (rd_T86 t i).f1 > 0 by omega), if_neg z1, r2, kz]
      · have hv0 : i + 1 ≤ (rd_T86 t i).f0 ∧ (rd_T86 t i).f0 ≤ (t.length : Int) - 1 := hki.1.elim (fun e => absurd e z0) id
        have q2 := cs hk m (rd_T86 t i).f0 a (n + 1) o1 k (by omega) (by omega) (by omega) (by omega) a0 (by omega) (by omega) (by omega)
        have hl := ct t m (rd_T86 t i).f0 a (n + 1) o1
        rw [if_pos (show (rd_T86 t i).f0 > 0 by omega), if_neg z0, q2, kz]
        by_cases z1 : (rd_T86 t i).f1 = 0
        · rw [if_neg (show ¬ (rd_T86 t i).f1 > 0 by omega), if_pos z1]
        · have hv : i + 1 ≤ (rd_T86 t i).f1 ∧ (rd_T86 t i).f1 ≤ (t.length : Int) - 1 := hki.2.elim (fun e => absurd e z1) id
          have r2 := cs hk m (rd_T86 t i).f1 (a + sz (n + 1)) (n + 1) (ac t m (rd_T86 t i).f0 a (n + 1) o1) k (by omega) (by omega) (by omega) (by omega) (by omega) (by omega) (by omega) (by omega)
          rw [if_pos (show (rd_T86 t i).f1 > 0 by omega), if_neg z1, r2, kz]
    rw [impl_entriesBelow.f, if_pos i0, if_pos i1, ac]
    by_cases h : (rd_T86 t i).f2 = true
    · simp only [if_pos h]
      rw [if_pos (show out.length < 5864062014805 by omega)]
      exact mid _ (by simp)
    · simp only [if_neg h]
      exact mid _ (by omega)
theorem fj {l : List S39} (h : ae l = true) : ∃ pc, PInv (aw l) pc ∧ ∀ q w, b8 (aw l) pc q w ↔ ∃ e, e ∈ l ∧ ao e.f0.f0 e.f0.f1 = q ∧ e.f1 = w := by
  obtain ⟨pc, h1, h2⟩ := dt l _ _ fh (by simp) (bc h) (e7 h)
  exact ⟨pc, h1, fun q w => (h2 q w).trans ⟨fun hh => hh.elim id (fun hn => (e9 q w hn.2).elim), .inl⟩⟩
theorem cd {l : List S39} (h : ae l = true) : aa (aw l) = true ∧ 1 ≤ (aw l).length ∧ (aw l).length ≤ 2000 := by
  obtain ⟨h30, hg⟩ := ak h
  obtain ⟨dep', par', j1, j2, j3, j4, j5⟩ := dp l _ _ _ hg bk (by simp) (fun x x0 x1 => ke _)
  simp only [kq] at j5
  have c0 : ap [(⟨0, 0, false, 0⟩ : S86)] = 0 := by simp [ap]
  rw [c0] at j3
  unfold aw
  exact ⟨ds j1 j4 (by omega) (by omega) j2, j4, by omega⟩
theorem fc {a n : Int} (h : good a n = true) : a + sz n ≤ 4294967296 := by
  obtain ⟨n0, n1, a0, a1, ha⟩ := good_iff.1 h
  have hs := sz_pos n
  obtain ⟨p, hp⟩ : sz n ∣ 4294967296 := by rw [← sz_lit.1]; exact sz_dvd (by omega) n0 n1
  obtain ⟨q, hq⟩ := kv ha
  have hlt : q < p := by
    by_cases hqp : q < p
    · exact hqp
    · have := kf (show p ≤ q by omega) (show 0 ≤ sz n by omega)
      omega
  have := kf (show q + 1 ≤ p by omega) (show 0 ≤ sz n by omega)
  rw [vz] at this
  omega
theorem ef {l : List S39} (h : ae l = true) : ac (aw l) 32 0 0 0 [] = l := by
  obtain ⟨pc, hp, hh⟩ := fj h
  have hlen := (cd h).2.1
  obtain ⟨w, e, hw, hm⟩ := dy hp 32 0 0 0 [] (by rfl) (by omega) (by omega) (good_iff.2 ⟨by omega, by omega, by omega, by omega, by rfl⟩) (by rw [hp.root, cx (by omega) (by omega)])
  rw [e, kt]
  refine et w l hw (cj h) (fun x => ?_)
  rw [hm, hh]
  constructor
  · rintro ⟨⟨g, _⟩, y, hy, e1, e2⟩
    obtain ⟨q1, q2⟩ := co (bc h y hy) g e1
    have : y = x := by
      rcases x with ⟨⟨x1, x2⟩, x3⟩
      rcases y with ⟨⟨y1, y2⟩, y3⟩
      dsimp only at q1 q2 e2
      rw [q1, q2, e2]
    rw [← this]; exact hy
  · intro hx
    have g := bc h x hx
    obtain ⟨n0, n1, a0, a1, _⟩ := good_iff.1 g
    have := fc g
    exact ⟨⟨g, n0, a0, by rw [sz_lit.1]; omega⟩, x, hx, rfl, rfl⟩
theorem fy (l : List S39) (a n v : Int) (hl : l.length ≤ 1000) : ∀ (m : Nat) (x : Int), 0 ≤ x → x + m = l.length → ∃ r, (∀ k, spec_l2Put.l0 (k + m + 2) l x a n v = some r) ∧ r.length ≤ l.length + 1 := by
  intro m
  induction m with
  | zero =>
    intro x h0 hx
    refine ⟨([] ++ l.take x.toNat) ++ [(⟨⟨a, n⟩, v⟩ : S39)] ++ l.drop x.toNat, fun k => ?_, by simp; omega⟩
    rw [show k + 0 + 2 = (k + 1) + 1 by omega, spec_l2Put.l0, if_neg (by omega), if_pos h0, if_pos (by omega), kz, if_pos (by simp; omega), kz, if_pos (by simp; omega), kz, kz, if_pos (by simp; omega)]
  | succ m ih =>
    intro x h0 hx
    have hw : wrap64 (x + 1) = x + 1 := wrap_id (by omega) (by omega)
    by_cases hc : cmpP (rd_T39 l x).f0.f0 (rd_T39 l x).f0.f1 a n < 0
    · obtain ⟨r, e, h⟩ := ih (x + 1) (by omega) (by omega)
      refine ⟨r, fun k => ?_, h⟩
      rw [show k + (m + 1) + 2 = (k + m + 2) + 1 by omega, spec_l2Put.l0, if_pos (by omega), if_pos h0, show k + m + 2 = (k + m + 1) + 1 by omega, ar, kz, if_pos hc, hw]
      exact e k
    · by_cases he : ((rd_T39 l x).f0.f0 == a && ((rd_T39 l x).f0.f1 == n)) = true
      · refine ⟨([] ++ l.take x.toNat) ++ [(⟨⟨a, n⟩, v⟩ : S39)] ++ l.drop (x + 1).toNat, fun k => ?_, by simp; omega⟩
        rw [show k + (m + 1) + 2 = (k + m + 2) + 1 by omega, spec_l2Put.l0, if_pos (by omega), if_pos h0, show k + m + 2 = (k + m + 1) + 1 by omega, ar, kz, if_neg hc, if_pos (by omega), kz, if_pos (by simp; omega), kz, if_pos (by simp; omega), kz, if_pos he, hw, if_pos (by omega), if_pos (by omega), kz, if_pos (by simp; omega)]
      · refine ⟨([] ++ l.take x.toNat) ++ [(⟨⟨a, n⟩, v⟩ : S39)] ++ l.drop x.toNat, fun k => ?_, by simp; omega⟩
        rw [show k + (m + 1) + 2 = (k + m + 2) + 1 by omega, spec_l2Put.l0, if_pos (by omega), if_pos h0, show k + m + 2 = (k + m + 1) + 1 by omega, ar, kz, if_neg hc, if_pos (by omega), kz, if_pos (by simp; omega), kz, if_pos (by simp; omega), kz, if_neg he, kz, if_pos (by simp; omega)]
theorem el {c : List Int} (hc : Bts c) (l : List S39) (x4 : Int) (hl : l.length ≤ 31) {i : Int} (s : Int) (h0 : 0 ≤ i) (h1 : i ≤ 100000) : ∃ r i' s', (∀ k, spec_l1Cur_table.j2 (k + 2) l x4 false c i s = some (r, i', s')) ∧ r.length ≤ l.length + 1 ∧ 0 ≤ i' ∧ i' ≤ i + 30 := by
  have none3 : ∀ (k : Nat) (i s : Int), spec_l1Cur_table.j3 (k + 1) l false c i s = some (l, i, s) := fun k i s => by rw [spec_l1Cur_table.j3, if_neg (by simp)]
  by_cases h : (l.length : Int) > 0
  · obtain ⟨b, i1, s1, e1, a1, b1⟩ := eu hc s (n := 20) h0 (by omega) (by omega)
    cases b with
    | false =>
      refine ⟨l, i1, s1, fun k => ?_, by omega, by omega, by omega⟩
      rw [show k + 2 = (k + 1) + 1 by omega, spec_l1Cur_table.j2, if_neg (by simp), if_pos h, e1, kz]
      exact none3 _ _ _
    | true =>
      obtain ⟨p, i2, s2, e2, p0, p1, a2, b2⟩ := a5 hc s1 (n := (l.length : Int)) (i := i1) (by omega) (by omega) (by omega)
      obtain ⟨q, i3, s3, e3, q0, q1, a3, b3⟩ := a5 hc s2 (n := 3) (i := i2) (by omega) (by omega) (by omega)
      have hp : p < (l.length : Int) := by omega
      have go : ∀ k, spec_l1Cur_table.j2 (k + 2) l x4 false c i s = spec_l1Cur_table.j3 (k + 1) l true c i1 s1 := fun k => by
        rw [show k + 2 = (k + 1) + 1 by omega, spec_l1Cur_table.j2, if_neg (by simp), if_pos h, e1, kz]
      by_cases c0 : q = 0
      · obtain ⟨v, i4, s4, e4, _, a4, b4⟩ := cp hc s3 [(-1), 1000000, 1000001] (i := i3) (by omega) (by omega) (by simp) (by simp)
        refine ⟨l.set p.toNat ⟨⟨(rd_T39 l p).f0.f0, (rd_T39 l p).f0.f1⟩, v⟩, i4, s4, fun k => ?_, by rw [kk]; omega, by omega, by omega⟩
        rw [go, spec_l1Cur_table.j3, if_pos rfl, e2, kz]
        dsimp only
        rw [e3, kz]
        dsimp only
        rw [if_pos c0, e4, kz, if_pos p0, if_pos hp]
      · by_cases c1 : q = 1
        · obtain ⟨a, n, i4, s4, e4, a4, b4⟩ := cu hc s3 (i := i3) (by omega) (by omega)
          refine ⟨l.set p.toNat ⟨⟨a, n⟩, (rd_T39 l p).f1⟩, i4, s4, fun k => ?_, by rw [kk]; omega, by omega, by omega⟩
          rw [go, spec_l1Cur_table.j3, if_pos rfl, e2, kz]
          dsimp only
          rw [e3, kz]
          dsimp only
          rw [if_neg c0, if_pos c1, e4, kz, if_pos p0, if_pos hp]
        · refine ⟨l ++ [⟨⟨(rd_T39 l 0).f0.f0, (rd_T39 l 0).f0.f1⟩, (rd_T39 l 0).f1⟩], i3, s3, fun k => ?_, by simp, by omega, by omega⟩
          rw [go, spec_l1Cur_table.j3, if_pos rfl, e2, kz]
          dsimp only
          rw [e3, kz]
          dsimp only
          rw [if_neg c0, if_neg c1, if_pos (by omega), if_pos (by omega)]
  · refine ⟨l, i, s, fun k => ?_, by omega, by omega, by omega⟩
    rw [show k + 2 = (k + 1) + 1 by omega, spec_l1Cur_table.j2, if_neg (by simp), if_neg h]
    exact none3 _ _ _
theorem e6 {c : List Int} (hc : Bts c) : ∀ (m : Nat) (l : List S39) (i s : Int), m ≤ 40 → l.length ≤ 30 → 0 ≤ i → i + 30 * m ≤ 50000 → ∃ r i' s', (∀ k, spec_l1Cur_table.l0 (k + 2 * m + 60) l (m : Int) c i s = some (r, i', s')) ∧ r.length ≤ 31 ∧ 0 ≤ i' ∧ i' ≤ i + 30 * m + 30 := by
  intro m
  induction m with
  | zero =>
    intro l i s _ hl h0 h1
    obtain ⟨r, i1, s1, e, g1, g2, g3⟩ := el hc l (0 : Int) (by omega) s h0 (by omega)
    refine ⟨r, i1, s1, fun k => ?_, by omega, by omega, by omega⟩
    rw [show k + 2 * 0 + 60 = (k + 57 + 2) + 1 by omega, spec_l1Cur_table.l0, if_neg (by omega)]
    exact e _
  | succ m ih =>
    intro l i s hm hl h0 h1
    have hw : wrap64 (((m + 1 : Nat) : Int) - 1) = (m : Int) := by rw [wrap_id (by omega) (by omega)]; omega
    by_cases hlt : (l.length : Int) < 30
    · obtain ⟨a, n, i1, s1, e1, g1, a1, b1⟩ := fv hc s h0 (by omega)
      obtain ⟨v, i2, s2, e2, _, _, a2, b2⟩ := a5 hc s1 (n := 9) (i := i1) (by omega) (by omega) (by omega)
      obtain ⟨p, e3, hp⟩ := fy l a n v (by omega) l.length 0 (by omega) (by omega)
      obtain ⟨r, i4, s4, e4, h4, h5, h6⟩ := ih p i2 s2 (by omega) (by omega) (by omega) (by omega)
      refine ⟨r, i4, s4, fun k => ?_, h4, h5, by omega⟩
      have e3' : spec_l2Put.f (k + 2 * m + 60) l a n v = some p := by
        have := e3 (k + 2 * m + 58 - l.length)
        rw [show k + 2 * m + 58 - l.length + l.length + 2 = k + 2 * m + 60 by omega] at this
        exact this
      rw [show k + 2 * (m + 1) + 60 = (k + 2 * m + 60) + 1 + 1 by omega, spec_l1Cur_table.l0, if_pos (by omega), decide_eq_true hlt, spec_l1Cur_table.j2, if_pos rfl, e1, kz]
      dsimp only
      rw [e2, kz]
      dsimp only
      rw [e3', kz, hw]
      exact e4 k
    · obtain ⟨r, i1, s1, e, g1, g2, g3⟩ := el hc l ((m + 1 : Nat) : Int) (by omega) s h0 (by omega)
      refine ⟨r, i1, s1, fun k => ?_, by omega, by omega, by omega⟩
      rw [show k + 2 * (m + 1) + 60 = (k + 2 * m + 59 + 2) + 1 by omega, spec_l1Cur_table.l0, if_pos (by omega), decide_eq_false hlt]
      exact e _
theorem fq {c : List Int} (hc : Bts c) (i s : Int) (h0 : 0 ≤ i) (h1 : i ≤ 10000) : ∃ (r : List S39) (i' s' : Int), (∀ k, 200 ≤ k → spec_l1Cur_table.f k c i s = some (r, i', s')) ∧ r.length ≤ 31 ∧ 0 ≤ i' ∧ i' ≤ i + 2000 := by
  obtain ⟨n, i1, s1, e1, n0, n1, a1, b1⟩ := a5 hc s (n := 9) (i := i) (by omega) (by omega) (by omega)
  obtain ⟨b, i2, s2, e2, a2, b2⟩ := eu hc s1 (n := 20) (i := i1) (by omega) (by omega) (by omega)
  cases b with
  | true =>
    obtain ⟨r, i3, s3, e3, h3, h4, h5⟩ := e6 hc 40 [] i2 s2 (by omega) (by simp) (by omega) (by omega)
    refine ⟨r, i3, s3, fun k hk => ?_, h3, h4, by omega⟩
    obtain ⟨k, rfl⟩ : ∃ k', k = k' + 2 * 40 + 60 + 1 := ⟨k - 141, by omega⟩
    unfold spec_l1Cur_table.f
    rw [e1, kz]
    dsimp only
    rw [e2, kz, if_pos rfl, spec_l1Cur_table.j0]
    exact e3 k
  | false =>
    obtain ⟨r, i3, s3, e3, h3, h4, h5⟩ := e6 hc n.toNat [] i2 s2 (by omega) (by simp) (by omega) (by omega)
    refine ⟨r, i3, s3, fun k hk => ?_, h3, h4, by omega⟩
    obtain ⟨k, rfl⟩ : ∃ k', k = k' + 2 * n.toNat + 60 + 1 := ⟨k - (2 * n.toNat + 61), by omega⟩
    unfold spec_l1Cur_table.f
    rw [e1, kz]
    dsimp only
    rw [e2, kz, if_neg (by simp), spec_l1Cur_table.j0, show n = (n.toNat : Int) by omega]
    exact e3 k
theorem eo {c : List Int} (hc : Bts c) (i s : Int) (h0 : 0 ≤ i) (h1 : i ≤ 10000) : ∃ (t : List S86) (i' s' : Int), (∃ K, ∀ k, K ≤ k → spec_l1Cur_trie.f k c i s = some (t, i', s')) ∧ 1 ≤ t.length ∧ t.length ≤ 2000 ∧ 0 ≤ i' ∧ i' ≤ i + 3000 := by
  have j0_ok : ∀ (t : List S86) (i s : Int), 1 ≤ t.length → t.length ≤ 2000 → 0 ≤ i → i ≤ 20000 → ∃ (r : List S86) (i' s' : Int), (∀ k, spec_l1Cur_trie.j0 (k + 1) t c i s = some (r, i', s')) ∧ r.length = t.length ∧ 0 ≤ i' ∧ i' ≤ i + 30 := by
    intro t i s t1 t2 h0 h1
    obtain ⟨b, i1, s1, e1, a1, b1⟩ := eu hc s (n := 12) h0 (by omega) (by omega)
    cases b with
    | false =>
      refine ⟨t, i1, s1, fun k => ?_, rfl, by omega, by omega⟩
      rw [spec_l1Cur_trie.j0, e1, kz, if_neg (by simp)]
    | true =>
      obtain ⟨p, i2, s2, e2, p0, p1, a2, b2⟩ := a5 hc s1 (n := (t.length : Int)) (i := i1) (by omega) (by omega) (by omega)
      obtain ⟨q, i3, s3, e3, q0, q1, a3, b3⟩ := a5 hc s2 (n := 3) (i := i2) (by omega) (by omega) (by omega)
      have hp : p < (t.length : Int) := by omega
      by_cases c0 : q = 0
      · obtain ⟨v, i4, s4, e4, _, _, a4, b4⟩ := a5 hc s3 (n := wrap64 ((t.length : Int) + 1)) (i := i3) (by omega) (by omega) (by rw [wrap_id (by omega) (by omega)]; omega)
        refine ⟨t.set p.toNat ⟨v, (rd_T86 t p).f1, (rd_T86 t p).f2, (rd_T86 t p).f3⟩, i4, s4, fun k => ?_, by rw [kk], by omega, by omega⟩
        rw [spec_l1Cur_trie.j0, e1, kz, if_pos rfl, e2, kz]
        dsimp only
        rw [e3, kz]
        dsimp only
        rw [if_pos c0, e4, kz, if_pos p0, if_pos hp]
      · by_cases c1 : q = 1
        · refine ⟨t.set p.toNat ⟨(rd_T86 t p).f0, (rd_T86 t p).f1, !((rd_T86 t p).f2), (rd_T86 t p).f3⟩, i3, s3, fun k => ?_, by rw [kk], by omega, by omega⟩
          rw [spec_l1Cur_trie.j0, e1, kz, if_pos rfl, e2, kz]
          dsimp only
          rw [e3, kz]
          dsimp only
          rw [if_neg c0, if_pos c1, if_pos p0, if_pos hp]
        · obtain ⟨v, i4, s4, e4, _, _, a4, b4⟩ := a5 hc s3 (n := 3) (i := i3) (by omega) (by omega) (by omega)
          refine ⟨t.set p.toNat ⟨(rd_T86 t p).f0, (rd_T86 t p).f1, (rd_T86 t p).f2, v⟩, i4, s4, fun k => ?_, by rw [kk], by omega, by omega⟩
          rw [spec_l1Cur_trie.j0, e1, kz, if_pos rfl, e2, kz]
          dsimp only
          rw [e3, kz]
          dsimp only
          rw [if_neg c0, if_neg c1, e4, kz, if_pos p0, if_pos hp]
  obtain ⟨l, i1, s1, e1, g1, g2, g3⟩ := fq hc i s h0 h1
  obtain ⟨r, ⟨K, hK⟩, _, r2, r3, r4⟩ := d8 l (by omega)
  replace hK : ∀ k, K ≤ k → spec_BuildTrie.f k l = some r := hK
  by_cases hg : ae l = true
  · have hr := r3 hg
    obtain ⟨_, q1, q2⟩ := cd hg
    obtain ⟨t, i2, s2, e2, t1, t2, t3⟩ := j0_ok (aw l) i1 s1 q1 q2 g2 (by omega)
    refine ⟨t, i2, s2, ⟨K + 201, fun k hk => ?_⟩, by omega, by omega, t2, by omega⟩
    obtain ⟨k, rfl⟩ : ∃ k', k = k' + 1 := ⟨k - 1, by omega⟩
    unfold spec_l1Cur_trie.f
    rw [e1 _ (by omega), kz]
    dsimp only
    rw [hK _ (by omega), hr, kz, if_pos rfl]
    exact e2 k
  · have hr := r4 hg
    obtain ⟨t, i2, s2, e2, t1, t2, t3⟩ := j0_ok [⟨0, 0, false, 0⟩] i1 s1 (by simp) (by simp) g2 (by omega)
    rw [kq] at t1
    refine ⟨t, i2, s2, ⟨K + 201, fun k hk => ?_⟩, by omega, by omega, t2, by omega⟩
    obtain ⟨k, rfl⟩ : ∃ k', k = k' + 1 := ⟨k - 1, by omega⟩
    unfold spec_l1Cur_trie.f
    rw [e1 _ (by omega), kz]
    dsimp only
    rw [hK _ (by omega), hr, kz, if_neg (by simp)]
    exact e2 k
theorem bx (l : List S39) (hl : l.length ≤ 1000000) (k : Nat) (hk : l.length < k) : laws_sameEntries.f k l l = some true := by
  have key : ∀ (rest pre : List S39) (k : Nat), l = pre ++ rest → rest.length < k → laws_sameEntries.l0 k l l (l.length : Int) (pre.length : Int) = some true := by
    intro rest
    induction rest with
    | nil =>
      intro pre k e hk
      obtain ⟨k, rfl⟩ : ∃ k', k = k' + 1 := ⟨k - 1, by omega⟩
      rw [laws_sameEntries.l0, if_neg (by rw [e]; simp)]
    | cons a rest ih =>
      intro pre k e hk
      rw [kj] at hk
      obtain ⟨k, rfl⟩ : ∃ k', k = k' + 1 := ⟨k - 1, by omega⟩
      have hlen : pre.length < l.length := by rw [e]; simp
      have hw : wrap64 ((pre.length : Int) + 1) = ((pre ++ [a]).length : Int) := by rw [wrap_id (by omega) (by omega)]; simp
      rw [laws_sameEntries.l0, if_pos (by omega), if_pos (by omega), if_pos (by omega), if_pos (by omega), if_neg (by simp), hw]
      exact ih (pre ++ [a]) k (by rw [e]; simp) (by omega)
  unfold laws_sameEntries.f
  rw [if_pos rfl]
  exact key l [] k rfl hk
theorem ck (l : List S86) (hl : l.length ≤ 1000000) (k : Nat) (hk : l.length < k) : laws_sameTries.f k l l = some true := by
  have key : ∀ (rest pre : List S86) (k : Nat), l = pre ++ rest → rest.length < k → laws_sameTries.l0 k l l (l.length : Int) (pre.length : Int) = some true := by
    intro rest
    induction rest with
    | nil =>
      intro pre k e hk
      obtain ⟨k, rfl⟩ : ∃ k', k = k' + 1 := ⟨k - 1, by omega⟩
      rw [laws_sameTries.l0, if_neg (by rw [e]; simp)]
    | cons a rest ih =>
      intro pre k e hk
      rw [kj] at hk
      obtain ⟨k, rfl⟩ : ∃ k', k = k' + 1 := ⟨k - 1, by omega⟩
      have hlen : pre.length < l.length := by rw [e]; simp
      have hw : wrap64 ((pre.length : Int) + 1) = ((pre ++ [a]).length : Int) := by rw [wrap_id (by omega) (by omega)]; simp
      rw [laws_sameTries.l0, if_pos (by omega), if_pos (by omega), if_pos (by omega), if_pos (by omega), if_neg (by simp), hw]
      exact ih (pre ++ [a]) k (by rw [e]; simp) (by omega)
  unfold laws_sameTries.f
  rw [if_pos rfl]
  exact key l [] k rfl hk
theorem bt {t : List S86} (hg : aa t = true) : ∃ K, ∀ k, K ≤ k → impl_TrieEntries.f k t = some (ac t 32 0 0 0 [], true) := by
  obtain ⟨K2, h2⟩ := am t
  replace h2 : ∀ k, K2 ≤ k → impl_GoodTrie.f k t = _ := h2
  have hl := al hg
  refine ⟨K2 + 66, fun k hk => ?_⟩
  unfold impl_TrieEntries.f
  rw [h2 _ (by omega), kz, if_pos hg, cs (bb hg) 32 0 0 0 [] k (by omega) (by omega) (by omega) (by rfl) (by omega) (by rw [sz_lit.1]; omega) (by decide) (by omega), kz]
structure GI (l : List S86) (pc : Int → Int) (m : Int) (D : List Int) : Prop where
  len : D.length = l.length
  root : pc 0 = 1
  rt : 0 ≤ rd D 0
  pos : ∀ x, 1 ≤ pc x
  vis : ∀ x : Int, 0 < x → x < (l.length : Int) → 0 ≤ rd D x → ∃ j c : Int, 0 ≤ j ∧ j < x ∧ (c = 0 ∨ c = 1) ∧ 2 * j + c < m ∧ ab (rd_T86 l j) c = x
  kid : ∀ j c : Int, 0 ≤ j → (c = 0 ∨ c = 1) → 2 * j + c < m → 0 ≤ rd D j ∧ (ab (rd_T86 l j) c ≠ 0 → j < ab (rd_T86 l j) c ∧ ab (rd_T86 l j) c < (l.length : Int) ∧ 0 ≤ rd D (ab (rd_T86 l j) c) ∧ pc (ab (rd_T86 l j) c) = 2 * pc j + c)
  inj : ∀ x y : Int, 0 ≤ x → x < (l.length : Int) → 0 ≤ y → y < (l.length : Int) → 0 ≤ rd D x → 0 ≤ rd D y → pc x = pc y → x = y
theorem GI.step {l : List S86} {pc : Int → Int} {i b : Int} {D D' : List Int} (h : GI l pc (2 * i + b) D) (i0 : 0 ≤ i) (i1 : i < (l.length : Int)) (hb : b = 0 ∨ b = 1) (hd : 0 ≤ rd D i) (ht : bh (l.length : Int) i D (ab (rd_T86 l i) b) = some D') :
    ∃ pc', GI l pc' (2 * i + b + 1) D' ∧ 0 ≤ rd D' i := by
  unfold bh at ht
  by_cases hz : ab (rd_T86 l i) b = 0
  · rw [if_pos hz] at ht
    obtain rfl := kr ht
    refine ⟨pc, ⟨h.len, h.root, h.rt, h.pos, fun x x0 x1 hx => ?_, fun j c j0 hc hm => ?_, h.inj⟩, hd⟩
    · obtain ⟨j, c, j0, j1, hc, hm, e⟩ := h.vis x x0 x1 hx
      exact ⟨j, c, j0, j1, hc, by omega, e⟩
    · by_cases e : 2 * j + c < 2 * i + b
      · exact h.kid j c j0 hc e
      · have ej : j = i := by omega
        have ec : c = b := by omega
        rw [ej, ec]
        exact ⟨hd, fun hne => (hne hz).elim⟩
  · rw [if_neg hz] at ht
    by_cases hx : i + 1 ≤ ab (rd_T86 l i) b ∧ ab (rd_T86 l i) b ≤ (l.length : Int) - 1 ∧ rd D (ab (rd_T86 l i) b) < 0
    · rw [if_pos hx] at ht
      obtain rfl := kr ht
      obtain ⟨x1, x2, x3⟩ := hx
      generalize ex : ab (rd_T86 l i) b = x at hz x1 x2 x3
      have hl := h.len
      have at_x : rd (D.set x.toNat (rd D i + 1)) x = rd D i + 1 := az (by omega) (by omega)
      have at_y : ∀ y, 0 ≤ y → y ≠ x → rd (D.set x.toNat (rd D i + 1)) y = rd D y := fun y y0 hy => ah (by omega) y0 (Ne.symm hy)
      have keep : ∀ y, 0 ≤ y → 0 ≤ rd D y → 0 ≤ rd (D.set x.toNat (rd D i + 1)) y := fun y y0 hy => by
        by_cases e : y = x
        · rw [e, at_x]; omega
        · rw [at_y y y0 e]; exact hy
      have len' : (D.set x.toNat (rd D i + 1)).length = l.length := by rw [kk]; exact hl
      generalize D.set x.toNat (rd D i + 1) = D' at at_x at_y keep len' ⊢
      have pc_x : (fun y => if y = x then 2 * pc i + b else pc y) x = 2 * pc i + b := if_pos rfl
      have pc_y : ∀ y, y ≠ x → (fun y => if y = x then 2 * pc i + b else pc y) y = pc y := fun y hy => if_neg hy
      refine ⟨fun y => if y = x then 2 * pc i + b else pc y, ?_, keep i i0 hd⟩
      generalize (fun y => if y = x then 2 * pc i + b else pc y) = pc' at pc_x pc_y ⊢
      have fresh : ∀ z, 0 ≤ z → z < (l.length : Int) → z ≠ x → 0 ≤ rd D' z → 2 * pc i + b ≠ pc z := fun z z0 z1 hne hz2 e => by
        rw [at_y z z0 hne] at hz2
        have hpi := h.pos i
        by_cases e0 : z = 0
        · rw [e0, h.root] at e; omega
        · obtain ⟨j, c, j0, j1, hc, hm, e2⟩ := h.vis z (by omega) z1 hz2
          obtain ⟨q1, q2⟩ := h.kid j c j0 hc hm
          have q3 := (q2 (by omega)).2.2.2
          rw [e2] at q3
          have ej : j = i := h.inj j i j0 (by omega) i0 i1 q1 hd (by omega)
          have ec : c = b := by rw [ej] at q3; omega
          omega
      refine ⟨len', by rw [pc_y 0 (by omega)]; exact h.root, keep 0 (by omega) h.rt, fun y => ?_, fun y y0 y1 hy => ?_, fun j c j0 hc hm => ?_, fun y z y0 y1 z0 z1 hy hz2 e => ?_⟩
      · by_cases e : y = x
        · have := h.pos i
          rw [e, pc_x]; omega
        · rw [pc_y y e]; exact h.pos y
      · by_cases e : y = x
        · exact ⟨i, b, i0, by omega, hb, by omega, by rw [ex, e]⟩
        · rw [at_y y (by omega) e] at hy
          obtain ⟨j, c, j0, j1, hc, hm, e2⟩ := h.vis y y0 y1 hy
          exact ⟨j, c, j0, j1, hc, by omega, e2⟩
      · by_cases e : 2 * j + c < 2 * i + b
        · obtain ⟨q1, q2⟩ := h.kid j c j0 hc e
          refine ⟨keep j j0 q1, fun hne => ?_⟩
          obtain ⟨r1, r2, r3, r4⟩ := q2 hne
          have hne2 : ab (rd_T86 l j) c ≠ x := fun hh => by rw [hh] at r3; omega
          exact ⟨r1, r2, keep _ (by omega) r3, by rw [pc_y _ hne2, pc_y j (by omega)]; exact r4⟩
        · have ej : j = i := by omega
          have ec : c = b := by omega
          rw [ej, ec, ex]
          exact ⟨keep i i0 hd, fun _ => ⟨by omega, by omega, by rw [at_x]; omega, by rw [pc_x, pc_y i (by omega)]⟩⟩
      · by_cases ey : y = x
        · by_cases ez : z = x
          · rw [ey, ez]
          · rw [ey, pc_x, pc_y z ez] at e
            exact (fresh z z0 z1 ez hz2 e).elim
        · by_cases ez : z = x
          · rw [ez, pc_x, pc_y y ey] at e
            exact (fresh y y0 y1 ey hy e.symm).elim
          · rw [pc_y y ey, pc_y z ez] at e
            rw [at_y y y0 ey] at hy
            rw [at_y z z0 ez] at hz2
            exact h.inj y z y0 y1 z0 z1 hy hz2 e
    · rw [if_neg hx] at ht; cases ht
theorem ek {n i : Int} {D D' : List Int} {x : Int} (h : bh n i D x = some D') (hd : 0 ≤ rd D i) (i0 : 0 ≤ i) (hn : (D.length : Int) = n) : ∀ y, 0 ≤ y → 0 ≤ rd D y → 0 ≤ rd D' y := fun y y0 hy => by
  unfold bh at h
  by_cases hz : x = 0
  · rw [if_pos hz] at h
    obtain rfl := kr h
    exact hy
  · rw [if_neg hz] at h
    by_cases hx : i + 1 ≤ x ∧ x ≤ n - 1 ∧ rd D x < 0
    · rw [if_pos hx] at h
      obtain rfl := kr h
      by_cases e : y = x
      · rw [e, az (by omega) (by omega)]; omega
      · rw [ah (by omega) y0 (Ne.symm e)]; exact hy
    · rw [if_neg hx] at h; cases h
theorem dq {l : List S86} : ∀ (rest pre : List S86) (D : List Int) (c : Int) (pc : Int → Int), l = pre ++ rest → GI l pc (2 * (pre.length : Int)) D → (∀ y : Int, 0 ≤ y → y < (pre.length : Int) → 0 ≤ rd D y) → av (l.length : Int) rest (pre.length : Int) D c = true → (∃ pc', PInv l pc') ∧ c + ap rest ≤ 30
  | [], pre, D, c, pc, e, h, hv, ht => by
    have hl : (pre.length : Int) = (l.length : Int) := by rw [e]; simp
    rw [av] at ht
    refine ⟨⟨pc, ⟨h.root, fun i _ _ => h.pos i, fun i b i0 i1 hb hne => ?_, fun x x0 x1 => ?_, fun i j i0 i1 j0 j1 he => h.inj i j i0 i1 j0 j1 (hv i i0 (by omega)) (hv j j0 (by omega)) he⟩⟩, by simpa [ap] using ht⟩
    · obtain ⟨_, r⟩ := h.kid i b i0 hb (by omega)
      obtain ⟨r1, r2, _, r4⟩ := r hne
      exact ⟨r1, r2, r4⟩
    · obtain ⟨j, b, j0, j1, hb, _, e2⟩ := h.vis x x0 x1 (hv x (by omega) (by omega))
      exact ⟨j, b, j0, j1, hb, e2⟩
  | a :: rest, pre, D, c, pc, e, h, hv, ht => by
    have hlen : (pre.length : Int) < (l.length : Int) := by rw [e]; simp; omega
    have ea := ev e
    have hl := h.len
    rw [av] at ht
    by_cases hd : rd D (pre.length : Int) < 0 ∨ rd D (pre.length : Int) > 32
    · rw [if_pos hd] at ht; cases ht
    · rw [if_neg hd] at ht
      cases hok : aq (pre.length : Int) a
      · rw [hok, if_neg (by decide)] at ht; cases ht
      · rw [hok, if_pos rfl] at ht
        cases hp : bh (l.length : Int) (pre.length : Int) D a.f0 with
        | none => rw [hp] at ht; cases ht
        | some D1 =>
          rw [hp, kz] at ht
          cases hp2 : bh (l.length : Int) (pre.length : Int) D1 a.f1 with
          | none => rw [hp2] at ht; cases ht
          | some D2 =>
            rw [hp2] at ht
            dsimp only at ht
            have hd0 : 0 ≤ rd D (pre.length : Int) := by omega
            obtain ⟨pc1, g1, k1⟩ := GI.step (b := 0) (by rw [kU]; exact h) (by omega) hlen (.inl rfl) hd0 (by rw [ea, cb]; exact hp)
            rw [kU] at g1
            obtain ⟨pc2, g2, k2⟩ := GI.step (b := 1) g1 (by omega) hlen (.inr rfl) k1 (by rw [ea, cw]; exact hp2)
            have hw : ((pre ++ [a]).length : Int) = (pre.length : Int) + 1 := by simp
            obtain ⟨r1, r2⟩ := dq (l := l) rest (pre ++ [a]) D2 _ pc2 (by rw [e]; simp) (by
              rw [hw, show 2 * ((pre.length : Int) + 1) = 2 * (pre.length : Int) + 1 + 1 by omega]; exact g2) (fun y y0 y1 => by
              rw [hw] at y1
              refine ek hp2 k1 (by omega) (by have := g1.len; omega) y y0 (ek hp hd0 (by omega) (by omega) y y0 ?_)
              by_cases ey : y = (pre.length : Int)
              · rw [ey]; exact hd0
              · exact hv y y0 (by omega)) (by rw [hw]; exact ht)
            refine ⟨r1, ?_⟩
            have hcnt : ap (a :: rest) = ap rest + if a.f2 = true then 1 else 0 := by unfold ap; rw [kh]
            rw [hcnt]
            split at r2 <;> rename_i hh <;> simp only [hh, if_true, if_false] <;> (try simp) <;> omega
theorem dm {l : List S86} (h : aa l = true) : (∃ pc, PInv l pc) ∧ ap l ≤ 30 := by
  have hl := al h
  unfold aa at h
  rw [if_pos hl] at h
  have r0 : rd ((ky l.length (-1 : Int)).set 0 0) 0 = 0 := az (D := ky l.length (-1 : Int)) (x := 0) (by omega) (by rw [ki]; omega)
  obtain ⟨r1, r2⟩ := dq (l := l) l [] _ 0 (fun _ => 1) rfl ⟨by simp, rfl, by rw [r0]; omega, fun _ => by omega, fun x x0 x1 hx => by
    have e := ah (D := ky l.length (-1 : Int)) (x := 0) (y := x) (v := 0) (by omega) (by omega) (by omega)
    rw [show ((0 : Int).toNat) = 0 from rfl] at e
    rw [e] at hx
    unfold rd at hx
    rw [List.getD_eq_getElem?_getD, List.getElem?_replicate, if_pos (by omega)] at hx
    exact absurd hx (by decide), fun j c j0 hc hm => by simp at hm; omega, fun x y x0 x1 y0 y1 hx hy _ => by
    have out : ∀ z : Int, 0 ≤ z → z < (l.length : Int) → 0 ≤ rd ((ky l.length (-1 : Int)).set 0 0) z → z = 0 := fun z z0 z1 hz => by
      by_cases e0 : z = 0
      · exact e0
      · have e := ah (D := ky l.length (-1 : Int)) (x := 0) (y := z) (v := 0) (by omega) z0 (Ne.symm e0)
        rw [show ((0 : Int).toNat) = 0 from rfl] at e
        rw [e] at hz
        unfold rd at hz
        rw [List.getD_eq_getElem?_getD, List.getElem?_replicate, if_pos (by omega)] at hz
        exact absurd hz (by decide)
    rw [out x x0 x1 hx, out y y0 y1 hy]⟩ (fun y y0 y1 => by simp at y1; omega) h
  exact ⟨r1, by omega⟩
theorem em {α : Type} [DecidableEq α] : ∀ (l m : List α), l.Nodup → (∀ x, x ∈ l → x ∈ m) → l.length ≤ m.length
  | [], m, _, _ => by simp
  | a :: l, m, h, hs => by
    obtain ⟨h1, h2⟩ := List.nodup_cons.1 h
    have ha := hs a (by simp)
    have := em l (m.erase a) h2 (fun x hx => (List.mem_erase_of_ne (fun e => h1 (by rw [← e]; exact hx))).2 (hs x (by simp [hx])))
    rw [List.length_erase_of_mem ha] at this
    have := List.length_pos_of_mem ha
    rw [kj]; omega
theorem fu {t : List S86} {pc : Int → Int} (qs : List Int) (hn : qs.Nodup) (hq : ∀ q, q ∈ qs → ∃ v, b8 t pc q v) : qs.length ≤ ap t := by
  have key : ∀ (rest pre : List S86), t = pre ++ rest → ((List.range rest.length).filter (fun j : Nat => (rd_T86 t ((pre.length : Int) + (j : Int))).f2)).length = ap rest := by
    intro rest
    induction rest with
    | nil => intro pre _; rfl
    | cons a rest ih =>
      intro pre e
      have ih' := ih (pre ++ [a]) (by rw [e]; simp)
      rw [kj, List.range_succ_eq_map, List.filter_cons]
      have h0 : (rd_T86 t ((pre.length : Int) + ((0 : Nat) : Int))) = a := by
        rw [show (pre.length : Int) + ((0 : Nat) : Int) = (pre.length : Int) by omega]; exact ev e
      rw [h0]
      have h1 : ((List.map Nat.succ (List.range rest.length)).filter (fun j : Nat => (rd_T86 t ((pre.length : Int) + (j : Int))).f2)).length = ap rest := by
        rw [List.filter_map, km, ← ih']
        congr 1
        refine List.filter_congr (fun j _ => ?_)
        show (rd_T86 t ((pre.length : Int) + ((j + 1 : Nat) : Int))).f2 = _
        rw [show (pre.length : Int) + ((j + 1 : Nat) : Int) = ((pre ++ [a]).length : Int) + (j : Int) by simp; omega]
      have hcnt : ap (a :: rest) = ap rest + if a.f2 = true then 1 else 0 := by unfold ap; rw [kh]
      rw [hcnt]
      split
      · rw [kj, h1]
      · rw [h1]; rfl
  have hk := key t [] rfl
  rw [← hk]
  have := em qs (((List.range t.length).filter (fun j : Nat => (rd_T86 t ((([] : List S86).length : Int) + (j : Int))).f2)).map (fun j : Nat => pc (j : Int))) hn (fun q hq' => by
    obtain ⟨v, j, j0, j1, e1, e2, _⟩ := hq q hq'
    refine List.mem_map.2 ⟨j.toNat, kX.2 ⟨List.mem_range.2 (by omega), ?_⟩, ?_⟩
    · rw [show ((([] : List S86).length : Int) + (j.toNat : Int)) = j by simp; omega]; exact e2
    · rw [show (j.toNat : Int) = j by omega]; exact e1)
  rw [km] at this
  exact this
theorem bi : ∀ (l : List S39) (o : Option Pr2), (∀ e, e ∈ l → good e.f0.f0 e.f0.f1 = true) → (∀ q, o = some q → ∀ e, e ∈ l → q.1 < e.f0.f0 ∨ (q.1 = e.f0.f0 ∧ q.2 < e.f0.f1)) → l.Pairwise ltE → risingFrom o (l.map ent) = true
  | [], o, _, _, _ => rfl
  | p :: t, o, hg, ho, hp => by
    obtain ⟨h1, h2⟩ := kd.1 hp
    have ih := bi t (some (ent p)) (fun e he => hg e (by simp [he])) (fun q hq e he => by
      obtain rfl := kr hq
      exact h1 e he) h2
    have gp := hg p (by simp)
    simp only [kZ, risingFrom, kb]
    cases o with
    | none => exact ⟨⟨gp, rfl⟩, ih⟩
    | some q =>
      have := ho q rfl p (by simp)
      exact ⟨⟨gp, decide_eq_true (by
        show cmpP q.1 q.2 p.f0.f0 p.f0.f1 < 0
        unfold cmpP
        rw [if_pos this]; omega)⟩, ih⟩
theorem dx {t : List S86} {pc : Int → Int} (hp : PInv t pc) (hl : 1 ≤ t.length) : (ac t 32 0 0 0 []).Pairwise ltE ∧ ∀ e, e ∈ ac t 32 0 0 0 [] ↔ (good e.f0.f0 e.f0.f1 = true ∧ b8 t pc (ao e.f0.f0 e.f0.f1) e.f1) := by
  obtain ⟨w, e, hw, hm⟩ := dy hp 32 0 0 0 [] (by rfl) (by omega) (by omega) (good_iff.2 ⟨by omega, by omega, by omega, by omega, by rfl⟩) (by rw [hp.root, cx (by omega) (by omega)])
  rw [kt] at e
  rw [e]
  refine ⟨hw, fun e => ?_⟩
  rw [hm]
  constructor
  · rintro ⟨⟨g, _⟩, hh⟩; exact ⟨g, hh⟩
  · rintro ⟨g, hh⟩
    obtain ⟨n0, n1, a0, a1, _⟩ := good_iff.1 g
    have := fc g
    exact ⟨⟨g, n0, a0, by rw [sz_lit.1]; omega⟩, hh⟩
theorem ba {t : List S86} (h : aa t = true) : ae (ac t 32 0 0 0 []) = true := by
  obtain ⟨⟨pc, hp⟩, hc⟩ := dm h
  have hl := al h
  obtain ⟨hw, hm2⟩ := dx hp (by omega)
  generalize ac t 32 0 0 0 [] = w at hw hm2 ⊢
  have hg : ∀ e, e ∈ w → good e.f0.f0 e.f0.f1 = true := fun e he => ((hm2 e).1 he).1
  unfold ae
  simp only [kb]
  refine ⟨⟨decide_eq_true ?_, bi w none hg (fun q hq => by cases hq) hw⟩, List.all_eq_true.2 (fun e he => ?_)⟩
  · have := fu (t := t) (pc := pc) (w.map (fun e => ao e.f0.f0 e.f0.f1)) (by
      rw [List.Nodup, List.pairwise_map]
      refine List.Pairwise.imp_of_mem (fun {x y} hx hy hlt hc => ?_) hw
      obtain ⟨h1, h2⟩ := co (hg x hx) (hg y hy) hc
      unfold ltE at hlt
      omega) (fun q hq => by
      obtain ⟨e, he, rfl⟩ := List.mem_map.1 hq
      exact ⟨e.f1, ((hm2 e).1 he).2⟩)
    rw [km] at this
    omega
  · obtain ⟨_, j, j0, j1, _, _, e3⟩ := (hm2 e).1 he
    rw [← e3]
    exact (bu h j0 j1).2
def af (a n : Int) (e : S39) : Bool := !decide (e.f0.f0 = a ∧ e.f0.f1 = n)
theorem ca {l : List S39} (h : ae l = true) (f : S39 → Bool) : ae (l.filter f) = true := by
  obtain ⟨h30, hv⟩ := ak h
  have hm : ∀ e, e ∈ l.filter f → e ∈ l := fun e he => (kX.1 he).1
  have := kw f l
  unfold ae
  simp only [kb]
  exact ⟨⟨decide_eq_true (by omega), bi _ none (fun e he => (hv e (hm e he)).1) (fun q hq => by cases hq) ((cj h).filter f)⟩, List.all_eq_true.2 (fun e he => (hv e (hm e he)).2)⟩
theorem dg (a n : Int) : ∀ (w : List S39) (i : Nat) (h : i < w.length), w.Pairwise ltE → (w[i]).f0.f0 = a ∧ (w[i]).f0.f1 = n → w.take i ++ w.drop (i + 1) = w.filter (af a n)
  | [], i, h, _, _ => by simp at h
  | e :: w, 0, h, hp, he => by
    obtain ⟨h1, h2⟩ := kd.1 hp
    replace he : e.f0.f0 = a ∧ e.f0.f1 = n := he
    rw [kn (by unfold af; rw [decide_eq_true he]; decide)]
    show w = w.filter (af a n)
    refine (List.filter_eq_self.2 (fun x hx => ?_)).symm
    have := h1 x hx
    unfold af
    rw [decide_eq_false (by unfold ltE at this; omega)]
    rfl
  | e :: w, i + 1, h, hp, he => by
    obtain ⟨h1, h2⟩ := kd.1 hp
    have hi : i < w.length := by simpa using h
    replace he : (w[i]).f0.f0 = a ∧ (w[i]).f0.f1 = n := he
    have := h1 _ (ka hi)
    rw [kl (by unfold af; rw [decide_eq_false (by unfold ltE at this; omega)]; rfl)]
    show e :: (w.take i ++ w.drop (i + 1)) = _
    rw [dg a n w i hi h2 he]
theorem fb (l : List S39) (a n : Int) (hl : l.length ≤ 1048576) : ∀ (rest pre : List S39) (k : Nat), l = pre ++ rest → rest.length < k → (∀ e, e ∈ pre → ¬ (e.f0.f0 = a ∧ e.f0.f1 = n)) →
    ∃ i : Int, slices_Index_impl_Prefix_impl_Prefix.l0 k (l.map fun x => (⟨x.f0.f0, x.f0.f1⟩ : S37)) (((l.map fun x => (⟨x.f0.f0, x.f0.f1⟩ : S37)).length : Nat) : Int) (pre.length : Int) a n = some i ∧ ((i = -1 ∧ ∀ e, e ∈ l → ¬ (e.f0.f0 = a ∧ e.f0.f1 = n)) ∨ ∃ (j : Nat) (h : j < l.length), i = (j : Int) ∧ (l[j]).f0.f0 = a ∧ (l[j]).f0.f1 = n)
  | [], pre, k, e, hk, hp => by
    obtain ⟨k, rfl⟩ : ∃ m, k = m + 1 := ⟨k - 1, by simp at hk; omega⟩
    have e' : l = pre := by rw [e, kY]
    rw [slices_Index_impl_Prefix_impl_Prefix.l0, if_neg (by rw [e']; simp)]
    exact ⟨_, rfl, .inl ⟨rfl, by rw [e']; exact hp⟩⟩
  | x :: rest, pre, k, e, hk, hp => by
    rw [kj] at hk
    obtain ⟨k, rfl⟩ : ∃ m, k = m + 1 := ⟨k - 1, by omega⟩
    have hlen : pre.length < l.length := by rw [e]; simp
    have hx : rd_T37 (l.map fun x => (⟨x.f0.f0, x.f0.f1⟩ : S37)) (pre.length : Int) = ⟨x.f0.f0, x.f0.f1⟩ := by
      have := c7 (pre.map fun x => (⟨x.f0.f0, x.f0.f1⟩ : S37)) ⟨x.f0.f0, x.f0.f1⟩ (rest.map fun x => (⟨x.f0.f0, x.f0.f1⟩ : S37))
      rw [km] at this
      rw [e, kx, kZ]
      exact this
    have hw : wrap64 ((pre.length : Int) + 1) = ((pre ++ [x]).length : Int) := by rw [wrap_id (by omega) (by omega)]; simp
    rw [slices_Index_impl_Prefix_impl_Prefix.l0, if_pos (by rw [km]; omega), if_pos (by omega), if_pos (by rw [km]; omega), hx]
    by_cases hc : x.f0.f0 = a ∧ x.f0.f1 = n
    · rw [if_pos (by simp [hc.1, hc.2])]
      refine ⟨_, rfl, .inr ⟨pre.length, hlen, rfl, ?_⟩⟩
      have : l[pre.length] = x := by simp [e]
      rw [this]; exact hc
    · rw [if_neg (by
        simp only [kb, beq_iff_eq]
        exact fun h => hc ⟨h.1.symm, h.2.symm⟩), hw]
      exact fb l a n hl rest (pre ++ [x]) k (by rw [e]; simp) (by omega) (fun e' he => by
        rcases kJ.1 he with he | he
        · exact hp e' he
        · rw [List.mem_singleton.1 he]; exact hc)
theorem bn (w : List S39) (a n : Int) (hl : w.length ≤ 1000) (K0 : Nat) (t : List S86) : ∀ (rest pre out : List S39) (found : Bool) (k : Nat), w = pre ++ rest → out.length ≤ pre.length → K0 + rest.length + 1 ≤ k → (∀ k, K0 ≤ k → spec_l2Build.f k (out ++ rest.filter (af a n)) = some t) →
    spec_RemoveFrom.l0 k out found w (w.length : Int) (pre.length : Int) a n = some (if (found || rest.any (fun e => !af a n e)) = true then (t, true) else ([], false))
  | [], pre, out, found, k, e, ho, hk, hB => by
    obtain ⟨k, rfl⟩ : ∃ m, k = m + 1 := ⟨k - 1, by omega⟩
    rw [spec_RemoveFrom.l0, if_neg (by rw [e]; simp)]
    cases found with
    | true =>
      have := hB k (by simp at hk; omega)
      simp only [List.filter_nil, kY] at this
      rw [if_pos rfl, this, kz]
      simp
    | false => rw [if_neg (by simp)]; simp
  | x :: rest, pre, out, found, k, e, ho, hk, hB => by
    rw [kj] at hk
    obtain ⟨k, rfl⟩ : ∃ m, k = m + 1 := ⟨k - 1, by omega⟩
    have hlen : pre.length < w.length := by rw [e]; simp
    have hx : rd_T39 w (pre.length : Int) = x := by rw [e]; exact ay _ _ _
    have hw : wrap64 ((pre.length : Int) + 1) = ((pre ++ [x]).length : Int) := by rw [wrap_id (by omega) (by omega)]; simp
    rw [spec_RemoveFrom.l0, if_pos (by omega), if_pos (by omega), if_pos (by omega), hx, hw]
    by_cases hc : x.f0.f0 = a ∧ x.f0.f1 = n
    · have hn : af a n x = false := by unfold af; rw [decide_eq_true hc]; rfl
      rw [if_pos (by simp [hc.1, hc.2]), bn w a n hl K0 t rest (pre ++ [x]) out true k (by rw [e]; simp) (by simp; omega) (by omega) (fun k hk => by
        have := hB k hk
        rwa [kn (by rw [hn]; simp)] at this)]
      simp [hn]
    · have hn : af a n x = true := by unfold af; rw [decide_eq_false hc]; rfl
      rw [if_neg (by simpa using fun h1 h2 => hc ⟨h1, h2⟩), if_pos (by omega), bn w a n hl K0 t rest (pre ++ [x]) _ found k (by rw [e]; simp) (by simp; omega) (by omega) (fun k hk => by
        have := hB k hk
        rw [kl hn] at this
        rw [ku]
        exact this)]
      simp [hn]
def c6 (t : List S86) (a n : Int) : List S86 × Bool := if aa t = true ∧ good a n = true ∧ (ac t 32 0 0 0 []).any (fun e => !af a n e) = true then (aw ((ac t 32 0 0 0 []).filter (af a n)), true) else ([], false)
theorem fr (t : List S86) (a n : Int) : (c6 t a n).1.length ≤ 2000 := by
  unfold c6
  by_cases h : aa t = true ∧ good a n = true ∧ (ac t 32 0 0 0 []).any (fun e => !af a n e) = true
  · rw [if_pos h]
    exact (cd (ca (ba h.1) _)).2.2
  · rw [if_neg h]; simp
theorem c5 (t : List S86) (a n : Int) : Ev (fun k => spec_RemoveFrom.f k t a n) (c6 t a n) ∧ Ev (fun k => impl_RemoveFrom.f k t a n) (c6 t a n) := by
  obtain ⟨K1, h1⟩ := ax t
  obtain ⟨K2, h2⟩ := am t
  replace h1 : ∀ k, K1 ≤ k → spec_GoodTrie.f k t = _ := h1
  replace h2 : ∀ k, K2 ≤ k → impl_GoodTrie.f k t = _ := h2
  by_cases hg : aa t = true
  · obtain ⟨K3, h3⟩ := bt hg
    by_cases hp : good a n = true
    · have hT := ba hg
      obtain ⟨⟨pc, hpc⟩, _⟩ := dm hg
      have hl := al hg
      have hW := (dx hpc (by omega)).1
      have hw : ∀ k, 66 ≤ k → spec_l2Walk.f k t 0 0 0 [] = some (ac t 32 0 0 0 []) := fun k hk => (bv (bb hg) 32 0 0 0 [] k (by omega) (by omega) (by omega) (by omega) (by omega) (by rw [sz_lit.1]; omega) (by simp) (by omega)).1
      have h30 := (ak hT).1
      have hTf := ca hT (af a n)
      obtain ⟨⟨K4, h4⟩, h5⟩ := fl hTf
      have hfl := kw (af a n) (ac t 32 0 0 0 [])
      have hR : c6 t a n = if (false || (ac t 32 0 0 0 []).any (fun e => !af a n e)) = true then (aw ((ac t 32 0 0 0 []).filter (af a n)), true) else ([], false) := by
        unfold c6
        by_cases ha : (ac t 32 0 0 0 []).any (fun e => !af a n e) = true
        · rw [if_pos ⟨hg, hp, ha⟩, if_pos (by rw [ha]; rfl)]
        · rw [if_neg (fun h => ha h.2.2), if_neg (by rw [kQ]; exact ha)]
      refine ⟨⟨K1 + 300, fun k hk => ?_⟩, ⟨K2 + K3 + K4 + 300, fun k hk => ?_⟩⟩
      · show spec_RemoveFrom.f k t a n = _
        obtain ⟨k, rfl⟩ : ∃ m, k = m + 1 := ⟨k - 1, by omega⟩
        unfold spec_RemoveFrom.f
        rw [h1 _ (by omega), kz, if_pos hg, ai, kz, hp, ks, spec_RemoveFrom.j0, if_neg (by simp), hw k (by omega), kz, hR]
        exact bn (ac t 32 0 0 0 []) a n (by omega) 100 _ (ac t 32 0 0 0 []) [] [] false k rfl (by simp) (by omega) (fun k hk => h5 k (by omega))
      · show impl_RemoveFrom.f k t a n = _
        obtain ⟨k, rfl⟩ : ∃ m, k = m + 1 := ⟨k - 1, by omega⟩
        obtain ⟨i, hi, hcase⟩ := fb (ac t 32 0 0 0 []) a n (by omega) (ac t 32 0 0 0 []) [] k rfl (by omega) (fun e he => by simp at he)
        have hi' : slices_Index_impl_Prefix_impl_Prefix.f k ((ac t 32 0 0 0 []).map fun x => (⟨x.f0.f0, x.f0.f1⟩ : S37)) a n = some i := hi
        unfold impl_RemoveFrom.f
        rw [h3 _ (by omega), kz]
        dsimp only
        rw [if_pos rfl, an, kz, hp, ks, impl_RemoveFrom.j0, if_neg (by simp), bp k _ (by omega) (by omega), kz, hi', kz]
        rcases hcase with ⟨rfl, hno⟩ | ⟨j, hj, rfl, ha, hn⟩
        · have hany : (ac t 32 0 0 0 []).any (fun e => !af a n e) = false := by
            rw [List.any_eq_false]
            intro e he
            unfold af
            rw [decide_eq_false (hno e he)]
            simp
          rw [if_pos (by omega), hR, hany, if_neg (by simp)]
        · have hany : (ac t 32 0 0 0 []).any (fun e => !af a n e) = true := by
            rw [List.any_eq_true]
            refine ⟨_, ka hj, ?_⟩
            unfold af
            rw [decide_eq_true ⟨ha, hn⟩]
            rfl
          have hdel : slices_Delete_impl_Entry_impl_Entry.f (ac t 32 0 0 0 []) (j : Int) (wrap64 ((j : Int) + 1)) = some ((ac t 32 0 0 0 []).filter (af a n)) := by
            unfold slices_Delete_impl_Entry_impl_Entry.f
            rw [wrap_id (by omega) (by omega), if_pos ⟨by omega, by omega, rfl⟩, ← dg a n _ j hj hW ⟨ha, hn⟩]
            rw [show ((j : Int)).toNat = j by omega, show ((j : Int) + 1).toNat = j + 1 by omega]
          rw [if_neg (by omega), hdel, kz, h4 k (by omega), kz, hR, hany, if_pos (by rfl)]
    · have hR : c6 t a n = ([], false) := by unfold c6; rw [if_neg (fun h => hp h.2.1)]
      have hpf : good a n = false := by
        cases h : good a n with
        | false => rfl
        | true => exact (hp h).elim
      refine ⟨⟨K1 + 1, fun k hk => ?_⟩, ⟨K3 + 1, fun k hk => ?_⟩⟩
      · show spec_RemoveFrom.f k t a n = _
        obtain ⟨k, rfl⟩ : ∃ m, k = m + 1 := ⟨k - 1, by omega⟩
        unfold spec_RemoveFrom.f
        rw [h1 _ (by omega), kz, if_pos hg, ai, kz, hpf, kT, spec_RemoveFrom.j0, if_pos rfl, hR]
      · show impl_RemoveFrom.f k t a n = _
        obtain ⟨k, rfl⟩ : ∃ m, k = m + 1 := ⟨k - 1, by omega⟩
        unfold impl_RemoveFrom.f
        rw [h3 _ (by omega), kz]
        dsimp only
        rw [if_pos rfl, an, kz, hpf, kT, impl_RemoveFrom.j0, if_pos rfl, hR]
  · have hR : c6 t a n = ([], false) := by unfold c6; rw [if_neg (fun h => hg h.1)]
    refine ⟨⟨K1 + 1, fun k hk => ?_⟩, ⟨K2 + 1, fun k hk => ?_⟩⟩
    · show spec_RemoveFrom.f k t a n = _
      obtain ⟨k, rfl⟩ : ∃ m, k = m + 1 := ⟨k - 1, by omega⟩
      unfold spec_RemoveFrom.f
      rw [h1 _ (by omega), kz, if_neg hg, spec_RemoveFrom.j0, if_pos rfl, hR]
    · show impl_RemoveFrom.f k t a n = _
      obtain ⟨k, rfl⟩ : ∃ m, k = m + 1 := ⟨k - 1, by omega⟩
      unfold impl_RemoveFrom.f impl_TrieEntries.f
      rw [h2 _ (by omega), kz, if_neg hg, kz]
      dsimp only
      rw [if_neg (by simp), impl_RemoveFrom.j0, if_pos rfl, hR]
theorem dv {c : List Int} (hc : Bts c) : ∃ (t : List S86) (a n v : Int), (∃ K, ∀ k, K ≤ k → spec_DrawInsertIn.f k c = some (t, a, n, v)) ∧ 1 ≤ t.length ∧ t.length ≤ 2000 := by
  obtain ⟨t, i, s, ⟨K, e⟩, h1, h2, g0, g1⟩ := eo hc 0 0 (by omega) (by omega)
  obtain ⟨a, n, i2, s2, e2, a2, b2⟩ := cu hc s (i := i) g0 (by omega)
  obtain ⟨v, i3, s3, e3, _⟩ := cp hc s2 [0, 5, 1000000, 1000001] (i := i2) (by omega) (by omega) (by simp) (by simp)
  refine ⟨t, a, n, v, ⟨K, fun k hk => ?_⟩, h1, h2⟩
  unfold spec_DrawInsertIn.f
  rw [e k hk, kz]
  dsimp only
  rw [e2, kz]
  dsimp only
  rw [e3, kz]
theorem fn (t : List S86) : (dh t).1.length ≤ 30 := by
  unfold dh
  by_cases h : aa t = true
  · rw [if_pos h]; exact (ak (ba h)).1
  · rw [if_neg h]; simp
theorem di {c : List Int} (hc : Bts c) : ∃ (t : List S86) (a n : Int), (∃ K, ∀ k, K ≤ k → spec_DrawRemoveFrom.f k c = some (t, a, n)) := by
  obtain ⟨t, i, s, ⟨K, e⟩, h1, h2, g0, g1⟩ := eo hc 0 0 (by omega) (by omega)
  obtain ⟨⟨K2, e2⟩, _⟩ := cq t
  replace e2 : ∀ k, K2 ≤ k → spec_TrieEntries.f k t = some (dh t) := e2
  have h30 := fn t
  have no : ∀ (i s : Int), 0 ≤ i → i ≤ 20000 → ∃ a n, ∀ k, spec_DrawRemoveFrom.j0 (k + 1) t (dh t).1 false c i s = some (t, a, n) := fun i s h0 h1 => by
    obtain ⟨a, n, i2, s2, e2, _⟩ := cu hc s (i := i) h0 (by omega)
    refine ⟨a, n, fun k => ?_⟩
    rw [spec_DrawRemoveFrom.j0, if_neg (by simp), e2, kz]
  by_cases hr : (dh t).2 = true
  · by_cases hl : ((dh t).1.length : Int) > 0
    · obtain ⟨b, i3, s3, e3, a3, b3⟩ := eu hc s (n := 4) (i := i) g0 (by omega) (by omega)
      cases b with
      | true =>
        obtain ⟨a, n, ej⟩ := no i3 s3 (by omega) (by omega)
        refine ⟨t, a, n, K + K2 + 1, fun k hk => ?_⟩
        obtain ⟨k, rfl⟩ : ∃ k', k = k' + 1 := ⟨k - 1, by omega⟩
        unfold spec_DrawRemoveFrom.f
        rw [e _ (by omega), kz]
        dsimp only
        rw [e2 _ (by omega), kz, if_pos hr, if_pos hl, e3, kz]
        exact ej k
      | false =>
        obtain ⟨p, i4, s4, e4, p0, p1, _⟩ := a5 hc s3 (n := ((dh t).1.length : Int)) (i := i3) (by omega) (by omega) (by omega)
        refine ⟨t, (rd_T39 (dh t).1 p).f0.f0, (rd_T39 (dh t).1 p).f0.f1, K + K2 + 1, fun k hk => ?_⟩
        obtain ⟨k, rfl⟩ : ∃ k', k = k' + 1 := ⟨k - 1, by omega⟩
        unfold spec_DrawRemoveFrom.f
        rw [e _ (by omega), kz]
        dsimp only
        rw [e2 _ (by omega), kz, if_pos hr, if_pos hl, e3, kz]
        dsimp only
        rw [kT, spec_DrawRemoveFrom.j0, if_pos rfl, e4, kz]
        dsimp only
        rw [if_pos p0, if_pos (by omega)]
    · obtain ⟨a, n, ej⟩ := no i s g0 (by omega)
      refine ⟨t, a, n, K + K2 + 1, fun k hk => ?_⟩
      obtain ⟨k, rfl⟩ : ∃ k', k = k' + 1 := ⟨k - 1, by omega⟩
      unfold spec_DrawRemoveFrom.f
      rw [e _ (by omega), kz]
      dsimp only
      rw [e2 _ (by omega), kz, if_pos hr, if_neg hl]
      exact ej k
  · obtain ⟨a, n, ej⟩ := no i s g0 (by omega)
    refine ⟨t, a, n, K + K2 + 1, fun k hk => ?_⟩
    obtain ⟨k, rfl⟩ : ∃ k', k = k' + 1 := ⟨k - 1, by omega⟩
    unfold spec_DrawRemoveFrom.f
    rw [e _ (by omega), kz]
    dsimp only
    rw [e2 _ (by omega), kz, if_neg hr]
    exact ej k
theorem c9 {c : List Int} (hc : Bts c) : ∃ (t : List S86), (∃ K, ∀ k, K ≤ k → spec_DrawTrieEntries.f k c = some t) := by
  obtain ⟨t, i, s, ⟨K, e⟩, _⟩ := eo hc 0 0 (by omega) (by omega)
  refine ⟨t, K, fun k hk => ?_⟩
  unfold spec_DrawTrieEntries.f spec_DrawGoodTrie.f
  rw [e k hk, kz, kz]
theorem e8 {t : List S86} {a n v : Int} (hg : aa t = true) (hp : good a n = true) (hx : aa (ag v a n.toNat 0 t 0) = true) :
    (∃ e, e ∈ ac (ag v a n.toNat 0 t 0) 32 0 0 0 [] ∧ (e.f0.f0 = a ∧ e.f0.f1 = n)) ∧ (∀ e, e ∈ ac (ag v a n.toNat 0 t 0) 32 0 0 0 [] → (e.f0.f0 = a ∧ e.f0.f1 = n) → e.f1 = v) ∧ (ac (ag v a n.toNat 0 t 0) 32 0 0 0 []).filter (af a n) = (ac t 32 0 0 0 []).filter (af a n) := by
  obtain ⟨⟨pc, h⟩, _⟩ := dm hg
  have hl := al hg
  have hl2 := al hx
  obtain ⟨n0, n1, a0, a1, _⟩ := good_iff.1 hp
  obtain ⟨pc', h', r⟩ := cv v a a0 a1 n.toNat 0 t 0 pc h (by omega) (by omega) (by rw [h.root, cx a0 a1]) (by omega) (by omega)
  rw [show (0 : Int) + (n.toNat : Int) = n by omega] at r
  obtain ⟨w1, m1⟩ := dx h (by omega)
  obtain ⟨w2, m2⟩ := dx h' (by omega)
  refine ⟨⟨⟨⟨a, n⟩, v⟩, (m2 _).2 ⟨hp, (r _ _).2 (.inl ⟨rfl, rfl⟩)⟩, rfl, rfl⟩, fun e he hpe => ?_, et _ _ (w2.filter _) (w1.filter _) (fun e => ?_)⟩
  · have := ((m2 e).1 he).2
    rw [hpe.1, hpe.2] at this
    rcases (r _ _).1 this with ⟨_, q⟩ | ⟨q, _⟩
    · exact q
    · exact (q rfl).elim
  · rw [kX, kX, m1, m2]
    constructor
    · rintro ⟨⟨g, hh⟩, hn⟩
      refine ⟨⟨g, ?_⟩, hn⟩
      rcases (r _ _).1 hh with ⟨q, _⟩ | ⟨_, q⟩
      · have := co g hp q
        unfold af at hn
        rw [decide_eq_true this] at hn
        cases hn
      · exact q
    · rintro ⟨⟨g, hh⟩, hn⟩
      refine ⟨⟨g, (r _ _).2 (.inr ⟨fun q => ?_, hh⟩)⟩, hn⟩
      have := co g hp q
      unfold af at hn
      rw [decide_eq_true this] at hn
      cases hn

end FnTrieStepsUses
open Go.RowKit Go.Proofs.Ytakoaogbkajkcaa.PFnTrieSteps Go.Proofs.YtakoaogbkajkcaaW.PrintWords Go.Proofs.YtakoaogbkajkcaaW.PrintLast Go.Proofs.YtakoaogbkajkcaaW.PrintMore Go.Proofs.Ytakoaogbkajkcaa.Pfx Go.Proofs.Ytakoaogbkajkcaa.Loop Go.Proofs.Ytakoaogbkajkcaa.Tbl FnTrieStepsUses
open Option renaming bind_some → kz
open List renaming length_singleton → kq, replicate → ky, length_cons → kj, length_set → kk, countP_cons → kh, length_append → kg, pairwise_cons → kd, mem_cons → kc, map_singleton → ko, map_append → kx, length_map → km, append_assoc → ku, nil_append → kt, filter_cons_of_neg → kn, filter_cons_of_pos → kl, length_replicate → ki, length_filter_le → kw, getElem_mem → ka, map_cons → kZ, append_nil → kY, mem_append → kJ, mem_filter → kX
open Int renaming dvd_of_emod_eq_zero → kv, mul_le_mul_of_nonneg_left → kf, le_refl → ke, eq_ofNat_of_zero_le → kp, add_zero → kU, mul_add → vz
open Bool renaming and_eq_true → kb, not_true → ks, false_or → kQ, not_false → kT, true_and → vq, true → vy, false → vj
open Option.some renaming inj → kr
open Nat renaming pow_succ → kV
set_option linter.unusedVariables false
theorem FnTrieSteps : laws_FnTrieSteps.Pure := by
  intro l0 l1 m0 w0 b0 m1 w1 b1
  have hbt : ∀ c : List Int, c.length * 1 ≤ 140737488351232 → (∀ x ∈ c, (Lit.int .u8 x).wf = true) → Bts c := fun c h1 h2 => ⟨by omega, fun x hx => by
    have := h2 x hx
    simp [Lit.wf, IntKind.min, IntKind.max, IntKind.signed, IntKind.bits] at this
    omega⟩
  have hc0 := hbt l0 w0 b0
  have hc1 := hbt l1 w1 b1
  by_cases hsz : wrap64 ((l0.length : Int) + (l1.length : Int)) > 1048576
  · exact ⟨0, by unfold laws_FnTrieSteps.f; rw [if_pos hsz]⟩
  obtain ⟨t, a, n, v, ⟨K1, hD⟩, t1, t2⟩ := dv hc0
  obtain ⟨u, ua, un, K2, hU⟩ := di hc1
  obtain ⟨y, K3, hY⟩ := c9 hc1
  obtain ⟨r, ⟨K4, r1⟩, ⟨K5, r2⟩, r3, r4⟩ := eg t a n v
  obtain ⟨⟨K6, d1⟩, ⟨K7, d2⟩⟩ := c5 u ua un
  obtain ⟨⟨K8, e1⟩, ⟨K9, e2⟩⟩ := cq y
  replace r1 : ∀ k, K4 ≤ k → spec_InsertIn.f k t a n v = some r := r1
  replace r2 : ∀ k, K5 ≤ k → impl_InsertIn.f k t a n v = some r := r2
  replace d1 : ∀ k, K6 ≤ k → spec_RemoveFrom.f k u ua un = some (c6 u ua un) := d1
  replace d2 : ∀ k, K7 ≤ k → impl_RemoveFrom.f k u ua un = some (c6 u ua un) := d2
  replace e1 : ∀ k, K8 ≤ k → spec_TrieEntries.f k y = some (dh y) := e1
  replace e2 : ∀ k, K9 ≤ k → impl_TrieEntries.f k y = some (dh y) := e2
  have hrl := fr u ua un
  have hel := fn y
  obtain ⟨K, hK⟩ : ∃ K : Nat, K1 + K2 + K3 + K4 + K5 + K6 + K7 + K8 + K9 + 5000 ≤ K := ⟨_, Nat.le_refl _⟩
  have J5 : ∀ k, K < k → laws_FnTrieSteps.j5 k l1 = some true := fun k hk => by
    obtain ⟨k, rfl⟩ : ∃ k', k = k' + 1 := ⟨k - 1, by omega⟩
    rw [laws_FnTrieSteps.j5, hU k (by omega), kz]
    dsimp only
    rw [d2 k (by omega), kz, d1 k (by omega), kz, hY k (by omega), kz, e2 k (by omega), kz, e1 k (by omega), kz, if_pos (by simp), ck _ (by omega) _ (by omega), kz, if_pos rfl, if_pos (by simp), bx _ (by omega) _ (by omega), kz]
  have J0 : ∃ K', ∀ k, K' ≤ k → laws_FnTrieSteps.j0 k l1 t v r.1 r.2 false a n = some true := by
    by_cases hr : r.2 = true
    · obtain ⟨hg, hp, hx, ex⟩ := r4 hr
      obtain ⟨f1, f2, f3⟩ := e8 hg hp hx
      obtain ⟨P1, p1⟩ := bt hg
      obtain ⟨P2, p2⟩ := bt hx
      obtain ⟨_, ⟨P3, p3⟩⟩ := c5 (ag v a n.toNat 0 t 0) a n
      replace p3 : ∀ k, P3 ≤ k → impl_RemoveFrom.f k (ag v a n.toNat 0 t 0) a n = some (c6 (ag v a n.toNat 0 t 0) a n) := p3
      have hT := ba hx
      have hT0 := ba hg
      have hTf := ca hT (af a n)
      have hz := (cd hTf).1
      obtain ⟨P4, p4⟩ := bt hz
      rw [ef hTf] at p4
      have hrem : c6 (ag v a n.toNat 0 t 0) a n = (aw ((ac (ag v a n.toNat 0 t 0) 32 0 0 0 []).filter (af a n)), true) := by
        unfold c6
        refine if_pos ⟨hx, hp, List.any_eq_true.2 ?_⟩
        obtain ⟨e, he, hpe⟩ := f1
        refine ⟨e, he, ?_⟩
        unfold af
        rw [decide_eq_true hpe]; rfl
      have h30 := (ak hT).1
      have h30' := (ak hT0).1
      rw [ex, hr]
      generalize ac (ag v a n.toNat 0 t 0) 32 0 0 0 [] = now at f1 f2 f3 p2 hT hTf hz p4 hrem h30
      generalize ac t 32 0 0 0 [] = before at f3 p1 hT0 h30'
      obtain ⟨P, hP⟩ : ∃ P : Nat, K + P1 + P2 + P3 + P4 + 5000 ≤ P := ⟨_, Nat.le_refl _⟩
      have hfl := kw (af a n) now
      have L1 : ∀ (rest pre out : List S39) (k : Nat), before = pre ++ rest → out.length ≤ pre.length → P + rest.length < k → now.filter (af a n) = out ++ rest.filter (af a n) → laws_FnTrieSteps.l1 k l1 (now.filter (af a n)) out before (before.length : Int) (pre.length : Int) a n = some true := by
        intro rest
        induction rest with
        | nil =>
          intro pre out k e ho hk heq
          obtain ⟨k, rfl⟩ : ∃ k', k = k' + 1 := ⟨k - 1, by omega⟩
          have e' : out = now.filter (af a n) := by rw [heq]; simp
          rw [laws_FnTrieSteps.l1, if_neg (by rw [e]; simp), e', bx _ (by omega) _ (by simp at hk; omega), kz, if_pos rfl]
          exact J5 k (by simp at hk; omega)
        | cons x rest ih =>
          intro pre out k e ho hk heq
          rw [kj] at hk
          obtain ⟨k, rfl⟩ : ∃ k', k = k' + 1 := ⟨k - 1, by omega⟩
          have hlen : pre.length < before.length := by rw [e]; simp
          have hx : rd_T39 before (pre.length : Int) = x := by rw [e]; exact ay _ _ _
          have hw : wrap64 ((pre.length : Int) + 1) = ((pre ++ [x]).length : Int) := by rw [wrap_id (by omega) (by omega)]; simp
          rw [laws_FnTrieSteps.l1, if_pos (by omega), if_pos (by omega), if_pos (by omega), hx, hw]
          by_cases hc : x.f0.f0 = a ∧ x.f0.f1 = n
          · have hn : ¬ af a n x = true := by unfold af; rw [decide_eq_true hc]; simp
            rw [if_neg (by simp [hc.1, hc.2])]
            rw [kn hn] at heq
            exact ih (pre ++ [x]) out k (by rw [e]; simp) (by simp; omega) (by omega) heq
          · have hn : af a n x = true := by unfold af; rw [decide_eq_false hc]; rfl
            rw [if_pos (by
              simp only [Bool.or_eq_true, Bool.not_eq_true', beq_eq_false_iff_ne]
              by_cases h1 : x.f0.f0 = a
              · exact .inr (fun h2 => hc ⟨h1, h2⟩)
              · exact .inl h1), if_pos (by omega)]
            rw [kl hn] at heq
            exact ih (pre ++ [x]) _ k (by rw [e]; simp) (by simp; omega) (by omega) (by rw [heq, ku]; rfl)
      have L0 : ∀ (rest pre : List S39) (found : Bool) (k : Nat), now = pre ++ rest → P + 200 + rest.length < k → (found = true ∨ ∃ e, e ∈ rest ∧ (e.f0.f0 = a ∧ e.f0.f1 = n)) → laws_FnTrieSteps.l0 k l1 v (ag v a n.toNat 0 t 0) before found now (now.length : Int) (pre.length : Int) a n = some true := by
        intro rest
        induction rest with
        | nil =>
          intro pre found k e hk hf
          obtain ⟨k, rfl⟩ : ∃ k', k = k' + 1 + 1 := ⟨k - 2, by simp at hk; omega⟩
          have hft : found = true := hf.elim id (fun ⟨e, he, _⟩ => by simp at he)
          simp only [List.length_nil] at hk
          rw [laws_FnTrieSteps.l0, if_neg (by rw [e]; simp), p3 _ (by omega), hrem, kz]
          dsimp only
          rw [p4 _ (by omega), kz, if_pos hft, if_pos rfl]
          dsimp only
          rw [ks, laws_FnTrieSteps.j3, if_neg (by simp)]
          exact L1 before [] [] k rfl (by simp) (by omega) (by rw [f3]; rfl)
        | cons x rest ih =>
          intro pre found k e hk hf
          rw [kj] at hk
          obtain ⟨k, rfl⟩ : ∃ k', k = k' + 1 := ⟨k - 1, by omega⟩
          have hlen : pre.length < now.length := by rw [e]; simp
          have hx : rd_T39 now (pre.length : Int) = x := by rw [e]; exact ay _ _ _
          have hw : wrap64 ((pre.length : Int) + 1) = ((pre ++ [x]).length : Int) := by rw [wrap_id (by omega) (by omega)]; simp
          rw [laws_FnTrieSteps.l0, if_pos (by omega), if_pos (by omega), if_pos (by omega), hx, hw]
          by_cases hc : x.f0.f0 = a ∧ x.f0.f1 = n
          · have hv := f2 x (by rw [e]; simp) hc
            rw [if_pos (by simp [hc.1, hc.2]), hv, beq_self_eq_true]
            exact ih (pre ++ [x]) true k (by rw [e]; simp) (by omega) (.inl rfl)
          · rw [if_neg (by simpa using fun h1 h2 => hc ⟨h1, h2⟩)]
            refine ih (pre ++ [x]) found k (by rw [e]; simp) (by omega) (hf.imp id (fun ⟨e', he, hpe⟩ => ?_))
            rcases kc.1 he with rfl | he
            · exact (hc hpe).elim
            · exact ⟨e', he, hpe⟩
      refine ⟨P + 300, fun k hk => ?_⟩
      obtain ⟨k, rfl⟩ : ∃ k', k = k' + 1 + 1 := ⟨k - 2, by omega⟩
      rw [laws_FnTrieSteps.j0, if_neg (by simp), if_pos rfl, p1 _ (by omega), kz, p2 _ (by omega), kz]
      dsimp only
      rw [if_pos rfl, ks, laws_FnTrieSteps.j1, if_neg (by simp)]
      exact L0 now [] false k rfl (by omega) (.inr f1)
    · refine ⟨K + 2, fun k hk => ?_⟩
      obtain ⟨k, rfl⟩ : ∃ k', k = k' + 1 := ⟨k - 1, by omega⟩
      rw [laws_FnTrieSteps.j0, if_neg (by simp), if_neg hr]
      exact J5 k (by omega)
  obtain ⟨K', hK'⟩ := J0
  obtain ⟨M, hM⟩ : ∃ M : Nat, K + K' + 100 ≤ M := ⟨_, Nat.le_refl _⟩
  refine ⟨M, ?_⟩
  unfold laws_FnTrieSteps.f
  rw [if_neg hsz, hD _ (by omega), kz]
  dsimp only
  rw [r2 _ (by omega), kz, r1 _ (by omega), kz, if_neg (by simp), ck _ (by omega) _ (by omega), kz, ks]
  exact hK' M (by omega)
end Go.Proofs.Ytakoaogbkajkcaa.Pure
