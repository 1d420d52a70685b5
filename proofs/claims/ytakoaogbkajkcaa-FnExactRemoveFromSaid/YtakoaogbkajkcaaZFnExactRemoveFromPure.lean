/- The pure statement of FnExactRemoveFrom: what the printed functions tell is what the reference tells. No condition but the arguments' own bounds. -/
import Derived.Test.YtakoaogbkajkcaaYFnExactRemoveFromx16
import Derived.Test.YtakoaogbkajkcaaQFnExactRemoveFrom
namespace Go.Proofs.Ytakoaogbkajkcaa.Pure
namespace FnExactRemoveFromUses
open Go.RowKit Go.Proofs.Ytakoaogbkajkcaa.PFnExactRemoveFrom Go.Proofs.YtakoaogbkajkcaaW.PrintWords Go.Proofs.YtakoaogbkajkcaaW.PrintLast Go.Proofs.YtakoaogbkajkcaaW.PrintMore Go.Proofs.Ytakoaogbkajkcaa.Pfx Go.Proofs.Ytakoaogbkajkcaa.Loop Go.Proofs.Ytakoaogbkajkcaa.Tbl
open Option renaming bind_some → kz
open List renaming replicate → kq, length_cons → ky, countP_cons → kk, length_set → kh, length_singleton → kg, length_append → kb, length_map → kd, append_assoc → kc, pairwise_cons → kx, length_replicate → ku, map_append → kt, append_nil → kr, mem_append → kp, map_cons → kw
open Int renaming dvd_of_emod_eq_zero → kj, mul_le_mul_of_nonneg_left → kv, le_refl → ke, eq_ofNat_of_zero_le → km, add_zero → kl, mul_add → ki
open Bool renaming and_eq_true → kf, false_or → ks, true_and → ka
open Option.some renaming inj → ko
open Nat renaming pow_succ → kn
set_option linter.unusedVariables false
set_option linter.unusedSimpArgs false

theorem spec_l1In_is (a lo hi : Int) : spec_l1In.f a lo hi = some (decide (lo ≤ a ∧ a ≤ hi)) := by
  unfold spec_l1In.f
  by_cases h : lo ≤ a
  · rw [if_pos h]; simp [h]
  · rw [if_neg h]; simp [h]
theorem impl_within_is (a lo hi : Int) : impl_within.f a lo hi = some (decide (lo ≤ a ∧ a ≤ hi)) := by
  unfold impl_within.f
  by_cases h : lo ≤ a
  · rw [if_pos h]; simp [h]
  · rw [if_neg h]; simp [h]
theorem spec_l1Addr_is (a : Int) : spec_l1Addr.f a = some (decide (0 ≤ a ∧ a ≤ 4294967295)) := by
  unfold spec_l1Addr.f; rw [spec_l1In_is]; rfl
theorem impl_isAddr_is (a : Int) : impl_isAddr.f a = some (decide (0 ≤ a ∧ a ≤ 4294967295)) := by
  unfold impl_isAddr.f; rw [impl_within_is]; rfl
theorem impl_sizeOf_is {n : Int} (h0 : 0 ≤ n) (h1 : n ≤ 32) : impl_sizeOf.f n = some (sz n) := by
  unfold impl_sizeOf.f
  rw [shl_sz h0 h1, if_pos (by rw [wrap_id (by omega) (by omega)]; omega)]
theorem spec_l1Size_is (a : Int) {n : Int} (h0 : 0 ≤ n) (h1 : n ≤ 32) : spec_l1Size.f a n = some (sz n) := by
  unfold spec_l1Size.f
  have e : IntKind.u64.wrap (wrap64 (32 - n)) = wrap64 (32 - n) := by rw [wrap_id (by omega) (by omega), u64_id (by omega) (by omega)]
  rw [e, shl_sz h0 h1, if_pos (by rw [wrap_id (by omega) (by omega)]; omega)]
theorem impl_GoodPrefix_is (a n : Int) : impl_GoodPrefix.f a n = some (good a n) := by
  unfold impl_GoodPrefix.f
  rw [impl_within_is, kz]
  by_cases h : 0 ≤ n ∧ n ≤ 32
  · rw [if_pos (decide_eq_true h), impl_isAddr_is, kz]
    by_cases h' : 0 ≤ a ∧ a ≤ 4294967295
    · rw [if_pos (decide_eq_true h'), impl_sizeOf_is h.1 h.2, kz, if_neg (by have := sz_pos n; omega), Int.tmod_eq_emod_of_nonneg h'.1]
      simp [good, h.1, h.2, h'.1, h'.2, beq_dec]
    · rw [if_neg (by simpa using h')]
      have : good a n = false := by simp [good]; omega
      rw [this]
  · rw [if_neg (by simpa using h)]
    have : good a n = false := by simp [good]; omega
    rw [this]
theorem spec_GoodPrefix_is (a n : Int) : spec_GoodPrefix.f a n = some (good a n) := by
  unfold spec_GoodPrefix.f
  rw [spec_l1In_is, kz]
  by_cases h : 0 ≤ n ∧ n ≤ 32
  · rw [if_pos (decide_eq_true h), spec_l1Addr_is, kz]
    by_cases h' : 0 ≤ a ∧ a ≤ 4294967295
    · rw [if_pos (decide_eq_true h'), spec_l1Size_is a h.1 h.2, kz, if_neg (by have := sz_pos n; omega), Int.tmod_eq_emod_of_nonneg h'.1]
      simp [good, h.1, h.2, h'.1, h'.2, beq_dec]
    · rw [if_neg (by simpa using h')]
      have : good a n = false := by simp [good]; omega
      rw [this]
  · rw [if_neg (by simpa using h)]
    have : good a n = false := by simp [good]; omega
    rw [this]
theorem spec_l1Halves_is {a n : Int} (h0 : 0 ≤ n) (h1 : n < 32) (h2 : 0 ≤ a) (h3 : a ≤ 4294967295) : spec_l1Halves.f a n = some (a, n + 1, a + sz (n + 1), n + 1) := by
  have hs := sz_pos (n + 1)
  have h9 := sz_le (n := n + 1) (by omega)
  unfold spec_l1Halves.f
  rw [wrap_id (x := n + 1) (by omega) (by omega), spec_l1Size_is a (by omega) (by omega), kz, wrap_id (by omega) (by omega)]
theorem impl_Prefix_halves_is {a n : Int} (h0 : 0 ≤ n) (h1 : n < 32) (h2 : 0 ≤ a) (h3 : a ≤ 4294967295) : impl_Prefix_halves.f a n = some (a, n + 1, a + sz (n + 1), n + 1) := by
  have hs := sz_pos (n + 1)
  have h9 := sz_le (n := n + 1) (by omega)
  unfold impl_Prefix_halves.f
  rw [wrap_id (x := n + 1) (by omega) (by omega), impl_sizeOf_is (by omega) (by omega), kz, wrap_id (by omega) (by omega)]
theorem cmp_isNaN_int_is (a : Int) : cmp_isNaN_int.f a = some false := by unfold cmp_isNaN_int.f; simp
theorem cmp_Compare_int_is (a b : Int) : cmp_Compare_int.f a b = some (if a < b then -1 else if a > b then 1 else 0) := by
  unfold cmp_Compare_int.f
  simp only [cmp_isNaN_int_is, kz, Bool.false_eq_true, if_false]
  by_cases h1 : a < b
  · simp [h1]
  · by_cases h2 : a > b
    · simp [h1, h2]
    · simp [h1, h2]
theorem impl_compare_is (k : Nat) (a n b m : Int) : impl_compare.f (k + 3) a n b m = some (cmpP a n b m) := by
  unfold impl_compare.f cmp_Or_int.f
  rw [cmp_Compare_int_is, kz, cmp_Compare_int_is, kz]
  have w1 : wrap64 (0 + 1) = 1 := wrap_id (by omega) (by omega)
  have w2 : wrap64 (1 + 1) = 2 := wrap_id (by omega) (by omega)
  simp only [cmp_Or_int.l0, rd, ky, List.length_nil, w1, w2]
  unfold cmpP
  by_cases h1 : a < b
  · simp [h1]
  · by_cases h2 : b < a
    · have : ¬ a = b := by omega
      simp [h1, h2, this]
    · obtain rfl : a = b := by omega
      by_cases h3 : n < m
      · simp [h3]
      · by_cases h4 : m < n
        · have : ¬ n = m := by omega
          simp [h3, h4, this]
        · obtain rfl : n = m := by omega
          simp
theorem rdm_Prefix (pre : List S37) (a : S37) (rest : List S37) : rd_T37 (pre ++ a :: rest) (pre.length : Int) = a := by unfold rd_T37; simp
def pr (p : S37) : Pr := (p.f0, p.f1)
theorem rdm_Entry (pre : List S39) (a : S39) (rest : List S39) : rd_T39 (pre ++ a :: rest) (pre.length : Int) = a := by unfold rd_T39; simp
theorem impl_areRising_is (k : Nat) (l : List S37) (hl : l.length ≤ 1048576) (hk : l.length + 4 < k) : impl_areRising.f k l = some (rising (l.map pr)) := by
  unfold impl_areRising.f
  have key : ∀ (rest pre : List S37) (k : Nat), l = pre ++ rest → rest.length + 4 < k →
      impl_areRising.l0 k l l (l.length : Int) (pre.length : Int) = some (risingFrom ((pre.map pr).getLast?) (rest.map pr)) := by
    intro rest
    induction rest with
    | nil =>
      intro pre k e hk
      obtain ⟨k, rfl⟩ : ∃ m, k = m + 1 := ⟨k - 1, by omega⟩
      simp only [impl_areRising.l0]
      rw [if_neg (by rw [e]; simp)]
      simp [risingFrom]
    | cons a rest ih =>
      intro pre k e hk
      obtain ⟨k, rfl⟩ : ∃ m, k = m + 1 := ⟨k - 1, by omega⟩
      have h1 : rd_T37 l (pre.length : Int) = a := by rw [e]; exact rdm_Prefix _ _ _
      have hih := ih (pre ++ [a]) k (by rw [e]; simp) (by simp at hk; omega)
      rw [kt, List.map_singleton, List.getLast?_concat] at hih
      simp only [impl_areRising.l0]
      rw [if_pos (by rw [e]; exact lt_mid _ _ _), if_pos (len_nn _), if_pos (by rw [e]; exact lt_mid _ _ _), h1, impl_GoodPrefix_is, kz, wrap_mid (rest := rest) (by rw [← e]; simp only [maxLen]; omega)]
      simp only [kw, risingFrom]
      by_cases hg : good a.f0 a.f1 = true
      · rw [if_pos hg]
        rcases snoc_cases pre with rfl | ⟨pre', q, rfl⟩
        · rw [if_neg (by simp)]
          simp only [List.nil_append, kg] at hih
          rw [show (([] : List S37) ++ [a]).length = 1 from rfl, hih]
          simp [pr, hg]
        · have h2 : wrap64 (((pre' ++ [q]).length : Int) - 1) = (pre'.length : Int) := by
            have : (pre' ++ [q] ++ a :: rest).length ≤ 1048576 := by rw [← e]; exact hl
            simp at this
            rw [kb, kg, wrap_id (by omega) (by omega)]; omega
          have h3 : rd_T37 l (pre'.length : Int) = q := by rw [e, kc]; exact rdm_Prefix _ _ _
          obtain ⟨k', rfl⟩ : ∃ m, k = m + 3 := ⟨k - 3, by simp at hk; omega⟩
          rw [if_pos (by rw [kb, kg]; omega), h2, if_pos (len_nn _), if_pos (by rw [e, kb, kb, kg]; omega), h3, impl_compare_is, kz, hih, kt, List.map_singleton, List.getLast?_concat]
          by_cases hc : cmpP q.f0 q.f1 a.f0 a.f1 ≥ 0
          · rw [if_pos hc]
            have : ¬ cmpP q.f0 q.f1 a.f0 a.f1 < 0 := by omega
            simp [pr, this]
          · rw [if_neg hc]
            have : cmpP q.f0 q.f1 a.f0 a.f1 < 0 := by omega
            simp [pr, hg, this]
      · rw [if_neg hg]
        simp [pr, hg]
  exact key l [] k rfl hk
theorem impl_isValue_is (a : Int) : impl_isValue.f a = some (isVal a) := by
  unfold impl_isValue.f; rw [impl_within_is]; rfl
theorem spec_l2Value_is (a : Int) : spec_l2Value.f a = some (isVal a) := by
  unfold spec_l2Value.f; rw [spec_l1In_is]; rfl
theorem impl_prefixesOf_is (k : Nat) (l : List S39) (hl : l.length ≤ 1048576) (hk : l.length < k) : impl_prefixesOf.f k l = some (l.map fun x => (⟨x.f0.f0, x.f0.f1⟩ : S37)) := by
  unfold impl_prefixesOf.f
  have key : ∀ (rest pre : List S39) (k : Nat), l = pre ++ rest → rest.length < k →
      impl_prefixesOf.l0 k (pre.map fun x => (⟨x.f0.f0, x.f0.f1⟩ : S37)) l (l.length : Int) (pre.length : Int) = some (l.map fun x => (⟨x.f0.f0, x.f0.f1⟩ : S37)) := by
    intro rest
    induction rest with
    | nil =>
      intro pre k e hk
      obtain ⟨k, rfl⟩ : ∃ m, k = m + 1 := ⟨k - 1, by omega⟩
      simp only [impl_prefixesOf.l0]
      rw [if_neg (by rw [e]; simp)]
      simp [e]
    | cons a rest ih =>
      intro pre k e hk
      obtain ⟨k, rfl⟩ : ∃ m, k = m + 1 := ⟨k - 1, by omega⟩
      have h1 : rd_T39 l (pre.length : Int) = a := by rw [e]; exact rdm_Entry _ _ _
      have hlen : pre.length < 8796093022208 := by
        have : (pre ++ a :: rest).length ≤ 1048576 := by rw [← e]; exact hl
        simp at this; omega
      have hih := ih (pre ++ [a]) k (by rw [e]; simp) (by simp at hk; omega)
      rw [kt, List.map_singleton] at hih
      simp only [impl_prefixesOf.l0]
      rw [if_pos (by rw [e]; exact lt_mid _ _ _), if_pos (len_nn _), if_pos (by rw [e]; exact lt_mid _ _ _), if_pos (by simpa using hlen), h1, wrap_mid (rest := rest) (by rw [← e]; simp only [maxLen]; omega)]
      exact hih
  exact key l [] k rfl hk
theorem impl_GoodTable_1_is (a n v : Int) : impl_GoodTable_1.f a n v = some (!isVal v) := by
  unfold impl_GoodTable_1.f; rw [impl_isValue_is]; rfl
def ent (e : S39) : Pr := (e.f0.f0, e.f0.f1)
def goodTable (l : List S39) : Bool := decide (l.length ≤ 30) && rising (l.map ent) && l.all (fun e => isVal e.f1)
theorem impl_GoodTable_any (k : Nat) (l : List S39) (hl : l.length ≤ 1048576) (hk : l.length < k) : slices_ContainsFunc_impl_Entry_impl_Entry.f k l = some (l.any fun e => !isVal e.f1) := by
  unfold slices_ContainsFunc_impl_Entry_impl_Entry.f slices_IndexFunc_impl_Entry_impl_Entry.f
  have key : ∀ (rest pre : List S39) (k : Nat), l = pre ++ rest → rest.length < k →
      ∃ r : Int, slices_IndexFunc_impl_Entry_impl_Entry.l0 k l (l.length : Int) (pre.length : Int) = some r ∧ (0 ≤ r ↔ (rest.any fun e => !isVal e.f1) = true) := by
    intro rest
    induction rest with
    | nil =>
      intro pre k e hk
      obtain ⟨k, rfl⟩ : ∃ m, k = m + 1 := ⟨k - 1, by omega⟩
      refine ⟨-1, ?_, by simp⟩
      simp only [slices_IndexFunc_impl_Entry_impl_Entry.l0]
      rw [if_neg (by rw [e]; simp)]
    | cons a rest ih =>
      intro pre k e hk
      obtain ⟨k, rfl⟩ : ∃ m, k = m + 1 := ⟨k - 1, by omega⟩
      have h1 : rd_T39 l (pre.length : Int) = a := by rw [e]; exact rdm_Entry _ _ _
      simp only [slices_IndexFunc_impl_Entry_impl_Entry.l0]
      rw [if_pos (by rw [e]; exact lt_mid _ _ _), if_pos (len_nn _), if_pos (by rw [e]; exact lt_mid _ _ _), h1, impl_GoodTable_1_is, kz, wrap_mid (rest := rest) (by rw [← e]; simp only [maxLen]; omega)]
      by_cases hv : (!isVal a.f1) = true
      · rw [if_pos hv]
        exact ⟨_, rfl, by simp [hv]⟩
      · rw [if_neg hv]
        obtain ⟨r, hr, hi⟩ := ih (pre ++ [a]) k (by rw [e]; simp) (by simp at hk; omega)
        refine ⟨r, hr, ?_⟩
        rw [hi]; simp [hv]
  obtain ⟨r, hr, hi⟩ := key l [] k rfl hk
  have hr' : slices_IndexFunc_impl_Entry_impl_Entry.l0 k l (l.length : Int) 0 = some r := hr
  rw [hr', kz]
  congr 1
  by_cases h : 0 ≤ r
  · rw [hi.1 h]; simp [h]
  · have : (l.any fun e => !isVal e.f1) = false := by
      cases hb : (l.any fun e => !isVal e.f1) with
      | false => rfl
      | true => exact absurd (hi.2 hb) h
    rw [this]; simp; omega
theorem impl_GoodTable_is (k : Nat) (l : List S39) (hl : l.length ≤ 1048576) (hk : l.length + 4 < k) : impl_GoodTable.f k l = some (goodTable l) := by
  unfold impl_GoodTable.f goodTable
  by_cases h : (l.length : Int) ≤ 30
  · rw [if_pos h, impl_prefixesOf_is k l hl (by omega), kz, impl_areRising_is k _ (by simpa using hl) (by simpa using hk), kz]
    have he : ((l.map fun x => (⟨x.f0.f0, x.f0.f1⟩ : S37)).map pr) = l.map ent := by rw [List.map_map]; rfl
    rw [he]
    have h30 : l.length ≤ 30 := by omega
    by_cases hr : rising (l.map ent) = true
    · rw [if_pos hr, impl_GoodTable_any k l hl (by omega), kz]
      simp only [h30, decide_true, hr, ka, List.not_any_eq_all_not, Bool.not_not]
    · rw [if_neg hr]
      simp [hr]
  · rw [if_neg h]
    have h30 : ¬ l.length ≤ 30 := by omega
    simp [h30]
theorem slices_Repeat_one (a n : Int) (h0 : 0 ≤ n) (h1 : n ≤ 17592186044416) : slices_Repeat_int_int.f [a] n = some (kq n.toNat a) := by
  unfold slices_Repeat_int_int.f
  dsimp only
  rw [if_pos h0, if_pos h1]
theorem rdm_Node (pre : List S86) (a : S86) (rest : List S86) : rd_T86 (pre ++ a :: rest) (pre.length : Int) = a := by unfold rd_T86; simp
def tput (n i : Int) (D : List Int) (x : Int) : Option (List Int) := if x = 0 then some D else if i + 1 ≤ x ∧ x ≤ n - 1 ∧ rd D x < 0 then some (D.set x.toNat (rd D i + 1)) else none
def nodeOk (i : Int) (a : S86) : Bool := isVal a.f3 && (a.f2 || (a.f3 == 0 && !(decide (0 < i) && (a.f0 == 0 && a.f1 == 0))))
def trieOk (n : Int) : List S86 → Int → List Int → Int → Bool
  | [], _, _, c => decide (c ≤ 30)
  | a :: t, i, D, c => if rd D i < 0 ∨ rd D i > 32 then false else if nodeOk i a = true then
      (match (tput n i D a.f0).bind (fun D => tput n i D a.f1) with
      | none => false
      | some D' => trieOk n t (i + 1) D' (if a.f2 = true then c + 1 else c)) else false
def goodTrie (l : List S86) : Bool := if 1 ≤ (l.length : Int) ∧ (l.length : Int) ≤ 2000 then trieOk l.length l 0 ((kq l.length (-1 : Int)).set 0 0) 0 else false
theorem rd_set_ne {D : List Int} {x y : Int} {v : Int} (hx : 0 ≤ x) (hy : 0 ≤ y) (h : x ≠ y) : rd (D.set x.toNat v) y = rd D y := by
  unfold rd
  have : x.toNat ≠ y.toNat := by omega
  simp only [List.getD_eq_getElem?_getD, List.getElem?_set_ne this]
theorem rd_set_eq {D : List Int} {x : Int} {v : Int} (hx : 0 ≤ x) (h : x < (D.length : Int)) : rd (D.set x.toNat v) x = v := by
  unfold rd
  have : x.toNat < D.length := by omega
  simp [List.getD_eq_getElem?_getD, List.getElem?_set, this]
def DepB (D : List Int) : Prop := ∀ j : Int, 0 ≤ j → -1 ≤ rd D j ∧ rd D j ≤ 33
theorem tput_ok {n i : Int} {D D' : List Int} {x : Int} (h : tput n i D x = some D') (hi : 0 ≤ i) (hb : DepB D) (hd : rd D i ≤ 32) (hn : (D.length : Int) = n) : D'.length = D.length ∧ DepB D' ∧ rd D' i = rd D i ∧ (∀ j, 0 ≤ j → 0 ≤ rd D j → rd D' j = rd D j) := by
  unfold tput at h
  by_cases h0 : x = 0
  · rw [if_pos h0] at h; cases h; exact ⟨rfl, hb, rfl, fun _ _ _ => rfl⟩
  · rw [if_neg h0] at h
    by_cases h1 : i + 1 ≤ x ∧ x ≤ n - 1 ∧ rd D x < 0
    · rw [if_pos h1] at h
      cases h
      refine ⟨kh .., fun j hj => ?_, rd_set_ne (by omega) hi (by omega), fun j hj hd2 => rd_set_ne (by omega) hj (fun e => by subst e; omega)⟩
      by_cases e : x = j
      · subst e
        rw [rd_set_eq hj (by omega)]
        have := hb i hi
        omega
      · rw [rd_set_ne (by omega) hj e]; exact hb j hj
    · rw [if_neg h1] at h; cases h
theorem impl_trie_child {l : List S86} {D L : List Int} {c i : Int} {r : Bool} (hn : (l.length : Int) ≤ 2000) (hD : D.length = l.length) (hb : DepB D) (hi : 0 ≤ i) (hi2 : i < (l.length : Int)) (hd : 0 ≤ rd D i ∧ rd D i ≤ 32)
    (q : Nat) (hL : L.length = 2) (hq : q < 2)
    (h : match tput (l.length : Int) i D (rd L q) with | none => r = false | some D' => Ev (fun k => impl_GoodTrie.l1 k l D' c i l (l.length : Int) i L 2 ((q + 1 : Nat) : Int)) r) :
    Ev (fun k => impl_GoodTrie.l1 k l D c i l (l.length : Int) i L 2 (q : Int)) r := by
  have hw : wrap64 ((q : Int) + 1) = ((q + 1 : Nat) : Int) := by rw [wrap_id (by omega) (by omega)]; omega
  have hw1 : wrap64 (i + 1) = i + 1 := wrap_id (by omega) (by omega)
  have hw2 : wrap64 ((l.length : Int) - 1) = (l.length : Int) - 1 := wrap_id (by omega) (by omega)
  have hw3 : wrap64 (rd D i + 1) = rd D i + 1 := wrap_id (by omega) (by omega)
  unfold tput at h
  by_cases h0 : rd L q = 0
  · rw [if_pos h0] at h
    refine Ev.step (fun k => ?_) h
    rw [impl_GoodTrie.l1, if_pos (by omega), if_pos (by omega), if_pos (by rw [hL]; omega), if_pos h0, hw]
  · rw [if_neg h0] at h
    by_cases h1 : i + 1 ≤ rd L q ∧ rd L q ≤ (l.length : Int) - 1
    · by_cases h2 : rd D (rd L q) < 0
      · rw [if_pos ⟨h1.1, h1.2, h2⟩] at h
        refine Ev.step (fun k => ?_) h
        rw [impl_GoodTrie.l1, if_pos (by omega), if_pos (by omega), if_pos (by rw [hL]; omega), if_neg h0, impl_within_is, kz, hw1, hw2, if_pos (decide_eq_true h1), if_pos (by omega), if_pos (by rw [hD]; omega), if_neg (by omega), if_pos hi, if_pos (by rw [hD]; omega), hw, hw3]
      · rw [if_neg (fun h' => h2 h'.2.2)] at h
        subst h
        refine Ev.step (fun k => ?_) (Ev.now _)
        rw [impl_GoodTrie.l1, if_pos (by omega), if_pos (by omega), if_pos (by rw [hL]; omega), if_neg h0, impl_within_is, kz, hw1, hw2, if_pos (decide_eq_true h1), if_pos (by omega), if_pos (by rw [hD]; omega), if_pos (by omega)]
    · rw [if_neg (fun h' => h1 ⟨h'.1, h'.2.1⟩)] at h
      subst h
      refine Ev.step (fun k => ?_) (Ev.now _)
      rw [impl_GoodTrie.l1, if_pos (by omega), if_pos (by omega), if_pos (by rw [hL]; omega), if_neg h0, impl_within_is, kz, hw1, hw2, if_neg (by simpa using h1)]
theorem impl_trie_l0 {l : List S86} (hn : (l.length : Int) ≤ 2000) : ∀ (rest pre : List S86) (D : List Int) (c : Int), l = pre ++ rest → D.length = l.length → DepB D → 0 ≤ c → c ≤ pre.length →
    Ev (fun k => impl_GoodTrie.l0 k l D c l (l.length : Int) (pre.length : Int)) (trieOk l.length rest pre.length D c)
  | [], pre, D, c, e, hD, hb, c0, c1 => by
    refine Ev.step (fun k => ?_) (Ev.now _)
    rw [impl_GoodTrie.l0, if_neg (by rw [e]; simp), trieOk]
  | a :: rest, pre, D, c, e, hD, hb, c0, c1 => by
    have hlen : (l.length : Int) = pre.length + (rest.length + 1) := by rw [e]; simp
    have h1 : rd_T86 l (pre.length : Int) = a := by rw [e]; exact rdm_Node _ _ _
    have hbi := hb (pre.length : Int) (by omega)
    have step : ∀ bad : Bool, (bad = (decide (rd D (pre.length : Int) < 0 ∨ rd D (pre.length : Int) > 32) || !nodeOk (pre.length : Int) a)) → ∀ k, impl_GoodTrie.l0 (k + 1) l D c l (l.length : Int) (pre.length : Int) = impl_GoodTrie.j1 k l D c (pre.length : Int) l (l.length : Int) (pre.length : Int) bad a.f0 a.f1 a.f2 a.f3 := by
      intro bad hbad k
      rw [impl_GoodTrie.l0, if_pos (by omega), if_pos (by omega), if_pos (by omega), if_pos (by rw [hD]; omega), h1]
      subst hbad
      by_cases b1 : rd D (pre.length : Int) < 0
      · rw [if_pos b1]; simp [b1]
      · rw [if_neg b1]
        by_cases b2 : rd D (pre.length : Int) > 32
        · rw [if_pos b2]; simp [b2]
        · rw [if_neg b2, impl_isValue_is, kz]
          have b3 : (decide (rd D (pre.length : Int) < 0 ∨ rd D (pre.length : Int) > 32)) = false := decide_eq_false (fun h => h.elim b1 b2)
          rw [b3, ks]
          unfold nodeOk
          cases hv : isVal a.f3
          · rfl
          · rw [if_pos rfl]
            cases hh : a.f2
            · rw [if_neg (by simp)]
              by_cases b4 : a.f3 = 0
              · rw [if_pos b4]
                by_cases b5 : (pre.length : Int) > 0
                · rw [if_pos b5]
                  by_cases b6 : a.f0 = 0
                  · rw [if_pos b6]
                    have b5' : decide (0 < (pre.length : Int)) = true := decide_eq_true b5
                    simp only [b4, b5', b6, beq_self_eq_true, ka, ks, Bool.not_not]
                  · rw [if_neg b6]
                    have b6' : (a.f0 == 0) = false := by simpa using b6
                    simp [b4, b6']
                · rw [if_neg b5]
                  have b5' : decide (0 < (pre.length : Int)) = false := decide_eq_false b5
                  simp only [b4, b5', beq_self_eq_true, ka, Bool.false_and, Bool.not_false, Bool.or_true, Bool.not_true]
              · rw [if_neg b4]
                have b4' : (a.f3 == 0) = false := by simpa using b4
                simp [b4']
            · rw [if_pos rfl]
              by_cases b5 : (pre.length : Int) > 0
              · rw [if_pos b5]; simp
              · rw [if_neg b5]; simp
    refine Ev.step (step _ rfl) ?_
    rw [trieOk]
    by_cases hd : rd D (pre.length : Int) < 0 ∨ rd D (pre.length : Int) > 32
    · rw [if_pos hd, decide_eq_true hd]
      refine Ev.step (fun k => ?_) (Ev.now _)
      rw [impl_GoodTrie.j1, if_pos (by rfl)]
    · rw [if_neg hd, decide_eq_false hd, ks]
      cases hok : nodeOk (pre.length : Int) a
      · rw [if_neg (by simp)]
        refine Ev.step (fun k => ?_) (Ev.now _)
        rw [impl_GoodTrie.j1, if_pos (by rfl)]
      · rw [if_pos rfl]
        have hd2 : 0 ≤ rd D (pre.length : Int) ∧ rd D (pre.length : Int) ≤ 32 := by omega
        have hwc : wrap64 (c + 1) = c + 1 := wrap_id (by omega) (by omega)
        have hcc : (0 ≤ if a.f2 = true then c + 1 else c) ∧ (if a.f2 = true then c + 1 else c) ≤ (pre.length : Int) + 1 := by by_cases h : a.f2 = true <;> simp only [h, if_true, if_false, Bool.false_eq_true] <;> omega
        have key : ∀ c', 0 ≤ c' → c' ≤ (pre.length : Int) + 1 → Ev (fun k => impl_GoodTrie.j2 k l D c' (pre.length : Int) l (l.length : Int) (pre.length : Int) a.f0 a.f1 a.f2 a.f3) (match (tput (l.length : Int) (pre.length : Int) D a.f0).bind (fun D => tput (l.length : Int) (pre.length : Int) D a.f1) with | none => false | some D' => trieOk (l.length : Int) rest ((pre.length : Int) + 1) D' c') := by
          intro c' g0 g1
          refine Ev.step (f := fun k => impl_GoodTrie.l1 k l D c' (pre.length : Int) l (l.length : Int) (pre.length : Int) [a.f0, a.f1] 2 ((0 : Nat) : Int)) (fun k => ?_) ?_
          · rw [impl_GoodTrie.j2, kz]; rfl
          · refine impl_trie_child hn hD hb (by omega) (by omega) hd2 0 rfl (by omega) ?_
            rw [show rd [a.f0, a.f1] ((0 : Nat) : Int) = a.f0 from rfl]
            cases hp : tput (l.length : Int) (pre.length : Int) D a.f0 with
            | none => rfl
            | some D1 =>
              obtain ⟨g2, g3, g4, _⟩ := tput_ok hp (by omega) hb hd2.2 (by rw [hD])
              refine impl_trie_child hn (by omega) g3 (by omega) (by omega) (by omega) 1 rfl (by omega) ?_
              rw [show rd [a.f0, a.f1] ((1 : Nat) : Int) = a.f1 from rfl, kz]
              cases hp2 : tput (l.length : Int) (pre.length : Int) D1 a.f1 with
              | none => rfl
              | some D2 =>
                obtain ⟨g5, g6, g7, _⟩ := tput_ok hp2 (by omega) g3 (by omega) (by rw [g2, hD])
                refine Ev.step (f := fun k => impl_GoodTrie.l0 k l D2 c' l (l.length : Int) ((pre ++ [a]).length : Int)) (fun k => ?_) ?_
                · rw [impl_GoodTrie.l1, if_neg (by decide), wrap_mid (rest := rest) (by rw [← e]; simp only [maxLen]; omega)]
                · have := impl_trie_l0 hn rest (pre ++ [a]) D2 c' (by rw [e]; simp) (by omega) g6 g0 (by simp; omega)
                  rwa [show ((pre ++ [a]).length : Int) = (pre.length : Int) + 1 by simp] at this ⊢
        refine Ev.step (f := fun k => impl_GoodTrie.j2 k l D (if a.f2 = true then c + 1 else c) (pre.length : Int) l (l.length : Int) (pre.length : Int) a.f0 a.f1 a.f2 a.f3) (fun k => ?_) (key _ hcc.1 hcc.2)
        rw [impl_GoodTrie.j1, if_neg (by decide), hwc]
        by_cases h : a.f2 = true
        · rw [if_pos h, if_pos h]
        · rw [if_neg h, if_neg h]
theorem depB_first (n : Nat) : DepB ((kq n (-1 : Int)).set 0 0) := by
  intro j hj
  unfold rd
  rw [List.getD_eq_getElem?_getD, List.getElem?_set]
  by_cases h : 0 = j.toNat
  · rw [if_pos h]
    by_cases h2 : 0 < (kq n (-1 : Int)).length
    · rw [if_pos h2]; simp
    · rw [if_neg h2]; simp
  · rw [if_neg h, List.getElem?_replicate]
    by_cases h2 : j.toNat < n
    · rw [if_pos h2]; simp
    · rw [if_neg h2]; simp
theorem impl_GoodTrie_is (l : List S86) : Ev (fun k => impl_GoodTrie.f k l) (goodTrie l) := by
  unfold goodTrie
  by_cases h : 1 ≤ (l.length : Int) ∧ (l.length : Int) ≤ 2000
  · rw [if_pos h]
    refine Ev.congr (f := fun k => impl_GoodTrie.l0 k l ((kq l.length (-1 : Int)).set 0 0) 0 l (l.length : Int) (([] : List S86).length : Int)) (fun k => ?_) (impl_trie_l0 h.2 l [] _ 0 rfl (by simp) (depB_first _) (by omega) (by simp))
    unfold impl_GoodTrie.f
    rw [impl_within_is, kz, if_pos (decide_eq_true h)]
    rw [slices_Repeat_one _ _ (by omega) (by omega), kz, if_pos (by rw [ku]; omega)]
    simp
  · rw [if_neg h]
    refine Ev.congr (fun k => ?_) (Ev.now false)
    unfold impl_GoodTrie.f
    rw [impl_within_is, kz, if_neg (by simpa using h)]
structure TRel (D U E : List Int) : Prop where
  lu : U.length = D.length
  le : E.length = D.length
  zero : rd U 0 = 0 ∧ rd D 0 = 0 ∧ rd E 0 = 0
  other : ∀ j : Int, 0 < j → j < (D.length : Int) → (rd D j < 0 ∧ rd U j = 0) ∨ (0 ≤ rd D j ∧ rd U j = 1 ∧ rd E j = rd D j)
theorem TRel.deep {D U E : List Int} (h : TRel D U E) {j : Int} (h0 : 0 ≤ j) (h1 : j < (D.length : Int)) (h2 : 0 ≤ rd D j) : rd E j = rd D j := by
  by_cases e : j = 0
  · subst e; rw [h.zero.2.1, h.zero.2.2]
  · rcases h.other j (by omega) h1 with h3 | h3
    · omega
    · exact h3.2.2
theorem TRel.put {D U E : List Int} (h : TRel D U E) {x v : Int} (h0 : 0 < x) (h1 : x < (D.length : Int)) (hv : 0 ≤ v) : TRel (D.set x.toNat v) (U.set x.toNat 1) (E.set x.toNat v) := by
  refine ⟨by simp [h.lu], by simp [h.le], ⟨?_, ?_, ?_⟩, fun j h2 h3 => ?_⟩
  · rw [rd_set_ne (by omega) (by omega) (by omega)]; exact h.zero.1
  · rw [rd_set_ne (by omega) (by omega) (by omega)]; exact h.zero.2.1
  · rw [rd_set_ne (by omega) (by omega) (by omega)]; exact h.zero.2.2
  · have h3' : j < (D.length : Int) := by simpa using h3
    by_cases e : x = j
    · subst e
      rw [rd_set_eq (by omega) h1, rd_set_eq (by omega) (by rw [h.lu]; exact h1), rd_set_eq (by omega) (by rw [h.le]; exact h1)]
      exact .inr ⟨hv, rfl, rfl⟩
    · rw [rd_set_ne (by omega) (by omega) e, rd_set_ne (by omega) (by omega) e, rd_set_ne (by omega) (by omega) e]
      exact h.other j h2 h3'
theorem spec_trie_child {l : List S86} {D U E L : List Int} {c i z o v : Int} {hs : Bool} {r : Bool} (hn : (l.length : Int) ≤ 2000) (hD : D.length = l.length) (hb : DepB D) (hR : TRel D U E) (hi : 0 ≤ i) (hi2 : i < (l.length : Int)) (hd : 0 ≤ rd D i ∧ rd D i ≤ 32)
    (q : Nat) (hL : L.length = 2) (hq : q < 2)
    (h : match tput (l.length : Int) i D (rd L q) with | none => r = false | some D' => ∀ U' E', TRel D' U' E' → Ev (fun k => spec_GoodTrie.l1 k l U' E' c i l (l.length : Int) i L 2 ((q + 1 : Nat) : Int) z o hs v) r) :
    Ev (fun k => spec_GoodTrie.l1 k l U E c i l (l.length : Int) i L 2 (q : Int) z o hs v) r := by
  have hw : wrap64 ((q : Int) + 1) = ((q + 1 : Nat) : Int) := by rw [wrap_id (by omega) (by omega)]; omega
  have hE : rd E i = rd D i := hR.deep hi (by omega) hd.1
  have hw3 : wrap64 (rd E i + 1) = rd D i + 1 := by rw [hE]; exact wrap_id (by omega) (by omega)
  have lu := hR.lu
  have le := hR.le
  unfold tput at h
  by_cases h0 : rd L q = 0
  · rw [if_pos h0] at h
    refine Ev.step (fun k => ?_) (h U E hR)
    rw [spec_GoodTrie.l1, if_pos (by omega), if_pos (by omega), if_pos (by rw [hL]; omega), if_pos h0, hw]
  · rw [if_neg h0] at h
    by_cases h1 : i + 1 ≤ rd L q ∧ rd L q ≤ (l.length : Int) - 1
    · rcases hR.other (rd L q) (by omega) (by omega) with h3 | h3
      · rw [if_pos ⟨h1.1, h1.2, h3.1⟩] at h
        refine Ev.step (fun k => ?_) (h _ _ (hR.put (x := rd L q) (v := rd D i + 1) (by omega) (by omega) (by omega)))
        rw [spec_GoodTrie.l1, if_pos (by omega), if_pos (by omega), if_pos (by rw [hL]; omega), if_neg h0, if_neg (by omega), if_neg (by omega), if_pos (by omega), if_pos (by omega), if_pos h3.2, if_pos hi, if_pos (by omega), if_pos (by omega), hw, hw3]
      · rw [if_neg (fun h' => by omega)] at h
        subst h
        refine Ev.step (fun k => ?_) (Ev.now _)
        rw [spec_GoodTrie.l1, if_pos (by omega), if_pos (by omega), if_pos (by rw [hL]; omega), if_neg h0, if_neg (by omega), if_neg (by omega), if_pos (by omega), if_pos (by omega), if_neg (by omega)]
    · rw [if_neg (fun h' => h1 ⟨h'.1, h'.2.1⟩)] at h
      subst h
      refine Ev.step (fun k => ?_) (Ev.now _)
      by_cases h4 : rd L q ≤ i
      · rw [spec_GoodTrie.l1, if_pos (by omega), if_pos (by omega), if_pos (by rw [hL]; omega), if_neg h0, if_pos h4]
      · rw [spec_GoodTrie.l1, if_pos (by omega), if_pos (by omega), if_pos (by rw [hL]; omega), if_neg h0, if_neg h4, if_pos (by omega)]
theorem spec_trie_end (l : List S86) (U E : List Int) (c i : Int) (a : S86) (L : List Int) (r : Bool) (hi : 0 ≤ i)
    (h : nodeOk i a = true → Ev (fun k => spec_GoodTrie.l0 k l U E (if a.f2 = true then wrap64 (c + 1) else c) l (l.length : Int) (wrap64 (i + 1))) r) (h' : nodeOk i a = false → r = false) :
    Ev (fun k => spec_GoodTrie.l1 k l U E c i l (l.length : Int) i L 2 ((2 : Nat) : Int) a.f0 a.f1 a.f2 a.f3) r := by
  have st : ∀ k, spec_GoodTrie.l1 (k + 1) l U E c i l (l.length : Int) i L 2 ((2 : Nat) : Int) a.f0 a.f1 a.f2 a.f3 = if nodeOk i a = true then spec_GoodTrie.l0 k l U E (if a.f2 = true then wrap64 (c + 1) else c) l (l.length : Int) (wrap64 (i + 1)) else some false := by
    intro k
    rw [spec_GoodTrie.l1, if_neg (by decide), spec_l2Value_is]
    simp only [kz]
    unfold nodeOk
    cases hv : isVal a.f3
    · cases hh : a.f2
      · by_cases b4 : a.f3 = 0
        · simp [b4]
        · simp [b4]
      · simp
    · cases hh : a.f2
      · by_cases b4 : a.f3 = 0
        · by_cases b5 : i > 0
          · by_cases b6 : a.f0 = 0
            · by_cases b7 : a.f1 = 0
              · simp [b4, b5, b6, b7]
              · simp [b4, b5, b6, b7]
            · simp [b4, b5, b6]
          · simp [b4, b5]
        · simp [b4]
      · by_cases b5 : i > 0
        · by_cases b6 : a.f0 = 0
          · by_cases b7 : a.f1 = 0
            · simp [b5, b6, b7]
            · simp [b5, b6, b7]
          · simp [b5, b6]
        · simp [b5]
  cases hok : nodeOk i a
  · rw [h' hok]
    refine Ev.step (fun k => ?_) (Ev.now _)
    rw [st, if_neg (by rw [hok]; decide)]
  · refine Ev.step (fun k => ?_) (h hok)
    rw [st, if_pos hok]
theorem spec_trie_l0 {l : List S86} (hn : (l.length : Int) ≤ 2000) : ∀ (rest pre : List S86) (D U E : List Int) (c : Int), l = pre ++ rest → D.length = l.length → DepB D → TRel D U E → 0 ≤ c → c ≤ pre.length →
    Ev (fun k => spec_GoodTrie.l0 k l U E c l (l.length : Int) (pre.length : Int)) (trieOk l.length rest pre.length D c)
  | [], pre, D, U, E, c, e, hD, hb, hR, c0, c1 => by
    refine Ev.step (fun k => ?_) (Ev.now _)
    rw [spec_GoodTrie.l0, if_neg (by rw [e]; simp), trieOk]
  | a :: rest, pre, D, U, E, c, e, hD, hb, hR, c0, c1 => by
    have hlen : (l.length : Int) = pre.length + (rest.length + 1) := by rw [e]; simp
    have h1 : rd_T86 l (pre.length : Int) = a := by rw [e]; exact rdm_Node _ _ _
    have lu := hR.lu
    have le := hR.le
    have step : ∀ k, spec_GoodTrie.l0 (k + 1) l U E c l (l.length : Int) (pre.length : Int) = spec_GoodTrie.j1 k l U E c (pre.length : Int) l (l.length : Int) (pre.length : Int) (decide (rd D (pre.length : Int) < 0 ∨ rd D (pre.length : Int) > 32)) a.f0 a.f1 a.f2 a.f3 := by
      intro k
      rw [spec_GoodTrie.l0, if_pos (by omega), if_pos (by omega), if_pos (by omega), h1]
      by_cases b5 : (pre.length : Int) > 0
      · rw [if_pos b5, if_pos (by omega)]
        rcases hR.other (pre.length : Int) (by omega) (by omega) with h3 | h3
        · rw [if_pos h3.2, decide_eq_true (Or.inl h3.1)]
        · have h4 : ¬ rd D (pre.length : Int) < 0 := by omega
          rw [if_neg (by omega), if_pos (by omega), h3.2.2]
          simp [h4]
      · have e0 : (pre.length : Int) = 0 := by omega
        rw [if_neg b5, if_pos (by omega), e0, hR.zero.2.1, hR.zero.2.2]
        simp
    refine Ev.step step ?_
    rw [trieOk]
    by_cases hd : rd D (pre.length : Int) < 0 ∨ rd D (pre.length : Int) > 32
    · rw [if_pos hd, decide_eq_true hd]
      refine Ev.step (fun k => ?_) (Ev.now _)
      rw [spec_GoodTrie.j1, if_pos rfl]
    · rw [if_neg hd, decide_eq_false hd]
      have hd2 : 0 ≤ rd D (pre.length : Int) ∧ rd D (pre.length : Int) ≤ 32 := by omega
      refine Ev.step (f := fun k => spec_GoodTrie.l1 k l U E c (pre.length : Int) l (l.length : Int) (pre.length : Int) [a.f0, a.f1] 2 ((0 : Nat) : Int) a.f0 a.f1 a.f2 a.f3) (fun k => ?_) ?_
      · rw [spec_GoodTrie.j1, if_neg (by decide), kz]; rfl
      · have hfin : ∀ r : Bool, nodeOk (pre.length : Int) a = false → (if nodeOk (pre.length : Int) a = true then r else false) = false := fun r h => by rw [if_neg (by rw [h]; decide)]
        refine spec_trie_child hn hD hb hR (by omega) (by omega) hd2 0 rfl (by omega) ?_
        rw [show rd [a.f0, a.f1] ((0 : Nat) : Int) = a.f0 from rfl]
        cases hp : tput (l.length : Int) (pre.length : Int) D a.f0 with
        | none => by_cases hok : nodeOk (pre.length : Int) a = true <;> simp [hok]
        | some D1 =>
          intro U1 E1 hR1
          obtain ⟨g2, g3, g4, _⟩ := tput_ok hp (by omega) hb hd2.2 (by rw [hD])
          refine spec_trie_child hn (by omega) g3 hR1 (by omega) (by omega) (by omega) 1 rfl (by omega) ?_
          rw [show rd [a.f0, a.f1] ((1 : Nat) : Int) = a.f1 from rfl, kz]
          cases hp2 : tput (l.length : Int) (pre.length : Int) D1 a.f1 with
          | none => by_cases hok : nodeOk (pre.length : Int) a = true <;> simp [hok]
          | some D2 =>
            intro U2 E2 hR2
            obtain ⟨g5, g6, g7, _⟩ := tput_ok hp2 (by omega) g3 (by omega) (by rw [g2, hD])
            refine spec_trie_end l U2 E2 c (pre.length : Int) a [a.f0, a.f1] _ (by omega) (fun hok => ?_) (hfin _)
            rw [if_pos hok, wrap_mid (rest := rest) (by rw [← e]; simp only [maxLen]; omega)]
            have hwc : wrap64 (c + 1) = c + 1 := wrap_id (by omega) (by omega)
            rw [hwc]
            have hcc : (0 ≤ if a.f2 = true then c + 1 else c) ∧ (if a.f2 = true then c + 1 else c) ≤ (pre.length : Int) + 1 := by by_cases h : a.f2 = true <;> simp only [h, if_true, if_false, Bool.false_eq_true] <;> omega
            have := spec_trie_l0 hn rest (pre ++ [a]) D2 U2 E2 (if a.f2 = true then c + 1 else c) (by rw [e]; simp) (by omega) g6 hR2 hcc.1 (by simp; omega)
            rwa [show ((pre ++ [a]).length : Int) = (pre.length : Int) + 1 by simp] at this ⊢
theorem tRel_first (n : Nat) : TRel ((kq n (-1 : Int)).set 0 0) (kq n 0) (kq n 0) := by
  have hz : ∀ j : Int, rd (kq n (0 : Int)) j = 0 := by
    intro j
    unfold rd
    rw [List.getD_eq_getElem?_getD, List.getElem?_replicate]
    by_cases h2 : j.toNat < n
    · rw [if_pos h2]; rfl
    · rw [if_neg h2]; rfl
  refine ⟨by simp, by simp, ⟨hz 0, ?_, hz 0⟩, fun j h0 h1 => .inl ⟨?_, hz j⟩⟩
  · unfold rd
    rw [List.getD_eq_getElem?_getD, List.getElem?_set]
    by_cases h2 : 0 < n
    · simp [h2]
    · simp [h2]
  · have h1' : j < (n : Int) := by simpa using h1
    rw [show (0 : Nat) = (0 : Int).toNat from rfl, rd_set_ne (by omega) (by omega) (by omega)]
    unfold rd
    rw [List.getD_eq_getElem?_getD, List.getElem?_replicate, if_pos (by omega)]
    simp
theorem spec_GoodTrie_is (l : List S86) : Ev (fun k => spec_GoodTrie.f k l) (goodTrie l) := by
  unfold goodTrie
  by_cases h : 1 ≤ (l.length : Int) ∧ (l.length : Int) ≤ 2000
  · rw [if_pos h]
    refine Ev.congr (f := fun k => spec_GoodTrie.l0 k l (kq l.length 0) (kq l.length 0) 0 l (l.length : Int) (([] : List S86).length : Int)) (fun k => ?_) (spec_trie_l0 h.2 l [] _ _ _ 0 rfl (by simp) (depB_first _) (tRel_first _) (by omega) (by simp))
    unfold spec_GoodTrie.f
    rw [spec_l1In_is, kz, if_pos (decide_eq_true h), if_pos (by omega), if_pos (by omega)]
    rfl
  · rw [if_neg h]
    refine Ev.congr (fun k => ?_) (Ev.now false)
    unfold spec_GoodTrie.f
    rw [spec_l1In_is, kz, if_neg (by simpa using h)]
theorem laws_szTrieNodeS_is (l : List S88) (m0 : l.length ≤ maxLen) : ∃ r, laws_szTrieNodeS.f l 1048576 = some r ∧ (¬ r < 0 → l.length ≤ 1048576) := by
  unfold laws_szTrieNodeS.f
  by_cases hc : wrap64 (1048576 - (l.length : Int)) < 0
  · rw [if_pos hc]; exact ⟨_, rfl, fun h => absurd (by omega) h⟩
  · rw [if_neg hc]; exact ⟨_, rfl, fun h => sz_ok m0 (by rw [if_neg hc]) h⟩
theorem laws_toTrieNodeS_is (k : Nat) (l : List S88) (hl : l.length ≤ 1048576) (hk : l.length < k) : laws_toTrieNodeS.f k l = some (l.map fun p => (⟨p.f0, p.f1, p.f2, p.f3⟩ : S86)) := by
  unfold laws_toTrieNodeS.f
  rw [if_pos (len_nn _), if_pos (by simp; omega)]
  have key : ∀ (rest pre : List S88) (k : Nat), l = pre ++ rest → rest.length < k →
      laws_toTrieNodeS.l0 k l (pre.map (fun p => (⟨p.f0, p.f1, p.f2, p.f3⟩ : S86)) ++ kq rest.length z86) (pre.length : Int) = some (l.map fun p => (⟨p.f0, p.f1, p.f2, p.f3⟩ : S86)) := by
    intro rest
    induction rest with
    | nil =>
      intro pre k e hk
      obtain ⟨k, rfl⟩ : ∃ m, k = m + 1 := ⟨k - 1, by omega⟩
      simp only [laws_toTrieNodeS.l0]
      rw [if_neg (by rw [e]; simp)]
      simp [e]
    | cons a rest ih =>
      intro pre k e hk
      obtain ⟨k, rfl⟩ : ∃ m, k = m + 1 := ⟨k - 1, by omega⟩
      have h1 : rd_T88 l (pre.length : Int) = a := by rw [e]; unfold rd_T88; simp
      simp only [laws_toTrieNodeS.l0]
      rw [if_pos (by rw [e]; exact lt_mid _ _ _), if_pos (len_nn _), h1]
      unfold laws_toTrieNode.f
      rw [kz, if_pos (by simp; omega), wrap_mid (rest := rest) (by rw [← e]; simp only [maxLen]; omega)]
      have := ih (pre ++ [a]) k (by rw [e]; simp) (by simp at hk; omega)
      rw [← this]
      congr 1
      have es : ((pre.map (fun p => (⟨p.f0, p.f1, p.f2, p.f3⟩ : S86))).length : Int) = (pre.length : Int) := by simp
      rw [← es, ky, List.replicate_succ, set_mid]
      simp
  have := key l [] k rfl hk
  simpa using this
theorem laws_eqTrieNode_self (a b : Int) (c : Bool) (d : Int) : laws_eqTrieNode.f a b c d a b c d = some true := by
  unfold laws_eqTrieNode.f; simp
theorem laws_eqTrieNodeS_refl (k : Nat) (l : List S86) (hl : l.length ≤ maxLen) (hk : l.length < k) : laws_eqTrieNodeS.f k l l = some true := by
  unfold laws_eqTrieNodeS.f
  rw [if_pos rfl]
  have key : ∀ (rest pre : List S86) (k : Nat), l = pre ++ rest → rest.length < k → laws_eqTrieNodeS.l0 k l l (pre.length : Int) = some true := by
    intro rest
    induction rest with
    | nil =>
      intro pre k e hk
      obtain ⟨k, rfl⟩ : ∃ m, k = m + 1 := ⟨k - 1, by omega⟩
      simp only [laws_eqTrieNodeS.l0]
      rw [if_neg (by rw [e]; simp)]
    | cons a rest ih =>
      intro pre k e hk
      obtain ⟨k, rfl⟩ : ∃ m, k = m + 1 := ⟨k - 1, by omega⟩
      simp only [laws_eqTrieNodeS.l0]
      rw [if_pos (by rw [e]; exact lt_mid _ _ _), if_pos (len_nn _), if_pos (by rw [e]; exact lt_mid _ _ _), laws_eqTrieNode_self]
      simp only [kz, if_true]
      rw [wrap_mid (rest := rest) (by rw [← e]; exact hl)]
      exact ih (pre ++ [a]) k (by rw [e]; simp) (by simp at hk; omega)
  exact key l [] k rfl hk
def kidOk (n i x : Int) : Prop := x = 0 ∨ (i + 1 ≤ x ∧ x ≤ n - 1)
theorem tput_kid {n i : Int} {D D' : List Int} {x : Int} (h : tput n i D x = some D') : kidOk n i x := by
  unfold tput at h
  by_cases h0 : x = 0
  · exact .inl h0
  · rw [if_neg h0] at h
    by_cases h1 : i + 1 ≤ x ∧ x ≤ n - 1 ∧ rd D x < 0
    · exact .inr ⟨h1.1, h1.2.1⟩
    · rw [if_neg h1] at h; cases h
theorem trieOk_kids (n : Int) : ∀ (rest : List S86) (i : Int) (D : List Int) (c : Int), trieOk n rest i D c = true → ∀ (j : Nat) (a : S86), rest[j]? = some a → (kidOk n (i + j) a.f0 ∧ kidOk n (i + j) a.f1) ∧ isVal a.f3 = true
  | [], _, _, _, _, j, a, h => by simp at h
  | b :: t, i, D, c, ht, j, a, h => by
    rw [trieOk] at ht
    by_cases hd : rd D i < 0 ∨ rd D i > 32
    · rw [if_pos hd] at ht; cases ht
    · rw [if_neg hd] at ht
      cases hok : nodeOk i b
      · rw [hok, if_neg (by decide)] at ht; cases ht
      · rw [hok, if_pos rfl] at ht
        cases hp : tput n i D b.f0 with
        | none => rw [hp] at ht; cases ht
        | some D1 =>
          rw [hp, kz] at ht
          cases hp2 : tput n i D1 b.f1 with
          | none => rw [hp2] at ht; cases ht
          | some D2 =>
            rw [hp2] at ht
            cases j with
            | zero =>
              simp at h
              subst h
              refine ⟨by simpa using ⟨tput_kid hp, tput_kid hp2⟩, ?_⟩
              unfold nodeOk at hok
              simp only [kf] at hok
              exact hok.1
            | succ j =>
              have := trieOk_kids n t (i + 1) D2 _ ht j a (by simpa using h)
              rwa [show i + 1 + (j : Int) = i + ((j + 1 : Nat) : Int) by omega] at this
theorem goodTrie_len {l : List S86} (h : goodTrie l = true) : 1 ≤ (l.length : Int) ∧ (l.length : Int) ≤ 2000 := by
  unfold goodTrie at h
  by_cases h1 : 1 ≤ (l.length : Int) ∧ (l.length : Int) ≤ 2000
  · exact h1
  · rw [if_neg h1] at h; cases h
theorem goodTrie_kids {l : List S86} (h : goodTrie l = true) {i : Int} (h0 : 0 ≤ i) (h1 : i < (l.length : Int)) : (kidOk l.length i (rd_T86 l i).f0 ∧ kidOk l.length i (rd_T86 l i).f1) ∧ isVal (rd_T86 l i).f3 = true := by
  have hl := goodTrie_len h
  unfold goodTrie at h
  rw [if_pos hl] at h
  have hi : i.toNat < l.length := by omega
  have := trieOk_kids _ l 0 _ _ h i.toNat (l[i.toNat]'hi) (List.getElem?_eq_getElem hi)
  have e : rd_T86 l i = l[i.toNat]'hi := by unfold rd_T86; rw [List.getD_eq_getElem?_getD, List.getElem?_eq_getElem hi]; rfl
  rw [e]
  rwa [show (0 : Int) + (i.toNat : Int) = i by omega] at this
def bitv (a d : Int) : Int := Go.bits .and .i64 (shr .i64 a (31 - d)) 1
theorem bitv_range (a d : Int) : bitv a d = 0 ∨ bitv a d = 1 := by
  unfold bitv
  show IntKind.i64.wrap ((BitVec.ofInt 64 _ &&& BitVec.ofInt 64 1).toNat : Int) = 0 ∨ IntKind.i64.wrap ((BitVec.ofInt 64 _ &&& BitVec.ofInt 64 1).toNat : Int) = 1
  rw [BitVec.toNat_and]
  have h := @Nat.and_le_right (BitVec.ofInt 64 (shr .i64 a (31 - d))).toNat (BitVec.ofInt 64 1).toNat
  have h1 : (BitVec.ofInt 64 1).toNat = 1 := by decide
  rw [h1] at h ⊢
  generalize (BitVec.ofInt 64 (shr .i64 a (31 - d))).toNat &&& 1 = q at h ⊢
  rw [i64_w, wrap_id (by omega) (by omega)]
  omega
theorem impl_bitOf_is (a d : Int) (h0 : 0 ≤ d) (h1 : d ≤ 31) : impl_bitOf.f a d = some (bitv a d) := by
  unfold impl_bitOf.f bitv
  rw [wrap_id (by omega) (by omega), if_pos (by omega)]
theorem spec_l2Bit_is (a d : Int) (h0 : 0 ≤ d) (h1 : d ≤ 31) : spec_l2Bit.f a d = some (bitv a d) := by
  unfold spec_l2Bit.f bitv
  rw [wrap_id (by omega) (by omega), u64_id (by omega) (by omega), if_pos (by omega)]
def halfv (a : S86) (b : Int) : Int := if b = 1 then a.f1 else a.f0
theorem impl_half_is (a : S86) (b : Int) (h : b = 0 ∨ b = 1) : impl_TrieNode_half.f a.f0 a.f1 a.f2 a.f3 b = some (halfv a b) := by
  unfold impl_TrieNode_half.f halfv
  rcases h with rfl | rfl
  · rw [if_pos rfl, if_neg (by decide)]
  · rw [if_neg (by decide), if_pos rfl]
theorem spec_half_is (a : S86) (b : Int) : spec_l2Half.f a.f0 a.f1 a.f2 a.f3 b = some (halfv a b) := by
  unfold spec_l2Half.f halfv
  by_cases h : b = 1
  · rw [if_pos h, if_pos h]
  · rw [if_neg h, if_neg h]
theorem halfv_kid {n i b : Int} {a : S86} (h : kidOk n i a.f0 ∧ kidOk n i a.f1) : kidOk n i (halfv a b) := by
  unfold halfv
  by_cases hb : b = 1
  · rw [if_pos hb]; exact h.2
  · rw [if_neg hb]; exact h.1
def KidsV (l : List S86) : Prop := ∀ i : Int, 0 ≤ i → i < (l.length : Int) → kidOk l.length i (rd_T86 l i).f0 ∧ kidOk l.length i (rd_T86 l i).f1
theorem goodTrie_KidsV {l : List S86} (h : goodTrie l = true) : KidsV l := fun _ h0 h1 => (goodTrie_kids h h0 h1).1
theorem nrd_set_ne {l : List S86} {x y : Int} {v : S86} (hx : 0 ≤ x) (hy : 0 ≤ y) (h : x ≠ y) : rd_T86 (l.set x.toNat v) y = rd_T86 l y := by
  unfold rd_T86
  have : x.toNat ≠ y.toNat := by omega
  simp only [List.getD_eq_getElem?_getD, List.getElem?_set_ne this]
theorem nrd_set_eq {l : List S86} {x : Int} {v : S86} (hx : 0 ≤ x) (h : x < (l.length : Int)) : rd_T86 (l.set x.toNat v) x = v := by
  unfold rd_T86
  have : x.toNat < l.length := by omega
  simp [List.getD_eq_getElem?_getD, List.getElem?_set, this]
theorem nrd_app {l m : List S86} {x : Int} (hx : 0 ≤ x) (h : x < (l.length : Int)) : rd_T86 (l ++ m) x = rd_T86 l x := by
  unfold rd_T86
  rw [List.getD_eq_getElem?_getD, List.getD_eq_getElem?_getD, List.getElem?_append_left (by omega)]
theorem nrd_last {l : List S86} {a : S86} : rd_T86 (l ++ [a]) (l.length : Int) = a := by unfold rd_T86; simp
def withHalf (a : S86) (b n : Int) : S86 := if b = 1 then ⟨a.f0, n, a.f2, a.f3⟩ else ⟨n, a.f1, a.f2, a.f3⟩
def insP (v a : Int) : Nat → Int → List S86 → Int → List S86
  | 0, _, l, i => l.set i.toNat ⟨(rd_T86 l i).f0, (rd_T86 l i).f1, true, v⟩
  | m + 1, d, l, i => if halfv (rd_T86 l i) (bitv a d) = 0 then insP v a m (d + 1) ((l ++ [(⟨0, 0, false, 0⟩ : S86)]).set i.toNat (withHalf (rd_T86 l i) (bitv a d) (l.length : Int))) (l.length : Int) else insP v a m (d + 1) l (halfv (rd_T86 l i) (bitv a d))
theorem KidsV.grow {l : List S86} (h : KidsV l) {i : Int} (b : Int) (h0 : 0 ≤ i) (h1 : i < (l.length : Int)) : KidsV ((l ++ [(⟨0, 0, false, 0⟩ : S86)]).set i.toNat (withHalf (rd_T86 l i) b (l.length : Int))) := by
  have hlen : ((((l ++ [(⟨0, 0, false, 0⟩ : S86)]).set i.toNat (withHalf (rd_T86 l i) b (l.length : Int))).length : Nat) : Int) = (l.length : Int) + 1 := by simp
  have up : ∀ {j x : Int}, kidOk l.length j x → kidOk ((l.length : Int) + 1) j x := fun hk => hk.elim .inl (fun hk => .inr ⟨hk.1, by omega⟩)
  intro j hj hj2
  rw [hlen] at hj2 ⊢
  by_cases e : i = j
  · subst e
    rw [nrd_set_eq h0 (by simp; omega)]
    have hk := h i h0 h1
    unfold withHalf
    by_cases hb : b = 1
    · rw [if_pos hb]; dsimp only; exact ⟨up hk.1, .inr ⟨by omega, by omega⟩⟩
    · rw [if_neg hb]; dsimp only; exact ⟨.inr ⟨by omega, by omega⟩, up hk.2⟩
  · rw [nrd_set_ne h0 hj e]
    by_cases e2 : j < (l.length : Int)
    · rw [nrd_app hj e2]
      have hk := h j hj e2
      exact ⟨up hk.1, up hk.2⟩
    · have : j = (l.length : Int) := by omega
      subst this
      rw [nrd_last]
      exact ⟨.inl rfl, .inl rfl⟩
theorem insP_len (v a : Int) : ∀ (m : Nat) (d : Int) (l : List S86) (i : Int), l.length ≤ (insP v a m d l i).length ∧ (insP v a m d l i).length ≤ l.length + m
  | 0, _, l, i => by simp [insP]
  | m + 1, d, l, i => by
    rw [insP]
    by_cases h : halfv (rd_T86 l i) (bitv a d) = 0
    · rw [if_pos h]
      have := insP_len v a m (d + 1) ((l ++ [(⟨0, 0, false, 0⟩ : S86)]).set i.toNat (withHalf (rd_T86 l i) (bitv a d) (l.length : Int))) (l.length : Int)
      simp only [kh, kb, kg] at this
      omega
    · rw [if_neg h]
      have := insP_len v a m (d + 1) l (halfv (rd_T86 l i) (bitv a d))
      omega
theorem last_set {l : List S86} {i v : Int} (h0 : 0 ≤ i) (h1 : i < (l.length : Int)) : ((some (l.set (i : Int).toNat (⟨(rd_T86 l i).f0, (rd_T86 l i).f1, true, (rd_T86 l i).f3⟩ : S86) : List S86)).bind fun y => (some (y.set (i : Int).toNat (⟨(rd_T86 y i).f0, (rd_T86 y i).f1, (rd_T86 y i).f2, v⟩ : S86)))) = some (l.set i.toNat ⟨(rd_T86 l i).f0, (rd_T86 l i).f1, true, v⟩) := by
  rw [kz, nrd_set_eq h0 h1, List.set_set]
theorem impl_inserted_l0 (v a p : Int) : ∀ (m : Nat) (d : Int) (l : List S86) (i : Int) (k : Nat), KidsV l → 0 ≤ i → i < (l.length : Int) → 0 ≤ d → d + m = p → p ≤ 32 → l.length + m ≤ 100000000 → m < k → impl_inserted.l0 k v l i p d a p = some (insP v a m d l i)
  | 0, d, l, i, k, hk, h0, h1, h2, h3, h4, h5, h6 => by
    obtain ⟨k, rfl⟩ : ∃ j, k = j + 1 := ⟨k - 1, by omega⟩
    rw [impl_inserted.l0, if_neg (by omega), if_pos h0, if_pos h1, last_set h0 h1]
    rfl
  | m + 1, d, l, i, k, hk, h0, h1, h2, h3, h4, h5, h6 => by
    obtain ⟨k, rfl⟩ : ∃ j, k = j + 1 := ⟨k - 1, by omega⟩
    have hb := bitv_range a d
    have hw : wrap64 (d + 1) = d + 1 := wrap_id (by omega) (by omega)
    rw [impl_inserted.l0, if_pos (by omega), impl_bitOf_is _ _ h2 (by omega), kz, if_pos h0, if_pos h1, impl_half_is _ _ hb, kz, insP, hw]
    by_cases h : halfv (rd_T86 l i) (bitv a d) = 0
    · rw [if_pos h, if_pos h, if_pos (by omega), kz, nrd_app h0 h1]
      have hg := hk.grow (bitv a d) h0 h1
      have ih := impl_inserted_l0 v a p m (d + 1) _ (l.length : Int) k hg (by omega) (by simp; omega) (by omega) (by omega) h4 (by simp; omega) (by omega)
      unfold withHalf at ih ⊢
      rcases hb with e | e
      · rw [if_pos e, if_pos (by simp; omega)]
        rw [if_neg (show ¬ bitv a d = 1 by omega)] at ih ⊢
        exact ih
      · rw [if_neg (show ¬ bitv a d = 0 by omega), if_pos (by simp; omega)]
        rw [if_pos e] at ih ⊢
        exact ih
    · rw [if_neg h, if_neg h]
      have hv := halfv_kid (b := bitv a d) (hk i h0 h1)
      exact impl_inserted_l0 v a p m (d + 1) l _ k hk (by rcases hv with e | e; exact absurd e h; omega) (by rcases hv with e | e; exact absurd e h; omega) (by omega) (by omega) h4 (by omega) (by omega)
theorem spec_insert_l0 (v a p : Int) : ∀ (m : Nat) (d : Int) (l : List S86) (i : Int) (k : Nat), KidsV l → 0 ≤ i → i < (l.length : Int) → 0 ≤ d → d + m = p → p ≤ 32 → l.length + m ≤ 100000000 → m < k → spec_l2Insert.l0 k l v i d a p = some (insP v a m d l i)
  | 0, d, l, i, k, hk, h0, h1, h2, h3, h4, h5, h6 => by
    obtain ⟨k, rfl⟩ : ∃ j, k = j + 1 := ⟨k - 1, by omega⟩
    rw [spec_l2Insert.l0, if_neg (by omega), if_pos h0, if_pos h1, last_set h0 h1]
    rfl
  | m + 1, d, l, i, k, hk, h0, h1, h2, h3, h4, h5, h6 => by
    obtain ⟨k, rfl⟩ : ∃ j, k = j + 1 := ⟨k - 1, by omega⟩
    have hb := bitv_range a d
    have hw : wrap64 (d + 1) = d + 1 := wrap_id (by omega) (by omega)
    rw [spec_l2Insert.l0, if_pos (by omega), spec_l2Bit_is _ _ h2 (by omega), kz, if_pos h0, if_pos h1, spec_half_is, kz, insP, hw]
    by_cases h : halfv (rd_T86 l i) (bitv a d) = 0
    · rw [if_pos h, if_pos h, if_pos (by omega), kz, nrd_app h0 h1]
      have hg := hk.grow (bitv a d) h0 h1
      have ih := spec_insert_l0 v a p m (d + 1) _ (l.length : Int) k hg (by omega) (by simp; omega) (by omega) (by omega) h4 (by simp; omega) (by omega)
      unfold withHalf at ih ⊢
      rcases hb with e | e
      · rw [if_neg (show ¬ bitv a d = 1 by omega), if_pos (by simp; omega)]
        rw [if_neg (show ¬ bitv a d = 1 by omega)] at ih ⊢
        exact ih
      · rw [if_pos e, if_pos (by simp; omega)]
        rw [if_pos e] at ih ⊢
        exact ih
    · rw [if_neg h, if_neg h]
      have hv := halfv_kid (b := bitv a d) (hk i h0 h1)
      exact spec_insert_l0 v a p m (d + 1) l _ k hk (by rcases hv with e | e; exact absurd e h; omega) (by rcases hv with e | e; exact absurd e h; omega) (by omega) (by omega) h4 (by omega) (by omega)
theorem impl_inserted_is (l : List S86) (a p v : Int) (k : Nat) (hk : KidsV l) (h1 : 1 ≤ l.length) (h2 : l.length ≤ 1000000) (h3 : 0 ≤ p) (h4 : p ≤ 32) (h5 : 33 ≤ k) : impl_inserted.f k l a p v = some (insP v a p.toNat 0 l 0) := by
  unfold impl_inserted.f slices_Clone_impl_TrieNode_impl_TrieNode.f
  rw [if_pos (by omega), kz]
  exact impl_inserted_l0 v a p p.toNat 0 l 0 k hk (by omega) (by omega) (by omega) (by omega) h4 (by omega) (by omega)
theorem spec_l2Insert_is (l : List S86) (a p v : Int) (k : Nat) (hk : KidsV l) (h1 : 1 ≤ l.length) (h2 : l.length ≤ 1000000) (h3 : 0 ≤ p) (h4 : p ≤ 32) (h5 : 33 ≤ k) : spec_l2Insert.f k l a p v = some (insP v a p.toNat 0 l 0) := by
  unfold spec_l2Insert.f
  exact spec_insert_l0 v a p p.toNat 0 l 0 k hk (by omega) (by omega) (by omega) (by omega) h4 (by omega) (by omega)
def mk_Node (q : Int) : Nat → List S86
  | 0 => []
  | n + 1 => ⟨q, q + 1, (Int.tmod (q + 2) 3 == 0), q + 3⟩ :: mk_Node (q + 4) n
theorem mk_Node_len (q : Int) (n : Nat) : (mk_Node q n).length = n := by
  induction n generalizing q with
  | zero => rfl
  | succ n ih => simp [mk_Node, ih]
theorem node_mid (pre : List S86) (a : S86) (rest : List S86) : rd_T86 (pre ++ a :: rest) (pre.length : Int) = a := rdm_Node _ _ _
theorem laws_markTrieNodeS_is (l : List S86) (hl : l.length ≤ 1000000000) (q : Int) (hq : 0 ≤ q) (hq2 : q ≤ 1000000000000) (k : Nat) (hk : l.length < k) : laws_markTrieNodeS.f k l q = some (q + 4 * l.length, mk_Node q l.length) := by
  have key : ∀ (rest pre : List S86) (k : Nat) (q : Int), (pre ++ rest).length ≤ 1000000000 → 0 ≤ q → q + 4 * rest.length ≤ 20000000000000 → rest.length < k → laws_markTrieNodeS.l0 k (pre ++ rest) q (pre.length : Int) = some (q + 4 * rest.length, pre ++ mk_Node q rest.length) := by
    intro rest
    induction rest with
    | nil =>
      intro pre k q _ _ _ hk
      obtain ⟨k, rfl⟩ : ∃ m, k = m + 1 := ⟨k - 1, by omega⟩
      rw [laws_markTrieNodeS.l0, if_neg (by simp)]
      simp [mk_Node]
    | cons a rest ih =>
      intro pre k q hp h0 h1 hk
      obtain ⟨k, rfl⟩ : ∃ m, k = m + 1 := ⟨k - 1, by omega⟩
      simp only [ky] at h1 hk
      rw [laws_markTrieNodeS.l0, if_pos (lt_mid _ _ _), if_pos (len_nn _)]
      simp only [kz, set_mid, node_mid]
      rw [wrap_id (x := q + 1) (by omega) (by omega), wrap_id (x := q + 1 + 1) (by omega) (by omega), wrap_id (x := q + 1 + 1 + 1) (by omega) (by omega), wrap_id (x := q + 1 + 1 + 1 + 1) (by omega) (by omega), wrap_mid (pre := pre) (a := a) (rest := rest) (by simp only [maxLen]; omega)]
      have := ih (pre ++ [(⟨q, q + 1, (Int.tmod (q + 2) 3 == 0), q + 3⟩ : S86)]) k (q + 4) (by simp at hp ⊢; omega) (by omega) (by omega) (by omega)
      simp only [kc, List.singleton_append] at this
      rw [show q + 1 + 1 + 1 + 1 = q + 4 by omega, show q + 1 + 1 + 1 = q + 3 by omega, show q + 1 + 1 = q + 2 by omega, show ((pre ++ [a]).length : Int) = ((pre ++ [(⟨q, q + 1, (Int.tmod (q + 2) 3 == 0), q + 3⟩ : S86)]).length : Int) by simp, this]
      simp only [ky, mk_Node]
      congr 2
      omega
  have := key l [] k q (by simpa using hl) hq (by omega) hk
  simpa [laws_markTrieNodeS.f] using this
theorem laws_heldTrieNodeS_is (n : Nat) (hn : n ≤ 1000000000) (q : Int) (hq : 0 ≤ q) (hq2 : q ≤ 1000000000000) (k : Nat) (hk : n < k) : laws_heldTrieNodeS.f k (mk_Node q n) q = some (q + 4 * n) := by
  have key : ∀ (n : Nat) (pre : List S86) (k : Nat) (q : Int), pre.length + n ≤ 1000000000 → 0 ≤ q → q + 4 * n ≤ 20000000000000 → n < k → laws_heldTrieNodeS.l0 k (pre ++ mk_Node q n) q (pre.length : Int) = some (q + 4 * n) := by
    intro n
    induction n with
    | zero =>
      intro pre k q _ _ _ hk
      obtain ⟨k, rfl⟩ : ∃ m, k = m + 1 := ⟨k - 1, by omega⟩
      rw [laws_heldTrieNodeS.l0, if_neg (by simp [mk_Node])]
      simp
    | succ n ih =>
      intro pre k q hp h0 h1 hk
      obtain ⟨k, rfl⟩ : ∃ m, k = m + 1 := ⟨k - 1, by omega⟩
      have hlen : (pre ++ (⟨q, q + 1, (Int.tmod (q + 2) 3 == 0), q + 3⟩ : S86) :: mk_Node (q + 4) n).length ≤ maxLen := by simp [mk_Node_len, maxLen]; omega
      simp only [mk_Node]
      rw [laws_heldTrieNodeS.l0, if_pos (lt_mid _ _ _), if_pos (len_nn _), node_mid]
      dsimp only
      rw [if_pos rfl, wrap_id (x := q + 1) (by omega) (by omega), wrap_id (x := q + 1 + 1) (by omega) (by omega), wrap_id (x := q + 1 + 1 + 1) (by omega) (by omega), wrap_id (x := q + 1 + 1 + 1 + 1) (by omega) (by omega), if_pos rfl, show q + 1 + 1 + 1 + 1 = q + 4 by omega, show q + 1 + 1 + 1 = q + 3 by omega, show q + 1 + 1 = q + 2 by omega, if_neg (by simp), if_pos rfl, wrap_mid (rest := mk_Node (q + 4) n) hlen]
      have := ih (pre ++ [(⟨q, q + 1, (Int.tmod (q + 2) 3 == 0), q + 3⟩ : S86)]) k (q + 4) (by simp; omega) (by omega) (by omega) (by omega)
      simp only [kc, List.singleton_append] at this
      rw [this]
      congr 1
      omega
  have := key n [] k q (by simpa using hn) hq (by omega) hk
  simpa [laws_heldTrieNodeS.f] using this
def walkP (t : List S86) : Nat → Int → Int → Int → List S39 → List S39
  | 0, i, a, n, out => if (rd_T86 t i).f2 = true then out ++ [⟨⟨a, n⟩, (rd_T86 t i).f3⟩] else out
  | m + 1, i, a, n, out =>
    let o1 := if (rd_T86 t i).f2 = true then out ++ [⟨⟨a, n⟩, (rd_T86 t i).f3⟩] else out
    let o2 := if (rd_T86 t i).f0 = 0 then o1 else walkP t m (rd_T86 t i).f0 a (n + 1) o1
    if (rd_T86 t i).f1 = 0 then o2 else walkP t m (rd_T86 t i).f1 (a + sz (n + 1)) (n + 1) o2
theorem walkP_len (t : List S86) : ∀ (m : Nat) (i a n : Int) (out : List S39), (walkP t m i a n out).length + 1 ≤ out.length + 2 ^ (m + 1)
  | 0, i, a, n, out => by
    rw [walkP]
    by_cases h : (rd_T86 t i).f2 = true
    · rw [if_pos h]; simp
    · rw [if_neg h]; simp; try omega
  | m + 1, i, a, n, out => by
    rw [walkP]
    have h1 : (if (rd_T86 t i).f2 = true then out ++ [⟨⟨a, n⟩, (rd_T86 t i).f3⟩] else out).length ≤ out.length + 1 := by
      by_cases h : (rd_T86 t i).f2 = true
      · rw [if_pos h]; simp
      · rw [if_neg h]; omega
    generalize (if (rd_T86 t i).f2 = true then out ++ [⟨⟨a, n⟩, (rd_T86 t i).f3⟩] else out) = o1 at h1 ⊢
    have hp : (2 : Nat) ^ (m + 1 + 1) = 2 ^ (m + 1) + 2 ^ (m + 1) := by rw [kn]; omega
    have hq : 1 ≤ (2 : Nat) ^ (m + 1) := Nat.one_le_two_pow
    have h2 : (if (rd_T86 t i).f0 = 0 then o1 else walkP t m (rd_T86 t i).f0 a (n + 1) o1).length + 1 ≤ o1.length + 2 ^ (m + 1) := by
      by_cases h : (rd_T86 t i).f0 = 0
      · rw [if_pos h]; omega
      · rw [if_neg h]; exact walkP_len t m _ _ _ _
    generalize (if (rd_T86 t i).f0 = 0 then o1 else walkP t m (rd_T86 t i).f0 a (n + 1) o1) = o2 at h2 ⊢
    by_cases h : (rd_T86 t i).f1 = 0
    · rw [if_pos h]; omega
    · rw [if_neg h]
      have := walkP_len t m (rd_T86 t i).f1 (a + sz (n + 1)) (n + 1) o2
      omega
theorem walk_same {t : List S86} (hk : KidsV t) : ∀ (m : Nat) (i a n : Int) (out : List S39) (k : Nat), 0 ≤ i → i < (t.length : Int) → 0 ≤ n → n + m = 32 → 0 ≤ a → a + sz n ≤ 4294967296 → out.length + 2 ^ (m + 1) ≤ 100000000000 → 2 * m + 2 ≤ k →
    spec_l2Walk.f k t i a n out = some (walkP t m i a n out) ∧ impl_entriesBelow.f k t i a n out = some (walkP t m i a n out)
  | 0, i, a, n, out, k, i0, i1, n0, hn, a0, a1, ho, hkk => by
    obtain ⟨k, rfl⟩ : ∃ j, k = j + 1 + 1 := ⟨k - 2, by omega⟩
    rw [spec_l2Walk.f, impl_entriesBelow.f, if_pos i0, if_pos i0, if_pos i1, if_pos i1, walkP]
    by_cases h : (rd_T86 t i).f2 = true
    · rw [if_pos h, if_pos h, if_pos h, if_pos (by omega), if_pos (by omega), spec_l2Walk.j0, impl_entriesBelow.j0, if_pos (show n = 32 by omega), if_pos (show n = 32 by omega)]
      exact ⟨rfl, rfl⟩
    · rw [if_neg h, if_neg h, if_neg h, spec_l2Walk.j0, impl_entriesBelow.j0, if_pos (show n = 32 by omega), if_pos (show n = 32 by omega)]
      exact ⟨rfl, rfl⟩
  | m + 1, i, a, n, out, k, i0, i1, n0, hn, a0, a1, ho, hkk => by
    obtain ⟨k, rfl⟩ : ∃ j, k = j + 1 + 1 := ⟨k - 2, by omega⟩
    have hki := hk i i0 i1
    have hs := sz_succ n0 (by omega)
    have hs1 := sz_pos (n + 1)
    have hp : (2 : Nat) ^ (m + 1 + 1) = 2 ^ (m + 1) + 2 ^ (m + 1) := by rw [kn]; omega
    have hq : 2 ≤ (2 : Nat) ^ (m + 1) := by have := @Nat.one_le_two_pow m; rw [kn]; omega
    have mid : ∀ o1 : List S39, o1.length ≤ out.length + 1 →
        spec_l2Walk.j0 (k + 1) t i o1 a n = some (if (rd_T86 t i).f1 = 0 then (if (rd_T86 t i).f0 = 0 then o1 else walkP t m (rd_T86 t i).f0 a (n + 1) o1) else walkP t m (rd_T86 t i).f1 (a + sz (n + 1)) (n + 1) (if (rd_T86 t i).f0 = 0 then o1 else walkP t m (rd_T86 t i).f0 a (n + 1) o1)) ∧
        impl_entriesBelow.j0 (k + 1) t o1 a n (rd_T86 t i).f0 (rd_T86 t i).f1 (rd_T86 t i).f2 (rd_T86 t i).f3 = some (if (rd_T86 t i).f1 = 0 then (if (rd_T86 t i).f0 = 0 then o1 else walkP t m (rd_T86 t i).f0 a (n + 1) o1) else walkP t m (rd_T86 t i).f1 (a + sz (n + 1)) (n + 1) (if (rd_T86 t i).f0 = 0 then o1 else walkP t m (rd_T86 t i).f0 a (n + 1) o1)) := by
      intro o1 h1
      rw [spec_l2Walk.j0, impl_entriesBelow.j0, if_neg (show ¬ n = 32 by omega), if_neg (show ¬ n = 32 by omega), spec_l1Halves_is n0 (by omega) a0 (by omega), impl_Prefix_halves_is n0 (by omega) a0 (by omega), kz, kz, if_pos i0, if_pos i1]
      dsimp only
      by_cases z0 : (rd_T86 t i).f0 = 0
      · rw [if_pos z0, if_neg (show ¬ (rd_T86 t i).f0 > 0 by omega)]
        by_cases z1 : (rd_T86 t i).f1 = 0
        · rw [if_pos z1, if_neg (show ¬ (rd_T86 t i).f1 > 0 by omega), if_pos z1, if_pos z0]
          exact ⟨rfl, rfl⟩
        · have hv : i + 1 ≤ (rd_T86 t i).f1 ∧ (rd_T86 t i).f1 ≤ (t.length : Int) - 1 := hki.2.elim (fun e => absurd e z1) id
          obtain ⟨r1, r2⟩ := walk_same hk m (rd_T86 t i).f1 (a + sz (n + 1)) (n + 1) o1 k (by omega) (by omega) (by omega) (by omega) (by omega) (by omega) (by omega) (by omega)
          rw [if_neg z1, if_pos (show (rd_T86 t i).f1 > 0 by omega), if_neg z1, if_pos z0, r1, r2]
          exact ⟨rfl, rfl⟩
      · have hv0 : i + 1 ≤ (rd_T86 t i).f0 ∧ (rd_T86 t i).f0 ≤ (t.length : Int) - 1 := hki.1.elim (fun e => absurd e z0) id
        obtain ⟨q1, q2⟩ := walk_same hk m (rd_T86 t i).f0 a (n + 1) o1 k (by omega) (by omega) (by omega) (by omega) a0 (by omega) (by omega) (by omega)
        have hl := walkP_len t m (rd_T86 t i).f0 a (n + 1) o1
        rw [if_neg z0, if_pos (show (rd_T86 t i).f0 > 0 by omega), q1, q2, kz, kz]
        by_cases z1 : (rd_T86 t i).f1 = 0
        · rw [if_pos z1, if_neg (show ¬ (rd_T86 t i).f1 > 0 by omega), if_pos z1, if_neg z0]
          exact ⟨rfl, rfl⟩
        · have hv : i + 1 ≤ (rd_T86 t i).f1 ∧ (rd_T86 t i).f1 ≤ (t.length : Int) - 1 := hki.2.elim (fun e => absurd e z1) id
          obtain ⟨r1, r2⟩ := walk_same hk m (rd_T86 t i).f1 (a + sz (n + 1)) (n + 1) (walkP t m (rd_T86 t i).f0 a (n + 1) o1) k (by omega) (by omega) (by omega) (by omega) (by omega) (by omega) (by omega) (by omega)
          rw [if_neg z1, if_pos (show (rd_T86 t i).f1 > 0 by omega), if_neg z1, if_neg z0, r1, r2]
          exact ⟨rfl, rfl⟩
    rw [spec_l2Walk.f, impl_entriesBelow.f, if_pos i0, if_pos i0, if_pos i1, if_pos i1, walkP]
    by_cases h : (rd_T86 t i).f2 = true
    · simp only [if_pos h]
      rw [if_pos (show out.length < 5864062014805 by omega), if_pos (show out.length < 5864062014805 by omega)]
      exact mid _ (by simp)
    · simp only [if_neg h]
      exact mid _ (by omega)
def cntH (l : List S86) : Nat := l.countP (fun a => a.f2)
structure TInv (l : List S86) (dep par : Int → Int) (cur : Int) : Prop where
  dep0 : dep 0 = 0
  kid : ∀ i b : Int, 0 ≤ i → i < (l.length : Int) → (b = 0 ∨ b = 1) → halfv (rd_T86 l i) b ≠ 0 → i < halfv (rd_T86 l i) b ∧ halfv (rd_T86 l i) b < (l.length : Int) ∧ dep (halfv (rd_T86 l i) b) = dep i + 1 ∧ par (halfv (rd_T86 l i) b) = 2 * i + b
  up : ∀ x : Int, 0 < x → x < (l.length : Int) → ∃ j b : Int, 0 ≤ j ∧ j < x ∧ (b = 0 ∨ b = 1) ∧ halfv (rd_T86 l j) b = x
  rng : ∀ i : Int, 0 ≤ i → i < (l.length : Int) → 0 ≤ dep i ∧ dep i ≤ 32
  val : ∀ i : Int, 0 ≤ i → i < (l.length : Int) → isVal (rd_T86 l i).f3 = true ∧ ((rd_T86 l i).f2 = true ∨ (rd_T86 l i).f3 = 0)
  full : ∀ i : Int, 0 < i → i < (l.length : Int) → i ≠ cur → (rd_T86 l i).f2 = true ∨ (rd_T86 l i).f0 ≠ 0 ∨ (rd_T86 l i).f1 ≠ 0
theorem halfv_zero (a : S86) : halfv a 0 = a.f0 := rfl
theorem halfv_one (a : S86) : halfv a 1 = a.f1 := rfl
theorem TInv.kids {l : List S86} {dep par : Int → Int} {cur : Int} (h : TInv l dep par cur) : KidsV l := fun i h0 h1 => by
  constructor
  · by_cases e : (rd_T86 l i).f0 = 0
    · exact .inl e
    · have := h.kid i 0 h0 h1 (.inl rfl) e
      rw [halfv_zero] at this
      exact .inr ⟨by omega, by omega⟩
  · by_cases e : (rd_T86 l i).f1 = 0
    · exact .inl e
    · have := h.kid i 1 h0 h1 (.inr rfl) e
      rw [halfv_one] at this
      exact .inr ⟨by omega, by omega⟩
def DS (l : List S86) (dep par : Int → Int) (m : Int) (D : List Int) : Prop := D.length = l.length ∧ ∀ x : Int, 0 ≤ x → x < (l.length : Int) → rd D x = if x = 0 ∨ par x < m then dep x else -1
theorem TInv.par_lt {l : List S86} {dep par : Int → Int} {cur : Int} (h : TInv l dep par cur) {x : Int} (h0 : 0 < x) (h1 : x < (l.length : Int)) : par x < 2 * x := by
  obtain ⟨j, b, j0, j1, hb, e⟩ := h.up x h0 h1
  have := (h.kid j b j0 (by omega) hb (by omega)).2.2.2
  rw [e] at this
  omega
theorem DS.step {l : List S86} {dep par : Int → Int} {cur : Int} (h : TInv l dep par cur) {i b : Int} {D : List Int} (h0 : 0 ≤ i) (h1 : i < (l.length : Int)) (hb : b = 0 ∨ b = 1) (hD : DS l dep par (2 * i + b) D) : ∃ D', tput (l.length : Int) i D (halfv (rd_T86 l i) b) = some D' ∧ DS l dep par (2 * i + b + 1) D' := by
  have hdi : rd D i = dep i := by
    rw [hD.2 i h0 h1, if_pos]
    by_cases e : i = 0
    · exact .inl e
    · have := h.par_lt (x := i) (by omega) h1
      exact .inr (by omega)
  unfold tput
  by_cases e : halfv (rd_T86 l i) b = 0
  · rw [if_pos e]
    refine ⟨D, rfl, hD.1, fun x x0 x1 => ?_⟩
    rw [hD.2 x x0 x1]
    by_cases hx : x = 0
    · rw [if_pos (.inl hx), if_pos (.inl hx)]
    · obtain ⟨j, c, j0, j1, hc, e2⟩ := h.up x (by omega) x1
      have hp := (h.kid j c j0 (by omega) hc (by omega)).2.2.2
      rw [e2] at hp
      have hne : par x ≠ 2 * i + b := fun hh => by
        have ej : j = i := by omega
        have ec : c = b := by omega
        rw [ej, ec, e] at e2
        exact hx e2.symm
      by_cases hlt : par x < 2 * i + b
      · rw [if_pos (.inr hlt), if_pos (.inr (by omega))]
      · rw [if_neg (by omega), if_neg (by omega)]
  · obtain ⟨k1, k2, k3, k4⟩ := h.kid i b h0 h1 hb e
    have hx : rd D (halfv (rd_T86 l i) b) < 0 := by
      rw [hD.2 _ (by omega) k2, if_neg (by omega)]
      omega
    rw [if_neg e, if_pos ⟨by omega, by omega, hx⟩]
    refine ⟨_, rfl, by rw [kh]; exact hD.1, fun x x0 x1 => ?_⟩
    have hDl := hD.1
    by_cases ex : halfv (rd_T86 l i) b = x
    · rw [← ex, rd_set_eq (by omega) (by omega), hdi, if_pos (.inr (by omega)), k3]
    · rw [rd_set_ne (by omega) x0 ex, hD.2 x x0 x1]
      by_cases hz : x = 0
      · rw [if_pos (.inl hz), if_pos (.inl hz)]
      · obtain ⟨j, c, j0, j1, hc, e2⟩ := h.up x (by omega) x1
        have hp := (h.kid j c j0 (by omega) hc (by omega)).2.2.2
        rw [e2] at hp
        have hne : par x ≠ 2 * i + b := fun hh => by
          have ej : j = i := by omega
          have ec : c = b := by omega
          rw [ej, ec] at e2
          exact ex e2
        by_cases hlt : par x < 2 * i + b
        · rw [if_pos (.inr hlt), if_pos (.inr (by omega))]
        · rw [if_neg (by omega), if_neg (by omega)]
theorem nrd_mid {l pre rest : List S86} {a : S86} (e : l = pre ++ a :: rest) : rd_T86 l (pre.length : Int) = a := by rw [e]; exact rdm_Node _ _ _
theorem trieOk_of {l : List S86} {dep par : Int → Int} (h : TInv l dep par 0) : ∀ (rest pre : List S86) (D : List Int) (c : Int), l = pre ++ rest → DS l dep par (2 * (pre.length : Int)) D → c + cntH rest ≤ 30 → trieOk (l.length : Int) rest (pre.length : Int) D c = true
  | [], pre, D, c, _, _, hc => by
    rw [trieOk]
    simp [cntH] at hc
    exact decide_eq_true hc
  | a :: rest, pre, D, c, e, hD, hc => by
    have hlen : (pre.length : Int) < (l.length : Int) := by rw [e]; simp; omega
    have ea := nrd_mid e
    have h0 : (0 : Int) ≤ (pre.length : Int) := by omega
    have hr := h.rng _ h0 hlen
    have hdi : rd D (pre.length : Int) = dep (pre.length : Int) := by
      rw [hD.2 _ h0 hlen, if_pos]
      by_cases e0 : (pre.length : Int) = 0
      · exact .inl e0
      · have := h.par_lt (x := (pre.length : Int)) (by omega) hlen
        exact .inr (by omega)
    obtain ⟨v1, v2⟩ := h.val _ h0 hlen
    have hfull := h.full (pre.length : Int)
    obtain ⟨D1, t1, d1⟩ := DS.step h h0 hlen (.inl rfl) (by rw [kl]; exact hD)
    obtain ⟨D2, t2, d2⟩ := DS.step h h0 hlen (b := 1) (.inr rfl) (by rw [kl] at d1; exact d1)
    rw [ea] at v1 v2 hfull t1 t2
    rw [halfv_zero] at t1
    rw [halfv_one] at t2
    have hok : nodeOk (pre.length : Int) a = true := by
      unfold nodeOk
      rw [v1, ka]
      cases h2 : a.f2 with
      | true => rfl
      | false =>
        rw [ks]
        have h3 : a.f3 = 0 := v2.resolve_left (by rw [h2]; decide)
        rw [h3]
        by_cases hp : 0 < (pre.length : Int)
        · have := (hfull hp hlen (by omega)).resolve_left (by rw [h2]; decide)
          rcases this with h4 | h4
          · simp [h4]
          · simp [h4]
        · have hp' : ¬ 0 < pre.length := by omega
          simp [hp']
    rw [trieOk, if_neg (by rw [hdi]; omega), if_pos hok, t1, kz, t2]
    dsimp only
    have hcnt : cntH (a :: rest) = cntH rest + if a.f2 = true then 1 else 0 := by unfold cntH; rw [kk]
    rw [hcnt] at hc
    have ih := trieOk_of h rest (pre ++ [a]) D2 (if a.f2 = true then c + 1 else c) (by rw [e]; simp) (by
      have : 2 * (pre.length : Int) + 1 + 1 = 2 * ((pre ++ [a]).length : Int) := by simp; omega
      rw [← this]; exact d2) (by split <;> rename_i hh <;> simp only [hh, if_true, if_false] at hc <;> (try simp at hc) <;> omega)
    simpa using ih
theorem goodTrie_of {l : List S86} {dep par : Int → Int} (h : TInv l dep par 0) (h1 : 1 ≤ l.length) (h2 : l.length ≤ 2000) (hc : cntH l ≤ 30) (hp : ∀ x, 0 < x → x < (l.length : Int) → 0 ≤ par x) : goodTrie l = true := by
  unfold goodTrie
  rw [if_pos ⟨by omega, by omega⟩]
  refine trieOk_of h l [] _ 0 rfl ⟨by simp, fun x x0 x1 => ?_⟩ (by rw [Int.zero_add]; exact_mod_cast hc)
  by_cases e : x = 0
  · subst e
    rw [if_pos (.inl rfl), h.dep0]
    show rd ((kq l.length (-1 : Int)).set (0 : Int).toNat 0) 0 = 0
    exact rd_set_eq (x := 0) (by omega) (by rw [ku]; omega)
  · have hpx := hp x (by omega) x1
    rw [if_neg (by simp; omega)]
    have := rd_set_ne (D := kq l.length (-1 : Int)) (x := 0) (y := x) (v := 0) (by omega) x0 (fun h => e h.symm)
    rw [show ((0 : Int).toNat) = 0 from rfl] at this
    rw [this]
    unfold rd
    rw [List.getD_eq_getElem?_getD, List.getElem?_replicate, if_pos (by omega)]
    rfl
theorem cntH_set : ∀ (l : List S86) (i : Nat) (a : S86), cntH (l.set i a) ≤ cntH l + 1
  | [], i, a => by simp [cntH]
  | x :: l, 0, a => by
    unfold cntH
    rw [List.set_cons_zero, kk, kk]
    split <;> split <;> omega
  | x :: l, i + 1, a => by
    have := cntH_set l i a
    unfold cntH at *
    rw [List.set_cons_succ, kk, kk]
    omega
theorem cntH_set_same : ∀ (l : List S86) (i : Nat) (a : S86), (∀ h : i < l.length, a.f2 = (l[i]).f2) → cntH (l.set i a) = cntH l
  | [], i, a, _ => by simp [cntH]
  | x :: l, 0, a, h => by
    have := h (by simp)
    unfold cntH
    rw [List.set_cons_zero, kk, kk, this]
    rfl
  | x :: l, i + 1, a, h => by
    have := cntH_set_same l i a (fun hi => h (by rw [ky]; omega))
    unfold cntH at *
    rw [List.set_cons_succ, kk, kk, this]
theorem halfv_with (a : S86) {b b' n : Int} (hb : b = 0 ∨ b = 1) (hb' : b' = 0 ∨ b' = 1) : halfv (withHalf a b n) b' = if b = b' then n else halfv a b' := by
  rcases hb with rfl | rfl <;> rcases hb' with rfl | rfl <;> simp [halfv, withHalf]
theorem with_f2 (a : S86) (b n : Int) : (withHalf a b n).f2 = a.f2 ∧ (withHalf a b n).f3 = a.f3 := by
  unfold withHalf; split <;> exact ⟨rfl, rfl⟩
theorem with_ne (a : S86) (b : Int) {n : Int} (hn : n ≠ 0) : (withHalf a b n).f0 ≠ 0 ∨ (withHalf a b n).f1 ≠ 0 := by
  unfold withHalf; split
  · exact .inr hn
  · exact .inl hn
theorem TInv.grow {l : List S86} {dep par : Int → Int} {i b : Int} (h : TInv l dep par i) (h0 : 0 ≤ i) (h1 : i < (l.length : Int)) (hb : b = 0 ∨ b = 1) (hz : halfv (rd_T86 l i) b = 0) (hd : dep i + 1 ≤ 32) :
    TInv ((l ++ [(⟨0, 0, false, 0⟩ : S86)]).set i.toNat (withHalf (rd_T86 l i) b (l.length : Int))) (fun x => if x = (l.length : Int) then dep i + 1 else dep x) (fun x => if x = (l.length : Int) then 2 * i + b else par x) (l.length : Int) := by
  have hlen : ((((l ++ [(⟨0, 0, false, 0⟩ : S86)]).set i.toNat (withHalf (rd_T86 l i) b (l.length : Int))).length : Nat) : Int) = (l.length : Int) + 1 := by simp
  have at_i : rd_T86 ((l ++ [(⟨0, 0, false, 0⟩ : S86)]).set i.toNat (withHalf (rd_T86 l i) b (l.length : Int))) i = withHalf (rd_T86 l i) b (l.length : Int) := nrd_set_eq h0 (by simp; omega)
  have at_n : rd_T86 ((l ++ [(⟨0, 0, false, 0⟩ : S86)]).set i.toNat (withHalf (rd_T86 l i) b (l.length : Int))) (l.length : Int) = ⟨0, 0, false, 0⟩ := by
    rw [nrd_set_ne h0 (by omega) (by omega)]; exact nrd_last
  have at_j : ∀ j : Int, 0 ≤ j → j < (l.length : Int) → j ≠ i → rd_T86 ((l ++ [(⟨0, 0, false, 0⟩ : S86)]).set i.toNat (withHalf (rd_T86 l i) b (l.length : Int))) j = rd_T86 l j := fun j j0 j1 hne => by
    rw [nrd_set_ne h0 j0 (Ne.symm hne)]; exact nrd_app j0 j1
  refine ⟨?_, fun j c j0 j1 hc hne => ?_, fun x x0 x1 => ?_, fun j j0 j1 => ?_, fun j j0 j1 => ?_, fun j j0 j1 hne => ?_⟩
  · try dsimp only
    rw [if_neg (by omega)]; exact h.dep0
  · rw [hlen] at j1 ⊢
    try dsimp only
    by_cases e : j = i
    · subst e
      rw [at_i, halfv_with _ hb hc] at hne ⊢
      by_cases e2 : b = c
      · rw [if_pos e2, if_pos rfl, if_pos rfl, if_neg (by omega)]
        exact ⟨h1, by omega, rfl, by omega⟩
      · rw [if_neg e2] at hne ⊢
        obtain ⟨k1, k2, k3, k4⟩ := h.kid j c j0 h1 hc hne
        rw [if_neg (by omega), if_neg (by omega), if_neg (by omega)]
        exact ⟨k1, by omega, k3, k4⟩
    · by_cases e2 : j = (l.length : Int)
      · subst e2
        rw [at_n] at hne
        exact (hne (by unfold halfv; split <;> rfl)).elim
      · rw [at_j j j0 (by omega) e] at hne ⊢
        obtain ⟨k1, k2, k3, k4⟩ := h.kid j c j0 (by omega) hc hne
        rw [if_neg (by omega), if_neg (by omega), if_neg (by omega)]
        exact ⟨k1, by omega, k3, k4⟩
  · rw [hlen] at x1
    by_cases e : x = (l.length : Int)
    · exact ⟨i, b, h0, by omega, hb, by rw [at_i, halfv_with _ hb hb, if_pos rfl, e]⟩
    · obtain ⟨j, c, j0, j1, hc, e2⟩ := h.up x x0 (by omega)
      refine ⟨j, c, j0, j1, hc, ?_⟩
      by_cases e3 : j = i
      · subst e3
        have : b ≠ c := fun hh => by rw [← hh, hz] at e2; omega
        rw [at_i, halfv_with _ hb hc, if_neg this, e2]
      · rw [at_j j j0 (by omega) e3, e2]
  · rw [hlen] at j1
    try dsimp only
    split
    · have := h.rng i h0 h1; omega
    · exact h.rng j j0 (by omega)
  · rw [hlen] at j1
    by_cases e : j = i
    · subst e
      have := h.val j j0 h1
      rw [at_i, (with_f2 _ _ _).1, (with_f2 _ _ _).2]
      exact this
    · by_cases e2 : j = (l.length : Int)
      · subst e2
        rw [at_n]
        exact ⟨by decide, .inr rfl⟩
      · rw [at_j j j0 (by omega) e]
        exact h.val j j0 (by omega)
  · rw [hlen] at j1
    by_cases e : j = i
    · subst e
      rw [at_i]
      exact .inr (with_ne _ _ (by omega))
    · rw [at_j j (by omega) (by omega) e]
      exact h.full j j0 (by omega) e
theorem TInv.go {l : List S86} {dep par : Int → Int} {i b : Int} (h : TInv l dep par i) (h0 : 0 ≤ i) (h1 : i < (l.length : Int)) (hz : halfv (rd_T86 l i) b ≠ 0) (n : Int) : TInv l dep par n := by
  refine ⟨h.dep0, h.kid, h.up, h.rng, h.val, fun j j0 j1 _ => ?_⟩
  by_cases e : j = i
  · subst e
    right
    by_cases hb : b = 1
    · right; intro hh; exact hz (by unfold halfv; rw [if_pos hb]; exact hh)
    · left; intro hh; exact hz (by unfold halfv; rw [if_neg hb]; exact hh)
  · exact h.full j j0 j1 e
theorem insP_inv (v a : Int) (hv : isVal v = true) : ∀ (m : Nat) (d : Int) (l : List S86) (i : Int) (dep par : Int → Int), TInv l dep par i → 0 ≤ i → i < (l.length : Int) → dep i = d → d + m ≤ 32 → (∀ x, 0 < x → x < (l.length : Int) → 0 ≤ par x) →
    ∃ dep' par', TInv (insP v a m d l i) dep' par' 0 ∧ (∀ x, 0 < x → x < ((insP v a m d l i).length : Int) → 0 ≤ par' x) ∧ cntH (insP v a m d l i) ≤ cntH l + 1
  | 0, d, l, i, dep, par, h, h0, h1, hd, hm, hp => by
    have at_i : rd_T86 (l.set i.toNat ⟨(rd_T86 l i).f0, (rd_T86 l i).f1, true, v⟩) i = ⟨(rd_T86 l i).f0, (rd_T86 l i).f1, true, v⟩ := nrd_set_eq h0 h1
    have at_j : ∀ j : Int, 0 ≤ j → j ≠ i → rd_T86 (l.set i.toNat ⟨(rd_T86 l i).f0, (rd_T86 l i).f1, true, v⟩) j = rd_T86 l j := fun j j0 hne => nrd_set_ne h0 j0 (Ne.symm hne)
    have hh : ∀ (j c : Int), 0 ≤ j → halfv (rd_T86 (l.set i.toNat ⟨(rd_T86 l i).f0, (rd_T86 l i).f1, true, v⟩) j) c = halfv (rd_T86 l j) c := fun j c j0 => by
      by_cases e : j = i
      · subst e; rw [at_i]; unfold halfv; split <;> rfl
      · rw [at_j j j0 e]
    rw [insP]
    refine ⟨dep, par, ⟨h.dep0, fun j c j0 j1 hc hne => ?_, fun x x0 x1 => ?_, fun j j0 j1 => ?_, fun j j0 j1 => ?_, fun j j0 j1 _ => ?_⟩, fun x x0 x1 => ?_, cntH_set _ _ _⟩
    · rw [kh] at j1 ⊢
      rw [hh j c j0] at hne ⊢
      exact h.kid j c j0 j1 hc hne
    · rw [kh] at x1
      obtain ⟨j, c, j0, j1, hc, e⟩ := h.up x x0 x1
      exact ⟨j, c, j0, j1, hc, by rw [hh j c j0]; exact e⟩
    · rw [kh] at j1; exact h.rng j j0 j1
    · rw [kh] at j1
      by_cases e : j = i
      · subst e; rw [at_i]; exact ⟨hv, .inl rfl⟩
      · rw [at_j j j0 e]; exact h.val j j0 j1
    · rw [kh] at j1
      by_cases e : j = i
      · subst e; rw [at_i]; exact .inl rfl
      · rw [at_j j (by omega) e]; exact h.full j j0 j1 e
    · rw [kh] at x1; exact hp x x0 x1
  | m + 1, d, l, i, dep, par, h, h0, h1, hd, hm, hp => by
    have hb := bitv_range a d
    rw [insP]
    by_cases hz : halfv (rd_T86 l i) (bitv a d) = 0
    · rw [if_pos hz]
      have hg := h.grow h0 h1 hb hz (by omega)
      obtain ⟨dep', par', i1, i2, i3⟩ := insP_inv v a hv m (d + 1) _ (l.length : Int) _ _ hg (by omega) (by simp; omega) (by rw [if_pos rfl]; omega) (by omega) (fun x x0 x1 => by
        try dsimp only
        split
        · omega
        · exact hp x x0 (by simp at x1; omega))
      refine ⟨dep', par', i1, i2, ?_⟩
      have hc : cntH ((l ++ [(⟨0, 0, false, 0⟩ : S86)]).set i.toNat (withHalf (rd_T86 l i) (bitv a d) (l.length : Int))) = cntH l := by
        rw [cntH_set_same _ _ _ (fun hi => by
          rw [(with_f2 _ _ _).1]
          have hil : i.toNat < l.length := by omega
          rw [List.getElem_append_left hil]
          unfold rd_T86
          rw [List.getD_eq_getElem?_getD, List.getElem?_eq_getElem hil]
          rfl)]
        unfold cntH
        rw [List.countP_append]
        simp
      omega
    · rw [if_neg hz]
      obtain ⟨k1, k2, k3, k4⟩ := h.kid i (bitv a d) h0 h1 hb hz
      exact insP_inv v a hv m (d + 1) l _ dep par (h.go h0 h1 hz _) (by omega) k2 (by omega) (by omega) hp
def buildP (es : List S39) : List S86 := es.foldl (fun t e => insP e.f1 e.f0.f0 e.f0.f1.toNat 0 t 0) [⟨0, 0, false, 0⟩]
theorem build_inv : ∀ (es : List S39) (t : List S86) (dep par : Int → Int), (∀ e, e ∈ es → good e.f0.f0 e.f0.f1 = true ∧ isVal e.f1 = true) → TInv t dep par 0 → 1 ≤ t.length → (∀ x, 0 < x → x < (t.length : Int) → 0 ≤ par x) →
    ∃ dep' par', TInv (es.foldl (fun t e => insP e.f1 e.f0.f0 e.f0.f1.toNat 0 t 0) t) dep' par' 0 ∧ (∀ x, 0 < x → x < ((es.foldl (fun t e => insP e.f1 e.f0.f0 e.f0.f1.toNat 0 t 0) t).length : Int) → 0 ≤ par' x) ∧ cntH (es.foldl (fun t e => insP e.f1 e.f0.f0 e.f0.f1.toNat 0 t 0) t) ≤ cntH t + es.length ∧ 1 ≤ (es.foldl (fun t e => insP e.f1 e.f0.f0 e.f0.f1.toNat 0 t 0) t).length ∧ (es.foldl (fun t e => insP e.f1 e.f0.f0 e.f0.f1.toNat 0 t 0) t).length ≤ t.length + 32 * es.length
  | [], t, dep, par, _, h, h1, hp => ⟨dep, par, h, hp, by simp, h1, by simp⟩
  | e :: es, t, dep, par, he, h, h1, hp => by
    obtain ⟨g1, g2⟩ := he e (by simp)
    obtain ⟨f1, f2, _⟩ := good_iff.1 g1
    obtain ⟨dep1, par1, i1, i2, i3⟩ := insP_inv e.f1 e.f0.f0 g2 e.f0.f1.toNat 0 t 0 dep par h (by omega) (by omega) h.dep0 (by omega) hp
    have hl := insP_len e.f1 e.f0.f0 e.f0.f1.toNat 0 t 0
    obtain ⟨dep2, par2, j1, j2, j3, j4, j5⟩ := build_inv es _ dep1 par1 (fun x hx => he x (by simp [hx])) i1 (by omega) i2
    rw [List.foldl_cons]
    refine ⟨dep2, par2, j1, j2, ?_, j4, ?_⟩
    · rw [ky]; omega
    · rw [ky]; omega
theorem start_inv : TInv [(⟨0, 0, false, 0⟩ : S86)] (fun _ => 0) (fun _ => 0) 0 := by
  have at0 : rd_T86 [(⟨0, 0, false, 0⟩ : S86)] 0 = ⟨0, 0, false, 0⟩ := rdm_Node [] _ []
  refine ⟨rfl, fun i b h0 h1 _ hne => ?_, fun x x0 x1 => ?_, fun i h0 h1 => ⟨by omega, by omega⟩, fun i h0 h1 => ?_, fun i h0 h1 => ?_⟩
  · have : i = 0 := by simp at h1; omega
    subst this
    rw [at0] at hne
    exact (hne (by unfold halfv; split <;> rfl)).elim
  · simp at x1; omega
  · have : i = 0 := by simp at h1; omega
    subst this
    rw [at0]
    exact ⟨by decide, .inr rfl⟩
  · simp at h1; omega
theorem goodTable_vals {l : List S39} (h : goodTable l = true) : l.length ≤ 30 ∧ ∀ e, e ∈ l → good e.f0.f0 e.f0.f1 = true ∧ isVal e.f1 = true := by
  unfold goodTable at h
  simp only [kf] at h
  exact ⟨of_decide_eq_true h.1.1, fun e he => ⟨rising_good h.1.2 (ent e) (List.mem_map.2 ⟨e, he, rfl⟩), List.all_eq_true.1 h.2 e he⟩⟩
theorem impl_Build_l0 (es : List S39) (hl : es.length ≤ 30) (hg : ∀ e, e ∈ es → good e.f0.f0 e.f0.f1 = true ∧ isVal e.f1 = true) : ∀ (rest pre : List S39) (t : List S86) (dep par : Int → Int), es = pre ++ rest → TInv t dep par 0 → 1 ≤ t.length → t.length ≤ 1 + 32 * pre.length → (∀ x, 0 < x → x < (t.length : Int) → 0 ≤ par x) → cntH t ≤ pre.length →
    ∃ K, ∀ k, K ≤ k → impl_BuildTrie.l0 k t es (es.length : Int) (pre.length : Int) = some (rest.foldl (fun t e => insP e.f1 e.f0.f0 e.f0.f1.toNat 0 t 0) t, true) := by
  intro rest
  induction rest with
  | nil =>
    intro pre t dep par e h h1 h2 hp hc
    have hpl : pre.length = es.length := by rw [e]; simp
    obtain ⟨K, hK⟩ := impl_GoodTrie_is t
    replace hK : ∀ k, K ≤ k → impl_GoodTrie.f k t = some (goodTrie t) := hK
    refine ⟨K + 1, fun k hk => ?_⟩
    obtain ⟨k, rfl⟩ : ∃ k', k = k' + 1 := ⟨k - 1, by omega⟩
    rw [impl_BuildTrie.l0, if_neg (by omega), hK k (by omega), kz, goodTrie_of h h1 (by omega) (by omega) hp, if_pos rfl]
    rfl
  | cons x rest ih =>
    intro pre t dep par e h h1 h2 hp hc
    have hlen : pre.length < es.length := by rw [e]; simp
    obtain ⟨g1, g2⟩ := hg x (by rw [e]; simp)
    obtain ⟨f1, f2, _⟩ := good_iff.1 g1
    have hr : rd_T39 es (pre.length : Int) = x := by rw [e]; exact rdm_Entry _ _ _
    have hw : wrap64 ((pre.length : Int) + 1) = ((pre ++ [x]).length : Int) := by rw [wrap_id (by omega) (by omega)]; simp
    obtain ⟨dep1, par1, i1, i2, i3⟩ := insP_inv x.f1 x.f0.f0 g2 x.f0.f1.toNat 0 t 0 dep par h (by omega) (by omega) h.dep0 (by omega) hp
    have hl2 := insP_len x.f1 x.f0.f0 x.f0.f1.toNat 0 t 0
    obtain ⟨K, hK⟩ := ih (pre ++ [x]) _ dep1 par1 (by rw [e]; simp) i1 (by omega) (by simp; omega) i2 (by simp; omega)
    refine ⟨K + 34, fun k hk => ?_⟩
    obtain ⟨k, rfl⟩ : ∃ k', k = k' + 1 := ⟨k - 1, by omega⟩
    rw [impl_BuildTrie.l0, if_pos (by omega), if_pos (len_nn _), if_pos (by omega), hr, impl_inserted_is t x.f0.f0 x.f0.f1 x.f1 k h.kids h1 (by omega) f1 f2 (by omega), kz, hw, hK k (by omega)]
    rfl
theorem spec_Build_l0 (es : List S39) (hl : es.length ≤ 30) (hg : ∀ e, e ∈ es → good e.f0.f0 e.f0.f1 = true ∧ isVal e.f1 = true) : ∀ (rest pre : List S39) (t : List S86) (dep par : Int → Int), es = pre ++ rest → TInv t dep par 0 → 1 ≤ t.length → t.length ≤ 1 + 32 * pre.length → (∀ x, 0 < x → x < (t.length : Int) → 0 ≤ par x) →
    ∀ k, 34 + rest.length ≤ k → spec_l2Build.l0 k t es (es.length : Int) (pre.length : Int) = some (rest.foldl (fun t e => insP e.f1 e.f0.f0 e.f0.f1.toNat 0 t 0) t) := by
  intro rest
  induction rest with
  | nil =>
    intro pre t dep par e h h1 h2 hp k hk
    have hpl : pre.length = es.length := by rw [e]; simp
    obtain ⟨k, rfl⟩ : ∃ k', k = k' + 1 := ⟨k - 1, by omega⟩
    rw [spec_l2Build.l0, if_neg (by omega)]
    rfl
  | cons x rest ih =>
    intro pre t dep par e h h1 h2 hp k hk
    rw [ky] at hk
    have hlen : pre.length < es.length := by rw [e]; simp
    obtain ⟨g1, g2⟩ := hg x (by rw [e]; simp)
    obtain ⟨f1, f2, _⟩ := good_iff.1 g1
    have hr : rd_T39 es (pre.length : Int) = x := by rw [e]; exact rdm_Entry _ _ _
    have hw : wrap64 ((pre.length : Int) + 1) = ((pre ++ [x]).length : Int) := by rw [wrap_id (by omega) (by omega)]; simp
    obtain ⟨dep1, par1, i1, i2, i3⟩ := insP_inv x.f1 x.f0.f0 g2 x.f0.f1.toNat 0 t 0 dep par h (by omega) (by omega) h.dep0 (by omega) hp
    have hl2 := insP_len x.f1 x.f0.f0 x.f0.f1.toNat 0 t 0
    obtain ⟨k, rfl⟩ : ∃ k', k = k' + 1 := ⟨k - 1, by omega⟩
    rw [spec_l2Build.l0, if_pos (by omega), if_pos (len_nn _), if_pos (by omega), hr, spec_l2Insert_is t x.f0.f0 x.f0.f1 x.f1 k h.kids h1 (by omega) f1 f2 (by omega), kz, hw]
    exact ih (pre ++ [x]) _ dep1 par1 (by rw [e]; simp) i1 (by omega) (by simp; omega) i2 k (by omega)
theorem Build_good {l : List S39} (h : goodTable l = true) : (∃ K, ∀ k, K ≤ k → impl_BuildTrie.f k l = some (buildP l, true)) ∧ (∀ k, l.length + 50 ≤ k → spec_l2Build.f k l = some (buildP l)) := by
  obtain ⟨h30, hg⟩ := goodTable_vals h
  obtain ⟨K, hK⟩ := impl_Build_l0 l h30 hg l [] [⟨0, 0, false, 0⟩] _ _ rfl start_inv (by simp) (by simp) (fun x x0 x1 => ke _) (by simp [cntH])
  have hS := spec_Build_l0 l h30 hg l [] [⟨0, 0, false, 0⟩] _ _ rfl start_inv (by simp) (by simp) (fun x x0 x1 => ke _)
  refine ⟨⟨K + l.length + 50, fun k hk => ?_⟩, fun k hk => ?_⟩
  · unfold impl_BuildTrie.f
    rw [impl_GoodTable_is k l (by omega) (by omega), kz, if_pos h]
    exact hK k (by omega)
  · unfold spec_l2Build.f
    exact hS k (by omega)
def code (a n : Int) : Int := (4294967296 + a) / sz n
theorem code_zero {a : Int} (h0 : 0 ≤ a) (h1 : a ≤ 4294967295) : code a 0 = 1 := by
  unfold code; rw [sz_lit.1]; omega
theorem code_pos {a n : Int} (h0 : 0 ≤ a) (n0 : 0 ≤ n) : 1 ≤ code a n := by
  unfold code
  have h1 := sz_pos n
  have h2 := sz_le n0
  exact (Int.le_ediv_iff_mul_le (by omega)).2 (by omega)
theorem and_one {x : Int} (h0 : 0 ≤ x) (h1 : x ≤ 4294967295) : Go.bits .and .i64 x 1 = x % 2 := by
  show IntKind.i64.wrap ((BitVec.ofInt 64 x &&& BitVec.ofInt 64 1).toNat : Int) = x % 2
  obtain ⟨n, rfl⟩ := km h0
  have e : (BitVec.ofInt 64 (n : Int)).toNat = n := by
    rw [BitVec.toNat_ofInt]
    omega
  have e1 : (BitVec.ofInt 64 1).toNat = 1 := by decide
  rw [BitVec.toNat_and, e, e1, Nat.and_one_is_mod, i64_w, wrap_id (by omega) (by omega)]
  omega
theorem bitv_is {a d : Int} (h0 : 0 ≤ a) (h1 : a ≤ 4294967295) (d0 : 0 ≤ d) (d1 : d ≤ 31) : bitv a d = (a / sz (d + 1)) % 2 := by
  unfold bitv
  have e : shr .i64 a (31 - d) = a / sz (d + 1) := by
    obtain ⟨n, hn⟩ := km (show 0 ≤ 31 - d by omega)
    unfold sz shr
    rw [show (32 - (d + 1)).toNat = n by omega, hn, show min (n : Int).toNat IntKind.i64.bits = n by show min (n : Int).toNat 64 = n; omega]
  have hs := sz_pos (d + 1)
  rw [e, and_one (Int.ediv_nonneg h0 (by omega)) (by
    have := Int.ediv_le_self (sz (d + 1)) h0
    omega)]
theorem code_succ {a d : Int} (h0 : 0 ≤ a) (h1 : a ≤ 4294967295) (d0 : 0 ≤ d) (d1 : d < 32) : code a (d + 1) = 2 * code a d + bitv a d := by
  rw [bitv_is h0 h1 d0 (by omega)]
  unfold code
  have hs := sz_pos (d + 1)
  have e0 : sz 0 = sz (d + 1) * 2 ^ (d + 1 - 0).toNat := sz_add (by omega) (by omega) (by omega)
  have e1 : (2 : Int) ^ (d + 1 - 0).toNat = 2 * 2 ^ d.toNat := by
    rw [show (d + 1 - 0).toNat = d.toNat + 1 by omega, Int.pow_succ]; omega
  rw [sz_lit.1, e1] at e0
  have e2 : (4294967296 + a) / sz (d + 1) = a / sz (d + 1) + 2 * 2 ^ d.toNat := by
    rw [e0, Int.add_comm, Int.add_mul_ediv_left _ _ (by omega)]
  have e3 : (4294967296 + a) / sz d = (4294967296 + a) / sz (d + 1) / 2 := by
    rw [sz_succ d0 d1, Int.mul_comm, Int.ediv_ediv_of_nonneg (by omega)]
  rw [e3, e2]
  generalize a / sz (d + 1) = q
  generalize (2 : Int) ^ d.toNat = p
  omega
theorem code_row {a n x : Int} (ha : a % sz n = 0) (h0 : a ≤ x) (h1 : x ≤ a + sz n - 1) (n0 : 0 ≤ n) (n1 : n ≤ 32) : code x n = code a n := by
  unfold code
  have hs := sz_pos n
  obtain ⟨q, hq⟩ := kj ha
  obtain ⟨p, hp⟩ : sz n ∣ 4294967296 := by rw [← sz_lit.1]; exact sz_dvd (by omega) n0 n1
  have e : ∀ r : Int, 0 ≤ r → r < sz n → (4294967296 + (a + r)) / sz n = p + q := fun r r0 r1 => by
    rw [hq, hp, show sz n * p + (sz n * q + r) = r + sz n * (p + q) by rw [ki]; omega, Int.add_mul_ediv_left _ _ (by omega), Int.ediv_eq_zero_of_lt r0 r1]
    omega
  have := e (x - a) (by omega) (by omega)
  rw [show a + (x - a) = x by omega] at this
  rw [this]
  have := e 0 (by omega) (by omega)
  rw [kl] at this
  exact this.symm
theorem code_mul {a n : Int} (h : good a n = true) : sz n * code a n = 4294967296 + a := by
  obtain ⟨n0, n1, _, _, ha⟩ := good_iff.1 h
  have hs := sz_pos n
  obtain ⟨q, hq⟩ := kj ha
  obtain ⟨p, hp⟩ : sz n ∣ 4294967296 := by rw [← sz_lit.1]; exact sz_dvd (by omega) n0 n1
  unfold code
  have : sz n ∣ 4294967296 + a := by rw [hq, hp, ← ki]; exact Int.dvd_mul_right _ _
  exact Int.mul_ediv_cancel' this
theorem code_inj {a n a' n' : Int} (h : good a n = true) (h' : good a' n' = true) (e : code a n = code a' n') : a = a' ∧ n = n' := by
  obtain ⟨n0, n1, a0, a1, _⟩ := good_iff.1 h
  obtain ⟨m0, m1, b0, b1, _⟩ := good_iff.1 h'
  have e1 := code_mul h
  have e2 := code_mul h'
  rw [e] at e1
  have far : ∀ {n m a b q : Int}, 0 ≤ n → n < m → m ≤ 32 → sz n * q = 4294967296 + a → sz m * q = 4294967296 + b → a ≤ 4294967295 → 0 ≤ b → False := fun {n m a b q} n0 hnm hm e1 e2 ha hb => by
    have h1 := sz_succ n0 (by omega)
    have h2 := sz_mono (n := n + 1) (m := m) (by omega) (by omega) hm
    have hq : 0 ≤ q := by
      by_cases hq : 0 ≤ q
      · exact hq
      · have := kv (show q ≤ 0 by omega) (show 0 ≤ sz m by have := sz_pos m; omega)
        omega
    have h3 := Int.mul_le_mul_of_nonneg_right h2 hq
    rw [h1, Int.mul_assoc] at e1
    omega
  have hn : n = n' := by
    rcases Int.lt_trichotomy n n' with h | h | h
    · exact (far n0 h m1 e1 e2 a1 b0).elim
    · exact h
    · exact (far m0 h n1 e2 e1 b1 a0).elim
  rw [hn, e2] at e1
  exact ⟨by omega, hn⟩
structure PInv (l : List S86) (pc : Int → Int) : Prop where
  root : pc 0 = 1
  pos : ∀ i : Int, 0 ≤ i → i < (l.length : Int) → 1 ≤ pc i
  kid : ∀ i b : Int, 0 ≤ i → i < (l.length : Int) → (b = 0 ∨ b = 1) → halfv (rd_T86 l i) b ≠ 0 → i < halfv (rd_T86 l i) b ∧ halfv (rd_T86 l i) b < (l.length : Int) ∧ pc (halfv (rd_T86 l i) b) = 2 * pc i + b
  up : ∀ x : Int, 0 < x → x < (l.length : Int) → ∃ j b : Int, 0 ≤ j ∧ j < x ∧ (b = 0 ∨ b = 1) ∧ halfv (rd_T86 l j) b = x
  inj : ∀ i j : Int, 0 ≤ i → i < (l.length : Int) → 0 ≤ j → j < (l.length : Int) → pc i = pc j → i = j
def Holds (l : List S86) (pc : Int → Int) (q v : Int) : Prop := ∃ j : Int, 0 ≤ j ∧ j < (l.length : Int) ∧ pc j = q ∧ (rd_T86 l j).f2 = true ∧ (rd_T86 l j).f3 = v
theorem PInv.stop {l : List S86} {pc : Int → Int} (h : PInv l pc) {x i d : Int} (x0 : 0 ≤ x) (x1 : x ≤ 4294967295) (i0 : 0 ≤ i) (i1 : i < (l.length : Int)) (e : pc i = code x d) (d0 : 0 ≤ d) (hz : halfv (rd_T86 l i) (bitv x d) = 0) :
    ∀ (m : Nat) (j : Int), 0 ≤ j → j < (l.length : Int) → d + m < 32 → pc j ≠ code x (d + m + 1) := by
  have step : ∀ (m : Nat) (j : Int), 0 ≤ j → j < (l.length : Int) → d + m < 32 → pc j = code x (d + m + 1) → ∃ p, 0 ≤ p ∧ p < (l.length : Int) ∧ 0 < j ∧ halfv (rd_T86 l p) (bitv x (d + m)) = j ∧ pc p = code x (d + m) := fun m j j0 j1 hm ej => by
    rw [code_succ x0 x1 (d := d + m) (by omega) (by omega)] at ej
    have hb := bitv_range x (d + m)
    have hc := code_pos (n := d + m) x0 (by omega)
    have hne : j ≠ 0 := fun h0 => by
      rw [h0, h.root] at ej
      omega
    obtain ⟨p, b, p0, p1, hb', e2⟩ := h.up j (by omega) j1
    have k := (h.kid p b p0 (by omega) hb' (by omega)).2.2
    rw [e2] at k
    have eb : b = bitv x (d + m) := by omega
    exact ⟨p, p0, by omega, by omega, by rw [← eb]; exact e2, by omega⟩
  intro m
  induction m with
  | zero =>
    intro j j0 j1 hm ej
    obtain ⟨p, p0, p1, jp, e2, ep⟩ := step 0 j j0 j1 hm ej
    rw [show d + ((0 : Nat) : Int) = d by omega] at e2 ep
    have hp : p = i := h.inj p i p0 p1 i0 i1 (by rw [ep, e])
    rw [hp, hz] at e2
    omega
  | succ m ih =>
    intro j j0 j1 hm ej
    obtain ⟨p, p0, p1, jp, e2, ep⟩ := step (m + 1) j j0 j1 hm ej
    exact ih p p0 p1 (by omega) (by rw [ep]; congr 1; omega)
def ltE (e e' : S39) : Prop := e.f0.f0 < e'.f0.f0 ∨ (e.f0.f0 = e'.f0.f0 ∧ e.f0.f1 < e'.f0.f1)
theorem cmp_lt {a n b m : Int} (h : cmpP a n b m < 0) : a < b ∨ a = b ∧ n < m := by
  unfold cmpP at h
  by_cases h1 : a < b ∨ a = b ∧ n < m
  · exact h1
  · rw [if_neg h1] at h
    split at h <;> omega
theorem rising_pairwise : ∀ (l : List S39) (o : Option Pr2), risingFrom o (l.map ent) = true → (∀ q, o = some q → ∀ e, e ∈ l → q.1 < e.f0.f0 ∨ (q.1 = e.f0.f0 ∧ q.2 < e.f0.f1)) ∧ l.Pairwise ltE
  | [], o, _ => ⟨fun _ _ _ h => by simp at h, List.Pairwise.nil⟩
  | p :: t, o, h => by
    simp only [kw, risingFrom, kf] at h
    obtain ⟨r1, r2⟩ := rising_pairwise t (some (ent p)) h.2
    have hp := r1 _ rfl
    refine ⟨fun q hq x hx => ?_, kx.2 ⟨fun e he => hp e he, r2⟩⟩
    subst hq
    have h1 := cmp_lt (of_decide_eq_true h.1.2)
    rcases List.mem_cons.1 hx with rfl | hx
    · exact h1
    · have h2 := hp x hx
      simp only [ent] at h1 h2
      omega
theorem table_rises {l : List S39} (h : goodTable l = true) : l.Pairwise ltE := by
  unfold goodTable at h
  simp only [kf] at h
  exact (rising_pairwise l none h.1.2).2
theorem code_left {a n : Int} (h : good a n = true) (hn : n < 32) : good a (n + 1) = true ∧ code a (n + 1) = 2 * code a n := by
  obtain ⟨n0, n1, a0, a1, ha⟩ := good_iff.1 h
  have hg : good a (n + 1) = true := good_iff.2 ⟨by omega, by omega, a0, a1, Int.emod_eq_zero_of_dvd (Int.dvd_trans (sz_dvd n0 (by omega) (by omega)) (kj ha))⟩
  refine ⟨hg, ?_⟩
  have e1 := code_mul h
  have e2 := code_mul hg
  have hs := sz_pos (n + 1)
  rw [sz_succ n0 hn, Int.mul_assoc, Int.mul_left_comm] at e1
  exact Int.eq_of_mul_eq_mul_left (show sz (n + 1) ≠ 0 by omega) (by rw [e2, e1])
theorem code_right {a n : Int} (h : good a n = true) (hn : n < 32) : good (a + sz (n + 1)) (n + 1) = true ∧ code (a + sz (n + 1)) (n + 1) = 2 * code a n + 1 := by
  obtain ⟨n0, n1, a0, a1, ha⟩ := good_iff.1 h
  have hs := sz_pos (n + 1)
  have h2 := sz_succ n0 hn
  have hd : sz (n + 1) ∣ a := Int.dvd_trans (sz_dvd n0 (by omega) (by omega)) (kj ha)
  have hle : a + sz n ≤ 4294967296 := by
    have e1 := code_mul h
    have hd0 : sz n ∣ 4294967296 := by rw [← sz_lit.1]; exact sz_dvd (by omega) n0 n1
    obtain ⟨p, hp⟩ := hd0
    obtain ⟨q, hq⟩ := kj ha
    have hlt : q < p := by
      by_cases hqp : q < p
      · exact hqp
      · have := kv (show p ≤ q by omega) (show 0 ≤ sz n by have := sz_pos n; omega)
        omega
    have := kv (show q + 1 ≤ p by omega) (show 0 ≤ sz n by have := sz_pos n; omega)
    rw [ki] at this
    omega
  have hg : good (a + sz (n + 1)) (n + 1) = true := good_iff.2 ⟨by omega, by omega, by omega, by omega, Int.emod_eq_zero_of_dvd (Int.dvd_add hd (Int.dvd_refl _))⟩
  refine ⟨hg, ?_⟩
  have e1 := code_mul h
  have e2 := code_mul hg
  rw [h2, Int.mul_assoc, Int.mul_left_comm] at e1
  exact Int.eq_of_mul_eq_mul_left (show sz (n + 1) ≠ 0 by omega) (by rw [e2, ki, e1]; omega)
def InE (e : S39) (a n : Int) : Prop := good e.f0.f0 e.f0.f1 = true ∧ n ≤ e.f0.f1 ∧ a ≤ e.f0.f0 ∧ e.f0.f0 + sz e.f0.f1 ≤ a + sz n
theorem walk_holds {t : List S86} {pc : Int → Int} (h : PInv t pc) : ∀ (m : Nat) (i a n : Int) (out : List S39), n + m = 32 → 0 ≤ i → i < (t.length : Int) → good a n = true → pc i = code a n →
    ∃ w, walkP t m i a n out = out ++ w ∧ w.Pairwise ltE ∧ ∀ e, e ∈ w ↔ (InE e a n ∧ Holds t pc (code e.f0.f0 e.f0.f1) e.f1) := by
  have self : ∀ (i a n : Int) (out : List S39), 0 ≤ i → i < (t.length : Int) → pc i = code a n → ∃ s, (if (rd_T86 t i).f2 = true then out ++ [(⟨⟨a, n⟩, (rd_T86 t i).f3⟩ : S39)] else out) = out ++ s ∧ s.Pairwise ltE ∧ ∀ e, e ∈ s ↔ (e.f0.f0 = a ∧ e.f0.f1 = n ∧ Holds t pc (code a n) e.f1) := fun i a n out i0 i1 ei => by
    by_cases hf : (rd_T86 t i).f2 = true
    · refine ⟨[⟨⟨a, n⟩, (rd_T86 t i).f3⟩], if_pos hf, by simp, fun e => ⟨fun he => ?_, fun he => ?_⟩⟩
      · rw [List.mem_singleton.1 he]
        exact ⟨rfl, rfl, i, i0, i1, ei, hf, rfl⟩
      · obtain ⟨e1, e2, j, j0, j1, ej, _, e3⟩ := he
        rw [h.inj j i j0 j1 i0 i1 (by rw [ej, ei])] at e3
        cases e with
        | mk p v =>
          cases p with
          | mk p1 p2 =>
            dsimp only at e1 e2 e3
            rw [e1, e2, e3]
            exact List.mem_singleton.2 rfl
    · refine ⟨[], by rw [if_neg hf, kr], List.Pairwise.nil, fun e => ⟨fun he => by simp at he, fun he => ?_⟩⟩
      obtain ⟨_, _, j, j0, j1, ej, e2, _⟩ := he
      rw [h.inj j i j0 j1 i0 i1 (by rw [ej, ei])] at e2
      exact (hf e2).elim
  intro m
  induction m with
  | zero =>
    intro i a n out hn i0 i1 hg ei
    obtain ⟨s, s1, s2, s3⟩ := self i a n out i0 i1 ei
    have hn32 : n = 32 := by omega
    refine ⟨s, by rw [walkP, s1], s2, fun e => ?_⟩
    rw [s3]
    constructor
    · rintro ⟨rfl, rfl, hh⟩
      exact ⟨⟨hg, ke _, ke _, ke _⟩, hh⟩
    · rintro ⟨⟨g, g1, g2, g3⟩, hh⟩
      have := (good_iff.1 g).2.1
      have en : e.f0.f1 = n := by omega
      rw [en] at g3
      have ea : e.f0.f0 = a := by omega
      rw [ea, en] at hh
      exact ⟨ea, en, hh⟩
  | succ m ih =>
    intro i a n out hn i0 i1 hg ei
    obtain ⟨n0, n1, a0, a1, ha⟩ := good_iff.1 hg
    obtain ⟨gl, cl⟩ := code_left hg (by omega)
    obtain ⟨gr, cr⟩ := code_right hg (by omega)
    have hs := sz_pos (n + 1)
    have h2 := sz_succ n0 (by omega)
    have half : ∀ (b c : Int) (out : List S39), (b = 0 ∨ b = 1) → good c (n + 1) = true → code c (n + 1) = 2 * code a n + b → a ≤ c → c + sz (n + 1) ≤ a + sz n →
        ∃ w, (if halfv (rd_T86 t i) b = 0 then out else walkP t m (halfv (rd_T86 t i) b) c (n + 1) out) = out ++ w ∧ w.Pairwise ltE ∧ ∀ e, e ∈ w ↔ (InE e c (n + 1) ∧ Holds t pc (code e.f0.f0 e.f0.f1) e.f1) := fun b c out hb gc cc c0 c1 => by
      by_cases hz : halfv (rd_T86 t i) b = 0
      · refine ⟨[], by rw [if_pos hz, kr], List.Pairwise.nil, fun e => ⟨fun he => by simp at he, fun he => ?_⟩⟩
        obtain ⟨⟨g, g1, g2, g3⟩, j, j0, j1, ej, _, _⟩ := he
        obtain ⟨m0, m1, b0, b1, _⟩ := good_iff.1 g
        have hse := sz_pos e.f0.f1
        have r1 : code e.f0.f0 n = code a n := code_row ha (by omega) (by omega) n0 n1
        have r2 : code e.f0.f0 (n + 1) = code c (n + 1) := code_row (good_iff.1 gc).2.2.2.2 (by omega) (by omega) (by omega) (by omega)
        rw [code_succ b0 b1 n0 (by omega), cc, r1] at r2
        have hbit : bitv e.f0.f0 n = b := by omega
        obtain ⟨q, hq⟩ := km (show 0 ≤ e.f0.f1 - n - 1 by omega)
        exact (h.stop b0 b1 i0 i1 (by rw [ei, r1]) n0 (by rw [hbit]; exact hz) q j j0 j1 (by omega) (by rw [ej]; congr 1; omega)).elim
      · obtain ⟨k1, k2, k3⟩ := h.kid i b i0 i1 hb hz
        obtain ⟨w, w1, w2, w3⟩ := ih (halfv (rd_T86 t i) b) c (n + 1) out (by omega) (by omega) k2 gc (by rw [k3, ei, cc])
        exact ⟨w, by rw [if_neg hz, w1], w2, w3⟩
    obtain ⟨s, s1, s2, s3⟩ := self i a n out i0 i1 ei
    obtain ⟨wl, l1, l2, l3⟩ := half 0 a (out ++ s) (.inl rfl) gl (by rw [cl]; omega) (ke _) (by omega)
    obtain ⟨wr, r1, r2, r3⟩ := half 1 (a + sz (n + 1)) (out ++ s ++ wl) (.inr rfl) gr cr (by omega) (by omega)
    rw [halfv_zero] at l1
    rw [halfv_one] at r1
    refine ⟨s ++ wl ++ wr, ?_, ?_, fun e => ?_⟩
    · rw [walkP]
      rw [s1, l1, r1]
      simp only [kc]
    · refine List.pairwise_append.2 ⟨List.pairwise_append.2 ⟨s2, l2, fun x hx y hy => ?_⟩, r2, fun x hx y hy => ?_⟩
      · obtain ⟨e1, e2, _⟩ := (s3 x).1 hx
        obtain ⟨⟨_, g1, g2, _⟩, _⟩ := (l3 y).1 hy
        unfold ltE
        omega
      · obtain ⟨⟨_, g1, g2, _⟩, _⟩ := (r3 y).1 hy
        unfold ltE
        rcases kp.1 hx with hx | hx
        · obtain ⟨e1, e2, _⟩ := (s3 x).1 hx
          omega
        · obtain ⟨⟨_, q1, q2, q3⟩, _⟩ := (l3 x).1 hx
          have := sz_pos x.f0.f1
          omega
    · rw [kp, kp, s3, l3, r3]
      constructor
      · rintro ((⟨rfl, rfl, hh⟩ | ⟨⟨g, g1, g2, g3⟩, hh⟩) | ⟨⟨g, g1, g2, g3⟩, hh⟩)
        · exact ⟨⟨hg, ke _, ke _, ke _⟩, hh⟩
        · exact ⟨⟨g, by omega, g2, by omega⟩, hh⟩
        · exact ⟨⟨g, by omega, by omega, by omega⟩, hh⟩
      · rintro ⟨⟨g, g1, g2, g3⟩, hh⟩
        by_cases en : e.f0.f1 = n
        · rw [en] at g3
          have ea : e.f0.f0 = a := by omega
          rw [ea, en] at hh
          exact .inl (.inl ⟨ea, en, hh⟩)
        · obtain ⟨m0, m1, b0, b1, hm⟩ := good_iff.1 g
          have hse := sz_pos e.f0.f1
          by_cases hlt : e.f0.f0 < a + sz (n + 1)
          · refine .inl (.inr ⟨⟨g, by omega, g2, ?_⟩, hh⟩)
            have d1 : sz e.f0.f1 ∣ a := Int.dvd_trans (sz_dvd n0 (by omega) m1) (kj ha)
            have d2 : sz e.f0.f1 ∣ sz (n + 1) := sz_dvd (by omega) (by omega) m1
            have d3 : sz e.f0.f1 ∣ a + sz (n + 1) - e.f0.f0 := Int.dvd_sub (Int.dvd_add d1 d2) (kj hm)
            have := Int.le_of_dvd (by omega) d3
            omega
          · exact .inr ⟨⟨g, by omega, by omega, by omega⟩, hh⟩
theorem walk_impl {t : List S86} (hk : KidsV t) : ∀ (m : Nat) (i a n : Int) (out : List S39) (k : Nat), 0 ≤ i → i < (t.length : Int) → 0 ≤ n → n + m = 32 → 0 ≤ a → a + sz n ≤ 4294967296 → out.length + 2 ^ (m + 1) ≤ 100000000000 → 2 * m + 2 ≤ k →
    impl_entriesBelow.f k t i a n out = some (walkP t m i a n out)
  | 0, i, a, n, out, k, i0, i1, n0, hn, a0, a1, ho, hkk => by
    obtain ⟨k, rfl⟩ : ∃ j, k = j + 1 + 1 := ⟨k - 2, by omega⟩
    rw [impl_entriesBelow.f, if_pos i0, if_pos i1, walkP]
    by_cases h : (rd_T86 t i).f2 = true
    · rw [if_pos h, if_pos h, if_pos (by omega), impl_entriesBelow.j0, if_pos (show n = 32 by omega)]
    · rw [if_neg h, if_neg h, impl_entriesBelow.j0, if_pos (show n = 32 by omega)]
  | m + 1, i, a, n, out, k, i0, i1, n0, hn, a0, a1, ho, hkk => by
    obtain ⟨k, rfl⟩ : ∃ j, k = j + 1 + 1 := ⟨k - 2, by omega⟩
    have hki := hk i i0 i1
    have hs := sz_succ n0 (by omega)
    have hs1 := sz_pos (n + 1)
    have hp : (2 : Nat) ^ (m + 1 + 1) = 2 ^ (m + 1) + 2 ^ (m + 1) := by rw [kn]; omega
    have hq : 2 ≤ (2 : Nat) ^ (m + 1) := by have := @Nat.one_le_two_pow m; rw [kn]; omega
    have mid : ∀ o1 : List S39, o1.length ≤ out.length + 1 →
        impl_entriesBelow.j0 (k + 1) t o1 a n (rd_T86 t i).f0 (rd_T86 t i).f1 (rd_T86 t i).f2 (rd_T86 t i).f3 = some (if (rd_T86 t i).f1 = 0 then (if (rd_T86 t i).f0 = 0 then o1 else walkP t m (rd_T86 t i).f0 a (n + 1) o1) else walkP t m (rd_T86 t i).f1 (a + sz (n + 1)) (n + 1) (if (rd_T86 t i).f0 = 0 then o1 else walkP t m (rd_T86 t i).f0 a (n + 1) o1)) := by
      intro o1 h1
      rw [impl_entriesBelow.j0, if_neg (show ¬ n = 32 by omega), impl_Prefix_halves_is n0 (by omega) a0 (by omega), kz]
      dsimp only
      by_cases z0 : (rd_T86 t i).f0 = 0
      · rw [if_neg (show ¬ (rd_T86 t i).f0 > 0 by omega), if_pos z0]
        by_cases z1 : (rd_T86 t i).f1 = 0
        · rw [if_neg (show ¬ (rd_T86 t i).f1 > 0 by omega), if_pos z1]
        · have hv : i + 1 ≤ (rd_T86 t i).f1 ∧ (rd_T86 t i).f1 ≤ (t.length : Int) - 1 := hki.2.elim (fun e => absurd e z1) id
          have r2 := walk_impl hk m (rd_T86 t i).f1 (a + sz (n + 1)) (n + 1) o1 k (by omega) (by omega) (by omega) (by omega) (by omega) (by omega) (by omega) (by omega)
          rw [if_pos (show (rd_T86 t i).f1 > 0 by omega), if_neg z1, r2, kz]
      · have hv0 : i + 1 ≤ (rd_T86 t i).f0 ∧ (rd_T86 t i).f0 ≤ (t.length : Int) - 1 := hki.1.elim (fun e => absurd e z0) id
        have q2 := walk_impl hk m (rd_T86 t i).f0 a (n + 1) o1 k (by omega) (by omega) (by omega) (by omega) a0 (by omega) (by omega) (by omega)
        have hl := walkP_len t m (rd_T86 t i).f0 a (n + 1) o1
        rw [if_pos (show (rd_T86 t i).f0 > 0 by omega), if_neg z0, q2, kz]
        by_cases z1 : (rd_T86 t i).f1 = 0
        · rw [if_neg (show ¬ (rd_T86 t i).f1 > 0 by omega), if_pos z1]
        · have hv : i + 1 ≤ (rd_T86 t i).f1 ∧ (rd_T86 t i).f1 ≤ (t.length : Int) - 1 := hki.2.elim (fun e => absurd e z1) id
          have r2 := walk_impl hk m (rd_T86 t i).f1 (a + sz (n + 1)) (n + 1) (walkP t m (rd_T86 t i).f0 a (n + 1) o1) k (by omega) (by omega) (by omega) (by omega) (by omega) (by omega) (by omega) (by omega)
          rw [if_pos (show (rd_T86 t i).f1 > 0 by omega), if_neg z1, r2, kz]
    rw [impl_entriesBelow.f, if_pos i0, if_pos i1, walkP]
    by_cases h : (rd_T86 t i).f2 = true
    · simp only [if_pos h]
      rw [if_pos (show out.length < 5864062014805 by omega)]
      exact mid _ (by simp)
    · simp only [if_neg h]
      exact mid _ (by omega)
theorem build_good {l : List S39} (h : goodTable l = true) : goodTrie (buildP l) = true ∧ 1 ≤ (buildP l).length ∧ (buildP l).length ≤ 2000 := by
  obtain ⟨h30, hg⟩ := goodTable_vals h
  obtain ⟨dep', par', j1, j2, j3, j4, j5⟩ := build_inv l _ _ _ hg start_inv (by simp) (fun x x0 x1 => ke _)
  simp only [kg] at j5
  have c0 : cntH [(⟨0, 0, false, 0⟩ : S86)] = 0 := by simp [cntH]
  rw [c0] at j3
  unfold buildP
  exact ⟨goodTrie_of j1 j4 (by omega) (by omega) j2, j4, by omega⟩
theorem good_end {a n : Int} (h : good a n = true) : a + sz n ≤ 4294967296 := by
  obtain ⟨n0, n1, a0, a1, ha⟩ := good_iff.1 h
  have hs := sz_pos n
  obtain ⟨p, hp⟩ : sz n ∣ 4294967296 := by rw [← sz_lit.1]; exact sz_dvd (by omega) n0 n1
  obtain ⟨q, hq⟩ := kj ha
  have hlt : q < p := by
    by_cases hqp : q < p
    · exact hqp
    · have := kv (show p ≤ q by omega) (show 0 ≤ sz n by omega)
      omega
  have := kv (show q + 1 ≤ p by omega) (show 0 ≤ sz n by omega)
  rw [ki] at this
  omega
theorem Entries_val {t : List S86} (hg : goodTrie t = true) : ∃ K, ∀ k, K ≤ k → impl_TrieEntries.f k t = some (walkP t 32 0 0 0 [], true) := by
  obtain ⟨K2, h2⟩ := impl_GoodTrie_is t
  replace h2 : ∀ k, K2 ≤ k → impl_GoodTrie.f k t = _ := h2
  have hl := goodTrie_len hg
  refine ⟨K2 + 66, fun k hk => ?_⟩
  unfold impl_TrieEntries.f
  rw [h2 _ (by omega), kz, if_pos hg, walk_impl (goodTrie_KidsV hg) 32 0 0 0 [] k (by omega) (by omega) (by omega) (by rfl) (by omega) (by rw [sz_lit.1]; omega) (by decide) (by omega), kz]
structure GI (l : List S86) (pc : Int → Int) (m : Int) (D : List Int) : Prop where
  len : D.length = l.length
  root : pc 0 = 1
  rt : 0 ≤ rd D 0
  pos : ∀ x, 1 ≤ pc x
  vis : ∀ x : Int, 0 < x → x < (l.length : Int) → 0 ≤ rd D x → ∃ j c : Int, 0 ≤ j ∧ j < x ∧ (c = 0 ∨ c = 1) ∧ 2 * j + c < m ∧ halfv (rd_T86 l j) c = x
  kid : ∀ j c : Int, 0 ≤ j → (c = 0 ∨ c = 1) → 2 * j + c < m → 0 ≤ rd D j ∧ (halfv (rd_T86 l j) c ≠ 0 → j < halfv (rd_T86 l j) c ∧ halfv (rd_T86 l j) c < (l.length : Int) ∧ 0 ≤ rd D (halfv (rd_T86 l j) c) ∧ pc (halfv (rd_T86 l j) c) = 2 * pc j + c)
  inj : ∀ x y : Int, 0 ≤ x → x < (l.length : Int) → 0 ≤ y → y < (l.length : Int) → 0 ≤ rd D x → 0 ≤ rd D y → pc x = pc y → x = y
theorem GI.step {l : List S86} {pc : Int → Int} {i b : Int} {D D' : List Int} (h : GI l pc (2 * i + b) D) (i0 : 0 ≤ i) (i1 : i < (l.length : Int)) (hb : b = 0 ∨ b = 1) (hd : 0 ≤ rd D i) (ht : tput (l.length : Int) i D (halfv (rd_T86 l i) b) = some D') :
    ∃ pc', GI l pc' (2 * i + b + 1) D' ∧ 0 ≤ rd D' i := by
  unfold tput at ht
  by_cases hz : halfv (rd_T86 l i) b = 0
  · rw [if_pos hz] at ht
    obtain rfl := ko ht
    refine ⟨pc, ⟨h.len, h.root, h.rt, h.pos, fun x x0 x1 hx => ?_, fun j c j0 hc hm => ?_, h.inj⟩, hd⟩
    · obtain ⟨j, c, j0, j1, hc, hm, e⟩ := h.vis x x0 x1 hx
      exact ⟨j, c, j0, j1, hc, by omega, e⟩
    · by_cases e : 2 * j + c < 2 * i + b
      · exact h.kid j c j0 hc e
      · have ej : j = i := by omega
        have ec : c = b := by omega
        rw [ej, ec]
        exact ⟨hd, fun hne => (hne hz).elim⟩
  · rw [if_neg hz] at ht
    by_cases hx : i + 1 ≤ halfv (rd_T86 l i) b ∧ halfv (rd_T86 l i) b ≤ (l.length : Int) - 1 ∧ rd D (halfv (rd_T86 l i) b) < 0
    · rw [if_pos hx] at ht
      obtain rfl := ko ht
      obtain ⟨x1, x2, x3⟩ := hx
      generalize ex : halfv (rd_T86 l i) b = x at hz x1 x2 x3
      have hl := h.len
      have at_x : rd (D.set x.toNat (rd D i + 1)) x = rd D i + 1 := rd_set_eq (by omega) (by omega)
      have at_y : ∀ y, 0 ≤ y → y ≠ x → rd (D.set x.toNat (rd D i + 1)) y = rd D y := fun y y0 hy => rd_set_ne (by omega) y0 (Ne.symm hy)
      have keep : ∀ y, 0 ≤ y → 0 ≤ rd D y → 0 ≤ rd (D.set x.toNat (rd D i + 1)) y := fun y y0 hy => by
        by_cases e : y = x
        · rw [e, at_x]; omega
        · rw [at_y y y0 e]; exact hy
      have len' : (D.set x.toNat (rd D i + 1)).length = l.length := by rw [kh]; exact hl
      generalize D.set x.toNat (rd D i + 1) = D' at at_x at_y keep len' ⊢
      have pc_x : (fun y => if y = x then 2 * pc i + b else pc y) x = 2 * pc i + b := if_pos rfl
      have pc_y : ∀ y, y ≠ x → (fun y => if y = x then 2 * pc i + b else pc y) y = pc y := fun y hy => if_neg hy
      refine ⟨fun y => if y = x then 2 * pc i + b else pc y, ?_, keep i i0 hd⟩
      generalize (fun y => if y = x then 2 * pc i + b else pc y) = pc' at pc_x pc_y ⊢
      have fresh : ∀ z, 0 ≤ z → z < (l.length : Int) → z ≠ x → 0 ≤ rd D' z → 2 * pc i + b ≠ pc z := fun z z0 z1 hne hz2 e => by
        rw [at_y z z0 hne] at hz2
        have hpi := h.pos i
        by_cases e0 : z = 0
        · rw [e0, h.root] at e; omega
        · obtain ⟨j, c, j0, j1, hc, hm, e2⟩ := h.vis z (by omega) z1 hz2
          obtain ⟨q1, q2⟩ := h.kid j c j0 hc hm
          have q3 := (q2 (by omega)).2.2.2
          rw [e2] at q3
          have ej : j = i := h.inj j i j0 (by omega) i0 i1 q1 hd (by omega)
          have ec : c = b := by rw [ej] at q3; omega
          omega
      refine ⟨len', by rw [pc_y 0 (by omega)]; exact h.root, keep 0 (by omega) h.rt, fun y => ?_, fun y y0 y1 hy => ?_, fun j c j0 hc hm => ?_, fun y z y0 y1 z0 z1 hy hz2 e => ?_⟩
      · by_cases e : y = x
        · have := h.pos i
          rw [e, pc_x]; omega
        · rw [pc_y y e]; exact h.pos y
      · by_cases e : y = x
        · exact ⟨i, b, i0, by omega, hb, by omega, by rw [ex, e]⟩
        · rw [at_y y (by omega) e] at hy
          obtain ⟨j, c, j0, j1, hc, hm, e2⟩ := h.vis y y0 y1 hy
          exact ⟨j, c, j0, j1, hc, by omega, e2⟩
      · by_cases e : 2 * j + c < 2 * i + b
        · obtain ⟨q1, q2⟩ := h.kid j c j0 hc e
          refine ⟨keep j j0 q1, fun hne => ?_⟩
          obtain ⟨r1, r2, r3, r4⟩ := q2 hne
          have hne2 : halfv (rd_T86 l j) c ≠ x := fun hh => by rw [hh] at r3; omega
          exact ⟨r1, r2, keep _ (by omega) r3, by rw [pc_y _ hne2, pc_y j (by omega)]; exact r4⟩
        · have ej : j = i := by omega
          have ec : c = b := by omega
          rw [ej, ec, ex]
          exact ⟨keep i i0 hd, fun _ => ⟨by omega, by omega, by rw [at_x]; omega, by rw [pc_x, pc_y i (by omega)]⟩⟩
      · by_cases ey : y = x
        · by_cases ez : z = x
          · rw [ey, ez]
          · rw [ey, pc_x, pc_y z ez] at e
            exact (fresh z z0 z1 ez hz2 e).elim
        · by_cases ez : z = x
          · rw [ez, pc_x, pc_y y ey] at e
            exact (fresh y y0 y1 ey hy e.symm).elim
          · rw [pc_y y ey, pc_y z ez] at e
            rw [at_y y y0 ey] at hy
            rw [at_y z z0 ez] at hz2
            exact h.inj y z y0 y1 z0 z1 hy hz2 e
    · rw [if_neg hx] at ht; cases ht
theorem tput_keep {n i : Int} {D D' : List Int} {x : Int} (h : tput n i D x = some D') (hd : 0 ≤ rd D i) (i0 : 0 ≤ i) (hn : (D.length : Int) = n) : ∀ y, 0 ≤ y → 0 ≤ rd D y → 0 ≤ rd D' y := fun y y0 hy => by
  unfold tput at h
  by_cases hz : x = 0
  · rw [if_pos hz] at h
    obtain rfl := ko h
    exact hy
  · rw [if_neg hz] at h
    by_cases hx : i + 1 ≤ x ∧ x ≤ n - 1 ∧ rd D x < 0
    · rw [if_pos hx] at h
      obtain rfl := ko h
      by_cases e : y = x
      · rw [e, rd_set_eq (by omega) (by omega)]; omega
      · rw [rd_set_ne (by omega) y0 (Ne.symm e)]; exact hy
    · rw [if_neg hx] at h; cases h
theorem trieOk_pinv {l : List S86} : ∀ (rest pre : List S86) (D : List Int) (c : Int) (pc : Int → Int), l = pre ++ rest → GI l pc (2 * (pre.length : Int)) D → (∀ y : Int, 0 ≤ y → y < (pre.length : Int) → 0 ≤ rd D y) → trieOk (l.length : Int) rest (pre.length : Int) D c = true → (∃ pc', PInv l pc') ∧ c + cntH rest ≤ 30
  | [], pre, D, c, pc, e, h, hv, ht => by
    have hl : (pre.length : Int) = (l.length : Int) := by rw [e]; simp
    rw [trieOk] at ht
    refine ⟨⟨pc, ⟨h.root, fun i _ _ => h.pos i, fun i b i0 i1 hb hne => ?_, fun x x0 x1 => ?_, fun i j i0 i1 j0 j1 he => h.inj i j i0 i1 j0 j1 (hv i i0 (by omega)) (hv j j0 (by omega)) he⟩⟩, by simpa [cntH] using ht⟩
    · obtain ⟨_, r⟩ := h.kid i b i0 hb (by omega)
      obtain ⟨r1, r2, _, r4⟩ := r hne
      exact ⟨r1, r2, r4⟩
    · obtain ⟨j, b, j0, j1, hb, _, e2⟩ := h.vis x x0 x1 (hv x (by omega) (by omega))
      exact ⟨j, b, j0, j1, hb, e2⟩
  | a :: rest, pre, D, c, pc, e, h, hv, ht => by
    have hlen : (pre.length : Int) < (l.length : Int) := by rw [e]; simp; omega
    have ea := nrd_mid e
    have hl := h.len
    rw [trieOk] at ht
    by_cases hd : rd D (pre.length : Int) < 0 ∨ rd D (pre.length : Int) > 32
    · rw [if_pos hd] at ht; cases ht
    · rw [if_neg hd] at ht
      cases hok : nodeOk (pre.length : Int) a
      · rw [hok, if_neg (by decide)] at ht; cases ht
      · rw [hok, if_pos rfl] at ht
        cases hp : tput (l.length : Int) (pre.length : Int) D a.f0 with
        | none => rw [hp] at ht; cases ht
        | some D1 =>
          rw [hp, kz] at ht
          cases hp2 : tput (l.length : Int) (pre.length : Int) D1 a.f1 with
          | none => rw [hp2] at ht; cases ht
          | some D2 =>
            rw [hp2] at ht
            dsimp only at ht
            have hd0 : 0 ≤ rd D (pre.length : Int) := by omega
            obtain ⟨pc1, g1, k1⟩ := GI.step (b := 0) (by rw [kl]; exact h) (by omega) hlen (.inl rfl) hd0 (by rw [ea, halfv_zero]; exact hp)
            rw [kl] at g1
            obtain ⟨pc2, g2, k2⟩ := GI.step (b := 1) g1 (by omega) hlen (.inr rfl) k1 (by rw [ea, halfv_one]; exact hp2)
            have hw : ((pre ++ [a]).length : Int) = (pre.length : Int) + 1 := by simp
            obtain ⟨r1, r2⟩ := trieOk_pinv (l := l) rest (pre ++ [a]) D2 _ pc2 (by rw [e]; simp) (by
              rw [hw, show 2 * ((pre.length : Int) + 1) = 2 * (pre.length : Int) + 1 + 1 by omega]; exact g2) (fun y y0 y1 => by
              rw [hw] at y1
              refine tput_keep hp2 k1 (by omega) (by have := g1.len; omega) y y0 (tput_keep hp hd0 (by omega) (by omega) y y0 ?_)
              by_cases ey : y = (pre.length : Int)
              · rw [ey]; exact hd0
              · exact hv y y0 (by omega)) (by rw [hw]; exact ht)
            refine ⟨r1, ?_⟩
            have hcnt : cntH (a :: rest) = cntH rest + if a.f2 = true then 1 else 0 := by unfold cntH; rw [kk]
            rw [hcnt]
            split at r2 <;> rename_i hh <;> simp only [hh, if_true, if_false] <;> (try simp) <;> omega
theorem good_pinv {l : List S86} (h : goodTrie l = true) : (∃ pc, PInv l pc) ∧ cntH l ≤ 30 := by
  have hl := goodTrie_len h
  unfold goodTrie at h
  rw [if_pos hl] at h
  have r0 : rd ((kq l.length (-1 : Int)).set 0 0) 0 = 0 := rd_set_eq (D := kq l.length (-1 : Int)) (x := 0) (by omega) (by rw [ku]; omega)
  obtain ⟨r1, r2⟩ := trieOk_pinv (l := l) l [] _ 0 (fun _ => 1) rfl ⟨by simp, rfl, by rw [r0]; omega, fun _ => by omega, fun x x0 x1 hx => by
    have e := rd_set_ne (D := kq l.length (-1 : Int)) (x := 0) (y := x) (v := 0) (by omega) (by omega) (by omega)
    rw [show ((0 : Int).toNat) = 0 from rfl] at e
    rw [e] at hx
    unfold rd at hx
    rw [List.getD_eq_getElem?_getD, List.getElem?_replicate, if_pos (by omega)] at hx
    exact absurd hx (by decide), fun j c j0 hc hm => by simp at hm; omega, fun x y x0 x1 y0 y1 hx hy _ => by
    have out : ∀ z : Int, 0 ≤ z → z < (l.length : Int) → 0 ≤ rd ((kq l.length (-1 : Int)).set 0 0) z → z = 0 := fun z z0 z1 hz => by
      by_cases e0 : z = 0
      · exact e0
      · have e := rd_set_ne (D := kq l.length (-1 : Int)) (x := 0) (y := z) (v := 0) (by omega) z0 (Ne.symm e0)
        rw [show ((0 : Int).toNat) = 0 from rfl] at e
        rw [e] at hz
        unfold rd at hz
        rw [List.getD_eq_getElem?_getD, List.getElem?_replicate, if_pos (by omega)] at hz
        exact absurd hz (by decide)
    rw [out x x0 x1 hx, out y y0 y1 hy]⟩ (fun y y0 y1 => by simp at y1; omega) h
  exact ⟨r1, by omega⟩
theorem nodup_len {α : Type} [DecidableEq α] : ∀ (l m : List α), l.Nodup → (∀ x, x ∈ l → x ∈ m) → l.length ≤ m.length
  | [], m, _, _ => by simp
  | a :: l, m, h, hs => by
    obtain ⟨h1, h2⟩ := List.nodup_cons.1 h
    have ha := hs a (by simp)
    have := nodup_len l (m.erase a) h2 (fun x hx => (List.mem_erase_of_ne (fun e => h1 (by rw [← e]; exact hx))).2 (hs x (by simp [hx])))
    rw [List.length_erase_of_mem ha] at this
    have := List.length_pos_of_mem ha
    rw [ky]; omega
theorem held_le {t : List S86} {pc : Int → Int} (qs : List Int) (hn : qs.Nodup) (hq : ∀ q, q ∈ qs → ∃ v, Holds t pc q v) : qs.length ≤ cntH t := by
  have key : ∀ (rest pre : List S86), t = pre ++ rest → ((List.range rest.length).filter (fun j : Nat => (rd_T86 t ((pre.length : Int) + (j : Int))).f2)).length = cntH rest := by
    intro rest
    induction rest with
    | nil => intro pre _; rfl
    | cons a rest ih =>
      intro pre e
      have ih' := ih (pre ++ [a]) (by rw [e]; simp)
      rw [ky, List.range_succ_eq_map, List.filter_cons]
      have h0 : (rd_T86 t ((pre.length : Int) + ((0 : Nat) : Int))) = a := by
        rw [show (pre.length : Int) + ((0 : Nat) : Int) = (pre.length : Int) by omega]; exact nrd_mid e
      rw [h0]
      have h1 : ((List.map Nat.succ (List.range rest.length)).filter (fun j : Nat => (rd_T86 t ((pre.length : Int) + (j : Int))).f2)).length = cntH rest := by
        rw [List.filter_map, kd, ← ih']
        congr 1
        refine List.filter_congr (fun j _ => ?_)
        show (rd_T86 t ((pre.length : Int) + ((j + 1 : Nat) : Int))).f2 = _
        rw [show (pre.length : Int) + ((j + 1 : Nat) : Int) = ((pre ++ [a]).length : Int) + (j : Int) by simp; omega]
      have hcnt : cntH (a :: rest) = cntH rest + if a.f2 = true then 1 else 0 := by unfold cntH; rw [kk]
      rw [hcnt]
      split
      · rw [ky, h1]
      · rw [h1]; rfl
  have hk := key t [] rfl
  rw [← hk]
  have := nodup_len qs (((List.range t.length).filter (fun j : Nat => (rd_T86 t ((([] : List S86).length : Int) + (j : Int))).f2)).map (fun j : Nat => pc (j : Int))) hn (fun q hq' => by
    obtain ⟨v, j, j0, j1, e1, e2, _⟩ := hq q hq'
    refine List.mem_map.2 ⟨j.toNat, List.mem_filter.2 ⟨List.mem_range.2 (by omega), ?_⟩, ?_⟩
    · rw [show ((([] : List S86).length : Int) + (j.toNat : Int)) = j by simp; omega]; exact e2
    · rw [show (j.toNat : Int) = j by omega]; exact e1)
  rw [kd] at this
  exact this
theorem pairwise_rising : ∀ (l : List S39) (o : Option Pr2), (∀ e, e ∈ l → good e.f0.f0 e.f0.f1 = true) → (∀ q, o = some q → ∀ e, e ∈ l → q.1 < e.f0.f0 ∨ (q.1 = e.f0.f0 ∧ q.2 < e.f0.f1)) → l.Pairwise ltE → risingFrom o (l.map ent) = true
  | [], o, _, _, _ => rfl
  | p :: t, o, hg, ho, hp => by
    obtain ⟨h1, h2⟩ := kx.1 hp
    have ih := pairwise_rising t (some (ent p)) (fun e he => hg e (by simp [he])) (fun q hq e he => by
      obtain rfl := ko hq
      exact h1 e he) h2
    have gp := hg p (by simp)
    simp only [kw, risingFrom, kf]
    cases o with
    | none => exact ⟨⟨gp, rfl⟩, ih⟩
    | some q =>
      have := ho q rfl p (by simp)
      exact ⟨⟨gp, decide_eq_true (by
        show cmpP q.1 q.2 p.f0.f0 p.f0.f1 < 0
        unfold cmpP
        rw [if_pos this]; omega)⟩, ih⟩
theorem ent_mem {t : List S86} {pc : Int → Int} (hp : PInv t pc) (hl : 1 ≤ t.length) : (walkP t 32 0 0 0 []).Pairwise ltE ∧ ∀ e, e ∈ walkP t 32 0 0 0 [] ↔ (good e.f0.f0 e.f0.f1 = true ∧ Holds t pc (code e.f0.f0 e.f0.f1) e.f1) := by
  obtain ⟨w, e, hw, hm⟩ := walk_holds hp 32 0 0 0 [] (by rfl) (by omega) (by omega) (good_iff.2 ⟨by omega, by omega, by omega, by omega, by rfl⟩) (by rw [hp.root, code_zero (by omega) (by omega)])
  rw [List.nil_append] at e
  rw [e]
  refine ⟨hw, fun e => ?_⟩
  rw [hm]
  constructor
  · rintro ⟨⟨g, _⟩, hh⟩; exact ⟨g, hh⟩
  · rintro ⟨g, hh⟩
    obtain ⟨n0, n1, a0, a1, _⟩ := good_iff.1 g
    have := good_end g
    exact ⟨⟨g, n0, a0, by rw [sz_lit.1]; omega⟩, hh⟩
theorem good_entries {t : List S86} (h : goodTrie t = true) : goodTable (walkP t 32 0 0 0 []) = true := by
  obtain ⟨⟨pc, hp⟩, hc⟩ := good_pinv h
  have hl := goodTrie_len h
  obtain ⟨hw, hm2⟩ := ent_mem hp (by omega)
  generalize walkP t 32 0 0 0 [] = w at hw hm2 ⊢
  have hg : ∀ e, e ∈ w → good e.f0.f0 e.f0.f1 = true := fun e he => ((hm2 e).1 he).1
  unfold goodTable
  simp only [kf]
  refine ⟨⟨decide_eq_true ?_, pairwise_rising w none hg (fun q hq => by cases hq) hw⟩, List.all_eq_true.2 (fun e he => ?_)⟩
  · have := held_le (t := t) (pc := pc) (w.map (fun e => code e.f0.f0 e.f0.f1)) (by
      rw [List.Nodup, List.pairwise_map]
      refine List.Pairwise.imp_of_mem (fun {x y} hx hy hlt hc => ?_) hw
      obtain ⟨h1, h2⟩ := code_inj (hg x hx) (hg y hy) hc
      unfold ltE at hlt
      omega) (fun q hq => by
      obtain ⟨e, he, rfl⟩ := List.mem_map.1 hq
      exact ⟨e.f1, ((hm2 e).1 he).2⟩)
    rw [kd] at this
    omega
  · obtain ⟨_, j, j0, j1, _, _, e3⟩ := (hm2 e).1 he
    rw [← e3]
    exact (goodTrie_kids h j0 j1).2
def notAt (a n : Int) (e : S39) : Bool := !decide (e.f0.f0 = a ∧ e.f0.f1 = n)
theorem table_filter {l : List S39} (h : goodTable l = true) (f : S39 → Bool) : goodTable (l.filter f) = true := by
  obtain ⟨h30, hv⟩ := goodTable_vals h
  have hm : ∀ e, e ∈ l.filter f → e ∈ l := fun e he => (List.mem_filter.1 he).1
  have := List.length_filter_le f l
  unfold goodTable
  simp only [kf]
  exact ⟨⟨decide_eq_true (by omega), pairwise_rising _ none (fun e he => (hv e (hm e he)).1) (fun q hq => by cases hq) ((table_rises h).filter f)⟩, List.all_eq_true.2 (fun e he => (hv e (hm e he)).2)⟩
theorem erase_filter (a n : Int) : ∀ (w : List S39) (i : Nat) (h : i < w.length), w.Pairwise ltE → (w[i]).f0.f0 = a ∧ (w[i]).f0.f1 = n → w.take i ++ w.drop (i + 1) = w.filter (notAt a n)
  | [], i, h, _, _ => by simp at h
  | e :: w, 0, h, hp, he => by
    obtain ⟨h1, h2⟩ := kx.1 hp
    replace he : e.f0.f0 = a ∧ e.f0.f1 = n := he
    rw [List.filter_cons_of_neg (by unfold notAt; rw [decide_eq_true he]; decide)]
    show w = w.filter (notAt a n)
    refine (List.filter_eq_self.2 (fun x hx => ?_)).symm
    have := h1 x hx
    unfold notAt
    rw [decide_eq_false (by unfold ltE at this; omega)]
    rfl
  | e :: w, i + 1, h, hp, he => by
    obtain ⟨h1, h2⟩ := kx.1 hp
    have hi : i < w.length := by simpa using h
    replace he : (w[i]).f0.f0 = a ∧ (w[i]).f0.f1 = n := he
    have := h1 _ (List.getElem_mem hi)
    rw [List.filter_cons_of_pos (by unfold notAt; rw [decide_eq_false (by unfold ltE at this; omega)]; rfl)]
    show e :: (w.take i ++ w.drop (i + 1)) = _
    rw [erase_filter a n w i hi h2 he]
theorem index_is (l : List S39) (a n : Int) (hl : l.length ≤ 1048576) : ∀ (rest pre : List S39) (k : Nat), l = pre ++ rest → rest.length < k → (∀ e, e ∈ pre → ¬ (e.f0.f0 = a ∧ e.f0.f1 = n)) →
    ∃ i : Int, slices_Index_impl_Prefix_impl_Prefix.l0 k (l.map fun x => (⟨x.f0.f0, x.f0.f1⟩ : S37)) (((l.map fun x => (⟨x.f0.f0, x.f0.f1⟩ : S37)).length : Nat) : Int) (pre.length : Int) a n = some i ∧ ((i = -1 ∧ ∀ e, e ∈ l → ¬ (e.f0.f0 = a ∧ e.f0.f1 = n)) ∨ ∃ (j : Nat) (h : j < l.length), i = (j : Int) ∧ (l[j]).f0.f0 = a ∧ (l[j]).f0.f1 = n)
  | [], pre, k, e, hk, hp => by
    obtain ⟨k, rfl⟩ : ∃ m, k = m + 1 := ⟨k - 1, by simp at hk; omega⟩
    have e' : l = pre := by rw [e, kr]
    rw [slices_Index_impl_Prefix_impl_Prefix.l0, if_neg (by rw [e']; simp)]
    exact ⟨_, rfl, .inl ⟨rfl, by rw [e']; exact hp⟩⟩
  | x :: rest, pre, k, e, hk, hp => by
    rw [ky] at hk
    obtain ⟨k, rfl⟩ : ∃ m, k = m + 1 := ⟨k - 1, by omega⟩
    have hlen : pre.length < l.length := by rw [e]; simp
    have hx : rd_T37 (l.map fun x => (⟨x.f0.f0, x.f0.f1⟩ : S37)) (pre.length : Int) = ⟨x.f0.f0, x.f0.f1⟩ := by
      have := rdm_Prefix (pre.map fun x => (⟨x.f0.f0, x.f0.f1⟩ : S37)) ⟨x.f0.f0, x.f0.f1⟩ (rest.map fun x => (⟨x.f0.f0, x.f0.f1⟩ : S37))
      rw [kd] at this
      rw [e, kt, kw]
      exact this
    have hw : wrap64 ((pre.length : Int) + 1) = ((pre ++ [x]).length : Int) := by rw [wrap_id (by omega) (by omega)]; simp
    rw [slices_Index_impl_Prefix_impl_Prefix.l0, if_pos (by rw [kd]; omega), if_pos (by omega), if_pos (by rw [kd]; omega), hx]
    by_cases hc : x.f0.f0 = a ∧ x.f0.f1 = n
    · rw [if_pos (by simp [hc.1, hc.2])]
      refine ⟨_, rfl, .inr ⟨pre.length, hlen, rfl, ?_⟩⟩
      have : l[pre.length] = x := by simp [e]
      rw [this]; exact hc
    · rw [if_neg (by
        simp only [kf, beq_iff_eq]
        exact fun h => hc ⟨h.1.symm, h.2.symm⟩), hw]
      exact index_is l a n hl rest (pre ++ [x]) k (by rw [e]; simp) (by omega) (fun e' he => by
        rcases kp.1 he with he | he
        · exact hp e' he
        · rw [List.mem_singleton.1 he]; exact hc)
theorem spec_Remove_l0 (w : List S39) (a n : Int) (hl : w.length ≤ 1000) (K0 : Nat) (t : List S86) : ∀ (rest pre out : List S39) (found : Bool) (k : Nat), w = pre ++ rest → out.length ≤ pre.length → K0 + rest.length + 1 ≤ k → (∀ k, K0 ≤ k → spec_l2Build.f k (out ++ rest.filter (notAt a n)) = some t) →
    spec_RemoveFrom.l0 k out found w (w.length : Int) (pre.length : Int) a n = some (if (found || rest.any (fun e => !notAt a n e)) = true then (t, true) else ([], false))
  | [], pre, out, found, k, e, ho, hk, hB => by
    obtain ⟨k, rfl⟩ : ∃ m, k = m + 1 := ⟨k - 1, by omega⟩
    rw [spec_RemoveFrom.l0, if_neg (by rw [e]; simp)]
    cases found with
    | true =>
      have := hB k (by simp at hk; omega)
      simp only [List.filter_nil, kr] at this
      rw [if_pos rfl, this, kz]
      simp
    | false => rw [if_neg (by simp)]; simp
  | x :: rest, pre, out, found, k, e, ho, hk, hB => by
    rw [ky] at hk
    obtain ⟨k, rfl⟩ : ∃ m, k = m + 1 := ⟨k - 1, by omega⟩
    have hlen : pre.length < w.length := by rw [e]; simp
    have hx : rd_T39 w (pre.length : Int) = x := by rw [e]; exact rdm_Entry _ _ _
    have hw : wrap64 ((pre.length : Int) + 1) = ((pre ++ [x]).length : Int) := by rw [wrap_id (by omega) (by omega)]; simp
    rw [spec_RemoveFrom.l0, if_pos (by omega), if_pos (by omega), if_pos (by omega), hx, hw]
    by_cases hc : x.f0.f0 = a ∧ x.f0.f1 = n
    · have hn : notAt a n x = false := by unfold notAt; rw [decide_eq_true hc]; rfl
      rw [if_pos (by simp [hc.1, hc.2]), spec_Remove_l0 w a n hl K0 t rest (pre ++ [x]) out true k (by rw [e]; simp) (by simp; omega) (by omega) (fun k hk => by
        have := hB k hk
        rwa [List.filter_cons_of_neg (by rw [hn]; simp)] at this)]
      simp [hn]
    · have hn : notAt a n x = true := by unfold notAt; rw [decide_eq_false hc]; rfl
      rw [if_neg (by simpa using fun h1 h2 => hc ⟨h1, h2⟩), if_pos (by omega), spec_Remove_l0 w a n hl K0 t rest (pre ++ [x]) _ found k (by rw [e]; simp) (by simp; omega) (by omega) (fun k hk => by
        have := hB k hk
        rw [List.filter_cons_of_pos hn] at this
        rw [kc]
        exact this)]
      simp [hn]
def remR (t : List S86) (a n : Int) : List S86 × Bool := if goodTrie t = true ∧ good a n = true ∧ (walkP t 32 0 0 0 []).any (fun e => !notAt a n e) = true then (buildP ((walkP t 32 0 0 0 []).filter (notAt a n)), true) else ([], false)
theorem remR_len (t : List S86) (a n : Int) : (remR t a n).1.length ≤ 2000 := by
  unfold remR
  by_cases h : goodTrie t = true ∧ good a n = true ∧ (walkP t 32 0 0 0 []).any (fun e => !notAt a n e) = true
  · rw [if_pos h]
    exact (build_good (table_filter (good_entries h.1) _)).2.2
  · rw [if_neg h]; simp
theorem RemoveFrom_is (t : List S86) (a n : Int) : Ev (fun k => spec_RemoveFrom.f k t a n) (remR t a n) ∧ Ev (fun k => impl_RemoveFrom.f k t a n) (remR t a n) := by
  obtain ⟨K1, h1⟩ := spec_GoodTrie_is t
  obtain ⟨K2, h2⟩ := impl_GoodTrie_is t
  replace h1 : ∀ k, K1 ≤ k → spec_GoodTrie.f k t = _ := h1
  replace h2 : ∀ k, K2 ≤ k → impl_GoodTrie.f k t = _ := h2
  by_cases hg : goodTrie t = true
  · obtain ⟨K3, h3⟩ := Entries_val hg
    by_cases hp : good a n = true
    · have hT := good_entries hg
      obtain ⟨⟨pc, hpc⟩, _⟩ := good_pinv hg
      have hl := goodTrie_len hg
      have hW := (ent_mem hpc (by omega)).1
      have hw : ∀ k, 66 ≤ k → spec_l2Walk.f k t 0 0 0 [] = some (walkP t 32 0 0 0 []) := fun k hk => (walk_same (goodTrie_KidsV hg) 32 0 0 0 [] k (by omega) (by omega) (by omega) (by omega) (by omega) (by rw [sz_lit.1]; omega) (by simp) (by omega)).1
      have h30 := (goodTable_vals hT).1
      have hTf := table_filter hT (notAt a n)
      obtain ⟨⟨K4, h4⟩, h5⟩ := Build_good hTf
      have hfl := List.length_filter_le (notAt a n) (walkP t 32 0 0 0 [])
      have hR : remR t a n = if (false || (walkP t 32 0 0 0 []).any (fun e => !notAt a n e)) = true then (buildP ((walkP t 32 0 0 0 []).filter (notAt a n)), true) else ([], false) := by
        unfold remR
        by_cases ha : (walkP t 32 0 0 0 []).any (fun e => !notAt a n e) = true
        · rw [if_pos ⟨hg, hp, ha⟩, if_pos (by rw [ha]; rfl)]
        · rw [if_neg (fun h => ha h.2.2), if_neg (by rw [ks]; exact ha)]
      refine ⟨⟨K1 + 300, fun k hk => ?_⟩, ⟨K2 + K3 + K4 + 300, fun k hk => ?_⟩⟩
      · show spec_RemoveFrom.f k t a n = _
        obtain ⟨k, rfl⟩ : ∃ m, k = m + 1 := ⟨k - 1, by omega⟩
        unfold spec_RemoveFrom.f
        rw [h1 _ (by omega), kz, if_pos hg, spec_GoodPrefix_is, kz, hp, Bool.not_true, spec_RemoveFrom.j0, if_neg (by simp), hw k (by omega), kz, hR]
        exact spec_Remove_l0 (walkP t 32 0 0 0 []) a n (by omega) 100 _ (walkP t 32 0 0 0 []) [] [] false k rfl (by simp) (by omega) (fun k hk => h5 k (by omega))
      · show impl_RemoveFrom.f k t a n = _
        obtain ⟨k, rfl⟩ : ∃ m, k = m + 1 := ⟨k - 1, by omega⟩
        obtain ⟨i, hi, hcase⟩ := index_is (walkP t 32 0 0 0 []) a n (by omega) (walkP t 32 0 0 0 []) [] k rfl (by omega) (fun e he => by simp at he)
        have hi' : slices_Index_impl_Prefix_impl_Prefix.f k ((walkP t 32 0 0 0 []).map fun x => (⟨x.f0.f0, x.f0.f1⟩ : S37)) a n = some i := hi
        unfold impl_RemoveFrom.f
        rw [h3 _ (by omega), kz]
        dsimp only
        rw [if_pos rfl, impl_GoodPrefix_is, kz, hp, Bool.not_true, impl_RemoveFrom.j0, if_neg (by simp), impl_prefixesOf_is k _ (by omega) (by omega), kz, hi', kz]
        rcases hcase with ⟨rfl, hno⟩ | ⟨j, hj, rfl, ha, hn⟩
        · have hany : (walkP t 32 0 0 0 []).any (fun e => !notAt a n e) = false := by
            rw [List.any_eq_false]
            intro e he
            unfold notAt
            rw [decide_eq_false (hno e he)]
            simp
          rw [if_pos (by omega), hR, hany, if_neg (by simp)]
        · have hany : (walkP t 32 0 0 0 []).any (fun e => !notAt a n e) = true := by
            rw [List.any_eq_true]
            refine ⟨_, List.getElem_mem hj, ?_⟩
            unfold notAt
            rw [decide_eq_true ⟨ha, hn⟩]
            rfl
          have hdel : slices_Delete_impl_Entry_impl_Entry.f (walkP t 32 0 0 0 []) (j : Int) (wrap64 ((j : Int) + 1)) = some ((walkP t 32 0 0 0 []).filter (notAt a n)) := by
            unfold slices_Delete_impl_Entry_impl_Entry.f
            rw [wrap_id (by omega) (by omega), if_pos ⟨by omega, by omega, rfl⟩, ← erase_filter a n _ j hj hW ⟨ha, hn⟩]
            rw [show ((j : Int)).toNat = j by omega, show ((j : Int) + 1).toNat = j + 1 by omega]
          rw [if_neg (by omega), hdel, kz, h4 k (by omega), kz, hR, hany, if_pos (by rfl)]
    · have hR : remR t a n = ([], false) := by unfold remR; rw [if_neg (fun h => hp h.2.1)]
      have hpf : good a n = false := by
        cases h : good a n with
        | false => rfl
        | true => exact (hp h).elim
      refine ⟨⟨K1 + 1, fun k hk => ?_⟩, ⟨K3 + 1, fun k hk => ?_⟩⟩
      · show spec_RemoveFrom.f k t a n = _
        obtain ⟨k, rfl⟩ : ∃ m, k = m + 1 := ⟨k - 1, by omega⟩
        unfold spec_RemoveFrom.f
        rw [h1 _ (by omega), kz, if_pos hg, spec_GoodPrefix_is, kz, hpf, Bool.not_false, spec_RemoveFrom.j0, if_pos rfl, hR]
      · show impl_RemoveFrom.f k t a n = _
        obtain ⟨k, rfl⟩ : ∃ m, k = m + 1 := ⟨k - 1, by omega⟩
        unfold impl_RemoveFrom.f
        rw [h3 _ (by omega), kz]
        dsimp only
        rw [if_pos rfl, impl_GoodPrefix_is, kz, hpf, Bool.not_false, impl_RemoveFrom.j0, if_pos rfl, hR]
  · have hR : remR t a n = ([], false) := by unfold remR; rw [if_neg (fun h => hg h.1)]
    refine ⟨⟨K1 + 1, fun k hk => ?_⟩, ⟨K2 + 1, fun k hk => ?_⟩⟩
    · show spec_RemoveFrom.f k t a n = _
      obtain ⟨k, rfl⟩ : ∃ m, k = m + 1 := ⟨k - 1, by omega⟩
      unfold spec_RemoveFrom.f
      rw [h1 _ (by omega), kz, if_neg hg, spec_RemoveFrom.j0, if_pos rfl, hR]
    · show impl_RemoveFrom.f k t a n = _
      obtain ⟨k, rfl⟩ : ∃ m, k = m + 1 := ⟨k - 1, by omega⟩
      unfold impl_RemoveFrom.f impl_TrieEntries.f
      rw [h2 _ (by omega), kz, if_neg hg, kz]
      dsimp only
      rw [if_neg (by simp), impl_RemoveFrom.j0, if_pos rfl, hR]

end FnExactRemoveFromUses
open Go.RowKit Go.Proofs.Ytakoaogbkajkcaa.PFnExactRemoveFrom Go.Proofs.YtakoaogbkajkcaaW.PrintWords Go.Proofs.YtakoaogbkajkcaaW.PrintLast Go.Proofs.YtakoaogbkajkcaaW.PrintMore Go.Proofs.Ytakoaogbkajkcaa.Pfx Go.Proofs.Ytakoaogbkajkcaa.Loop Go.Proofs.Ytakoaogbkajkcaa.Tbl FnExactRemoveFromUses
open Option renaming bind_some → kz
open List renaming replicate → kq, length_cons → ky, countP_cons → kk, length_set → kh, length_singleton → kg, length_append → kb, length_map → kd, append_assoc → kc, pairwise_cons → kx, length_replicate → ku, map_append → kt, append_nil → kr, mem_append → kp, map_cons → kw
open Int renaming dvd_of_emod_eq_zero → kj, mul_le_mul_of_nonneg_left → kv, le_refl → ke, eq_ofNat_of_zero_le → km, add_zero → kl, mul_add → ki
open Bool renaming and_eq_true → kf, false_or → ks, true_and → ka
open Option.some renaming inj → ko
open Nat renaming pow_succ → kn
set_option linter.unusedVariables false
theorem FnExactRemoveFrom (l0 : List S88) (a1_0 : Int) (a1_1 : Int) (m0 : l0.length ≤ maxLen) (w0 : ∀ a, a ∈ l0 → ((Lit.int .i64 a.f0).wf = true ∧ ((Lit.int .i64 a.f1).wf = true ∧ (True ∧ (Lit.int .i64 a.f3).wf = true)))) (w1_0 : (Lit.int .i64 a1_0).wf = true) (w1_1 : (Lit.int .i64 a1_1).wf = true) : ∃ k, laws_FnExactRemoveFrom.f k l0 a1_0 a1_1 = some true := by
  obtain ⟨r, hr, hb⟩ := laws_szTrieNodeS_is l0 m0
  by_cases h : r < 0
  · exact ⟨0, by unfold laws_FnExactRemoveFrom.f; rw [hr, kz, if_pos h]⟩
  · have hl := hb h
    have hl2 : (l0.map fun p => (⟨p.f0, p.f1, p.f2, p.f3⟩ : S86)).length = l0.length := by simp
    obtain ⟨⟨K1, h1⟩, ⟨K2, h2⟩⟩ := RemoveFrom_is (l0.map fun p => (⟨p.f0, p.f1, p.f2, p.f3⟩ : S86)) a1_0 a1_1
    have hq := remR_len (l0.map fun p => (⟨p.f0, p.f1, p.f2, p.f3⟩ : S86)) a1_0 a1_1
    generalize remR (l0.map fun p => (⟨p.f0, p.f1, p.f2, p.f3⟩ : S86)) a1_0 a1_1 = q at h1 h2 hq
    replace h1 : ∀ k, K1 ≤ k → spec_RemoveFrom.f k _ _ _ = _ := h1
    replace h2 : ∀ k, K2 ≤ k → impl_RemoveFrom.f k _ _ _ = _ := h2
    obtain ⟨K, hK⟩ : ∃ K : Nat, K1 + K2 + l0.length + 5000 ≤ K := ⟨_, Nat.le_refl _⟩
    refine ⟨K + 1 + 1 + 1, ?_⟩
    unfold laws_FnExactRemoveFrom.f laws_toPrefix.f
    rw [hr, kz, if_neg h, laws_toTrieNodeS_is _ l0 hl (by omega)]
    simp only [kz]
    rw [h1 _ (by omega), h2 _ (by omega)]
    simp only [kz]
    rw [laws_eqTrieNodeS_refl _ _ (by simp only [maxLen]; omega) (by omega)]
    simp only [kz, if_true, bne_self_eq_false]
    rw [laws_FnExactRemoveFrom.j0, if_neg (by simp), laws_toTrieNodeS_is _ l0 hl (by omega)]
    simp only [kz]
    rw [laws_eqTrieNodeS_refl _ _ (by simp only [maxLen]; omega) (by omega)]
    simp only [kz, if_true]
    rw [laws_markTrieNodeS_is _ (by omega) 1 (by omega) (by omega) _ (by omega)]
    simp only [kz]
    rw [if_neg (by omega), laws_eqTrieNodeS_refl _ _ (by simp only [maxLen]; omega) (by omega)]
    simp only [kz, if_true, bne_self_eq_false]
    rw [laws_FnExactRemoveFrom.j1, if_neg (by simp), laws_markTrieNodeS_is q.1 (by omega) 1 (by omega) (by omega) _ (by omega)]
    simp only [kz]
    rw [laws_heldTrieNodeS_is q.1.length (by omega) 1 (by omega) (by omega) _ (by omega)]
    simp only [kz]
    rw [if_neg (by omega), if_pos trivial, laws_toTrieNodeS_is _ l0 hl (by omega)]
    unfold laws_toPrefix.f
    simp only [kz]
    rw [h2 _ (by omega)]
    simp only [kz]
    rw [laws_eqTrieNodeS_refl _ _ (by simp only [maxLen]; omega) (by omega)]
    simp only [kz, if_true, bne_self_eq_false]
    rw [laws_FnExactRemoveFrom.j2, if_neg (by simp), laws_heldTrieNodeS_is q.1.length (by omega) 1 (by omega) (by omega) _ (by omega)]
    simp only [kz]
    rw [if_neg (by omega), if_pos trivial]
end Go.Proofs.Ytakoaogbkajkcaa.Pure
