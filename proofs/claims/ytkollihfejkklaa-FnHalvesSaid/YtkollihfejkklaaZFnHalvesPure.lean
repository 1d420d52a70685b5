/- The pure statement of FnHalves: what the printed functions tell is what the reference tells. No condition but the arguments' own bounds. -/
import Derived.Test.YtkollihfejkklaaYFnHalvesx6
import Derived.Test.YtkollihfejkklaaQFnHalves
namespace Go.Proofs.Ytkollihfejkklaa.Pure
namespace FnHalvesUses
open Go.RowKit Go.Proofs.Ytkollihfejkklaa.PFnHalves Go.Proofs.YtkollihfejkklaaW.PrintWords Go.Proofs.YtkollihfejkklaaW.PrintLast Go.Proofs.YtkollihfejkklaaW.PrintMore Go.Proofs.Ytkollihfejkklaa.Pfx Go.Proofs.Ytkollihfejkklaa.Loop
open Option renaming bind_some → kz
open Int renaming tmod_eq_emod_of_nonneg → kq, dvd_of_emod_eq_zero → ky
set_option linter.unusedVariables false
set_option linter.unusedSimpArgs false

theorem spec_l1In_is (a lo hi : Int) : spec_l1In.f a lo hi = some (decide (lo ≤ a ∧ a ≤ hi)) := by
  unfold spec_l1In.f
  by_cases h : lo ≤ a
  · rw [if_pos h]; simp [h]
  · rw [if_neg h]; simp [h]
theorem impl_within_is (a lo hi : Int) : impl_within.f a lo hi = some (decide (lo ≤ a ∧ a ≤ hi)) := by
  unfold impl_within.f
  by_cases h : lo ≤ a
  · rw [if_pos h]; simp [h]
  · rw [if_neg h]; simp [h]
theorem spec_l1Addr_is (a : Int) : spec_l1Addr.f a = some (decide (0 ≤ a ∧ a ≤ 4294967295)) := by
  unfold spec_l1Addr.f; rw [spec_l1In_is]; rfl
theorem impl_isAddr_is (a : Int) : impl_isAddr.f a = some (decide (0 ≤ a ∧ a ≤ 4294967295)) := by
  unfold impl_isAddr.f; rw [impl_within_is]; rfl
theorem impl_sizeOf_is {n : Int} (h0 : 0 ≤ n) (h1 : n ≤ 32) : impl_sizeOf.f n = some (sz n) := by
  unfold impl_sizeOf.f
  rw [shl_sz h0 h1, if_pos (by rw [wrap_id (by omega) (by omega)]; omega)]
theorem spec_l1Size_is (a : Int) {n : Int} (h0 : 0 ≤ n) (h1 : n ≤ 32) : spec_l1Size.f a n = some (sz n) := by
  unfold spec_l1Size.f
  have e : IntKind.u64.wrap (wrap64 (32 - n)) = wrap64 (32 - n) := by rw [wrap_id (by omega) (by omega), u64_id (by omega) (by omega)]
  rw [e, shl_sz h0 h1, if_pos (by rw [wrap_id (by omega) (by omega)]; omega)]
theorem impl_GoodPrefix_is (a n : Int) : impl_GoodPrefix.f a n = some (good a n) := by
  unfold impl_GoodPrefix.f
  rw [impl_within_is, kz]
  by_cases h : 0 ≤ n ∧ n ≤ 32
  · rw [if_pos (decide_eq_true h), impl_isAddr_is, kz]
    by_cases h' : 0 ≤ a ∧ a ≤ 4294967295
    · rw [if_pos (decide_eq_true h'), impl_sizeOf_is h.1 h.2, kz, if_neg (by have := sz_pos n; omega), kq h'.1]
      simp [good, h.1, h.2, h'.1, h'.2, beq_dec]
    · rw [if_neg (by simpa using h')]
      have : good a n = false := by simp [good]; omega
      rw [this]
  · rw [if_neg (by simpa using h)]
    have : good a n = false := by simp [good]; omega
    rw [this]
theorem spec_GoodPrefix_is (a n : Int) : spec_GoodPrefix.f a n = some (good a n) := by
  unfold spec_GoodPrefix.f
  rw [spec_l1In_is, kz]
  by_cases h : 0 ≤ n ∧ n ≤ 32
  · rw [if_pos (decide_eq_true h), spec_l1Addr_is, kz]
    by_cases h' : 0 ≤ a ∧ a ≤ 4294967295
    · rw [if_pos (decide_eq_true h'), spec_l1Size_is a h.1 h.2, kz, if_neg (by have := sz_pos n; omega), kq h'.1]
      simp [good, h.1, h.2, h'.1, h'.2, beq_dec]
    · rw [if_neg (by simpa using h')]
      have : good a n = false := by simp [good]; omega
      rw [this]
  · rw [if_neg (by simpa using h)]
    have : good a n = false := by simp [good]; omega
    rw [this]
theorem impl_Prefix_end_is {a n : Int} (h : good a n = true) : impl_Prefix_end.f a n = some (a + sz n - 1) := by
  obtain ⟨h0, h1, h2, h3, h4⟩ := good_iff.1 h
  have := sz_pos n
  have := sz_le h0
  unfold impl_Prefix_end.f
  rw [impl_sizeOf_is h0 h1, kz, wrap_id (x := a + sz n) (by omega) (by omega), wrap_id (by omega) (by omega)]
theorem impl_Prefix_has_is {a n : Int} (x : Int) (h : good a n = true) : impl_Prefix_has.f a n x = some (decide (a ≤ x ∧ x ≤ a + sz n - 1)) := by
  unfold impl_Prefix_has.f
  rw [impl_Prefix_end_is h, kz, impl_within_is]; rfl
theorem spec_l1Parent_is {a n : Int} (h : good a n = true) (hn : 0 < n) : spec_l1Parent.f a n = some (a - a % (2 * sz n), n - 1) := by
  obtain ⟨h0, h1, h2, h3, h4⟩ := good_iff.1 h
  have hs := sz_pos n
  have h9 := sz_le h0
  have h7 := Int.emod_nonneg a (show 2 * sz n ≠ 0 by omega)
  have h8 := Int.emod_lt_of_pos a (show 0 < 2 * sz n by omega)
  unfold spec_l1Parent.f
  rw [spec_l1Size_is a h0 h1, kz, wrap_id (x := 2 * sz n) (by omega) (by omega), if_neg (by omega), kq h2, wrap_id (by omega) (by omega), wrap_id (by omega) (by omega)]
theorem spec_l1Halves_is {a n : Int} (h0 : 0 ≤ n) (h1 : n < 32) (h2 : 0 ≤ a) (h3 : a ≤ 4294967295) : spec_l1Halves.f a n = some (a, n + 1, a + sz (n + 1), n + 1) := by
  have hs := sz_pos (n + 1)
  have h9 := sz_le (n := n + 1) (by omega)
  unfold spec_l1Halves.f
  rw [wrap_id (x := n + 1) (by omega) (by omega), spec_l1Size_is a (by omega) (by omega), kz, wrap_id (by omega) (by omega)]
theorem impl_Prefix_halves_is {a n : Int} (h0 : 0 ≤ n) (h1 : n < 32) (h2 : 0 ≤ a) (h3 : a ≤ 4294967295) : impl_Prefix_halves.f a n = some (a, n + 1, a + sz (n + 1), n + 1) := by
  have hs := sz_pos (n + 1)
  have h9 := sz_le (n := n + 1) (by omega)
  unfold impl_Prefix_halves.f
  rw [wrap_id (x := n + 1) (by omega) (by omega), impl_sizeOf_is (by omega) (by omega), kz, wrap_id (by omega) (by omega)]
theorem spec_l1Sibling_is {a n : Int} (h : good a n = true) (hn : 0 < n) : spec_l1Sibling.f a n = some (sib a n, n) := by
  obtain ⟨h0, h1, h2, h3, h4⟩ := good_iff.1 h
  have hs := sz_pos n
  have hr := parent_rest (a := a) (s := sz n) (by omega) h4
  have h7 := Int.emod_nonneg a (show 2 * sz n ≠ 0 by omega)
  have h8 : a % (2 * sz n) ≤ a := by
    obtain h | h := hr
    · omega
    · have := Int.mul_ediv_add_emod a (2 * sz n)
      have := Int.ediv_nonneg h2 (show 0 ≤ 2 * sz n by omega)
      have := Int.mul_nonneg (show 0 ≤ 2 * sz n by omega) this
      omega
  unfold spec_l1Sibling.f
  rw [spec_l1Parent_is h hn, kz]
  simp only []
  rw [spec_l1Halves_is (by omega) (by omega) (by omega) (by omega), kz]
  simp only [show n - 1 + 1 = n by omega, beq_self_eq_true, Bool.and_true]
  unfold sib
  rcases hr with hr | hr
  · rw [hr, if_pos (by simp)]; simp
  · rw [hr, if_neg (by simp; omega), if_neg (by omega)]
theorem impl_Prefix_sibling_is {a n : Int} (h : good a n = true) : impl_Prefix_sibling.f a n = some (sib a n, n) := by
  obtain ⟨h0, h1, h2, h3, h4⟩ := good_iff.1 h
  unfold impl_Prefix_sibling.f
  rw [impl_sizeOf_is h0 h1, kz, xor_sz h0 h1 h2 h3 h4]; rfl
theorem impl_HasAddr_is (a n x : Int) : impl_HasAddr.f a n x = some (hasAddr a n x) := by
  unfold impl_HasAddr.f hasAddr
  rw [impl_GoodPrefix_is, kz]
  by_cases h : good a n = true
  · rw [if_pos h, impl_isAddr_is, kz]
    by_cases h' : 0 ≤ x ∧ x ≤ 4294967295
    · rw [if_pos (decide_eq_true h'), impl_Prefix_has_is x h, if_pos ⟨h, h'⟩]; rfl
    · rw [if_neg (by simpa using h'), if_neg (fun hh => h' hh.2)]
  · rw [if_neg h, if_neg (fun hh => h hh.1)]
theorem impl_ParentOf_is (a n : Int) : impl_ParentOf.f a n = some (parentOf a n) := by
  unfold impl_ParentOf.f parentOf
  rw [impl_GoodPrefix_is, kz]
  by_cases h : good a n = true
  · obtain ⟨h0, h1, h2, h3, h4⟩ := good_iff.1 h
    rw [if_pos h]
    by_cases h' : n = 0
    · rw [if_pos h', if_neg (fun hh => hh.2 h')]
    · rw [if_neg h', impl_sizeOf_is h0 h1, kz, andNot_sz h0 h1 h2 h3 h4, wrap_id (by omega) (by omega), if_pos ⟨h, h'⟩]
  · rw [if_neg h, if_neg (fun hh => h hh.1)]
theorem spec_ParentOf_is (a n : Int) : spec_ParentOf.f a n = some (parentOf a n) := by
  unfold spec_ParentOf.f parentOf
  rw [spec_GoodPrefix_is, kz]
  by_cases h : good a n = true
  · obtain ⟨h0, h1, h2, h3, h4⟩ := good_iff.1 h
    rw [if_pos h]
    by_cases h' : n = 0
    · rw [if_pos h', if_neg (fun hh => hh.2 h')]
    · rw [if_neg h', spec_l1Parent_is h (by omega), kz, if_pos ⟨h, h'⟩]
  · rw [if_neg h, if_neg (fun hh => h hh.1)]
theorem impl_SiblingOf_is (a n : Int) : impl_SiblingOf.f a n = some (siblingOf a n) := by
  unfold impl_SiblingOf.f siblingOf
  rw [impl_GoodPrefix_is, kz]
  by_cases h : good a n = true
  · rw [if_pos h]
    by_cases h' : n = 0
    · rw [if_pos h', if_neg (fun hh => hh.2 h')]
    · rw [if_neg h', impl_Prefix_sibling_is h, kz, if_pos ⟨h, h'⟩]
  · rw [if_neg h, if_neg (fun hh => h hh.1)]
theorem spec_SiblingOf_is (a n : Int) : spec_SiblingOf.f a n = some (siblingOf a n) := by
  unfold spec_SiblingOf.f siblingOf
  rw [spec_GoodPrefix_is, kz]
  by_cases h : good a n = true
  · obtain ⟨h0, h1, h2, h3, h4⟩ := good_iff.1 h
    rw [if_pos h]
    by_cases h' : n = 0
    · rw [if_pos h', if_neg (fun hh => hh.2 h')]
    · rw [if_neg h', spec_l1Sibling_is h (by omega), kz, if_pos ⟨h, h'⟩]
  · rw [if_neg h, if_neg (fun hh => h hh.1)]
theorem impl_HalvesOf_is (a n : Int) : impl_HalvesOf.f a n = some (halvesOf a n) := by
  unfold impl_HalvesOf.f halvesOf
  rw [impl_GoodPrefix_is, kz]
  by_cases h : good a n = true
  · obtain ⟨h0, h1, h2, h3, h4⟩ := good_iff.1 h
    rw [if_pos h]
    by_cases h' : n = 32
    · rw [if_pos h', if_neg (fun hh => hh.2 h')]
    · rw [if_neg h', impl_Prefix_halves_is h0 (by omega) h2 h3, kz, if_pos ⟨h, h'⟩]
  · rw [if_neg h, if_neg (fun hh => h hh.1)]
theorem spec_HalvesOf_is (a n : Int) : spec_HalvesOf.f a n = some (halvesOf a n) := by
  unfold spec_HalvesOf.f halvesOf
  rw [spec_GoodPrefix_is, kz]
  by_cases h : good a n = true
  · obtain ⟨h0, h1, h2, h3, h4⟩ := good_iff.1 h
    rw [if_pos h]
    by_cases h' : n = 32
    · rw [if_pos h', if_neg (fun hh => hh.2 h')]
    · rw [if_neg h', spec_l1Halves_is h0 (by omega) h2 h3, kz, if_pos ⟨h, h'⟩]
  · rw [if_neg h, if_neg (fun hh => h hh.1)]
def Bts (c : List Int) : Prop := c.length ≤ 140737488351232 ∧ ∀ x, x ∈ c → 0 ≤ x ∧ x ≤ 255
theorem Bts.at_ {c : List Int} (h : Bts c) {i : Int} (h0 : 0 ≤ i) (h1 : i < (c.length : Int)) : 0 ≤ rd c i ∧ rd c i ≤ 255 := by
  have : i.toNat < c.length := by omega
  unfold rd
  rw [List.getD_eq_getElem?_getD, List.getElem?_eq_getElem this]
  exact h.2 _ (List.getElem_mem this)
theorem u64_range (x : Int) : 0 ≤ IntKind.u64.wrap x ∧ IntKind.u64.wrap x < 18446744073709551616 := by
  simp only [IntKind.wrap, IntKind.bits, IntKind.signed]
  constructor
  · simp; omega
  · simp; omega
theorem u64_and255 {x : Int} (h0 : 0 ≤ x) (h1 : x < 18446744073709551616) : Go.bits .and .u64 x 255 = x % 256 :=
  bits_mask .u64 64 (by decide) (fun n h2 h3 => by simp only [IntKind.wrap, IntKind.bits, IntKind.signed]; simp; omega) 8 (by decide) x h0 h1
theorem next_ok {c : List Int} (hc : Bts c) {i : Int} (s : Int) (h0 : 0 ≤ i) (h1 : i ≤ 1000000000000000) : ∃ b s', spec_l1Cur_next.f c i s = some (b, i + 1, s') ∧ 0 ≤ b ∧ b ≤ 255 := by
  have hl := hc.1
  unfold spec_l1Cur_next.f
  rw [wrap_id (x := i + 1) (by omega) (by omega)]
  by_cases h : i < (c.length : Int)
  · have hb := hc.at_ h0 h
    rw [if_pos h, if_pos h0, if_pos (by omega)]
    exact ⟨_, _, rfl, by rw [wrap_id (by omega) (by omega)]; exact hb.1, by rw [wrap_id (by omega) (by omega)]; exact hb.2⟩
  · rw [if_neg h, if_neg (by omega)]
    refine ⟨_, _, rfl, ?_⟩
    have hr := u64_range (IntKind.u64.wrap (IntKind.u64.wrap (s * 6364136223846793005)) + 1442695040888963407)
    generalize IntKind.u64.wrap (IntKind.u64.wrap (IntKind.u64.wrap (s * 6364136223846793005)) + 1442695040888963407) = X at hr
    rw [u64_and255 (by omega) (by omega), wrap_id (by omega) (by omega)]
    omega
theorem pick_ok {c : List Int} (hc : Bts c) {i : Int} (s : Int) {n : Int} (h0 : 0 ≤ i) (h1 : i ≤ 100000000000000) (hn : n ≤ 1000000) : ∃ b i' s', spec_l1Cur_pick.f c i s n = some (b, i', s') ∧ 0 ≤ b ∧ (b < n ∨ b = 0) ∧ i ≤ i' ∧ i' ≤ i + 2 := by
  unfold spec_l1Cur_pick.f
  by_cases h : n ≤ 1
  · rw [if_pos h]
    exact ⟨_, _, _, rfl, by omega, .inr rfl, by omega, by omega⟩
  · rw [if_neg h]
    obtain ⟨b, s1, e1, b0, b1⟩ := next_ok hc s h0 (by omega)
    rw [e1, kz]
    have hmod : ∀ x : Int, 0 ≤ x → 0 ≤ Int.tmod x n ∧ Int.tmod x n < n := fun x hx => ⟨Int.tmod_nonneg _ hx, Int.tmod_lt_of_pos _ (by omega)⟩
    by_cases h2 : n > 200
    · rw [if_pos h2]
      dsimp only
      obtain ⟨d, s2, e2, d0, d1⟩ := next_ok hc (i := i + 1) s1 (by omega) (by omega)
      rw [e2, kz, if_neg (by omega)]
      dsimp only
      rw [wrap_id (x := b * 256) (by omega) (by omega), wrap_id (by omega) (by omega)]
      obtain ⟨m0, m1⟩ := hmod (b * 256 + d) (by omega)
      exact ⟨_, _, _, rfl, m0, .inl m1, by omega, by omega⟩
    · rw [if_neg h2, if_neg (by omega)]
      dsimp only
      obtain ⟨m0, m1⟩ := hmod b b0
      exact ⟨_, _, _, rfl, m0, .inl m1, by omega, by omega⟩
theorem among_ok {c : List Int} (hc : Bts c) {i : Int} (s : Int) (l : List Int) (h0 : 0 ≤ i) (h1 : i ≤ 100000000000000) (hl : l ≠ []) (hn : l.length ≤ 1000) : ∃ v i' s', spec_l1Cur_among.f c i s l = some (v, i', s') ∧ v ∈ l ∧ i ≤ i' ∧ i' ≤ i + 2 := by
  unfold spec_l1Cur_among.f
  have hpos : 0 < l.length := List.length_pos_iff.2 hl
  obtain ⟨b, i', s', e, b0, b1, h2, h3⟩ := pick_ok hc s (n := (l.length : Int)) h0 h1 (by omega)
  have hb : b < (l.length : Int) := by omega
  rw [e, kz, if_pos b0, if_pos hb]
  refine ⟨_, _, _, rfl, ?_, h2, h3⟩
  have : b.toNat < l.length := by omega
  unfold rd
  rw [List.getD_eq_getElem?_getD, List.getElem?_eq_getElem this]
  exact List.getElem_mem this
theorem prefix_ok {c : List Int} (hc : Bts c) {i : Int} (s : Int) (h0 : 0 ≤ i) (h1 : i ≤ 10000000000000) : ∃ a n i' s', spec_l1Cur_prefix.f c i s = some (a, n, i', s') ∧ i ≤ i' ∧ i' ≤ i + 8 := by
  unfold spec_l1Cur_prefix.f
  obtain ⟨n, i1, s1, e1, m1, a1, b1⟩ := among_ok hc s [0, 1, 2, 3, 4, 8, 8, 16, 24, 31, 32] h0 (by omega) (by simp) (by simp)
  rw [e1, kz]
  dsimp only
  obtain ⟨a, i2, s2, e2, m2, a2, b2⟩ := among_ok hc s1 [0, 167772160, 167837696, 3232235520, 2147483648, 4294967295, 3758096384, 167772165] (i := i1) (by omega) (by omega) (by simp) (by simp)
  rw [e2, kz]
  have hn : 0 ≤ n ∧ n ≤ 32 := by
    simp only [List.mem_cons, List.not_mem_nil, or_false] at m1
    omega
  have hs := sz_pos n
  dsimp only
  rw [spec_l1Size_is _ hn.1 hn.2, kz, if_neg (by omega)]
  obtain ⟨b, i3, s3, e3, _, _, a3, b3⟩ := pick_ok hc s2 (n := 30) (i := i2) (by omega) (by omega) (by omega)
  rw [e3, kz]
  dsimp only
  by_cases hb : b = 0
  · rw [if_pos hb]; exact ⟨_, _, _, _, rfl, by omega, by omega⟩
  · rw [if_neg hb]
    by_cases hb2 : b = 1
    · rw [if_pos hb2]
      obtain ⟨v, i4, s4, e4, _, a4, b4⟩ := among_ok hc s3 [(-1), 33] (i := i3) (by omega) (by omega) (by simp) (by simp)
      rw [e4, kz]
      exact ⟨_, _, _, _, rfl, by dsimp only; omega, by dsimp only; omega⟩
    · rw [if_neg hb2]; exact ⟨_, _, _, _, rfl, by omega, by omega⟩
theorem numberOf_l0 {c : List Int} (hc : Bts c) : ∀ (rest pre : List Int) (x : Int) (k : Nat), c = pre ++ rest → 0 ≤ x → x ≤ 1000003 → rest.length < k → ∃ r, laws_numberOf.l0 k x c (c.length : Int) (pre.length : Int) = some r ∧ 0 ≤ r ∧ r ≤ 1000003 := by
  intro rest
  induction rest with
  | nil =>
    intro pre x k e h0 h1 hk
    obtain ⟨k, rfl⟩ : ∃ k', k = k' + 1 := ⟨k - 1, by omega⟩
    exact ⟨x, by rw [laws_numberOf.l0, if_neg (by rw [e]; simp)], h0, h1⟩
  | cons b rest ih =>
    intro pre x k e h0 h1 hk
    rw [List.length_cons] at hk
    obtain ⟨k, rfl⟩ : ∃ k', k = k' + 1 := ⟨k - 1, by omega⟩
    have hl := hc.1
    have hlen : pre.length < c.length := by rw [e]; simp
    have hb := hc.2 b (by rw [e]; simp)
    have h2 : rd c (pre.length : Int) = b := by rw [e]; exact rd_mid _ _ _
    have hw : wrap64 ((pre.length : Int) + 1) = ((pre ++ [b]).length : Int) := by rw [wrap_id (by omega) (by omega)]; simp
    have m0 := Int.tmod_nonneg (a := 31 * x + b) 1000003 (by omega)
    have m1 := Int.tmod_lt_of_pos (31 * x + b) (b := 1000003) (by omega)
    obtain ⟨r, e1, hr⟩ := ih (pre ++ [b]) (Int.tmod (31 * x + b) 1000003) k (by rw [e]; simp) m0 (by omega) (by omega)
    refine ⟨r, ?_, hr⟩
    rw [laws_numberOf.l0, if_pos (by omega), if_pos (by omega), if_pos (by omega), h2, hw, wrap_id (x := 31 * x) (by omega) (by omega), wrap_id (x := b) (by omega) (by omega), wrap_id (x := 31 * x + b) (by omega) (by omega)]
    exact e1
theorem numberOf_ok {c : List Int} (hc : Bts c) : ∃ n : Int, 0 ≤ n ∧ n ≤ 1000003 ∧ ∃ K, ∀ k, K ≤ k → laws_numberOf.f k c = some n := by
  obtain ⟨n, e, h0, h1⟩ := numberOf_l0 hc c [] 0 (c.length + 1) rfl (by omega) (by omega) (by omega)
  refine ⟨n, h0, h1, c.length + 1, fun k hk => ?_⟩
  obtain ⟨n', e', _⟩ := numberOf_l0 hc c [] 0 k rfl (by omega) (by omega) (by omega)
  have h3 : laws_numberOf.l0 k 0 c (c.length : Int) 0 = some n := at_rounds (fun k => laws_numberOf.mono_l k _ _ _ _) (show c.length + 1 ≤ k by omega) e
  exact h3

theorem good_left {a n : Int} (h : good a n = true) (hn : n < 32) : good a (n + 1) = true := by
  obtain ⟨n0, n1, a0, a1, ha⟩ := good_iff.1 h
  exact good_iff.2 ⟨by omega, by omega, a0, a1, Int.emod_eq_zero_of_dvd (Int.dvd_trans (sz_dvd n0 (by omega) (by omega)) (ky ha))⟩
theorem good_end {a n : Int} (h : good a n = true) : a + sz n ≤ 4294967296 := by
  obtain ⟨n0, n1, a0, a1, ha⟩ := good_iff.1 h
  have hs := sz_pos n
  obtain ⟨p, hp⟩ : sz n ∣ 4294967296 := by rw [← sz_lit.1]; exact sz_dvd (by omega) n0 n1
  obtain ⟨q, hq⟩ := ky ha
  have hlt : q < p := by
    by_cases hqp : q < p
    · exact hqp
    · have := Int.mul_le_mul_of_nonneg_left (show p ≤ q by omega) (show 0 ≤ sz n by omega)
      omega
  have := Int.mul_le_mul_of_nonneg_left (show q + 1 ≤ p by omega) (show 0 ≤ sz n by omega)
  rw [Int.mul_add] at this
  omega
theorem good_right {a n : Int} (h : good a n = true) (hn : n < 32) : good (a + sz (n + 1)) (n + 1) = true := by
  obtain ⟨n0, n1, a0, a1, ha⟩ := good_iff.1 h
  have hs := sz_pos (n + 1)
  have h2 := sz_succ n0 hn
  have := good_end h
  have hd : sz (n + 1) ∣ a := Int.dvd_trans (sz_dvd n0 (by omega) (by omega)) (ky ha)
  exact good_iff.2 ⟨by omega, by omega, by omega, by omega, Int.emod_eq_zero_of_dvd (Int.dvd_add hd (Int.dvd_refl _))⟩

end FnHalvesUses
open Go.RowKit Go.Proofs.Ytkollihfejkklaa.PFnHalves Go.Proofs.YtkollihfejkklaaW.PrintWords Go.Proofs.YtkollihfejkklaaW.PrintLast Go.Proofs.YtkollihfejkklaaW.PrintMore Go.Proofs.Ytkollihfejkklaa.Pfx Go.Proofs.Ytkollihfejkklaa.Loop FnHalvesUses
open Option renaming bind_some → kz
open Int renaming tmod_eq_emod_of_nonneg → kq, dvd_of_emod_eq_zero → ky
set_option linter.unusedVariables false
theorem FnHalves : laws_FnHalves.Pure := by
  intro l0 l1 m0 w0 b0 m1 w1 b1
  have hbt : ∀ c : List Int, c.length * 1 ≤ 140737488351232 → (∀ x ∈ c, (Lit.int .u8 x).wf = true) → Bts c := fun c h1 h2 => ⟨by omega, fun x hx => by
    have := h2 x hx
    simp [Lit.wf, IntKind.min, IntKind.max, IntKind.signed, IntKind.bits] at this
    omega⟩
  have hc0 := hbt l0 w0 b0
  have hc1 := hbt l1 w1 b1
  by_cases hsz : wrap64 ((l0.length : Int) + (l1.length : Int)) > 1048576
  · exact ⟨0, by unfold laws_FnHalves.f; rw [if_pos hsz]⟩
  obtain ⟨a, n, i, s, hP, _⟩ := prefix_ok hc0 0 (i := 0) (by omega) (by omega)
  obtain ⟨a', n', i', s', hP', _⟩ := prefix_ok hc1 0 (i := 0) (by omega) (by omega)
  obtain ⟨N, N0, N1, KN, hN⟩ := numberOf_ok hc1
  have hD0 : spec_DrawHalvesOf.f l0 = some (a, n) := by unfold spec_DrawHalvesOf.f spec_DrawGoodPrefix.f; rw [hP]; rfl
  have hD1 : spec_DrawParentOf.f l1 = some (a', n') := by unfold spec_DrawParentOf.f spec_DrawGoodPrefix.f; rw [hP']; rfl
  have J2 : ∀ k, laws_FnHalves.j2 (k + 1) l1 = some true := fun k => by
    rw [laws_FnHalves.j2, hD1, kz]
    dsimp only
    rw [impl_ParentOf_is, kz, spec_ParentOf_is, kz, impl_SiblingOf_is, kz, spec_SiblingOf_is, kz, if_pos (by simp), if_pos (by simp), if_pos (by simp)]
    simp
  have J0 : laws_FnHalves.j0 (KN + 5) l1 (halvesOf a n).2.2.2.2 false a n (halvesOf a n).1 (halvesOf a n).2.1 (halvesOf a n).2.2.1 (halvesOf a n).2.2.2.1 = some true := by
    rw [laws_FnHalves.j0, if_neg (by simp)]
    by_cases h : good a n = true ∧ n ≠ 32
    · have e : halvesOf a n = (a, n + 1, a + sz (n + 1), n + 1, true) := if_pos h
      obtain ⟨hg, hn⟩ := h
      obtain ⟨n0, n1, a0, a1, ha⟩ := good_iff.1 hg
      have gl := good_left hg (by omega)
      have gr := good_right hg (by omega)
      have hs := sz_pos (n + 1)
      have h2 := sz_succ n0 (show n < 32 by omega)
      have r1 : a % (2 * sz (n + 1)) = 0 := by rw [← h2]; exact ha
      have r2 : (a + sz (n + 1)) % (2 * sz (n + 1)) = sz (n + 1) := by
        rw [Int.add_emod, r1, Int.zero_add, Int.emod_emod]
        exact Int.emod_eq_of_lt (by omega) (by omega)
      have s1 : siblingOf a (n + 1) = (a + sz (n + 1), n + 1, true) := by
        unfold siblingOf sib
        rw [if_pos ⟨gl, by omega⟩, if_pos r1]
      have s2 : siblingOf (a + sz (n + 1)) (n + 1) = (a, n + 1, true) := by
        unfold siblingOf sib
        rw [if_pos ⟨gr, by omega⟩, if_neg (by rw [r2]; omega), show a + sz (n + 1) - sz (n + 1) = a by omega]
      have p1 : parentOf a (n + 1) = (a, n, true) := by
        unfold parentOf
        rw [if_pos ⟨gl, by omega⟩, r1, Int.sub_zero, show n + 1 - 1 = n by omega]
      have p2 : parentOf (a + sz (n + 1)) (n + 1) = (a, n, true) := by
        unfold parentOf
        rw [if_pos ⟨gr, by omega⟩, r2, show a + sz (n + 1) - sz (n + 1) = a by omega, show n + 1 - 1 = n by omega]
      rw [e]
      dsimp only
      rw [if_pos rfl, impl_SiblingOf_is, s1, kz, impl_SiblingOf_is, s2, kz, impl_ParentOf_is, p1, kz, impl_ParentOf_is, p2, kz]
      dsimp only
      rw [if_pos rfl, if_neg (by simp), if_pos rfl, if_neg (by simp), if_pos rfl, if_neg (by simp), if_pos rfl]
      have f : (!a == a || !n == n) = false := by simp
      rw [f, laws_FnHalves.j1, if_neg (by simp), hN _ (by omega), kz, wrap_id (by omega) (by omega), impl_HasAddr_is, kz, impl_HasAddr_is, kz, impl_HasAddr_is, kz]
      by_cases hx : 0 ≤ a + N ∧ a + N ≤ 4294967295
      · have t0 : hasAddr a n (a + N) = (decide (a ≤ a + N ∧ a + N ≤ a + sz n - 1), true) := if_pos ⟨hg, hx⟩
        have t1 : hasAddr a (n + 1) (a + N) = (decide (a ≤ a + N ∧ a + N ≤ a + sz (n + 1) - 1), true) := if_pos ⟨gl, hx⟩
        have t2 : hasAddr (a + sz (n + 1)) (n + 1) (a + N) = (decide (a + sz (n + 1) ≤ a + N ∧ a + N ≤ a + sz (n + 1) + sz (n + 1) - 1), true) := if_pos ⟨gr, hx⟩
        rw [t0, t1, t2]
        dsimp only
        rw [if_neg (by simp), if_neg (by simp), if_pos rfl]
        by_cases c1 : a + N ≤ a + sz (n + 1) - 1
        · rw [if_pos (decide_eq_true ⟨by omega, c1⟩), decide_eq_true (show a ≤ a + N ∧ a + N ≤ a + sz n - 1 from ⟨by omega, by omega⟩), if_neg (by simp), if_neg (by simp; omega)]
          exact J2 _
        · rw [if_neg (by simp; omega)]
          rw [if_neg (by
            rw [bne_iff_ne, ne_eq, Decidable.not_not]
            exact decide_eq_decide.2 ⟨fun _ => ⟨by omega, by omega⟩, fun _ => ⟨by omega, by omega⟩⟩)]
          exact J2 _
      · have t0 : hasAddr a n (a + N) = (false, false) := if_neg (fun h => hx h.2)
        have t1 : hasAddr a (n + 1) (a + N) = (false, false) := if_neg (fun h => hx h.2)
        have t2 : hasAddr (a + sz (n + 1)) (n + 1) (a + N) = (false, false) := if_neg (fun h => hx h.2)
        rw [t0, t1, t2]
        dsimp only
        rw [if_neg (by simp), if_neg (by simp), if_neg (by simp)]
        exact J2 _
    · have e : halvesOf a n = (0, 0, 0, 0, false) := if_neg h
      rw [e]
      dsimp only
      rw [if_neg (by simp)]
      exact J2 _
  refine ⟨KN + 5, ?_⟩
  unfold laws_FnHalves.f
  rw [if_neg hsz, hD0, kz]
  dsimp only
  rw [impl_HalvesOf_is, kz, spec_HalvesOf_is, kz, if_neg (by simp), if_neg (by simp)]
  have f : (!(halvesOf a n).2.2.1 == (halvesOf a n).2.2.1 || !(halvesOf a n).2.2.2.1 == (halvesOf a n).2.2.2.1) = false := by simp
  rw [f]
  exact J0
end Go.Proofs.Ytkollihfejkklaa.Pure
