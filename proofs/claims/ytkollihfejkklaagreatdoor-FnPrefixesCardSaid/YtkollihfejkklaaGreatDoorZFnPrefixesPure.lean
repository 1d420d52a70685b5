/- The pure statement of FnPrefixes: what the printed functions tell is what the reference tells. No condition but the arguments' own bounds. -/
import Derived.Test.YtkollihfejkklaaGreatDoorYFnPrefixesx10
namespace Go.Proofs.YtkollihfejkklaaGreatDoor.Pure
namespace FnPrefixesUses
open Go.RowKit Go.Proofs.YtkollihfejkklaaGreatDoor.PFnPrefixes Go.Proofs.YtkollihfejkklaaGreatDoorW.PrintWords Go.Proofs.YtkollihfejkklaaGreatDoorW.PrintLast Go.Proofs.YtkollihfejkklaaGreatDoorW.PrintMore Go.Proofs.YtkollihfejkklaaGreatDoor.Pfx Go.Proofs.YtkollihfejkklaaGreatDoor.Loop
set_option linter.unusedVariables false
set_option linter.unusedSimpArgs false

theorem spec_l1In_is (a lo hi : Int) : spec_l1In.f a lo hi = some (decide (lo ≤ a ∧ a ≤ hi)) := by
  unfold spec_l1In.f
  by_cases h : lo ≤ a
  · rw [if_pos h]; simp [h]
  · rw [if_neg h]; simp [h]
theorem impl_within_is (a lo hi : Int) : impl_within.f a lo hi = some (decide (lo ≤ a ∧ a ≤ hi)) := by
  unfold impl_within.f
  by_cases h : lo ≤ a
  · rw [if_pos h]; simp [h]
  · rw [if_neg h]; simp [h]
theorem spec_l1Addr_is (a : Int) : spec_l1Addr.f a = some (decide (0 ≤ a ∧ a ≤ 4294967295)) := by
  unfold spec_l1Addr.f; rw [spec_l1In_is]; rfl
theorem impl_isAddr_is (a : Int) : impl_isAddr.f a = some (decide (0 ≤ a ∧ a ≤ 4294967295)) := by
  unfold impl_isAddr.f; rw [impl_within_is]; rfl
theorem impl_sizeOf_is {n : Int} (h0 : 0 ≤ n) (h1 : n ≤ 32) : impl_sizeOf.f n = some (sz n) := by
  unfold impl_sizeOf.f
  rw [shl_sz h0 h1, if_pos (by rw [wrap_id (by omega) (by omega)]; omega)]
theorem spec_l1Size_is (a : Int) {n : Int} (h0 : 0 ≤ n) (h1 : n ≤ 32) : spec_l1Size.f a n = some (sz n) := by
  unfold spec_l1Size.f
  have e : IntKind.u64.wrap (wrap64 (32 - n)) = wrap64 (32 - n) := by rw [wrap_id (by omega) (by omega), u64_id (by omega) (by omega)]
  rw [e, shl_sz h0 h1, if_pos (by rw [wrap_id (by omega) (by omega)]; omega)]
theorem impl_GoodPrefix_is (a n : Int) : impl_GoodPrefix.f a n = some (good a n) := by
  unfold impl_GoodPrefix.f
  rw [impl_within_is, Option.bind_some]
  by_cases h : 0 ≤ n ∧ n ≤ 32
  · rw [if_pos (decide_eq_true h), impl_isAddr_is, Option.bind_some]
    by_cases h' : 0 ≤ a ∧ a ≤ 4294967295
    · rw [if_pos (decide_eq_true h'), impl_sizeOf_is h.1 h.2, Option.bind_some, if_neg (by have := sz_pos n; omega), Int.tmod_eq_emod_of_nonneg h'.1]
      simp [good, h.1, h.2, h'.1, h'.2, beq_dec]
    · rw [if_neg (by simpa using h')]
      have : good a n = false := by simp [good]; omega
      rw [this]
  · rw [if_neg (by simpa using h)]
    have : good a n = false := by simp [good]; omega
    rw [this]
theorem spec_GoodPrefix_is (a n : Int) : spec_GoodPrefix.f a n = some (good a n) := by
  unfold spec_GoodPrefix.f
  rw [spec_l1In_is, Option.bind_some]
  by_cases h : 0 ≤ n ∧ n ≤ 32
  · rw [if_pos (decide_eq_true h), spec_l1Addr_is, Option.bind_some]
    by_cases h' : 0 ≤ a ∧ a ≤ 4294967295
    · rw [if_pos (decide_eq_true h'), spec_l1Size_is a h.1 h.2, Option.bind_some, if_neg (by have := sz_pos n; omega), Int.tmod_eq_emod_of_nonneg h'.1]
      simp [good, h.1, h.2, h'.1, h'.2, beq_dec]
    · rw [if_neg (by simpa using h')]
      have : good a n = false := by simp [good]; omega
      rw [this]
  · rw [if_neg (by simpa using h)]
    have : good a n = false := by simp [good]; omega
    rw [this]
theorem impl_Prefix_end_is {a n : Int} (h : good a n = true) : impl_Prefix_end.f a n = some (a + sz n - 1) := by
  obtain ⟨h0, h1, h2, h3, h4⟩ := good_iff.1 h
  have := sz_pos n
  have := sz_le h0
  unfold impl_Prefix_end.f
  rw [impl_sizeOf_is h0 h1, Option.bind_some, wrap_id (x := a + sz n) (by omega) (by omega), wrap_id (by omega) (by omega)]
theorem impl_Prefix_has_is {a n : Int} (x : Int) (h : good a n = true) : impl_Prefix_has.f a n x = some (decide (a ≤ x ∧ x ≤ a + sz n - 1)) := by
  unfold impl_Prefix_has.f
  rw [impl_Prefix_end_is h, Option.bind_some, impl_within_is]; rfl
theorem spec_l1HasAddr_is {a n x : Int} (h : good a n = true) (h5 : 0 ≤ x) (h6 : x ≤ 4294967295) : spec_l1HasAddr.f a n x = some (decide (a ≤ x ∧ x ≤ a + sz n - 1)) := by
  obtain ⟨h0, h1, h2, h3, h4⟩ := good_iff.1 h
  have hs := sz_pos n
  have h7 := Int.emod_nonneg x (show sz n ≠ 0 by omega)
  have h8 := Int.emod_lt_of_pos x (show 0 < sz n by omega)
  have h9 := sz_le h0
  unfold spec_l1HasAddr.f
  rw [spec_l1Size_is a h0 h1, Option.bind_some, if_neg (by omega), Int.tmod_eq_emod_of_nonneg h5, wrap_id (by omega) (by omega), beq_dec]
  congr 1
  exact decide_eq_decide.2 (in_row (by omega) h4)
theorem impl_Prefix_covers_is {a n : Int} (b m : Int) (h : good a n = true) : impl_Prefix_covers.f a n b m = some (decide (n ≤ m ∧ a ≤ b ∧ b ≤ a + sz n - 1)) := by
  unfold impl_Prefix_covers.f
  by_cases h' : n ≤ m
  · rw [if_pos h', impl_Prefix_has_is b h]; simp [h']
  · rw [if_neg h']; simp [h']
theorem spec_l1Covers_is {a n b m : Int} (h : good a n = true) (hb : good b m = true) : spec_l1Covers.f a n b m = some (decide (n ≤ m ∧ a ≤ b ∧ b ≤ a + sz n - 1)) := by
  obtain ⟨h0, h1, h2, h3, h4⟩ := good_iff.1 hb
  unfold spec_l1Covers.f
  by_cases h' : n ≤ m
  · rw [if_pos h', spec_l1HasAddr_is h h2 h3]; simp [h']
  · rw [if_neg h']; simp [h']
theorem spec_l1Halves_is {a n : Int} (h0 : 0 ≤ n) (h1 : n < 32) (h2 : 0 ≤ a) (h3 : a ≤ 4294967295) : spec_l1Halves.f a n = some (a, n + 1, a + sz (n + 1), n + 1) := by
  have hs := sz_pos (n + 1)
  have h9 := sz_le (n := n + 1) (by omega)
  unfold spec_l1Halves.f
  rw [wrap_id (x := n + 1) (by omega) (by omega), spec_l1Size_is a (by omega) (by omega), Option.bind_some, wrap_id (by omega) (by omega)]
theorem cmp_isNaN_int_is (a : Int) : cmp_isNaN_int.f a = some false := by unfold cmp_isNaN_int.f; simp
theorem cmp_Compare_int_is (a b : Int) : cmp_Compare_int.f a b = some (if a < b then -1 else if a > b then 1 else 0) := by
  unfold cmp_Compare_int.f
  simp only [cmp_isNaN_int_is, Option.bind_some, Bool.false_eq_true, if_false]
  by_cases h1 : a < b
  · simp [h1]
  · by_cases h2 : a > b
    · simp [h1, h2]
    · simp [h1, h2]
theorem impl_compare_is (k : Nat) (a n b m : Int) : impl_compare.f (k + 3) a n b m = some (cmpP a n b m) := by
  unfold impl_compare.f cmp_Or_int.f
  rw [cmp_Compare_int_is, Option.bind_some, cmp_Compare_int_is, Option.bind_some]
  have w1 : wrap64 (0 + 1) = 1 := wrap_id (by omega) (by omega)
  have w2 : wrap64 (1 + 1) = 2 := wrap_id (by omega) (by omega)
  simp only [cmp_Or_int.l0, rd, List.length_cons, List.length_nil, w1, w2]
  unfold cmpP
  by_cases h1 : a < b
  · simp [h1]
  · by_cases h2 : b < a
    · have : ¬ a = b := by omega
      simp [h1, h2, this]
    · obtain rfl : a = b := by omega
      by_cases h3 : n < m
      · simp [h3]
      · by_cases h4 : m < n
        · have : ¬ n = m := by omega
          simp [h3, h4, this]
        · obtain rfl : n = m := by omega
          simp
theorem spec_l1Compare_is (k : Nat) (a n b m : Int) : spec_l1Compare.f (k + 1) a n b m = some (cmpP a n b m) := by
  unfold spec_l1Compare.f cmpP
  simp only [spec_l1Compare.j0]
  by_cases h1 : a < b
  · simp [h1]
  · by_cases h2 : a = b
    · subst h2
      by_cases h3 : n < m
      · simp [h3]
      · by_cases h4 : n = m
        · subst h4; simp
        · simp [h3, h4]
    · simp [h1, h2]
theorem impl_HasAddr_is (a n x : Int) : impl_HasAddr.f a n x = some (hasAddr a n x) := by
  unfold impl_HasAddr.f hasAddr
  rw [impl_GoodPrefix_is, Option.bind_some]
  by_cases h : good a n = true
  · rw [if_pos h, impl_isAddr_is, Option.bind_some]
    by_cases h' : 0 ≤ x ∧ x ≤ 4294967295
    · rw [if_pos (decide_eq_true h'), impl_Prefix_has_is x h, if_pos ⟨h, h'⟩]; rfl
    · rw [if_neg (by simpa using h'), if_neg (fun hh => h' hh.2)]
  · rw [if_neg h, if_neg (fun hh => h hh.1)]
theorem spec_HasAddr_is (a n x : Int) : spec_HasAddr.f a n x = some (hasAddr a n x) := by
  unfold spec_HasAddr.f hasAddr
  rw [spec_GoodPrefix_is, Option.bind_some]
  by_cases h : good a n = true
  · rw [if_pos h, spec_l1Addr_is, Option.bind_some]
    by_cases h' : 0 ≤ x ∧ x ≤ 4294967295
    · rw [if_pos (decide_eq_true h'), spec_l1HasAddr_is h h'.1 h'.2, if_pos ⟨h, h'⟩]; rfl
    · rw [if_neg (by simpa using h'), if_neg (fun hh => h' hh.2)]
  · rw [if_neg h, if_neg (fun hh => h hh.1)]
theorem impl_PrefixHas_is (a n b m : Int) : impl_PrefixHas.f a n b m = some (prefixHas a n b m) := by
  unfold impl_PrefixHas.f prefixHas
  rw [impl_GoodPrefix_is, Option.bind_some]
  by_cases h : good a n = true
  · rw [if_pos h, impl_GoodPrefix_is, Option.bind_some]
    by_cases h' : good b m = true
    · rw [if_pos h', impl_Prefix_covers_is b m h, if_pos ⟨h, h'⟩]; rfl
    · rw [if_neg h', if_neg (fun hh => h' hh.2)]
  · rw [if_neg h, if_neg (fun hh => h hh.1)]
theorem spec_PrefixHas_is (a n b m : Int) : spec_PrefixHas.f a n b m = some (prefixHas a n b m) := by
  unfold spec_PrefixHas.f prefixHas
  rw [spec_GoodPrefix_is, Option.bind_some]
  by_cases h : good a n = true
  · rw [if_pos h, spec_GoodPrefix_is, Option.bind_some]
    by_cases h' : good b m = true
    · rw [if_pos h', spec_l1Covers_is h h', if_pos ⟨h, h'⟩]; rfl
    · rw [if_neg h', if_neg (fun hh => h' hh.2)]
  · rw [if_neg h, if_neg (fun hh => h hh.1)]
theorem impl_ComparePrefixes_is (k : Nat) (a n b m : Int) : impl_ComparePrefixes.f (k + 3) a n b m = some (compareP a n b m) := by
  unfold impl_ComparePrefixes.f compareP
  rw [impl_GoodPrefix_is, Option.bind_some]
  by_cases h : good a n = true
  · rw [if_pos h, impl_GoodPrefix_is, Option.bind_some]
    by_cases h' : good b m = true
    · rw [if_pos h', impl_compare_is, if_pos ⟨h, h'⟩]; rfl
    · rw [if_neg h', if_neg (fun hh => h' hh.2)]
  · rw [if_neg h, if_neg (fun hh => h hh.1)]
theorem spec_ComparePrefixes_is (k : Nat) (a n b m : Int) : spec_ComparePrefixes.f (k + 1) a n b m = some (compareP a n b m) := by
  unfold spec_ComparePrefixes.f compareP
  rw [spec_GoodPrefix_is, Option.bind_some]
  by_cases h : good a n = true
  · rw [if_pos h, spec_GoodPrefix_is, Option.bind_some]
    by_cases h' : good b m = true
    · rw [if_pos h', spec_l1Compare_is, if_pos ⟨h, h'⟩]; rfl
    · rw [if_neg h', if_neg (fun hh => h' hh.2)]
  · rw [if_neg h, if_neg (fun hh => h hh.1)]
theorem spec_HalvesOf_is (a n : Int) : spec_HalvesOf.f a n = some (halvesOf a n) := by
  unfold spec_HalvesOf.f halvesOf
  rw [spec_GoodPrefix_is, Option.bind_some]
  by_cases h : good a n = true
  · obtain ⟨h0, h1, h2, h3, h4⟩ := good_iff.1 h
    rw [if_pos h]
    by_cases h' : n = 32
    · rw [if_pos h', if_neg (fun hh => hh.2 h')]
    · rw [if_neg h', spec_l1Halves_is h0 (by omega) h2 h3, Option.bind_some, if_pos ⟨h, h'⟩]
  · rw [if_neg h, if_neg (fun hh => h hh.1)]
def Bts (c : List Int) : Prop := c.length ≤ 140737488351232 ∧ ∀ x, x ∈ c → 0 ≤ x ∧ x ≤ 255
theorem Bts.at_ {c : List Int} (h : Bts c) {i : Int} (h0 : 0 ≤ i) (h1 : i < (c.length : Int)) : 0 ≤ rd c i ∧ rd c i ≤ 255 := by
  have : i.toNat < c.length := by omega
  unfold rd
  rw [List.getD_eq_getElem?_getD, List.getElem?_eq_getElem this]
  exact h.2 _ (List.getElem_mem this)
theorem u64_range (x : Int) : 0 ≤ IntKind.u64.wrap x ∧ IntKind.u64.wrap x < 18446744073709551616 := by
  simp only [IntKind.wrap, IntKind.bits, IntKind.signed]
  constructor
  · simp; omega
  · simp; omega
theorem u64_and255 {x : Int} (h0 : 0 ≤ x) (h1 : x < 18446744073709551616) : Go.bits .and .u64 x 255 = x % 256 :=
  bits_mask .u64 64 (by decide) (fun n h2 h3 => by simp only [IntKind.wrap, IntKind.bits, IntKind.signed]; simp; omega) 8 (by decide) x h0 h1
theorem next_ok {c : List Int} (hc : Bts c) {i : Int} (s : Int) (h0 : 0 ≤ i) (h1 : i ≤ 1000000000000000) : ∃ b s', spec_l1Cur_next.f c i s = some (b, i + 1, s') ∧ 0 ≤ b ∧ b ≤ 255 := by
  have hl := hc.1
  unfold spec_l1Cur_next.f
  rw [wrap_id (x := i + 1) (by omega) (by omega)]
  by_cases h : i < (c.length : Int)
  · have hb := hc.at_ h0 h
    rw [if_pos h, if_pos h0, if_pos (by omega)]
    exact ⟨_, _, rfl, by rw [wrap_id (by omega) (by omega)]; exact hb.1, by rw [wrap_id (by omega) (by omega)]; exact hb.2⟩
  · rw [if_neg h, if_neg (by omega)]
    refine ⟨_, _, rfl, ?_⟩
    have hr := u64_range (IntKind.u64.wrap (IntKind.u64.wrap (s * 6364136223846793005)) + 1442695040888963407)
    generalize IntKind.u64.wrap (IntKind.u64.wrap (IntKind.u64.wrap (s * 6364136223846793005)) + 1442695040888963407) = X at hr
    rw [u64_and255 (by omega) (by omega), wrap_id (by omega) (by omega)]
    omega
theorem pick_ok {c : List Int} (hc : Bts c) {i : Int} (s : Int) {n : Int} (h0 : 0 ≤ i) (h1 : i ≤ 100000000000000) (hn : n ≤ 1000000) : ∃ b i' s', spec_l1Cur_pick.f c i s n = some (b, i', s') ∧ 0 ≤ b ∧ (b < n ∨ b = 0) ∧ i ≤ i' ∧ i' ≤ i + 2 := by
  unfold spec_l1Cur_pick.f
  by_cases h : n ≤ 1
  · rw [if_pos h]
    exact ⟨_, _, _, rfl, by omega, .inr rfl, by omega, by omega⟩
  · rw [if_neg h]
    obtain ⟨b, s1, e1, b0, b1⟩ := next_ok hc s h0 (by omega)
    rw [e1, Option.bind_some]
    have hmod : ∀ x : Int, 0 ≤ x → 0 ≤ Int.tmod x n ∧ Int.tmod x n < n := fun x hx => ⟨Int.tmod_nonneg _ hx, Int.tmod_lt_of_pos _ (by omega)⟩
    by_cases h2 : n > 200
    · rw [if_pos h2]
      dsimp only
      obtain ⟨d, s2, e2, d0, d1⟩ := next_ok hc (i := i + 1) s1 (by omega) (by omega)
      rw [e2, Option.bind_some, if_neg (by omega)]
      dsimp only
      rw [wrap_id (x := b * 256) (by omega) (by omega), wrap_id (by omega) (by omega)]
      obtain ⟨m0, m1⟩ := hmod (b * 256 + d) (by omega)
      exact ⟨_, _, _, rfl, m0, .inl m1, by omega, by omega⟩
    · rw [if_neg h2, if_neg (by omega)]
      dsimp only
      obtain ⟨m0, m1⟩ := hmod b b0
      exact ⟨_, _, _, rfl, m0, .inl m1, by omega, by omega⟩
theorem one_ok {c : List Int} (hc : Bts c) {i : Int} (s : Int) {n : Int} (h0 : 0 ≤ i) (h1 : i ≤ 100000000000000) (hn : n ≤ 1000000) : ∃ b i' s', spec_l1Cur_one.f c i s n = some (b, i', s') ∧ i ≤ i' ∧ i' ≤ i + 2 := by
  unfold spec_l1Cur_one.f
  obtain ⟨b, i', s', e, _, _, h2, h3⟩ := pick_ok hc s h0 h1 hn
  rw [e, Option.bind_some]
  exact ⟨_, _, _, rfl, h2, h3⟩
theorem among_ok {c : List Int} (hc : Bts c) {i : Int} (s : Int) (l : List Int) (h0 : 0 ≤ i) (h1 : i ≤ 100000000000000) (hl : l ≠ []) (hn : l.length ≤ 1000) : ∃ v i' s', spec_l1Cur_among.f c i s l = some (v, i', s') ∧ v ∈ l ∧ i ≤ i' ∧ i' ≤ i + 2 := by
  unfold spec_l1Cur_among.f
  have hpos : 0 < l.length := List.length_pos_iff.2 hl
  obtain ⟨b, i', s', e, b0, b1, h2, h3⟩ := pick_ok hc s (n := (l.length : Int)) h0 h1 (by omega)
  have hb : b < (l.length : Int) := by omega
  rw [e, Option.bind_some, if_pos b0, if_pos hb]
  refine ⟨_, _, _, rfl, ?_, h2, h3⟩
  have : b.toNat < l.length := by omega
  unfold rd
  rw [List.getD_eq_getElem?_getD, List.getElem?_eq_getElem this]
  exact List.getElem_mem this
theorem prefix_ok {c : List Int} (hc : Bts c) {i : Int} (s : Int) (h0 : 0 ≤ i) (h1 : i ≤ 10000000000000) : ∃ a n i' s', spec_l1Cur_prefix.f c i s = some (a, n, i', s') ∧ i ≤ i' ∧ i' ≤ i + 8 := by
  unfold spec_l1Cur_prefix.f
  obtain ⟨n, i1, s1, e1, m1, a1, b1⟩ := among_ok hc s [0, 1, 2, 3, 4, 8, 8, 16, 24, 31, 32] h0 (by omega) (by simp) (by simp)
  rw [e1, Option.bind_some]
  dsimp only
  obtain ⟨a, i2, s2, e2, m2, a2, b2⟩ := among_ok hc s1 [0, 167772160, 167837696, 3232235520, 2147483648, 4294967295, 3758096384, 167772165] (i := i1) (by omega) (by omega) (by simp) (by simp)
  rw [e2, Option.bind_some]
  have hn : 0 ≤ n ∧ n ≤ 32 := by
    simp only [List.mem_cons, List.not_mem_nil, or_false] at m1
    omega
  have hs := sz_pos n
  dsimp only
  rw [spec_l1Size_is _ hn.1 hn.2, Option.bind_some, if_neg (by omega)]
  obtain ⟨b, i3, s3, e3, _, _, a3, b3⟩ := pick_ok hc s2 (n := 30) (i := i2) (by omega) (by omega) (by omega)
  rw [e3, Option.bind_some]
  dsimp only
  by_cases hb : b = 0
  · rw [if_pos hb]; exact ⟨_, _, _, _, rfl, by omega, by omega⟩
  · rw [if_neg hb]
    by_cases hb2 : b = 1
    · rw [if_pos hb2]
      obtain ⟨v, i4, s4, e4, _, a4, b4⟩ := among_ok hc s3 [(-1), 33] (i := i3) (by omega) (by omega) (by simp) (by simp)
      rw [e4, Option.bind_some]
      exact ⟨_, _, _, _, rfl, by dsimp only; omega, by dsimp only; omega⟩
    · rw [if_neg hb2]; exact ⟨_, _, _, _, rfl, by omega, by omega⟩
theorem addr_ok {c : List Int} (hc : Bts c) {i : Int} (s : Int) (h0 : 0 ≤ i) (h1 : i ≤ 10000000000000) : ∃ a i' s', spec_l1Cur_addr.f c i s = some (a, i', s') ∧ -1 ≤ a ∧ a ≤ 4294967296 ∧ i ≤ i' ∧ i' ≤ i + 2 := by
  unfold spec_l1Cur_addr.f
  obtain ⟨a, i1, s1, e1, m1, a1, b1⟩ := among_ok hc s [0, 167772165, 167837705, 3232235527, 4294967295, 2147483648, (-1), 4294967296] h0 (by omega) (by simp) (by simp)
  rw [e1, Option.bind_some]
  simp only [List.mem_cons, List.not_mem_nil, or_false] at m1
  exact ⟨_, _, _, rfl, by dsimp only; omega, by dsimp only; omega, by dsimp only; omega, by dsimp only; omega⟩
theorem spoilt_l0 {c : List Int} (hc : Bts c) (x2 : ByteArray) (h2 : 0 < x2.size) (h3 : x2.size ≤ 100) : ∀ (m : Nat) (x1 : ByteArray) (i s : Int), m ≤ 5 → x1.size + m ≤ 5000 → 0 ≤ i → i + 6 * m ≤ 1000000 → ∃ r i' s', (∀ k, spec_l1Cur_spoilt.l0 (k + 2 * m + 2) x1 x2 (m : Int) c i s = some (r, i', s')) ∧ r.size ≤ x1.size + m ∧ 0 ≤ i' ∧ i' ≤ i + 6 * m := by
  intro m
  induction m with
  | zero =>
    intro x1 i s _ _ h0 _
    refine ⟨x1, i, s, fun k => ?_, by omega, h0, by omega⟩
    rw [show k + 2 * 0 + 2 = k + 1 + 1 by omega, spec_l1Cur_spoilt.l0, if_neg (by omega), spec_l1Cur_spoilt.j1, if_neg (by simp)]
  | succ m ih =>
    intro x1 i s hm hx h0 h1
    have hk : ∀ k : Nat, k + 2 * (m + 1) + 2 = (k + 2 * m + 2) + 1 + 1 := fun k => by omega
    by_cases hz : (x1.size : Int) > 0
    · obtain ⟨p, i1, s1, e1, p0, p1, a1, b1⟩ := pick_ok hc s (n := (x1.size : Int)) h0 (by omega) (by omega)
      obtain ⟨q, i2, s2, e2, q0, q1, a2, b2⟩ := pick_ok hc s1 (n := (x2.size : Int)) (i := i1) (by omega) (by omega) (by omega)
      obtain ⟨w, i3, s3, e3, w0, w1, a3, b3⟩ := pick_ok hc s2 (n := 3) (i := i2) (by omega) (by omega) (by omega)
      have hp : p < (x1.size : Int) := by omega
      have hq : q < (x2.size : Int) := by omega
      have hone : ∀ v : Int, (strOfNums [v]).size = 1 := fun v => by simp [strOfNums, ByteArray.size]
      have hA : (x1.extract 0 p.toNat).size = p.toNat := by rw [ByteArray.size_extract]; omega
      have hB : (x1.extract p.toNat x1.size).size = x1.size - p.toNat := by rw [ByteArray.size_extract]; omega
      have hC : (x1.extract (p + 1).toNat x1.size).size = x1.size - (p + 1).toNat := by rw [ByteArray.size_extract]; omega
      have hw : wrap64 (((m + 1 : Nat) : Int) - 1) = (m : Int) := by rw [wrap_id (by omega) (by omega)]; omega
      have hp1 : wrap64 (p + 1) = p + 1 := wrap_id (by omega) (by omega)
      by_cases c0 : w = 0
      · obtain ⟨r, i4, s4, e4, h4, h5, h6⟩ := ih ((x1.extract 0 p.toNat ++ strOfNums [bt x2 q]) ++ x1.extract p.toNat x1.size) i3 s3 (by omega) (by rw [ByteArray.size_append, ByteArray.size_append, hone, hA, hB]; omega) (by omega) (by omega)
        rw [ByteArray.size_append, ByteArray.size_append, hone, hA, hB] at h4
        refine ⟨r, i4, s4, fun k => ?_, by omega, h5, by omega⟩
        rw [hk, spec_l1Cur_spoilt.l0, if_pos (by omega), decide_eq_true hz, spec_l1Cur_spoilt.j1, if_pos rfl, e1, Option.bind_some]
        dsimp only
        rw [e2, Option.bind_some]
        dsimp only
        rw [if_pos q0, if_pos hq, Option.bind_some, e3, Option.bind_some]
        dsimp only
        rw [if_pos c0, if_pos p0, if_pos (by omega), if_pos (by rw [hA, hone]; omega), if_pos (by rw [ByteArray.size_append, hA, hone, hB]; omega), hw]
        exact e4 k
      · by_cases c1 : w = 1
        · obtain ⟨r, i4, s4, e4, h4, h5, h6⟩ := ih ((x1.extract 0 p.toNat ++ strOfNums [bt x2 q]) ++ x1.extract (p + 1).toNat x1.size) i3 s3 (by omega) (by rw [ByteArray.size_append, ByteArray.size_append, hone, hA, hC]; omega) (by omega) (by omega)
          rw [ByteArray.size_append, ByteArray.size_append, hone, hA, hC] at h4
          refine ⟨r, i4, s4, fun k => ?_, by omega, h5, by omega⟩
          rw [hk, spec_l1Cur_spoilt.l0, if_pos (by omega), decide_eq_true hz, spec_l1Cur_spoilt.j1, if_pos rfl, e1, Option.bind_some]
          dsimp only
          rw [e2, Option.bind_some]
          dsimp only
          rw [if_pos q0, if_pos hq, Option.bind_some, e3, Option.bind_some]
          dsimp only
          rw [if_neg c0, if_pos c1, if_pos p0, if_pos (by omega), if_pos (by rw [hA, hone]; omega), hp1, if_pos (by omega), if_pos (by omega), if_pos (by rw [ByteArray.size_append, hA, hone, hC]; omega), hw]
          exact e4 k
        · obtain ⟨r, i4, s4, e4, h4, h5, h6⟩ := ih (x1.extract 0 p.toNat ++ x1.extract (p + 1).toNat x1.size) i3 s3 (by omega) (by rw [ByteArray.size_append, hA, hC]; omega) (by omega) (by omega)
          rw [ByteArray.size_append, hA, hC] at h4
          refine ⟨r, i4, s4, fun k => ?_, by omega, h5, by omega⟩
          rw [hk, spec_l1Cur_spoilt.l0, if_pos (by omega), decide_eq_true hz, spec_l1Cur_spoilt.j1, if_pos rfl, e1, Option.bind_some]
          dsimp only
          rw [e2, Option.bind_some]
          dsimp only
          rw [if_pos q0, if_pos hq, Option.bind_some, e3, Option.bind_some]
          dsimp only
          rw [if_neg c0, if_neg c1, if_pos p0, if_pos (by omega), hp1, if_pos (by omega), if_pos (by omega), if_pos (by rw [hA, hC]; omega), hw]
          exact e4 k
    · refine ⟨x1, i, s, fun k => ?_, by omega, h0, by omega⟩
      rw [hk, spec_l1Cur_spoilt.l0, if_pos (by omega), decide_eq_false hz, spec_l1Cur_spoilt.j1, if_neg (by simp)]
theorem spoilt_ok {c : List Int} (hc : Bts c) (x1 x2 : ByteArray) (h1 : x1.size ≤ 4000) (h2 : 0 < x2.size) (h3 : x2.size ≤ 100) (i s : Int) (h0 : 0 ≤ i) (hi : i ≤ 900000) : ∃ r i' s', (∀ k, 100 ≤ k → spec_l1Cur_spoilt.f k c i s x1 x2 = some (r, i', s')) ∧ r.size ≤ x1.size + 3 ∧ 0 ≤ i' ∧ i' ≤ i + 30 := by
  obtain ⟨n, i1, s1, e1, n0, n1, a1, b1⟩ := pick_ok hc s (n := 3) h0 (by omega) (by omega)
  obtain ⟨r, i2, s2, e2, g1, g2, g3⟩ := spoilt_l0 hc x2 h2 h3 n.toNat x1 i1 s1 (by omega) (by omega) (by omega) (by omega)
  refine ⟨r, i2, s2, fun k hk => ?_, by omega, g2, by omega⟩
  obtain ⟨k, rfl⟩ : ∃ k', k = k' + 2 * n.toNat + 2 := ⟨k - (2 * n.toNat + 2), by omega⟩
  unfold spec_l1Cur_spoilt.f
  rw [e1, Option.bind_some]
  dsimp only
  rw [show n = (n.toNat : Int) by omega]
  exact e2 k
theorem bytes_app (a b : List UInt8) : (⟨a.toArray⟩ : ByteArray) ++ ⟨b.toArray⟩ = ⟨(a ++ b).toArray⟩ := by
  apply ByteArray.ext
  rw [ByteArray.data_append]
  simp
theorem size_mk (l : List UInt8) : (⟨l.toArray⟩ : ByteArray).size = l.length := by simp [ByteArray.size]
theorem dec_len {u : Nat} (h : u < 1000) : (Lib.decDigits u).length ≤ 3 := by
  by_cases h1 : u < 10
  · rw [Lib.decDigits_one h1]; simp
  · by_cases h2 : u < 100
    · rw [Lib.decDigits_two h1 h2]; simp
    · rw [Lib.decDigits, dif_neg h1]
      by_cases h3 : u / 10 < 10
      · rw [Lib.decDigits_one h3]; simp
      · rw [Lib.decDigits_two h3 (by omega)]; simp
theorem itoa_len {x : Int} (h0 : 0 ≤ x) (h1 : x < 1000) : (Lib.itoa x).length ≤ 3 := by
  unfold Lib.itoa
  rw [if_neg (by omega)]
  exact dec_len (by omega)
def oct (a s : Int) : Int := Go.bits .and .i64 (shr .i64 a s) 255
theorem oct_range {a : Int} (s : Int) (a0 : 0 ≤ a) (a1 : a ≤ 4294967295) : 0 ≤ oct a s ∧ oct a s < 256 := by
  have hx : 0 ≤ shr .i64 a s ∧ shr .i64 a s ≤ a := by
    unfold shr
    exact ⟨Int.ediv_nonneg a0 (by exact_mod_cast Nat.zero_le _), Int.ediv_le_self _ a0⟩
  unfold oct
  have : Go.bits .and .i64 (shr .i64 a s) 255 = shr .i64 a s % 256 := bits_mask .i64 62 (by decide) (fun n h2 h3 => by rw [i64_w]; exact wrap_id (by omega) (by omega)) 8 (by decide) _ hx.1 (by omega)
  rw [this]
  omega
def textL (a n : Int) : List UInt8 := Lib.itoa (oct a 24) ++ [46] ++ Lib.itoa (oct a 16) ++ [46] ++ Lib.itoa (oct a 8) ++ [46] ++ Lib.itoa (oct a 0) ++ [47] ++ Lib.itoa n
theorem oct_len {a : Int} (s : Int) (a0 : 0 ≤ a) (a1 : a ≤ 4294967295) : (Lib.itoa (oct a s)).length ≤ 3 := by
  obtain ⟨r0, r1⟩ := oct_range s a0 a1
  exact itoa_len r0 (by omega)
theorem one_byte (x : Int) : strOfNums [x] = ⟨[UInt8.ofNat x.toNat].toArray⟩ := by
  apply ByteArray.ext
  simp [strOfNums]
theorem l1Num_dec : ∀ (m u : Nat), u < 10 ^ (m + 1) → m ≤ 8 → ∀ k, spec_l1Num.f (k + m + 1) (u : Int) = some ⟨(Lib.decDigits u).toArray⟩ ∧ (Lib.decDigits u).length ≤ m + 1
  | 0, u, hu, _, k => by
    have hu' : u < 10 := by simpa using hu
    have e : Lib.decDigits u = [UInt8.ofNat (48 + u)] := by unfold Lib.decDigits; rw [dif_pos hu']
    rw [show k + 0 + 1 = k + 1 by omega, spec_l1Num.f, if_pos (by omega), one_byte, e, wrap_id (by omega) (by omega), show ((48 + (u : Int)) % 256).toNat = 48 + u by omega]
    exact ⟨rfl, by simp⟩
  | m + 1, u, hu, hm, k => by
    by_cases h : u < 10
    · have e : Lib.decDigits u = [UInt8.ofNat (48 + u)] := by unfold Lib.decDigits; rw [dif_pos h]
      rw [show k + (m + 1) + 1 = (k + m + 1) + 1 by omega, spec_l1Num.f, if_pos (by omega), one_byte, e, wrap_id (by omega) (by omega), show ((48 + (u : Int)) % 256).toNat = 48 + u by omega]
      exact ⟨rfl, by simp⟩
    · have e : Lib.decDigits u = Lib.decDigits (u / 10) ++ [UInt8.ofNat (48 + u % 10)] := by rw [Lib.decDigits, dif_neg h]
      have hb : u < 10 ^ 10 := Nat.lt_of_lt_of_le hu (Nat.pow_le_pow_right (by omega) (by omega))
      obtain ⟨i1, i2⟩ := l1Num_dec m (u / 10) (by rw [Nat.pow_succ] at hu; omega) (by omega) k
      have d1 : wrap64 (Int.tdiv (u : Int) 10) = ((u / 10 : Nat) : Int) := by
        rw [Int.tdiv_eq_ediv_of_nonneg (by omega), wrap_id (by omega) (by omega)]; omega
      have d2 : (wrap64 (48 + Int.tmod (u : Int) 10) % 256).toNat = 48 + u % 10 := by
        rw [Int.tmod_eq_emod_of_nonneg (by omega), wrap_id (by omega) (by omega)]; omega
      rw [show k + (m + 1) + 1 = (k + m + 1) + 1 by omega, spec_l1Num.f, if_neg (by omega), d1, i1, Option.bind_some, Option.bind_some, one_byte, d2, if_pos (by rw [size_mk, size_mk]; simp; omega), bytes_app, e]
      exact ⟨rfl, by simp; omega⟩
theorem l1Num_is {x : Int} (h0 : 0 ≤ x) (h1 : x < 1000) (k : Nat) : spec_l1Num.f (k + 3) x = some ⟨(Lib.itoa x).toArray⟩ ∧ (Lib.itoa x).length ≤ 3 := by
  have e : Lib.itoa x = Lib.decDigits x.toNat := by unfold Lib.itoa; rw [if_neg (by omega)]
  have := l1Num_dec 2 x.toNat (by omega) (by omega) k
  rw [e]
  rwa [show ((x.toNat : Nat) : Int) = x by omega] at this
theorem text_step (L : List UInt8) {s a : Int} (n : Int) (k : Nat) (hL : L.length ≤ 100) (h0 : 0 < s) (h1 : s ≤ 24) (a0 : 0 ≤ a) (a1 : a ≤ 4294967295) : spec_l1Text.l0 (k + 4) ⟨L.toArray⟩ s a n = spec_l1Text.l0 (k + 3) ⟨(L ++ Lib.itoa (oct a s) ++ [46]).toArray⟩ (s - 8) a n := by
  obtain ⟨r0, r1⟩ := oct_range s a0 a1
  obtain ⟨e, hl⟩ := l1Num_is r0 (by omega) k
  have hu : IntKind.u64.wrap s = s := u64_id (by omega) (by omega)
  have e' : spec_l1Num.f (k + 3) (Go.bits .and .i64 (shr .i64 a s) 255) = some ⟨(Lib.itoa (oct a s)).toArray⟩ := e
  rw [show k + 4 = (k + 3) + 1 by omega, spec_l1Text.l0, if_pos (by omega), hu, if_pos (by omega), e', Option.bind_some, if_pos (by rw [size_mk, size_mk]; omega), if_pos (by omega), bytes_app, if_pos (by rw [size_mk, List.length_append]; omega), show (⟨#[46]⟩ : ByteArray) = ⟨[46].toArray⟩ from rfl, bytes_app, wrap_id (by omega) (by omega)]
theorem text_last (L : List UInt8) {a : Int} (n : Int) (k : Nat) (hL : L.length ≤ 100) (a0 : 0 ≤ a) (a1 : a ≤ 4294967295) : spec_l1Text.l0 (k + 4) ⟨L.toArray⟩ 0 a n = spec_l1Text.l0 (k + 3) ⟨(L ++ Lib.itoa (oct a 0)).toArray⟩ (-8) a n := by
  obtain ⟨r0, r1⟩ := oct_range 0 a0 a1
  obtain ⟨e, hl⟩ := l1Num_is r0 (by omega) k
  have hu : IntKind.u64.wrap 0 = 0 := u64_id (by omega) (by omega)
  have e' : spec_l1Num.f (k + 3) (Go.bits .and .i64 (shr .i64 a 0) 255) = some ⟨(Lib.itoa (oct a 0)).toArray⟩ := e
  rw [show k + 4 = (k + 3) + 1 by omega, spec_l1Text.l0, if_pos (by omega), hu, if_pos (by omega), e', Option.bind_some, if_pos (by rw [size_mk, size_mk]; omega), if_neg (by omega), bytes_app, wrap_id (by omega) (by omega)]
  rfl
theorem text_end (L : List UInt8) (a : Int) {n : Int} (k : Nat) (hL : L.length ≤ 100) (n0 : 0 ≤ n) (n1 : n ≤ 32) : spec_l1Text.l0 (k + 4) ⟨L.toArray⟩ (-8) a n = some ⟨(L ++ [47] ++ Lib.itoa n).toArray⟩ := by
  obtain ⟨e, hl⟩ := l1Num_is n0 (by omega) k
  rw [show k + 4 = (k + 3) + 1 by omega, spec_l1Text.l0, if_neg (by omega), if_pos (by rw [size_mk]; omega), e, Option.bind_some, show (⟨#[47]⟩ : ByteArray) = ⟨[47].toArray⟩ from rfl, bytes_app, if_pos (by rw [size_mk, size_mk, List.length_append]; simp; omega), bytes_app]
theorem l1Text_is {a n : Int} (a0 : 0 ≤ a) (a1 : a ≤ 4294967295) (n0 : 0 ≤ n) (n1 : n ≤ 32) (k : Nat) : spec_l1Text.f (k + 8) a n = some ⟨(textL a n).toArray⟩ := by
  have h24 := oct_len 24 a0 a1
  have h16 := oct_len 16 a0 a1
  have h8 := oct_len 8 a0 a1
  have h0 := oct_len 0 a0 a1
  unfold spec_l1Text.f
  rw [show (⟨#[]⟩ : ByteArray) = ⟨([] : List UInt8).toArray⟩ from rfl, show k + 8 = (k + 4) + 4 by omega, text_step [] n (k + 4) (by simp) (by omega) (by omega) a0 a1, show (24 : Int) - 8 = 16 by omega, show k + 4 + 3 = (k + 3) + 4 by omega, text_step _ n (k + 3) (by simp; omega) (by omega) (by omega) a0 a1, show (16 : Int) - 8 = 8 by omega, show k + 3 + 3 = (k + 2) + 4 by omega, text_step _ n (k + 2) (by simp; omega) (by omega) (by omega) a0 a1, show (8 : Int) - 8 = 0 by omega, show k + 2 + 3 = (k + 1) + 4 by omega, text_last _ n (k + 1) (by simp; omega) a0 a1, show k + 1 + 3 = k + 4 by omega, text_end _ a k (by simp; omega) n0 n1]
  congr 3
theorem itoa_is {x : Int} (h0 : 0 ≤ x) (h1 : x < 1000) : strconv_Itoa.f x = some ⟨(Lib.itoa x).toArray⟩ := by
  unfold strconv_Itoa.f
  rw [if_pos ⟨by omega, by omega⟩]
theorem impl_Text_is {a n : Int} (a0 : 0 ≤ a) (a1 : a ≤ 4294967295) (n0 : 0 ≤ n) (n1 : n ≤ 32) (k : Nat) : impl_PrefixText.l0 (k + 5) [] 24 a n = some (⟨(textL a n).toArray⟩, true) := by
  have h24 := oct_len 24 a0 a1
  have h16 := oct_len 16 a0 a1
  have h8 := oct_len 8 a0 a1
  have h0 := oct_len 0 a0 a1
  have hn := itoa_len n0 (by omega)
  have it : ∀ s, strconv_Itoa.f (Go.bits .and .i64 (shr .i64 a s) 255) = some ⟨(Lib.itoa (oct a s)).toArray⟩ := fun s => by
    obtain ⟨r0, r1⟩ := oct_range s a0 a1
    exact itoa_is (x := oct a s) r0 (by omega)
  have w1 : wrap64 (24 - 8) = 16 := wrap_id (by omega) (by omega)
  have w2 : wrap64 (16 - 8) = 8 := wrap_id (by omega) (by omega)
  have w3 : wrap64 (8 - 8) = 0 := wrap_id (by omega) (by omega)
  have w4 : wrap64 (0 - 8) = -8 := wrap_id (by omega) (by omega)
  have hj : Lib.join ((([] ++ [(⟨(Lib.itoa (oct a 24)).toArray⟩ : ByteArray)] ++ [⟨(Lib.itoa (oct a 16)).toArray⟩] ++ [⟨(Lib.itoa (oct a 8)).toArray⟩] ++ [⟨(Lib.itoa (oct a 0)).toArray⟩]) : List ByteArray).map (·.data.toList)) (⟨#[46]⟩ : ByteArray).data.toList = Lib.itoa (oct a 24) ++ [46] ++ Lib.itoa (oct a 16) ++ [46] ++ Lib.itoa (oct a 8) ++ [46] ++ Lib.itoa (oct a 0) := by
    simp [Lib.join_cons, Lib.joinTail]
  rw [show k + 5 = (k + 4) + 1 by omega, impl_PrefixText.l0, if_pos (by omega), if_pos (by omega), it, Option.bind_some, if_pos (by simp), w1, show k + 4 = (k + 3) + 1 by omega, impl_PrefixText.l0, if_pos (by omega), if_pos (by omega), it, Option.bind_some, if_pos (by simp), w2, show k + 3 = (k + 2) + 1 by omega, impl_PrefixText.l0, if_pos (by omega), if_pos (by omega), it, Option.bind_some, if_pos (by simp), w3, show k + 2 = (k + 1) + 1 by omega, impl_PrefixText.l0, if_pos (by omega), if_pos (by omega), it, Option.bind_some, if_pos (by simp), w4, impl_PrefixText.l0, if_neg (by omega)]
  unfold strings_Join.f
  rw [hj, if_pos ⟨by simp, by simp; omega⟩, Option.bind_some, if_pos (by rw [size_mk]; simp; omega), itoa_is n0 (by omega), Option.bind_some, show (⟨#[47]⟩ : ByteArray) = ⟨[47].toArray⟩ from rfl, bytes_app, if_pos (by rw [size_mk, size_mk]; simp; omega), bytes_app]
  rfl
abbrev mkB (l : List UInt8) : ByteArray := ⟨l.toArray⟩
theorem mkB_of (s : ByteArray) : mkB s.data.toList = s := by apply ByteArray.ext; simp
theorem mk_extract (l : List UInt8) (a b : Nat) : (mkB l).extract a b = mkB ((l.drop a).take (b - a)) := by
  rw [← mkB_of ((mkB l).extract a b), Lib.extract_data]
theorem bt_mid (pre : List UInt8) (c : UInt8) (rest : List UInt8) : bt (mkB (pre ++ c :: rest)) (pre.length : Int) = (c.toNat : Int) := by
  unfold bt
  have h : ((pre.length : Int)).toNat < (mkB (pre ++ c :: rest)).size := by rw [size_mk]; simp
  rw [dif_pos h]
  show ((((pre ++ c :: rest).toArray)[((pre.length : Int)).toNat]'h).toNat : Int) = _
  simp
def pieces (b : UInt8) : List UInt8 → List UInt8 → List (List UInt8)
  | cur, [] => [cur]
  | cur, c :: l => if c = b then cur :: pieces b [] l else pieces b (cur ++ [c]) l
theorem pieces_ne (b : UInt8) : ∀ (l cur : List UInt8), pieces b cur l ≠ []
  | [], cur => by simp [pieces]
  | c :: l, cur => by
    unfold pieces
    split
    · simp
    · exact pieces_ne b l _
theorem pieces_hit (b : UInt8) (r : List UInt8) : ∀ (p cur : List UInt8), b ∉ p → pieces b cur (p ++ b :: r) = (cur ++ p) :: pieces b [] r
  | [], cur, _ => by simp [pieces]
  | c :: p, cur, h => by
    rw [List.mem_cons, not_or] at h
    rw [List.cons_append, pieces, if_neg (fun e => h.1 e.symm), pieces_hit b r p _ h.2]
    simp
theorem pieces_miss (b : UInt8) : ∀ (p cur : List UInt8), b ∉ p → pieces b cur p = [cur ++ p]
  | [], cur, _ => by simp [pieces]
  | c :: p, cur, h => by
    rw [List.mem_cons, not_or] at h
    rw [pieces, if_neg (fun e => h.1 e.symm), pieces_miss b p _ h.2]
    simp
def glue (b : UInt8) : List (List UInt8) → List UInt8
  | [] => []
  | [p] => p
  | p :: q :: ps => p ++ b :: glue b (q :: ps)
theorem glue_pieces (b : UInt8) : ∀ (l cur : List UInt8), glue b (pieces b cur l) = cur ++ l
  | [], cur => by simp [pieces, glue]
  | c :: l, cur => by
    unfold pieces
    by_cases h : c = b
    · rw [if_pos h]
      have ih := glue_pieces b l []
      cases hp : pieces b [] l with
      | nil => exact absurd hp (pieces_ne b l [])
      | cons q ps => rw [hp] at ih; rw [glue, ih, h]; rfl
    · rw [if_neg h, glue_pieces b l]; simp
theorem l1Split_loop (b : UInt8) (l : List UInt8) (hl : l.length ≤ 2000000) : ∀ (rest pre cur : List UInt8) (out : List ByteArray) (k : Nat), l = pre ++ cur ++ rest → out.length ≤ pre.length →
    spec_l1Split.l0 (k + rest.length + 1) (mkB l) (b.toNat : Int) out (pre.length : Int) ((pre ++ cur).length : Int) = some (out ++ (pieces b cur rest).map mkB)
  | [], pre, cur, out, k, e, ho => by
    have hs : ((mkB l).size : Int) = ((pre ++ cur).length : Int) := by rw [size_mk, e]; simp
    have hle : pre.length ≤ l.length := by rw [e, List.append_assoc, List.length_append]; omega
    have hx : (mkB l).extract ((pre.length : Int)).toNat (mkB l).size = mkB cur := by
      rw [mk_extract, size_mk, e, List.append_nil]
      congr 1
      rw [Int.toNat_natCast, List.drop_left, List.length_append, Nat.add_sub_cancel_left, List.take_length]
    rw [show k + ([] : List UInt8).length + 1 = k + 1 from rfl, spec_l1Split.l0, if_neg (by omega), if_pos (by omega), if_pos (by rw [size_mk]; omega), if_pos (by omega), hx]
    simp [pieces]
  | c :: rest, pre, cur, out, k, e, ho => by
    have hs : ((mkB l).size : Int) = ((pre ++ cur).length : Int) + 1 + rest.length := by rw [size_mk, e]; simp; omega
    have hle : pre.length ≤ (pre ++ cur).length := by simp
    have hlt : (pre ++ cur).length < l.length := by rw [e]; simp
    have hb : bt (mkB l) ((pre ++ cur).length : Int) = (c.toNat : Int) := by rw [e]; exact bt_mid _ _ _
    have hw : wrap64 (((pre ++ cur).length : Int) + 1) = ((pre ++ cur ++ [c]).length : Int) := by
      rw [wrap_id (by omega) (by omega), show (pre ++ cur ++ [c]).length = (pre ++ cur).length + 1 from by rw [List.length_append, List.length_singleton]]; rfl
    rw [show k + (c :: rest).length + 1 = (k + rest.length + 1) + 1 by simp; omega, spec_l1Split.l0, if_pos (by omega), if_pos (by omega), hb, hw]
    by_cases h : c = b
    · have hx : (mkB l).extract ((pre.length : Int)).toNat (((pre ++ cur).length : Int)).toNat = mkB cur := by
        rw [mk_extract, e]
        congr 1
        rw [Int.toNat_natCast, Int.toNat_natCast, List.append_assoc, List.drop_left, List.length_append, Nat.add_sub_cancel_left, List.take_left]
      have ih := l1Split_loop b l hl rest (pre ++ cur ++ [c]) [] (out ++ [mkB cur]) k (by rw [e]; simp) (by simp; omega)
      rw [List.append_nil] at ih
      rw [if_pos (by rw [h]), if_pos (by omega), if_pos (by omega), if_pos (by omega), if_pos (by omega), hx, ih, pieces, if_pos h]
      simp
    · have hne : ¬ ((c.toNat : Int) = (b.toNat : Int)) := fun e2 => h (UInt8.toNat_inj.1 (by omega))
      have ih := l1Split_loop b l hl rest pre (cur ++ [c]) out k (by rw [e]; simp) ho
      rw [← List.append_assoc] at ih
      rw [if_neg hne, ih, pieces, if_neg h]
theorem l1Split_is (b : UInt8) (l : List UInt8) (hl : l.length ≤ 2000000) (k : Nat) : spec_l1Split.f (k + l.length + 1) (mkB l) (b.toNat : Int) = some ((pieces b [] l).map mkB) := by
  unfold spec_l1Split.f
  have := l1Split_loop b l hl l [] [] [] k rfl (by simp)
  simpa using this
def num (l : List UInt8) : Int := if 1 ≤ l.length ∧ l.length ≤ 9 ∧ ¬ (l.head? = some 48 ∧ 1 < l.length) then (match Lib.decFrom 0 l with | some m => (m : Int) | none => -1) else -1
theorem l1Int_loop (l : List UInt8) (hl : l.length ≤ 9) : ∀ (rest pre : List UInt8) (acc k : Nat), l = pre ++ rest → acc < 10 ^ pre.length →
    spec_l1Int.l0 (k + rest.length + 1) (mkB l) (acc : Int) (pre.length : Int) = some (match Lib.decFrom acc rest with | some m => (m : Int) | none => -1)
  | [], pre, acc, k, e, ha => by
    rw [show k + ([] : List UInt8).length + 1 = k + 1 from rfl, spec_l1Int.l0, if_neg (by rw [size_mk, e]; simp)]
    rfl
  | c :: rest, pre, acc, k, e, ha => by
    have hlt : pre.length + 1 + rest.length = l.length := by rw [e]; simp; omega
    have hb : bt (mkB l) (pre.length : Int) = (c.toNat : Int) := by rw [e]; exact bt_mid _ _ _
    have hw : wrap64 ((pre.length : Int) + 1) = ((pre ++ [c]).length : Int) := by
      rw [wrap_id (by omega) (by omega)]; simp
    rw [show k + (c :: rest).length + 1 = (k + rest.length + 1) + 1 by simp; omega, spec_l1Int.l0, if_pos (by rw [size_mk]; omega), if_pos (by omega), hb, hw]
    by_cases h1 : c.toNat < 48
    · rw [if_pos (by omega)]
      unfold Lib.decFrom Lib.digitVal
      rw [if_neg (by omega)]
    · rw [if_neg (by omega)]
      by_cases h2 : c.toNat > 57
      · rw [if_pos (by omega)]
        unfold Lib.decFrom Lib.digitVal
        rw [if_neg (by omega)]
      · rw [if_neg (by omega)]
        have h10 : 10 ^ pre.length ≤ 10 ^ 8 := Nat.pow_le_pow_right (by omega) (by omega)
        have hacc : acc < 100000000 := Nat.lt_of_lt_of_le ha h10
        have hv : wrap64 (wrap64 (10 * (acc : Int)) + (((c.toNat : Int) - 48) % 256)) = ((acc * 10 + (c.toNat - 48) : Nat) : Int) := by
          rw [wrap_id (x := 10 * (acc : Int)) (by omega) (by omega), wrap_id (by omega) (by omega)]; omega
        have ih := l1Int_loop l hl rest (pre ++ [c]) (acc * 10 + (c.toNat - 48)) k (by rw [e]; simp) (by rw [List.length_append, List.length_singleton, Nat.pow_succ]; omega)
        rw [hv, ih]
        conv => rhs; unfold Lib.decFrom Lib.digitVal
        rw [if_pos (by omega)]
theorem l1Int_is (l : List UInt8) (k : Nat) : spec_l1Int.f (k + 12) (mkB l) = some (num l) := by
  unfold spec_l1Int.f
  rw [spec_l1In_is, Option.bind_some, size_mk]
  by_cases h : 1 ≤ l.length ∧ l.length ≤ 9
  · have h0 : bt (mkB l) 0 = 48 ↔ l.head? = some 48 := by
      cases l with
      | nil => simp at h
      | cons c r =>
        have := bt_mid [] c r
        rw [show (([] : List UInt8).length : Int) = 0 from rfl, List.nil_append] at this
        rw [this, List.head?_cons, Option.some.injEq]
        constructor
        · intro e; exact UInt8.toNat_inj.1 (by show c.toNat = 48; omega)
        · intro e; rw [e]; rfl
    have lp : spec_l1Int.l0 (k + 11) (mkB l) 0 0 = some (match Lib.decFrom 0 l with | some m => (m : Int) | none => -1) := by
      have := l1Int_loop l h.2 l [] 0 (k + 10 - l.length) rfl (by simp)
      rwa [show k + 10 - l.length + l.length + 1 = k + 11 by omega] at this
    rw [if_pos (by rw [decide_eq_true (show 1 ≤ (l.length : Int) ∧ (l.length : Int) ≤ 9 by omega)]), if_pos (by omega)]
    by_cases hz : bt (mkB l) 0 = 48
    · rw [if_pos hz, show k + 12 = (k + 11) + 1 by omega, spec_l1Int.j0]
      by_cases h1 : 1 < l.length
      · rw [if_pos (decide_eq_true (by omega))]
        unfold num
        rw [if_neg (fun q => q.2.2 ⟨h0.1 hz, h1⟩)]
      · rw [if_neg (by rw [decide_eq_false (by omega)]; simp), lp]
        unfold num
        rw [if_pos ⟨h.1, h.2, fun q => h1 q.2⟩]
    · rw [if_neg hz, show k + 12 = (k + 11) + 1 by omega, spec_l1Int.j0, if_neg (by simp), lp]
      unfold num
      rw [if_pos ⟨h.1, h.2, fun q => hz (h0.2 q.1)⟩]
  · rw [if_neg (by rw [decide_eq_false (show ¬ (1 ≤ (l.length : Int) ∧ (l.length : Int) ≤ 9) by omega)]; simp), show k + 12 = (k + 11) + 1 by omega, spec_l1Int.j0, if_pos rfl]
    unfold num
    rw [if_neg (fun q => h ⟨q.1, q.2.1⟩)]
theorem decFrom_app : ∀ (a b : List UInt8) (acc : Nat), Lib.decFrom acc (a ++ b) = (Lib.decFrom acc a).bind fun m => Lib.decFrom m b
  | [], b, acc => rfl
  | c :: a, b, acc => by
    rw [List.cons_append]
    simp only [Lib.decFrom]
    cases Lib.digitVal c with
    | none => rfl
    | some d => exact decFrom_app a b _
theorem digitVal_of {d : Nat} (h : d < 10) : Lib.digitVal (UInt8.ofNat (48 + d)) = some d := by
  unfold Lib.digitVal
  have : (UInt8.ofNat (48 + d)).toNat = 48 + d := by rw [UInt8.toNat_ofNat']; omega
  rw [this, if_pos (by omega)]
  congr 1
  omega
theorem decFrom_dec : ∀ u : Nat, Lib.decFrom 0 (Lib.decDigits u) = some u := by
  intro u
  induction u using Nat.strongRecOn with
  | _ u ih =>
    by_cases h : u < 10
    · rw [Lib.decDigits_one h]
      unfold Lib.decFrom
      rw [digitVal_of h]
      simp [Lib.decFrom]
    · rw [Lib.decDigits, dif_neg h, decFrom_app, ih (u / 10) (by omega), Option.bind_some]
      unfold Lib.decFrom
      rw [digitVal_of (Nat.mod_lt _ (by omega))]
      simp only [Lib.decFrom]
      congr 1
      omega
theorem dec_digit : ∀ (u : Nat) (b : UInt8), b ∈ Lib.decDigits u → 48 ≤ b.toNat ∧ b.toNat ≤ 57 := by
  intro u
  have one : ∀ d, d < 10 → (UInt8.ofNat (48 + d)).toNat = 48 + d := fun d hd => by rw [UInt8.toNat_ofNat']; omega
  induction u using Nat.strongRecOn with
  | _ u ih =>
    intro b hb
    by_cases h : u < 10
    · rw [Lib.decDigits_one h, List.mem_singleton] at hb
      rw [hb, one u h]; omega
    · rw [Lib.decDigits, dif_neg h, List.mem_append, List.mem_singleton] at hb
      rcases hb with hb | hb
      · exact ih (u / 10) (by omega) b hb
      · rw [hb, one _ (Nat.mod_lt _ (by omega))]; omega
theorem dec_head : ∀ u : Nat, Lib.decDigits u ≠ [] ∧ ((Lib.decDigits u).head? = some 48 → u = 0) := by
  intro u
  have one : ∀ d, d < 10 → (UInt8.ofNat (48 + d)).toNat = 48 + d := fun d hd => by rw [UInt8.toNat_ofNat']; omega
  induction u using Nat.strongRecOn with
  | _ u ih =>
    by_cases h : u < 10
    · rw [Lib.decDigits_one h]
      refine ⟨by simp, fun e => ?_⟩
      rw [List.head?_cons, Option.some.injEq] at e
      have := one u h
      rw [e] at this
      have h48 : (48 : UInt8).toNat = 48 := rfl
      omega
    · rw [Lib.decDigits, dif_neg h]
      obtain ⟨i1, i2⟩ := ih (u / 10) (by omega)
      refine ⟨by simp, fun e => ?_⟩
      obtain ⟨c, r, hc⟩ := List.exists_cons_of_ne_nil i1
      rw [hc] at e i2
      have := i2 (by simpa using e)
      omega
theorem canon : ∀ (n : Nat) (l : List UInt8), l.length = n + 1 → ∀ m, Lib.decFrom 0 l = some m → ¬ (l.head? = some 48 ∧ 1 < l.length) → l = Lib.decDigits m := by
  intro n
  have last : ∀ (p : List UInt8) (c : UInt8) (a m : Nat), Lib.decFrom a [c] = some m → 48 ≤ c.toNat ∧ c.toNat ≤ 57 ∧ m = a * 10 + (c.toNat - 48) := fun p c a m h => by
    unfold Lib.decFrom Lib.digitVal at h
    by_cases hc : 48 ≤ c.toNat ∧ c.toNat ≤ 57
    · rw [if_pos hc] at h
      simp only [Lib.decFrom, Option.some.injEq] at h
      exact ⟨hc.1, hc.2, h.symm⟩
    · rw [if_neg hc] at h; cases h
  have back : ∀ (c : UInt8) (d : Nat), 48 ≤ c.toNat → d = c.toNat - 48 → UInt8.ofNat (48 + d) = c := fun c d h e => by
    rw [e, show 48 + (c.toNat - 48) = c.toNat by omega]
    exact UInt8.ofNat_toNat
  induction n with
  | zero =>
    intro l hl m hm _
    obtain ⟨c, rfl⟩ := List.length_eq_one_iff.1 hl
    obtain ⟨c0, c1, e⟩ := last [] c 0 m hm
    rw [Lib.decDigits_one (by omega), back c m c0 (by omega)]
  | succ n ih =>
    intro l hl m hm hz
    rcases snoc_cases l with rfl | ⟨p, c, rfl⟩
    · simp at hl
    · have hp : p.length = n + 1 := by simpa using hl
      rw [decFrom_app] at hm
      cases hd : Lib.decFrom 0 p with
      | none => rw [hd] at hm; cases hm
      | some a =>
        rw [hd, Option.bind_some] at hm
        obtain ⟨c0, c1, e⟩ := last p c a m hm
        have hh : (p ++ [c]).head? = p.head? := by
          cases p with
          | nil => simp at hp
          | cons x xs => rfl
        have h48 : p.head? ≠ some 48 := fun q => hz ⟨hh.trans q, by simp; omega⟩
        have hpd := ih p hp a hd (fun q => h48 q.1)
        have ha : a ≠ 0 := fun q => by
          rw [q, Lib.decDigits_one (by omega)] at hpd
          exact h48 (by rw [hpd]; rfl)
        rw [Lib.decDigits, dif_neg (by omega), show m / 10 = a by omega, ← hpd, back c (m % 10) c0 (by omega)]
theorem itoa_nn {x : Int} (h : 0 ≤ x) : Lib.itoa x = Lib.decDigits x.toNat := by unfold Lib.itoa; rw [if_neg (by omega)]
theorem num_canon {l : List UInt8} (h : 0 ≤ num l) : l = Lib.itoa (num l) := by
  by_cases hc : 1 ≤ l.length ∧ l.length ≤ 9 ∧ ¬ (l.head? = some 48 ∧ 1 < l.length)
  · cases hd : Lib.decFrom 0 l with
    | none =>
      have : num l = -1 := by unfold num; rw [if_pos hc, hd]
      omega
    | some m =>
      have e : num l = (m : Int) := by unfold num; rw [if_pos hc, hd]
      rw [e, itoa_nn (by omega)]
      exact canon (l.length - 1) l (by omega) m hd hc.2.2
  · have : num l = -1 := by unfold num; rw [if_neg hc]
    omega
theorem num_itoa {x : Int} (h0 : 0 ≤ x) (h1 : x < 1000) : num (Lib.itoa x) = x := by
  have hl := itoa_len h0 h1
  have hd := dec_head x.toNat
  unfold num
  rw [itoa_nn h0] at hl ⊢
  rw [if_pos ⟨by
    rcases Nat.eq_zero_or_pos (Lib.decDigits x.toNat).length with h | h
    · exact absurd (List.length_eq_zero_iff.1 h) hd.1
    · exact h, by omega, fun q => by
    have e := hd.2 q.1
    rw [e, Lib.decDigits_one (by omega)] at q
    exact absurd q.2 (by simp)⟩, decFrom_dec]
  show (x.toNat : Int) = x
  omega
theorem itoa_no {x : Int} (h0 : 0 ≤ x) (b : UInt8) (hb : b.toNat < 48) : b ∉ Lib.itoa x := by
  rw [itoa_nn h0]
  intro h
  have := dec_digit _ b h
  omega
def zero3 : Int × Int × Bool := (0, 0, false)
def fin3 (a n : Int) : Int × Int × Bool := if good a n = true then (a, n, true) else zero3
def foldS : Int → List (List UInt8) → Option Int
  | a, [] => some a
  | a, p :: ps => if 0 ≤ num p ∧ num p ≤ 255 then foldS (256 * a + num p) ps else none
theorem read_loop (n : Int) (l : List (List UInt8)) (hl : l.length = 4) : ∀ (rest pre : List (List UInt8)) (a : Int) (k : Nat), l = pre ++ rest → 0 ≤ a → a < 256 ^ pre.length →
    spec_ReadPrefix.l0 (k + rest.length + 13) (l.map mkB) ((l.map mkB).length : Int) (pre.length : Int) a n = some (match foldS a rest with | some x => fin3 x n | none => zero3)
  | [], pre, a, k, e, a0, a1 => by
    rw [show k + ([] : List (List UInt8)).length + 13 = (k + 12) + 1 from rfl, spec_ReadPrefix.l0, if_neg (by rw [e]; simp), spec_GoodPrefix_is, Option.bind_some]
    simp only [foldS]
    unfold fin3 zero3
    split <;> rfl
  | p :: rest, pre, a, k, e, a0, a1 => by
    have hlen : pre.length + 1 + rest.length = 4 := by rw [← hl, e]; simp; omega
    have hm : ((l.map mkB).length : Int) = 4 := by rw [List.length_map, hl]; rfl
    have hr : rdOf ByteArray.empty (l.map mkB) (pre.length : Int) = mkB p := by
      unfold rdOf
      rw [e]
      simp
    have h256 : (256 : Int) ^ pre.length ≤ 16777216 := by
      have : ∀ j : Nat, j ≤ 3 → (256 : Int) ^ j ≤ 16777216 := fun j hj => by
        match j, hj with
        | 0, _ => decide
        | 1, _ => decide
        | 2, _ => decide
        | 3, _ => decide
      exact this _ (by omega)
    rw [show k + (p :: rest).length + 13 = (k + rest.length + 13) + 1 by simp; omega, spec_ReadPrefix.l0, if_pos (by omega), if_pos (by omega), if_pos (by omega), hr, show k + rest.length + 13 = (k + rest.length + 1) + 12 by omega, l1Int_is, Option.bind_some, spec_l1In_is, Option.bind_some]
    by_cases h : 0 ≤ num p ∧ num p ≤ 255
    · have hw : wrap64 ((pre.length : Int) + 1) = ((pre ++ [p]).length : Int) := by
        rw [wrap_id (by omega) (by omega)]; simp
      have hv : wrap64 (wrap64 (256 * a) + num p) = 256 * a + num p := by
        rw [wrap_id (x := 256 * a) (by omega) (by omega), wrap_id (by omega) (by omega)]
      have hb : 256 * a + num p < 256 ^ (pre ++ [p]).length := by
        rw [List.length_append, List.length_singleton, Int.pow_succ]
        omega
      have ih := read_loop n l hl rest (pre ++ [p]) (256 * a + num p) k (by rw [e]; simp) (by omega) hb
      rw [if_pos (decide_eq_true h), hw, hv, show k + rest.length + 1 + 12 = k + rest.length + 13 by omega, ih]
      simp only [foldS]
      rw [if_pos h]
    · rw [if_neg (by rw [decide_eq_false h]; simp)]
      simp only [foldS]
      rw [if_neg h]
      rfl
def readL (l : List UInt8) : Int × Int × Bool := match pieces 47 [] l with
  | [x, y] => (match pieces 46 [] x with
    | [p0, p1, p2, p3] => (match foldS 0 [p0, p1, p2, p3] with | some a => fin3 a (num y) | none => zero3)
    | _ => zero3)
  | _ => zero3
theorem piece_le (b : UInt8) (q : List UInt8) : ∀ (l cur : List UInt8), q ∈ pieces b cur l → q.length ≤ cur.length + l.length
  | [], cur, h => by
    simp [pieces] at h
    rw [h]; simp
  | c :: l, cur, h => by
    unfold pieces at h
    split at h
    · rcases List.mem_cons.1 h with rfl | h
      · simp
      · have := piece_le b q l [] h
        simp at this ⊢; omega
    · have := piece_le b q l _ h
      simp at this ⊢; omega
theorem spec_read_is (l : List UInt8) (hl : l.length ≤ 2000000) (k : Nat) : spec_ReadPrefix.f (k + l.length + 30) (mkB l) = some (readL l) := by
  unfold spec_ReadPrefix.f
  have s47 := l1Split_is 47 l hl (k + 29)
  rw [show k + 29 + l.length + 1 = k + l.length + 30 by omega, show (((47 : UInt8).toNat : Nat) : Int) = 47 from rfl] at s47
  rw [s47, Option.bind_some]
  unfold readL
  have hle := piece_le 47
  cases hp : pieces 47 [] l with
  | nil => exact absurd hp (pieces_ne 47 l [])
  | cons x r =>
    have hx : x.length ≤ l.length := by
      have := hle x l [] (by rw [hp]; simp)
      simpa using this
    have hr : rdOf ByteArray.empty ((x :: r).map mkB) 0 = mkB x := rfl
    have s46 := l1Split_is 46 x (by omega) (k + 29 + (l.length - x.length))
    rw [show k + 29 + (l.length - x.length) + x.length + 1 = k + l.length + 30 by omega, show (((46 : UInt8).toNat : Nat) : Int) = 46 from rfl] at s46
    rw [if_pos (by rw [List.length_map, List.length_cons]; omega), hr, s46, Option.bind_some]
    have jt : ∀ (X Y : List ByteArray), spec_ReadPrefix.j0 (k + l.length + 30) X Y true = some zero3 := fun X Y => by
      rw [show k + l.length + 30 = (k + l.length + 29) + 1 by omega, spec_ReadPrefix.j0, if_pos rfl]; rfl
    match r, hp with
    | [], _ => rw [if_neg (by simp), jt]
    | [y], _ =>
      rw [if_pos (by simp)]
      by_cases h4 : (pieces 46 [] x).length = 4
      · have hb : ((((pieces 46 [] x).map mkB).length : Int) != 4) = false := by
          rw [List.length_map, h4]; rfl
        have ry : rdOf ByteArray.empty ([x, y].map mkB) 1 = mkB y := rfl
        have rl := read_loop (num y) (pieces 46 [] x) h4 (pieces 46 [] x) [] 0 (k + l.length + 12) rfl (by omega) (by simp)
        rw [h4, show k + l.length + 12 + 4 + 13 = k + l.length + 29 by omega] at rl
        rw [hb, show k + l.length + 30 = (k + l.length + 29) + 1 by omega, spec_ReadPrefix.j0, if_neg (by simp), if_pos (by simp), ry, show k + l.length + 29 = (k + l.length + 17) + 12 by omega, l1Int_is, Option.bind_some, show k + l.length + 17 + 12 = k + l.length + 29 by omega]
        rw [show (([] : List (List UInt8)).length : Int) = 0 from rfl] at rl
        rw [rl]
        dsimp only
        generalize pieces 46 [] x = q at h4
        match q, h4 with
        | [p0, p1, p2, p3], _ => rfl
      · have hb : ((((pieces 46 [] x).map mkB).length : Int) != 4) = true := by
          rw [List.length_map, bne_iff_ne]; omega
        rw [hb, jt]
        dsimp only
        split
        · rename_i p0 p1 p2 p3 e
          exact absurd (by rw [e]; rfl) h4
        · rfl
    | y :: z :: r, _ => rw [if_neg (by simp; omega), jt]
theorem oct_is {a : Int} (a0 : 0 ≤ a) (a1 : a ≤ 4294967295) : oct a 24 = a / 16777216 ∧ oct a 16 = a / 65536 % 256 ∧ oct a 8 = a / 256 % 256 ∧ oct a 0 = a % 256 := by
  have e : ∀ n : Nat, n ≤ 64 → oct a (n : Int) = a / 2 ^ n % 256 := fun n hn => by
    have hs : shr .i64 a (n : Int) = a / 2 ^ n := by
      unfold shr
      rw [show min (n : Int).toNat IntKind.i64.bits = n by show min (n : Int).toNat 64 = n; omega]
    have hx : 0 ≤ a / 2 ^ n ∧ a / 2 ^ n ≤ a := ⟨Int.ediv_nonneg a0 (by exact_mod_cast Nat.zero_le _), Int.ediv_le_self _ a0⟩
    unfold oct
    rw [hs]
    exact bits_mask .i64 62 (by decide) (fun n h2 h3 => by rw [i64_w]; exact wrap_id (by omega) (by omega)) 8 (by decide) _ hx.1 (by omega)
  have e24 := e 24 (by omega)
  have e16 := e 16 (by omega)
  have e8 := e 8 (by omega)
  have e0 := e 0 (by omega)
  refine ⟨?_, ?_, ?_, ?_⟩
  · rw [show (24 : Int) = ((24 : Nat) : Int) from rfl, e24]; omega
  · rw [show (16 : Int) = ((16 : Nat) : Int) from rfl, e16]; omega
  · rw [show (8 : Int) = ((8 : Nat) : Int) from rfl, e8]; omega
  · rw [show (0 : Int) = ((0 : Nat) : Int) from rfl, e0]; omega
theorem read_text {a n : Int} (h : good a n = true) : readL (textL a n) = (a, n, true) := by
  obtain ⟨n0, n1, a0, a1, _⟩ := good_iff.1 h
  obtain ⟨e3, e2, e1, e0⟩ := oct_is a0 a1
  have r3 := oct_range 24 a0 a1
  have r2 := oct_range 16 a0 a1
  have r1 := oct_range 8 a0 a1
  have r0 := oct_range 0 a0 a1
  have no : ∀ {x : Int}, 0 ≤ x → ∀ b : UInt8, b.toNat < 48 → b ∉ Lib.itoa x := fun h b hb => itoa_no h b hb
  have d : ∀ {x : Int}, 0 ≤ x → (47 : UInt8) ∉ Lib.itoa x := fun h => no h 47 (by decide)
  have t : ∀ {x : Int}, 0 ≤ x → (46 : UInt8) ∉ Lib.itoa x := fun h => no h 46 (by decide)
  have p1 : pieces 47 [] (textL a n) = [Lib.itoa (oct a 24) ++ 46 :: (Lib.itoa (oct a 16) ++ 46 :: (Lib.itoa (oct a 8) ++ 46 :: Lib.itoa (oct a 0))), Lib.itoa n] := by
    have := pieces_hit 47 (Lib.itoa n) (Lib.itoa (oct a 24) ++ 46 :: (Lib.itoa (oct a 16) ++ 46 :: (Lib.itoa (oct a 8) ++ 46 :: Lib.itoa (oct a 0)))) [] (by
      simp only [List.mem_append, List.mem_cons, not_or]
      exact ⟨d r3.1, by decide, d r2.1, by decide, d r1.1, by decide, d r0.1⟩)
    rw [pieces_miss 47 _ _ (d n0), List.nil_append, List.nil_append] at this
    rw [← this]
    congr 1
    unfold textL
    simp
  have p2 : pieces 46 [] (Lib.itoa (oct a 24) ++ 46 :: (Lib.itoa (oct a 16) ++ 46 :: (Lib.itoa (oct a 8) ++ 46 :: Lib.itoa (oct a 0)))) = [Lib.itoa (oct a 24), Lib.itoa (oct a 16), Lib.itoa (oct a 8), Lib.itoa (oct a 0)] := by
    rw [pieces_hit _ _ _ _ (t r3.1), pieces_hit _ _ _ _ (t r2.1), pieces_hit _ _ _ _ (t r1.1), pieces_miss _ _ _ (t r0.1)]
    rfl
  unfold readL
  rw [p1]
  dsimp only
  rw [p2]
  dsimp only
  simp only [foldS]
  rw [num_itoa r3.1 (by omega), num_itoa r2.1 (by omega), num_itoa r1.1 (by omega), num_itoa r0.1 (by omega), num_itoa n0 (by omega), if_pos (by omega), if_pos (by omega), if_pos (by omega), if_pos (by omega)]
  dsimp only
  rw [show 256 * (256 * (256 * (256 * (0 : Int) + oct a 24) + oct a 16) + oct a 8) + oct a 0 = a by rw [e3, e2, e1, e0]; omega]
  unfold fin3
  rw [if_pos h]
theorem read_cases (l : List UInt8) : readL l = zero3 ∨ ∃ a n, good a n = true ∧ l = textL a n ∧ readL l = (a, n, true) := by
  have g1 := glue_pieces 47 l []
  unfold readL
  split
  · rename_i x y e
    rw [e] at g1
    have g2 := glue_pieces 46 x []
    split
    · rename_i p0 p1 p2 p3 e2
      rw [e2] at g2
      simp only [glue, List.nil_append] at g1 g2
      simp only [foldS]
      by_cases h0 : 0 ≤ num p0 ∧ num p0 ≤ 255
      · rw [if_pos h0]
        by_cases h1 : 0 ≤ num p1 ∧ num p1 ≤ 255
        · rw [if_pos h1]
          by_cases h2 : 0 ≤ num p2 ∧ num p2 ≤ 255
          · rw [if_pos h2]
            by_cases h3 : 0 ≤ num p3 ∧ num p3 ≤ 255
            · rw [if_pos h3]
              dsimp only
              generalize hA : 256 * (256 * (256 * (256 * (0 : Int) + num p0) + num p1) + num p2) + num p3 = A
              unfold fin3
              by_cases hg : good A (num y) = true
              · rw [if_pos hg]
                obtain ⟨n0, n1, a0, a1, _⟩ := good_iff.1 hg
                obtain ⟨e3', e2', e1', e0'⟩ := oct_is a0 a1
                refine .inr ⟨A, num y, hg, ?_, rfl⟩
                unfold textL
                rw [e3', e2', e1', e0', show A / 16777216 = num p0 by omega, show A / 65536 % 256 = num p1 by omega, show A / 256 % 256 = num p2 by omega, show A % 256 = num p3 by omega, ← num_canon h0.1, ← num_canon h1.1, ← num_canon h2.1, ← num_canon h3.1, ← num_canon n0, ← g1, ← g2]
                simp
              · rw [if_neg hg]; exact .inl rfl
            · rw [if_neg h3]; exact .inl rfl
          · rw [if_neg h2]; exact .inl rfl
        · rw [if_neg h1]; exact .inl rfl
      · rw [if_neg h0]; exact .inl rfl
    · exact .inl rfl
  · exact .inl rfl
theorem impl_Text_all (a n : Int) (k : Nat) : impl_PrefixText.f (k + 5) a n = some (if good a n = true then (mkB (textL a n), true) else (mkB [], false)) := by
  unfold impl_PrefixText.f
  rw [impl_GoodPrefix_is, Option.bind_some]
  by_cases h : good a n = true
  · obtain ⟨n0, n1, a0, a1, _⟩ := good_iff.1 h
    rw [if_pos h, if_pos h, impl_Text_is a0 a1 n0 n1 k]
  · rw [if_neg h, if_neg h]
def numI (p : ByteArray) : Int := (Lib.atoi p.data.toList).getD 0
theorem atoi_is {p : ByteArray} (h : p.size ≤ 18) : strconv_Atoi.f p = some (numI p, none) := by
  unfold strconv_Atoi.f
  rw [if_pos h]; rfl
def foldI : Int → List ByteArray → Option Int
  | a, [] => some a
  | a, p :: ps => if 0 ≤ numI p ∧ numI p ≤ 255 then (if a > 4294967295 then none else foldI (a * 256 + numI p) ps) else none
def finI (a n : Int) (l : List UInt8) : Int × Int × Bool := if good a n = true ∧ textL a n = l then (a, n, true) else zero3
theorem orA {x b : Int} (h0 : 0 ≤ x) (h1 : x ≤ 1099511627776) (b0 : 0 ≤ b) (b1 : b ≤ 255) : Go.bits .or .i64 (wrap64 (x * 256)) b = x * 256 + b := by
  rw [wrap_id (x := x * 256) (by omega) (by omega)]
  exact bits_join .i64 62 (by decide) (fun n h2 h3 => by
    have h4 : n < 4611686018427387904 := by simpa using h3
    show IntKind.i64.wrap n = n
    rw [IntKind.wrap_i64]; omega) 8 (x * 256) b (by omega) (by show x * 256 % 256 = 0; omega) (by show x * 256 < 4611686018427387904; omega) b0 (by show b < 256; omega) (by show b < 4611686018427387904; omega)
theorem list_eq (a b : List UInt8) : ((mkB a).toList = (mkB b).toList) ↔ a = b := by
  rw [ByteArray.toList_eq, ByteArray.toList_eq]
theorem impl_loop (l : List UInt8) (y : ByteArray) (hy : y.size ≤ 18) (ps : List ByteArray) (hp : ∀ p, p ∈ ps → p.size ≤ 18) (hn : ps.length ≤ 1000000) : ∀ (rest pre : List ByteArray) (a : Int) (k : Nat), ps = pre ++ rest → 0 ≤ a → a ≤ 1099511628032 →
    impl_ReadPrefix.l0 (k + rest.length + 6) (mkB l) y ps (ps.length : Int) (pre.length : Int) a 0 = some (match foldI a rest with | some x => finI x (numI y) l | none => zero3)
  | [], pre, a, k, e, a0, a1 => by
    rw [show k + ([] : List ByteArray).length + 6 = (k + 5) + 1 from rfl, impl_ReadPrefix.l0, if_neg (by rw [e]; simp), atoi_is hy, Option.bind_some, impl_Text_all, Option.bind_some]
    simp only [foldI]
    unfold finI
    by_cases h : good a (numI y) = true
    · rw [if_pos h]
      dsimp only
      rw [if_pos rfl]
      by_cases h2 : textL a (numI y) = l
      · rw [if_pos ((list_eq _ _).2 h2), if_pos ⟨h, h2⟩]
      · rw [if_neg (fun q => h2 ((list_eq _ _).1 q)), if_neg (fun q => h2 q.2)]; rfl
    · rw [if_neg h]
      dsimp only
      rw [if_neg (by simp), if_neg (fun q => h q.1)]; rfl
  | p :: rest, pre, a, k, e, a0, a1 => by
    have hlen : pre.length + 1 + rest.length = ps.length := by rw [e]; simp; omega
    have hr : rdOf ByteArray.empty ps (pre.length : Int) = p := by
      unfold rdOf
      rw [e]
      simp
    rw [show k + (p :: rest).length + 6 = (k + rest.length + 6) + 1 by simp; omega, impl_ReadPrefix.l0, if_pos (by omega), if_pos (by omega), if_pos (by omega), hr, atoi_is (hp p (by rw [e]; simp)), Option.bind_some, impl_within_is, Option.bind_some]
    simp only [foldI]
    by_cases h : 0 ≤ numI p ∧ numI p ≤ 255
    · rw [if_pos (decide_eq_true h), if_pos h]
      by_cases hb : a > 4294967295
      · rw [if_pos hb, if_pos hb]; rfl
      · have hw : wrap64 ((pre.length : Int) + 1) = ((pre ++ [p]).length : Int) := by
          rw [wrap_id (by omega) (by omega)]; simp
        have ih := impl_loop l y hy ps hp hn rest (pre ++ [p]) (a * 256 + numI p) k (by rw [e]; simp) (by omega) (by omega)
        rw [if_neg hb, if_neg hb, hw, orA a0 (by omega) h.1 h.2, ih]
    · rw [if_neg (by rw [decide_eq_false h]; simp), if_neg h]; rfl
theorem idx_miss (b : UInt8) : ∀ (p : List UInt8), b ∉ p → Lib.index p [b] = -1
  | [], _ => rfl
  | c :: p, h => by
    rw [List.mem_cons, not_or] at h
    rw [Lib.index_one, Lib.indexByte, if_neg (by rw [beq_iff_eq]; exact fun e => h.1 e.symm), ← Lib.index_one, idx_miss b p h.2]
    rfl
theorem idx_hit (b : UInt8) (r : List UInt8) : ∀ (p : List UInt8), b ∉ p → Lib.index (p ++ b :: r) [b] = (p.length : Nat)
  | [], _ => by
    rw [Lib.index_one, List.nil_append, Lib.indexByte, if_pos (by simp)]; rfl
  | c :: p, h => by
    rw [List.mem_cons, not_or] at h
    rw [Lib.index_one, List.cons_append, Lib.indexByte, if_neg (by rw [beq_iff_eq]; exact fun e => h.1 e.symm), ← Lib.index_one, idx_hit b r p h.2, if_neg (by rw [beq_iff_eq]; omega)]
    simp
theorem cut_hit (b : UInt8) (p r : List UInt8) (h : b ∉ p) : Lib.cut (p ++ b :: r) [b] = (p, r, true) := by
  unfold Lib.cut
  rw [idx_hit b r p h, if_pos (by omega)]
  simp
theorem cut_le (l : List UInt8) (s : List UInt8) : (Lib.cut l s).1.length ≤ l.length ∧ (Lib.cut l s).2.1.length ≤ l.length := by
  unfold Lib.cut
  split
  · simp; omega
  · simp
theorem split_miss (b : UInt8) (p : List UInt8) (h : b ∉ p) : Lib.splitB (mkB [b]) 0 (Lib.countB (mkB p) (mkB [b])) (mkB p) = [mkB p] :=
  Lib.splitB_miss _ _ _ _ (idx_miss b p h)
theorem split_hit (b : UInt8) (p r : List UInt8) (h : b ∉ p) : Lib.splitB (mkB [b]) 0 (Lib.countB (mkB (p ++ b :: r)) (mkB [b])) (mkB (p ++ b :: r)) = mkB p :: Lib.splitB (mkB [b]) 0 (Lib.countB (mkB r) (mkB [b])) (mkB r) := by
  have hi : Lib.indexB (mkB (p ++ b :: r)) (mkB [b]) = (p.length : Nat) := idx_hit b r p h
  have hs : (mkB [b]).size = 1 := rfl
  have hx : (mkB (p ++ b :: r)).extract (p.length + 1) (mkB (p ++ b :: r)).size = mkB r := by
    rw [mk_extract, size_mk]
    congr 1
    rw [show p ++ b :: r = (p ++ [b]) ++ r by simp, show p.length + 1 = (p ++ [b]).length by simp, List.drop_left, List.length_append, Nat.add_sub_cancel_left, List.take_length]
  have hy : (mkB (p ++ b :: r)).extract 0 (p.length + 0) = mkB p := by
    rw [mk_extract]
    congr 1
    simp
  rw [Lib.countB_hit _ _ p.length (by rw [hs]; exact Nat.le_refl _) hi, Nat.add_comm 1, Lib.splitB_hit _ _ _ _ p.length hi, hs, hx, hy]
theorem split_le (sep : ByteArray) : ∀ (k : Nat) (s : ByteArray) (q : ByteArray), q ∈ Lib.splitB sep 0 k s → q.size ≤ s.size
  | 0, s, q, h => by
    rw [Lib.splitB_zero, List.mem_singleton] at h
    rw [h]; exact Nat.le_refl _
  | k + 1, s, q, h => by
    unfold Lib.splitB at h
    split at h
    · rw [List.mem_singleton] at h
      rw [h]; exact Nat.le_refl _
    · rw [List.mem_cons] at h
      rcases h with rfl | h
      · rw [ByteArray.size_extract]; omega
      · have := split_le sep k _ q h
        rw [ByteArray.size_extract] at this
        omega
def partsI (l : List UInt8) : List ByteArray := Lib.splitB (mkB [46]) 0 (Lib.countB (mkB (Lib.cut l [47]).1) (mkB [46])) (mkB (Lib.cut l [47]).1)
def implR (l : List UInt8) : Int × Int × Bool := match foldI 0 (partsI l) with | some x => finI x (numI (mkB (Lib.cut l [47]).2.1)) l | none => zero3
theorem partsI_len (l : List UInt8) : (partsI l).length ≤ l.length + 1 := by
  have h1 := Lib.splitB_length_le (mkB [46]) 0 (Lib.countB (mkB (Lib.cut l [47]).1) (mkB [46])) (mkB (Lib.cut l [47]).1)
  have h2 := Lib.countB_le (mkB [46]) (by decide) _ (mkB (Lib.cut l [47]).1) (Nat.le_refl _)
  have h3 := (cut_le l [47]).1
  rw [size_mk] at h2
  unfold partsI
  omega
theorem impl_read_is (l : List UInt8) (hl : l.length ≤ 18) (k : Nat) : impl_ReadPrefix.f (k + 30) (mkB l) = some (implR l) := by
  obtain ⟨c1, c2⟩ := cut_le l [47]
  have hn := partsI_len l
  have lp := impl_loop l (mkB (Lib.cut l [47]).2.1) (by rw [size_mk]; omega) (partsI l) (fun p hp => by
    have := split_le _ _ _ p hp
    have e : (mkB (Lib.cut l [47]).1).size = (Lib.cut l [47]).1.length := size_mk _
    omega) (by omega) (partsI l) [] 0 (k + 24 - (partsI l).length) rfl (by omega) (by omega)
  rw [show k + 24 - (partsI l).length + (partsI l).length + 6 = k + 30 by omega] at lp
  unfold impl_ReadPrefix.f
  rw [if_neg (by rw [size_mk]; omega)]
  have hc : strings_Cut.f (mkB l) (⟨#[47]⟩ : ByteArray) = some (mkB (Lib.cut l [47]).1, mkB (Lib.cut l [47]).2.1, (Lib.cut l [47]).2.2) := by
    unfold strings_Cut.f
    rw [if_pos (by rw [size_mk]; omega)]
  have hs : strings_Split.f (mkB (Lib.cut l [47]).1) (⟨#[46]⟩ : ByteArray) = some (partsI l) := by
    unfold strings_Split.f
    rw [if_pos ⟨by rw [size_mk]; omega, by decide⟩]
    rfl
  rw [hc, Option.bind_some]
  dsimp only
  rw [hs, Option.bind_some]
  exact lp
theorem numI_itoa {x : Int} (h0 : 0 ≤ x) : numI (mkB (Lib.itoa x)) = x := by
  unfold numI
  rw [show (mkB (Lib.itoa x)).data.toList = Lib.itoa x from rfl, itoa_nn h0]
  have hh := (dec_head x.toNat).1
  have hd := dec_digit x.toNat
  have hf := decFrom_dec x.toNat
  cases hD : Lib.decDigits x.toNat with
  | nil => exact absurd hD hh
  | cons c r =>
    rw [hD] at hf hd
    have hc := hd c (by simp)
    unfold Lib.atoi
    dsimp only
    rw [if_neg (by rw [beq_iff_eq]; intro e; rw [e] at hc; exact absurd hc (by decide)), if_neg (by rw [beq_iff_eq]; intro e; rw [e] at hc; exact absurd hc (by decide))]
    unfold Lib.decNat
    rw [if_neg (by simp), hf]
    show (x.toNat : Int) = x
    omega
theorem implR_text {a n : Int} (h : good a n = true) : implR (textL a n) = (a, n, true) := by
  obtain ⟨n0, n1, a0, a1, _⟩ := good_iff.1 h
  obtain ⟨e3, e2, e1, e0⟩ := oct_is a0 a1
  have r3 := oct_range 24 a0 a1
  have r2 := oct_range 16 a0 a1
  have r1 := oct_range 8 a0 a1
  have r0 := oct_range 0 a0 a1
  have d : ∀ {x : Int}, 0 ≤ x → (47 : UInt8) ∉ Lib.itoa x := fun h => itoa_no h 47 (by decide)
  have t : ∀ {x : Int}, 0 ≤ x → (46 : UInt8) ∉ Lib.itoa x := fun h => itoa_no h 46 (by decide)
  have hc : Lib.cut (textL a n) [47] = (Lib.itoa (oct a 24) ++ 46 :: (Lib.itoa (oct a 16) ++ 46 :: (Lib.itoa (oct a 8) ++ 46 :: Lib.itoa (oct a 0))), Lib.itoa n, true) := by
    rw [← cut_hit 47 _ _ (by
      simp only [List.mem_append, List.mem_cons, not_or]
      exact ⟨d r3.1, by decide, d r2.1, by decide, d r1.1, by decide, d r0.1⟩)]
    congr 1
    unfold textL
    simp
  unfold implR partsI
  rw [hc]
  dsimp only
  rw [split_hit _ _ _ (t r3.1), split_hit _ _ _ (t r2.1), split_hit _ _ _ (t r1.1), split_miss _ _ (t r0.1)]
  simp only [foldI]
  rw [numI_itoa r3.1, numI_itoa r2.1, numI_itoa r1.1, numI_itoa r0.1, numI_itoa n0, if_pos (by omega), if_neg (by omega), if_pos (by omega), if_neg (by omega), if_pos (by omega), if_neg (by omega), if_pos (by omega), if_neg (by omega)]
  dsimp only
  rw [show (((0 * 256 + oct a 24) * 256 + oct a 16) * 256 + oct a 8) * 256 + oct a 0 = a by rw [e3, e2, e1, e0]; omega]
  unfold finI
  rw [if_pos ⟨h, rfl⟩]
theorem implR_is (l : List UInt8) : implR l = readL l := by
  have hI : implR l = zero3 ∨ ∃ a n, good a n = true ∧ textL a n = l ∧ implR l = (a, n, true) := by
    unfold implR
    split
    · rename_i x _
      unfold finI
      by_cases h : good x (numI (mkB (Lib.cut l [47]).2.1)) = true ∧ textL x (numI (mkB (Lib.cut l [47]).2.1)) = l
      · rw [if_pos h]; exact .inr ⟨_, _, h.1, h.2, rfl⟩
      · rw [if_neg h]; exact .inl rfl
    · exact .inl rfl
  rcases read_cases l with hr | ⟨a, n, hg, hl, hr⟩
  · rcases hI with hi | ⟨a, n, hg, hl, hi⟩
    · rw [hi, hr]
    · have := read_text hg
      rw [hl, hr] at this
      cases this
  · rw [hr, hl, implR_text hg]
theorem text_len {a n : Int} (h : good a n = true) : (textL a n).length ≤ 18 := by
  obtain ⟨n0, n1, a0, a1, _⟩ := good_iff.1 h
  have h24 := oct_len 24 a0 a1
  have h16 := oct_len 16 a0 a1
  have h8 := oct_len 8 a0 a1
  have h0 := oct_len 0 a0 a1
  have hn : (Lib.itoa n).length ≤ 2 := by
    unfold Lib.itoa
    rw [if_neg (by omega)]
    by_cases h : n.toNat < 10
    · rw [Lib.decDigits_one h]; simp
    · rw [Lib.decDigits_two h (by omega)]; simp
  unfold textL
  simp only [List.length_append, List.length_singleton]
  omega
theorem impl_read_all (l : List UInt8) (k : Nat) : impl_ReadPrefix.f (k + 30) (mkB l) = some (readL l) := by
  by_cases h : l.length ≤ 18
  · rw [impl_read_is l h k, implR_is]
  · have hz : readL l = zero3 := by
      rcases read_cases l with hr | ⟨a, n, hg, hl, hr⟩
      · exact hr
      · have := text_len hg
        rw [← hl] at this
        omega
    unfold impl_ReadPrefix.f
    rw [if_pos (by rw [size_mk]; omega), hz]
    rfl
theorem spec_Text_all (a n : Int) (k : Nat) : spec_PrefixText.f (k + 8) a n = some (if good a n = true then (mkB (textL a n), true) else (mkB [], false)) := by
  unfold spec_PrefixText.f
  rw [spec_GoodPrefix_is, Option.bind_some]
  by_cases h : good a n = true
  · obtain ⟨n0, n1, a0, a1, _⟩ := good_iff.1 h
    rw [if_pos h, if_pos h, l1Text_is a0 a1 n0 n1 k, Option.bind_some]
  · rw [if_neg h, if_neg h]
theorem two_l0 {c : List Int} (hc : Bts c) : ∀ (m : Nat) (i s a n b q : Int) (k : Nat), m ≤ 10 → 0 ≤ i → i + 10 * m ≤ 1000000 → ∃ r1 r2 r3 r4 i' s', spec_l1Cur_twoPrefixes.l0 (k + 2 * m + 1) (m : Int) c i s a n b q = some (r1, r2, r3, r4, i', s')
  | 0, i, s, a, n, b, q, k, _, h0, h1 => by
    rw [show k + 2 * 0 + 1 = k + 1 by omega, spec_l1Cur_twoPrefixes.l0, if_neg (by omega)]
    exact ⟨_, _, _, _, _, _, rfl⟩
  | m + 1, i, s, a, n, b, q, k, hm, h0, h1 => by
    have ih := fun i s a n b q => two_l0 hc m i s a n b q k (by omega)
    have hw : wrap64 (((m + 1 : Nat) : Int) - 1) = (m : Int) := by rw [wrap_id (by omega) (by omega)]; omega
    have J : ∀ (t : Bool) (i s x1 x2 y1 y2 : Int), 0 ≤ i → i + 10 * m + 5 ≤ 1000000 → ∃ r1 r2 r3 r4 i' s', spec_l1Cur_twoPrefixes.j1 (k + 2 * m + 2) ((m + 1 : Nat) : Int) t c i s a n b q x1 x2 y1 y2 = some (r1, r2, r3, r4, i', s') := fun t i s x1 x2 y1 y2 h0 h1 => by
      rw [show k + 2 * m + 2 = (k + 2 * m + 1) + 1 by omega, spec_l1Cur_twoPrefixes.j1, hw]
      cases t with
      | true =>
        obtain ⟨v, i1, s1, e1, a1, b1⟩ := one_ok hc s (n := 2) h0 (by omega) (by omega)
        rw [if_pos rfl, e1, Option.bind_some]
        dsimp only
        by_cases hv : v = true
        · rw [if_pos hv]; exact ih _ _ _ _ _ _ (by omega) (by omega)
        · rw [if_neg hv]; exact ih _ _ _ _ _ _ (by omega) (by omega)
      | false => rw [if_neg (by simp)]; exact ih _ _ _ _ _ _ h0 (by omega)
    rw [show k + 2 * (m + 1) + 1 = (k + 2 * m + 2) + 1 by omega, spec_l1Cur_twoPrefixes.l0, if_pos (by omega), spec_HalvesOf_is, Option.bind_some]
    by_cases hh : (halvesOf a n).2.2.2.2 = true
    · obtain ⟨v, i1, s1, e1, a1, b1⟩ := one_ok hc s (n := 2) h0 (by omega) (by omega)
      rw [if_pos hh, e1, Option.bind_some]
      exact J _ _ _ _ _ _ _ (by dsimp only; omega) (by dsimp only; omega)
    · rw [if_neg hh]
      exact J _ _ _ _ _ _ _ h0 (by omega)
theorem drawTwo_ok {c : List Int} (hc : Bts c) (k : Nat) : ∃ a n b q, spec_DrawPrefixHas.f (k + 10) c = some (a, n, b, q) := by
  obtain ⟨a, n, i1, s1, e1, a1, b1⟩ := prefix_ok hc 0 (i := 0) (by omega) (by omega)
  obtain ⟨b, q, i2, s2, e2, a2, b2⟩ := prefix_ok hc s1 (i := i1) (by omega) (by omega)
  obtain ⟨m, i3, s3, e3, m0, m1, a3, b3⟩ := pick_ok hc s2 (n := 4) (i := i2) (by omega) (by omega) (by omega)
  obtain ⟨M, rfl⟩ : ∃ M : Nat, m = (M : Int) := ⟨m.toNat, by omega⟩
  obtain ⟨r1, r2, r3, r4, i4, s4, e4⟩ := two_l0 hc M i3 s3 a n b q (k + 9 - 2 * M) (by omega) (by omega) (by omega)
  rw [show k + 9 - 2 * M + 2 * M + 1 = k + 10 by omega] at e4
  refine ⟨r1, r2, r3, r4, ?_⟩
  unfold spec_DrawPrefixHas.f spec_l1Cur_twoPrefixes.f
  rw [e1, Option.bind_some]
  dsimp only
  rw [e2, Option.bind_some]
  dsimp only
  rw [e3, Option.bind_some]
  dsimp only
  rw [e4]
  rfl
theorem spoilt6_l0 {c : List Int} (hc : Bts c) (w : ByteArray) (hw : w.size = 6) : ∀ (m : Nat) (x : ByteArray) (i s : Int) (k : Nat), m ≤ 5 → x.size + m ≤ 1000 → 0 ≤ i → i + 10 * m ≤ 1000000 → ∃ t i' s', spec_l1Cur_spoilt.l0 (k + 2 * m + 2) x w (m : Int) c i s = some (t, i', s') ∧ t.size ≤ x.size + m
  | 0, x, i, s, k, _, _, h0, h1 => by
    rw [show k + 2 * 0 + 2 = (k + 1) + 1 by omega, spec_l1Cur_spoilt.l0, if_neg (by omega), spec_l1Cur_spoilt.j1, if_neg (by simp)]
    exact ⟨_, _, _, rfl, by omega⟩
  | m + 1, x, i, s, k, hm, hx, h0, h1 => by
    have ih := fun x i s => spoilt6_l0 hc w hw m x i s k (by omega)
    have hd : wrap64 (((m + 1 : Nat) : Int) - 1) = (m : Int) := by rw [wrap_id (by omega) (by omega)]; omega
    rw [show k + 2 * (m + 1) + 2 = (k + 2 * m + 2 + 1) + 1 by omega, spec_l1Cur_spoilt.l0, if_pos (by omega), spec_l1Cur_spoilt.j1, hd]
    by_cases hp : (x.size : Int) > 0
    · obtain ⟨p, i1, s1, e1, p0, p1, a1, b1⟩ := pick_ok hc s (n := (x.size : Int)) h0 (by omega) (by omega)
      obtain ⟨o, i2, s2, e2, o0, o1, a2, b2⟩ := pick_ok hc s1 (n := (w.size : Int)) (i := i1) (by omega) (by omega) (by omega)
      obtain ⟨v, i3, s3, e3, v0, v1, a3, b3⟩ := pick_ok hc s2 (n := 3) (i := i2) (by omega) (by omega) (by omega)
      have hs1 : (strOfNums [bt w o]).size = 1 := by rw [strOfNums_size]; rfl
      have hwp : wrap64 (p + 1) = p + 1 := wrap_id (by omega) (by omega)
      have z1 : (x.extract 0 p.toNat).size = p.toNat := by rw [ByteArray.size_extract]; omega
      have z2 : (x.extract p.toNat x.size).size = x.size - p.toNat := by rw [ByteArray.size_extract]; omega
      have z3 : (x.extract (p + 1).toNat x.size).size = x.size - (p + 1).toNat := by rw [ByteArray.size_extract]; omega
      rw [if_pos (decide_eq_true hp), e1, Option.bind_some]
      dsimp only
      rw [e2, Option.bind_some]
      dsimp only
      rw [if_pos o0, if_pos (by omega), Option.bind_some, e3, Option.bind_some]
      dsimp only
      by_cases h3 : v = 0
      · obtain ⟨t, i', s', e, ht⟩ := ih ((x.extract 0 p.toNat ++ strOfNums [bt w o]) ++ x.extract p.toNat x.size) i3 s3 (by rw [ByteArray.size_append, ByteArray.size_append]; omega) (by omega) (by omega)
        rw [ByteArray.size_append, ByteArray.size_append] at ht
        rw [if_pos h3, if_pos p0, if_pos (by omega), if_pos (by omega), if_pos (by rw [ByteArray.size_append]; omega)]
        exact ⟨t, i', s', e, by omega⟩
      · rw [if_neg h3]
        by_cases h4 : v = 1
        · obtain ⟨t, i', s', e, ht⟩ := ih ((x.extract 0 p.toNat ++ strOfNums [bt w o]) ++ x.extract (p + 1).toNat x.size) i3 s3 (by rw [ByteArray.size_append, ByteArray.size_append]; omega) (by omega) (by omega)
          rw [ByteArray.size_append, ByteArray.size_append] at ht
          rw [if_pos h4, if_pos p0, if_pos (by omega), if_pos (by omega), hwp, if_pos (by omega), if_pos (by omega), if_pos (by rw [ByteArray.size_append]; omega)]
          exact ⟨t, i', s', e, by omega⟩
        · obtain ⟨t, i', s', e, ht⟩ := ih (x.extract 0 p.toNat ++ x.extract (p + 1).toNat x.size) i3 s3 (by rw [ByteArray.size_append]; omega) (by omega) (by omega)
          rw [ByteArray.size_append] at ht
          rw [if_neg h4, if_pos p0, if_pos (by omega), hwp, if_pos (by omega), if_pos (by omega), if_pos (by omega)]
          exact ⟨t, i', s', e, by omega⟩
    · rw [if_neg (by rw [decide_eq_false hp]; simp)]
      exact ⟨_, _, _, rfl, by omega⟩
theorem drawText_ok {c : List Int} (hc : Bts c) (k : Nat) : ∃ l : List UInt8, spec_DrawReadPrefix.f (k + 10) c = some (mkB l) ∧ l.length ≤ 100 := by
  obtain ⟨a, n, i1, s1, e1, a1, b1⟩ := prefix_ok hc 0 (i := 0) (by omega) (by omega)
  obtain ⟨v, i2, s2, e2, a2, b2⟩ := one_ok hc s1 (n := 3) (i := i1) (by omega) (by omega) (by omega)
  obtain ⟨m, i3, s3, e3, m0, m1, a3, b3⟩ := pick_ok hc s2 (n := 3) (i := i2) (by omega) (by omega) (by omega)
  have hT := spec_Text_all a n (k + 2)
  rw [show k + 2 + 8 = k + 10 by omega] at hT
  obtain ⟨T, hTe, hTl⟩ : ∃ T : List UInt8, (if good a n = true then (mkB (textL a n), true) else (mkB [], false)).1 = mkB T ∧ T.length ≤ 18 := by
    by_cases h : good a n = true
    · rw [if_pos h]; exact ⟨_, rfl, text_len h⟩
    · rw [if_neg h]; exact ⟨[], rfl, by simp⟩
  obtain ⟨M, rfl⟩ : ∃ M : Nat, m = (M : Int) := ⟨m.toNat, by omega⟩
  obtain ⟨t, i4, s4, e4, ht⟩ := spoilt6_l0 hc (⟨#[46, 47, 48, 49, 50, 53]⟩ : ByteArray) rfl M (mkB T) i3 s3 (k + 8 - 2 * M) (by omega) (by rw [size_mk]; omega) (by omega) (by omega)
  rw [show k + 8 - 2 * M + 2 * M + 2 = k + 10 by omega] at e4
  have hz : (mkB T).size = T.length := size_mk T
  unfold spec_DrawReadPrefix.f
  rw [e1, Option.bind_some]
  dsimp only
  rw [hT, Option.bind_some, hTe, e2, Option.bind_some]
  dsimp only
  by_cases hv : v = true
  · rw [if_pos hv]
    unfold spec_l1Cur_spoilt.f
    rw [e3, Option.bind_some]
    dsimp only
    rw [e4]
    refine ⟨t.data.toList, by rw [mkB_of]; rfl, ?_⟩
    have : t.data.toList.length = t.size := by rw [Array.length_toList]; rfl
    omega
  · rw [if_neg hv]
    exact ⟨T, rfl, by omega⟩

theorem end_le {a n : Int} (h : good a n = true) : a + sz n ≤ 4294967296 := by
  obtain ⟨n0, n1, a0, a1, ha⟩ := good_iff.1 h
  have hs := sz_pos n
  obtain ⟨p, hp⟩ : sz n ∣ 4294967296 := by rw [← sz_lit.1]; exact sz_dvd (by omega) n0 n1
  obtain ⟨q, hq⟩ := Int.dvd_of_emod_eq_zero ha
  have hlt : q < p := by
    by_cases hqp : q < p
    · exact hqp
    · have := Int.mul_le_mul_of_nonneg_left (show p ≤ q by omega) (show 0 ≤ sz n by omega)
      omega
  have := Int.mul_le_mul_of_nonneg_left (show q + 1 ≤ p by omega) (show 0 ≤ sz n by omega)
  rw [Int.mul_add] at this
  omega
theorem both_ends {a n b q : Int} (h : good a n = true) (hb : good b q = true) : decide (n ≤ q ∧ a ≤ b ∧ b ≤ a + sz n - 1) = (decide (a ≤ b ∧ b ≤ a + sz n - 1) && decide (a ≤ b + sz q - 1 ∧ b + sz q - 1 ≤ a + sz n - 1)) := by
  obtain ⟨n0, n1, a0, a1, ha⟩ := good_iff.1 h
  obtain ⟨q0, q1, b0, b1, hb'⟩ := good_iff.1 hb
  have s1 := sz_pos n
  have s2 := sz_pos q
  rw [Bool.eq_iff_iff, Bool.and_eq_true, decide_eq_true_eq, decide_eq_true_eq, decide_eq_true_eq]
  constructor
  · rintro ⟨h1, h2, h3⟩
    refine ⟨⟨h2, h3⟩, by omega, ?_⟩
    obtain ⟨u, hu⟩ : sz q ∣ a + sz n - b := Int.dvd_sub (Int.dvd_add (Int.dvd_trans (sz_dvd n0 h1 q1) (Int.dvd_of_emod_eq_zero ha)) (sz_dvd n0 h1 q1)) (Int.dvd_of_emod_eq_zero hb')
    have hpos : 1 ≤ u := by
      by_cases hu1 : 1 ≤ u
      · exact hu1
      · have := Int.mul_le_mul_of_nonneg_left (show u ≤ 0 by omega) (show 0 ≤ sz q by omega)
        omega
    have := Int.mul_le_mul_of_nonneg_left hpos (show 0 ≤ sz q by omega)
    omega
  · rintro ⟨⟨h2, h3⟩, h4, h5⟩
    refine ⟨?_, h2, h3⟩
    by_cases hq : n ≤ q
    · exact hq
    · have e := sz_succ q0 (show q < 32 by omega)
      have m := sz_mono (n := q + 1) (m := n) (by omega) (by omega) n1
      omega
theorem last_loop (c : List Int) (x7 : Bool) (x11 b q a n : Int) (k : Nat) : ∀ (m : Nat) (x21 x22 : Int), 32 - x22 = (m : Int) → 0 ≤ x22 → 0 ≤ x21 → x21 + sz x22 ≤ 4294967296 →
    laws_FnPrefixes.l0 (k + m + 1) c x7 x11 x21 x22 a n b q = laws_FnPrefixes.l0 (k + 1) c x7 x11 (x21 + sz x22 - 1) 32 a n b q
  | 0, x21, x22, hm, h0, h1, h2 => by
    obtain rfl : x22 = 32 := by omega
    rw [sz_lit.2, show k + 0 + 1 = k + 1 from rfl, show x21 + 1 - 1 = x21 by omega]
  | m + 1, x21, x22, hm, h0, h1, h2 => by
    have e := sz_succ h0 (show x22 < 32 by omega)
    have s1 := sz_pos (x22 + 1)
    have hs : shl .i64 1 (IntKind.u64.wrap (wrap64 (31 - x22))) = sz (x22 + 1) := by
      rw [u64_id (by rw [wrap_id (by omega) (by omega)]; omega) (by rw [wrap_id (by omega) (by omega)]; omega), show 31 - x22 = 32 - (x22 + 1) by omega]
      exact shl_sz (by omega) (by omega)
    have ih := last_loop c x7 x11 b q a n k m (x21 + sz (x22 + 1)) (x22 + 1) (by omega) (by omega) (by omega) (by omega)
    rw [show k + (m + 1) + 1 = (k + m + 1) + 1 by omega, laws_FnPrefixes.l0, if_pos (by omega), if_pos (by rw [u64_id (by rw [wrap_id (by omega) (by omega)]; omega) (by rw [wrap_id (by omega) (by omega)]; omega), wrap_id (by omega) (by omega)]; omega), hs, wrap_id (x := x21 + sz (x22 + 1)) (by omega) (by omega), wrap_id (x := x22 + 1) (by omega) (by omega), ih]
    congr 1
    omega

end FnPrefixesUses
open Go.RowKit Go.Proofs.YtkollihfejkklaaGreatDoor.PFnPrefixes Go.Proofs.YtkollihfejkklaaGreatDoorW.PrintWords Go.Proofs.YtkollihfejkklaaGreatDoorW.PrintLast Go.Proofs.YtkollihfejkklaaGreatDoorW.PrintMore Go.Proofs.YtkollihfejkklaaGreatDoor.Pfx Go.Proofs.YtkollihfejkklaaGreatDoor.Loop FnPrefixesUses
set_option linter.unusedVariables false
theorem FnPrefixes : laws_FnPrefixes.Pure := by
  intro l0 l1 m0 w0 b0 m1 w1 b1
  have hbt : ∀ c : List Int, c.length * 1 ≤ 140737488351232 → (∀ x ∈ c, (Lit.int .u8 x).wf = true) → Bts c := fun c h1 h2 => ⟨by omega, fun x hx => by
    have := h2 x hx
    simp [Lit.wf, IntKind.min, IntKind.max, IntKind.signed, IntKind.bits] at this
    omega⟩
  have hc0 := hbt l0 w0 b0
  have hc1 := hbt l1 w1 b1
  by_cases hsz : wrap64 ((l0.length : Int) + (l1.length : Int)) > 1048576
  · exact ⟨0, by unfold laws_FnPrefixes.f; rw [if_pos hsz]⟩
  obtain ⟨t, hD1, ht⟩ := drawText_ok hc1 500
  obtain ⟨a', n', i1, s1, hP, hi0, hi1⟩ := prefix_ok hc1 0 (i := 0) (by omega) (by omega)
  obtain ⟨x', i2, s2, hX, _⟩ := addr_ok hc1 s1 (i := i1) (by omega) (by omega)
  have hD2 : spec_DrawHasAddr.f l1 = some (a', n', x') := by
    unfold spec_DrawHasAddr.f
    rw [hP, Option.bind_some]
    dsimp only
    rw [hX]; rfl
  have J3 : laws_FnPrefixes.j3 511 l1 = some true := by
    have hs := spec_read_is t (by omega) (480 - t.length)
    rw [show 480 - t.length + t.length + 30 = 500 + 10 by omega] at hs
    have hr := impl_read_all t 480
    rw [show 480 + 30 = 500 + 10 by omega] at hr
    have hx := impl_Text_all (readL t).1 (readL t).2.1 505
    rw [show 505 + 5 = 500 + 10 by omega] at hx
    rw [show 511 = (500 + 10) + 1 from rfl, laws_FnPrefixes.j3, hD1, Option.bind_some, hr, Option.bind_some, hs, Option.bind_some, hD2, Option.bind_some]
    dsimp only
    rw [impl_HasAddr_is, Option.bind_some, spec_HasAddr_is, Option.bind_some, if_neg (by simp), if_neg (by simp), if_neg (by simp), if_neg (by simp), hx, Option.bind_some]
    rcases read_cases t with hz | ⟨a, n, hg, hl, hz⟩
    · rw [hz, if_neg (by unfold zero3; simp)]
    · rw [hz]
      dsimp only
      rw [if_pos rfl, if_pos hg]
      dsimp only
      rw [if_pos rfl, hl]
      simp
  obtain ⟨a, n, b, q, hD0⟩ := drawTwo_ok hc0 (900 - 10)
  rw [show 900 - 10 + 10 = 900 from rfl] at hD0
  have mono3 : ∀ j, 511 ≤ j → laws_FnPrefixes.j3 j l1 = some true := fun j hj => by
    obtain ⟨d, rfl⟩ : ∃ d, j = 511 + d := ⟨j - 511, by omega⟩
    clear hj
    induction d with
    | zero => exact J3
    | succ d ih => exact (laws_FnPrefixes.mono_l (511 + d)).2.2.1 l1 true ih
  have J1 : ∀ j, 600 ≤ j → laws_FnPrefixes.j1 j l1 (prefixHas a n b q).1 (prefixHas a n b q).2 (compareP a n b q).1 a n b q = some true := fun j hj => by
    obtain ⟨i, rfl⟩ : ∃ i, j = i + 1 := ⟨j - 1, by omega⟩
    rw [laws_FnPrefixes.j1]
    by_cases h : good a n = true ∧ good b q = true
    · have e1 : prefixHas a n b q = (decide (n ≤ q ∧ a ≤ b ∧ b ≤ a + sz n - 1), true) := if_pos h
      have e2 : compareP a n b q = (cmpP a n b q, true) := if_pos h
      have e3 : compareP b q a n = (cmpP b q a n, true) := if_pos ⟨h.2, h.1⟩
      obtain ⟨hg, hb⟩ := h
      obtain ⟨q0, q1, b0, b1, _⟩ := good_iff.1 hb
      have hend := end_le hb
      have hpos := sz_pos q
      have g1 : hasAddr a n b = (decide (a ≤ b ∧ b ≤ a + sz n - 1), true) := if_pos ⟨hg, by omega, by omega⟩
      have g2 : hasAddr a n (b + sz q - 1) = (decide (a ≤ b + sz q - 1 ∧ b + sz q - 1 ≤ a + sz n - 1), true) := if_pos ⟨hg, by omega, by omega⟩
      rw [e1, e2]
      dsimp only
      rw [if_pos rfl, both_ends hg hb]
      have ll := last_loop l1 (decide (a ≤ b ∧ b ≤ a + sz n - 1) && decide (a ≤ b + sz q - 1 ∧ b + sz q - 1 ≤ a + sz n - 1)) (cmpP a n b q) b q a n (i - (32 - q).toNat - 1) (32 - q).toNat b q (by omega) q0 b0 (by omega)
      rw [show i - (32 - q).toNat - 1 + (32 - q).toNat + 1 = i by omega] at ll
      obtain ⟨v, hv⟩ : ∃ v, i - (32 - q).toNat - 1 = v + 3 := ⟨i - (32 - q).toNat - 4, by omega⟩
      have hv5 : 511 ≤ v + 3 := by omega
      rw [ll, hv, laws_FnPrefixes.l0, if_neg (by omega), impl_HasAddr_is, Option.bind_some, impl_HasAddr_is, Option.bind_some, impl_ComparePrefixes_is, Option.bind_some, g1, g2, e3]
      dsimp only
      rw [if_pos rfl, if_pos rfl]
      have hc : cmpP b q a n = wrap64 (-(cmpP a n b q)) := by
        rw [wrap_id (by unfold cmpP; split <;> (try split) <;> omega) (by unfold cmpP; split <;> (try split) <;> omega)]
        unfold cmpP
        by_cases h1 : a < b ∨ a = b ∧ n < q
        · rw [if_pos h1, if_neg (by omega), if_neg (by omega)]; rfl
        · rw [if_neg h1]
          by_cases h2 : a = b ∧ n = q
          · rw [if_pos h2, if_neg (by omega), if_pos (by omega)]; rfl
          · rw [if_neg h2, if_pos (by omega)]
      have hz : ((cmpP a n b q == 0) != (a == b && (n == q))) = false := by
        have : cmpP a n b q = 0 ↔ a = b ∧ n = q := by
          unfold cmpP
          by_cases h1 : a < b ∨ a = b ∧ n < q
          · rw [if_pos h1]; omega
          · rw [if_neg h1]
            by_cases h2 : a = b ∧ n = q
            · rw [if_pos h2]; simp [h2]
            · rw [if_neg h2]; simp; omega
        rw [bne_eq_false_iff_eq, Bool.eq_iff_iff, beq_iff_eq, Bool.and_eq_true, beq_iff_eq, beq_iff_eq]
        exact this
      by_cases hX : decide (a ≤ b ∧ b ≤ a + sz n - 1) = true
      · rw [if_pos hX, hX, if_neg (by simp), if_pos rfl, if_pos hc, hz, if_neg (by simp)]
        exact mono3 _ hv5
      · rw [if_neg hX, Bool.eq_false_iff.2 hX, if_neg (by simp), if_pos rfl, if_pos hc, hz, if_neg (by simp)]
        exact mono3 _ hv5
    · have e1 : prefixHas a n b q = (false, false) := if_neg h
      rw [e1, if_neg (by simp)]
      exact mono3 _ (by omega)
  refine ⟨900, ?_⟩
  have t1 := impl_Text_all a n 895
  have t2 := spec_Text_all a n 892
  rw [show 895 + 5 = 900 from rfl] at t1
  rw [show 892 + 8 = 900 from rfl] at t2
  have c1 := impl_ComparePrefixes_is 897 a n b q
  have c2 := spec_ComparePrefixes_is 899 a n b q
  rw [show 897 + 3 = 900 from rfl] at c1
  rw [show 899 + 1 = 900 from rfl] at c2
  unfold laws_FnPrefixes.f
  rw [if_neg hsz, hD0, Option.bind_some]
  dsimp only
  rw [impl_PrefixHas_is, Option.bind_some, spec_PrefixHas_is, Option.bind_some, c1, Option.bind_some, c2, Option.bind_some, t1, Option.bind_some, t2, Option.bind_some, if_neg (by simp), if_neg (by simp), if_neg (by simp), if_pos rfl, if_neg (by simp), if_pos rfl, impl_GoodPrefix_is, Option.bind_some]
  by_cases hg : good a n = true
  · rw [if_pos hg, hg]
    dsimp only
    rw [show 900 = 899 + 1 from rfl, laws_FnPrefixes.j0, if_neg (by simp), if_pos rfl]
    have hr := impl_read_all (textL a n) 869
    rw [show 869 + 30 = 899 from rfl, read_text hg] at hr
    rw [hr, Option.bind_some]
    dsimp only
    rw [if_pos rfl, if_neg (by simp)]
    exact J1 899 (by omega)
  · rw [if_neg hg, Bool.eq_false_iff.2 hg]
    dsimp only
    rw [show 900 = 899 + 1 from rfl, laws_FnPrefixes.j0, if_neg (by simp), if_neg (by simp)]
    exact J1 899 (by omega)
end Go.Proofs.YtkollihfejkklaaGreatDoor.Pure
