/- The pure statement of FnExactCountAddrs: what the printed functions tell is what the reference tells. No condition but the arguments' own bounds. -/
import Derived.Test.YtabejlfejlpkeaaYFnExactCountAddrsx10
import Derived.Test.YtabejlfejlpkeaaQFnExactCountAddrs
namespace Go.Proofs.Ytabejlfejlpkeaa.Pure
namespace FnExactCountAddrsUses
open Go.RowKit Go.Proofs.Ytabejlfejlpkeaa.PFnExactCountAddrs Go.Proofs.YtabejlfejlpkeaaW.PrintWords Go.Proofs.YtabejlfejlpkeaaW.PrintLast Go.Proofs.YtabejlfejlpkeaaW.PrintMore Go.Proofs.Ytabejlfejlpkeaa.Pfx Go.Proofs.Ytabejlfejlpkeaa.Loop Go.Proofs.Ytabejlfejlpkeaa.Tbl
set_option linter.unusedVariables false
set_option linter.unusedSimpArgs false

theorem spec_l1In_is (a lo hi : Int) : spec_l1In.f a lo hi = some (decide (lo ≤ a ∧ a ≤ hi)) := by
  unfold spec_l1In.f
  by_cases h : lo ≤ a
  · rw [if_pos h]; simp [h]
  · rw [if_neg h]; simp [h]
theorem impl_within_is (a lo hi : Int) : impl_within.f a lo hi = some (decide (lo ≤ a ∧ a ≤ hi)) := by
  unfold impl_within.f
  by_cases h : lo ≤ a
  · rw [if_pos h]; simp [h]
  · rw [if_neg h]; simp [h]
theorem spec_l1Addr_is (a : Int) : spec_l1Addr.f a = some (decide (0 ≤ a ∧ a ≤ 4294967295)) := by
  unfold spec_l1Addr.f; rw [spec_l1In_is]; rfl
theorem impl_isAddr_is (a : Int) : impl_isAddr.f a = some (decide (0 ≤ a ∧ a ≤ 4294967295)) := by
  unfold impl_isAddr.f; rw [impl_within_is]; rfl
theorem impl_sizeOf_is {n : Int} (h0 : 0 ≤ n) (h1 : n ≤ 32) : impl_sizeOf.f n = some (sz n) := by
  unfold impl_sizeOf.f
  rw [shl_sz h0 h1, if_pos (by rw [wrap_id (by omega) (by omega)]; omega)]
theorem spec_l1Size_is (a : Int) {n : Int} (h0 : 0 ≤ n) (h1 : n ≤ 32) : spec_l1Size.f a n = some (sz n) := by
  unfold spec_l1Size.f
  have e : IntKind.u64.wrap (wrap64 (32 - n)) = wrap64 (32 - n) := by rw [wrap_id (by omega) (by omega), u64_id (by omega) (by omega)]
  rw [e, shl_sz h0 h1, if_pos (by rw [wrap_id (by omega) (by omega)]; omega)]
theorem impl_GoodPrefix_is (a n : Int) : impl_GoodPrefix.f a n = some (good a n) := by
  unfold impl_GoodPrefix.f
  rw [impl_within_is, Option.bind_some]
  by_cases h : 0 ≤ n ∧ n ≤ 32
  · rw [if_pos (decide_eq_true h), impl_isAddr_is, Option.bind_some]
    by_cases h' : 0 ≤ a ∧ a ≤ 4294967295
    · rw [if_pos (decide_eq_true h'), impl_sizeOf_is h.1 h.2, Option.bind_some, if_neg (by have := sz_pos n; omega), Int.tmod_eq_emod_of_nonneg h'.1]
      simp [good, h.1, h.2, h'.1, h'.2, beq_dec]
    · rw [if_neg (by simpa using h')]
      have : good a n = false := by simp [good]; omega
      rw [this]
  · rw [if_neg (by simpa using h)]
    have : good a n = false := by simp [good]; omega
    rw [this]
theorem spec_GoodPrefix_is (a n : Int) : spec_GoodPrefix.f a n = some (good a n) := by
  unfold spec_GoodPrefix.f
  rw [spec_l1In_is, Option.bind_some]
  by_cases h : 0 ≤ n ∧ n ≤ 32
  · rw [if_pos (decide_eq_true h), spec_l1Addr_is, Option.bind_some]
    by_cases h' : 0 ≤ a ∧ a ≤ 4294967295
    · rw [if_pos (decide_eq_true h'), spec_l1Size_is a h.1 h.2, Option.bind_some, if_neg (by have := sz_pos n; omega), Int.tmod_eq_emod_of_nonneg h'.1]
      simp [good, h.1, h.2, h'.1, h'.2, beq_dec]
    · rw [if_neg (by simpa using h')]
      have : good a n = false := by simp [good]; omega
      rw [this]
  · rw [if_neg (by simpa using h)]
    have : good a n = false := by simp [good]; omega
    rw [this]
theorem impl_Prefix_end_is {a n : Int} (h : good a n = true) : impl_Prefix_end.f a n = some (a + sz n - 1) := by
  obtain ⟨h0, h1, h2, h3, h4⟩ := good_iff.1 h
  have := sz_pos n
  have := sz_le h0
  unfold impl_Prefix_end.f
  rw [impl_sizeOf_is h0 h1, Option.bind_some, wrap_id (x := a + sz n) (by omega) (by omega), wrap_id (by omega) (by omega)]
theorem spec_l1HasAddr_is {a n x : Int} (h : good a n = true) (h5 : 0 ≤ x) (h6 : x ≤ 4294967295) : spec_l1HasAddr.f a n x = some (decide (a ≤ x ∧ x ≤ a + sz n - 1)) := by
  obtain ⟨h0, h1, h2, h3, h4⟩ := good_iff.1 h
  have hs := sz_pos n
  have h7 := Int.emod_nonneg x (show sz n ≠ 0 by omega)
  have h8 := Int.emod_lt_of_pos x (show 0 < sz n by omega)
  have h9 := sz_le h0
  unfold spec_l1HasAddr.f
  rw [spec_l1Size_is a h0 h1, Option.bind_some, if_neg (by omega), Int.tmod_eq_emod_of_nonneg h5, wrap_id (by omega) (by omega), beq_dec]
  congr 1
  exact decide_eq_decide.2 (in_row (by omega) h4)
theorem spec_l1Covers_is {a n b m : Int} (h : good a n = true) (hb : good b m = true) : spec_l1Covers.f a n b m = some (decide (n ≤ m ∧ a ≤ b ∧ b ≤ a + sz n - 1)) := by
  obtain ⟨h0, h1, h2, h3, h4⟩ := good_iff.1 hb
  unfold spec_l1Covers.f
  by_cases h' : n ≤ m
  · rw [if_pos h', spec_l1HasAddr_is h h2 h3]; simp [h']
  · rw [if_neg h']; simp [h']
theorem spec_l1Parent_is {a n : Int} (h : good a n = true) (hn : 0 < n) : spec_l1Parent.f a n = some (a - a % (2 * sz n), n - 1) := by
  obtain ⟨h0, h1, h2, h3, h4⟩ := good_iff.1 h
  have hs := sz_pos n
  have h9 := sz_le h0
  have h7 := Int.emod_nonneg a (show 2 * sz n ≠ 0 by omega)
  have h8 := Int.emod_lt_of_pos a (show 0 < 2 * sz n by omega)
  unfold spec_l1Parent.f
  rw [spec_l1Size_is a h0 h1, Option.bind_some, wrap_id (x := 2 * sz n) (by omega) (by omega), if_neg (by omega), Int.tmod_eq_emod_of_nonneg h2, wrap_id (by omega) (by omega), wrap_id (by omega) (by omega)]
theorem spec_l1Halves_is {a n : Int} (h0 : 0 ≤ n) (h1 : n < 32) (h2 : 0 ≤ a) (h3 : a ≤ 4294967295) : spec_l1Halves.f a n = some (a, n + 1, a + sz (n + 1), n + 1) := by
  have hs := sz_pos (n + 1)
  have h9 := sz_le (n := n + 1) (by omega)
  unfold spec_l1Halves.f
  rw [wrap_id (x := n + 1) (by omega) (by omega), spec_l1Size_is a (by omega) (by omega), Option.bind_some, wrap_id (by omega) (by omega)]
theorem spec_l1Sibling_is {a n : Int} (h : good a n = true) (hn : 0 < n) : spec_l1Sibling.f a n = some (sib a n, n) := by
  obtain ⟨h0, h1, h2, h3, h4⟩ := good_iff.1 h
  have hs := sz_pos n
  have hr := parent_rest (a := a) (s := sz n) (by omega) h4
  have h7 := Int.emod_nonneg a (show 2 * sz n ≠ 0 by omega)
  have h8 : a % (2 * sz n) ≤ a := by
    obtain h | h := hr
    · omega
    · have := Int.mul_ediv_add_emod a (2 * sz n)
      have := Int.ediv_nonneg h2 (show 0 ≤ 2 * sz n by omega)
      have := Int.mul_nonneg (show 0 ≤ 2 * sz n by omega) this
      omega
  unfold spec_l1Sibling.f
  rw [spec_l1Parent_is h hn, Option.bind_some]
  simp only []
  rw [spec_l1Halves_is (by omega) (by omega) (by omega) (by omega), Option.bind_some]
  simp only [show n - 1 + 1 = n by omega, beq_self_eq_true, Bool.and_true]
  unfold sib
  rcases hr with hr | hr
  · rw [hr, if_pos (by simp)]; simp
  · rw [hr, if_neg (by simp; omega), if_neg (by omega)]
theorem cmp_isNaN_int_is (a : Int) : cmp_isNaN_int.f a = some false := by unfold cmp_isNaN_int.f; simp
theorem cmp_Compare_int_is (a b : Int) : cmp_Compare_int.f a b = some (if a < b then -1 else if a > b then 1 else 0) := by
  unfold cmp_Compare_int.f
  simp only [cmp_isNaN_int_is, Option.bind_some, Bool.false_eq_true, if_false]
  by_cases h1 : a < b
  · simp [h1]
  · by_cases h2 : a > b
    · simp [h1, h2]
    · simp [h1, h2]
theorem spec_l1Compare_is (k : Nat) (a n b m : Int) : spec_l1Compare.f (k + 1) a n b m = some (cmpP a n b m) := by
  unfold spec_l1Compare.f cmpP
  simp only [spec_l1Compare.j0]
  by_cases h1 : a < b
  · simp [h1]
  · by_cases h2 : a = b
    · subst h2
      by_cases h3 : n < m
      · simp [h3]
      · by_cases h4 : n = m
        · subst h4; simp
        · simp [h3, h4]
    · simp [h1, h2]
theorem laws_eqPrefix_is (a n b m : Int) : laws_eqPrefix.f a n b m = some (decide (a = b ∧ n = m)) := by
  unfold laws_eqPrefix.f
  by_cases h : a = b
  · by_cases h' : n = m
    · rw [if_pos h, if_pos h']; simp [h, h']
    · rw [if_pos h, if_neg h']; simp [h']
  · rw [if_neg h]; simp [h]
theorem rdm_Prefix (pre : List S45) (a : S45) (rest : List S45) : rd_T45 (pre ++ a :: rest) (pre.length : Int) = a := by unfold rd_T45; simp
def pr (p : S45) : Pr := (p.f0, p.f1)
theorem pr_inj {p q : S45} (h : pr p = pr q) : p = q := by cases p; cases q; simpa [pr] using h
theorem rdm_LPrefix (pre : List S43) (a : S43) (rest : List S43) : rd_T43 (pre ++ a :: rest) (pre.length : Int) = a := by unfold rd_T43; simp
theorem laws_eqPrefixS_refl (k : Nat) (l : List S45) (hl : l.length ≤ maxLen) (hk : l.length < k) : laws_eqPrefixS.f k l l = some true := by
  unfold laws_eqPrefixS.f
  rw [if_pos rfl]
  have key : ∀ (rest pre : List S45) (k : Nat), l = pre ++ rest → rest.length < k → laws_eqPrefixS.l0 k l l (pre.length : Int) = some true := by
    intro rest
    induction rest with
    | nil =>
      intro pre k e hk
      obtain ⟨k, rfl⟩ : ∃ m, k = m + 1 := ⟨k - 1, by omega⟩
      simp only [laws_eqPrefixS.l0]
      rw [if_neg (by rw [e]; simp)]
    | cons a rest ih =>
      intro pre k e hk
      obtain ⟨k, rfl⟩ : ∃ m, k = m + 1 := ⟨k - 1, by omega⟩
      simp only [laws_eqPrefixS.l0]
      rw [if_pos (by rw [e]; exact lt_mid _ _ _), if_pos (len_nn _), if_pos (by rw [e]; exact lt_mid _ _ _), laws_eqPrefix_is]
      simp only [Option.bind_some, and_self, decide_true, if_true]
      rw [wrap_mid (rest := rest) (by rw [← e]; exact hl)]
      exact ih (pre ++ [a]) k (by rw [e]; simp) (by simp at hk; omega)
  exact key l [] k rfl hk
theorem laws_toPrefixS_is (k : Nat) (l : List S43) (hl : l.length ≤ 1048576) (hk : l.length < k) : laws_toPrefixS.f k l = some (l.map fun p => (⟨p.f0, p.f1⟩ : S45)) := by
  unfold laws_toPrefixS.f
  rw [if_pos (len_nn _), if_pos (by simp; omega)]
  have key : ∀ (rest pre : List S43) (k : Nat), l = pre ++ rest → rest.length < k →
      laws_toPrefixS.l0 k l ((pre.map fun p => (⟨p.f0, p.f1⟩ : S45)) ++ List.replicate rest.length z45) (pre.length : Int) = some (l.map fun p => (⟨p.f0, p.f1⟩ : S45)) := by
    intro rest
    induction rest with
    | nil =>
      intro pre k e hk
      obtain ⟨k, rfl⟩ : ∃ m, k = m + 1 := ⟨k - 1, by omega⟩
      simp only [laws_toPrefixS.l0]
      rw [if_neg (by rw [e]; simp)]
      simp [e]
    | cons a rest ih =>
      intro pre k e hk
      obtain ⟨k, rfl⟩ : ∃ m, k = m + 1 := ⟨k - 1, by omega⟩
      simp only [laws_toPrefixS.l0, laws_toPrefix.f, Option.bind_some]
      rw [if_pos (by rw [e]; exact lt_mid _ _ _), if_pos (len_nn _), if_pos (by simp; omega), wrap_mid (rest := rest) (by rw [← e]; simp only [maxLen]; omega)]
      have h1 : rd_T43 l (pre.length : Int) = a := by rw [e]; exact rdm_LPrefix _ _ _
      rw [h1, List.length_cons, List.replicate_succ]
      have h2 := ih (pre ++ [a]) k (by rw [e]; simp) (by simp at hk; omega)
      have h3 : ((pre.map fun p => (⟨p.f0, p.f1⟩ : S45)) ++ z45 :: List.replicate rest.length z45).set ((pre.length : Int)).toNat (⟨a.f0, a.f1⟩ : S45) = ((pre ++ [a]).map fun p => (⟨p.f0, p.f1⟩ : S45)) ++ List.replicate rest.length z45 := by
        have := set_mid (pre.map fun p => (⟨p.f0, p.f1⟩ : S45)) z45 ⟨a.f0, a.f1⟩ (List.replicate rest.length z45)
        rw [List.length_map] at this
        rw [this]; simp
      rw [h3]; exact h2
  have := key l [] k rfl hk
  simpa using this
theorem laws_szPrefixS_is (l : List S43) (m0 : l.length ≤ maxLen) : ∃ r, laws_szPrefixS.f l 1048576 = some r ∧ (¬ r < 0 → l.length ≤ 1048576) := by
  unfold laws_szPrefixS.f
  by_cases h : wrap64 (1048576 - (l.length : Int)) < 0
  · exact ⟨_, if_pos h, fun h' => absurd (by omega) h'⟩
  · exact ⟨_, if_neg h, fun h' => sz_ok m0 (if_neg h) h'⟩
theorem rdm_Span (pre : List S74) (a : S74) (rest : List S74) : rd_T74 (pre ++ a :: rest) (pre.length : Int) = a := by unfold rd_T74; simp
def spn (s : S74) : Sp := (s.f0, s.f1)
theorem spn_inj {p q : S74} (h : spn p = spn q) : p = q := by cases p; cases q; simpa [spn] using h
theorem map_pr_inj : ∀ {l l' : List S45}, l.map pr = l'.map pr → l = l'
  | [], [], _ => rfl
  | [], _ :: _, h => by simp at h
  | _ :: _, [], h => by simp at h
  | a :: t, b :: t', h => by
    simp only [List.map_cons, List.cons.injEq] at h
    rw [pr_inj h.1, map_pr_inj h.2]
theorem spec_l3Good_is (k : Nat) (l : List S45) (hl : l.length ≤ 1048576) (hk : l.length < k) : spec_l3Good.f k l = some (decide (l.length ≤ 64) && (l.map pr).all (fun p => good p.1 p.2)) := by
  unfold spec_l3Good.f
  have key : ∀ (rest pre : List S45) (k : Nat), l = pre ++ rest → rest.length < k →
      spec_l3Good.l0 k l l (l.length : Int) (pre.length : Int) = some (decide (l.length ≤ 64) && (rest.map pr).all (fun p => good p.1 p.2)) := by
    intro rest
    induction rest with
    | nil =>
      intro pre k e hk
      obtain ⟨k, rfl⟩ : ∃ m, k = m + 1 := ⟨k - 1, by omega⟩
      simp only [spec_l3Good.l0]
      rw [if_neg (by rw [e]; simp)]
      have : ((l.length : Int) ≤ 64) ↔ l.length ≤ 64 := by omega
      simp [this]
    | cons a rest ih =>
      intro pre k e hk
      obtain ⟨k, rfl⟩ : ∃ m, k = m + 1 := ⟨k - 1, by omega⟩
      have h1 : rd_T45 l (pre.length : Int) = a := by rw [e]; exact rdm_Prefix _ _ _
      have hih := ih (pre ++ [a]) k (by rw [e]; simp) (by simp at hk; omega)
      simp only [spec_l3Good.l0]
      rw [if_pos (by rw [e]; exact lt_mid _ _ _), if_pos (len_nn _), if_pos (by rw [e]; exact lt_mid _ _ _), h1, spec_GoodPrefix_is, Option.bind_some, wrap_mid (rest := rest) (by rw [← e]; simp only [maxLen]; omega), hih]
      by_cases hg : good a.f0 a.f1 = true
      · rw [if_pos hg]; simp [pr, hg]
      · rw [if_neg hg]; simp [pr, hg]
  exact key l [] k rfl hk
theorem impl_arePrefixes_is (k : Nat) (l : List S45) (hl : l.length ≤ 1048576) (hk : l.length < k) : impl_arePrefixes.f k l = some (decide (l.length ≤ 64) && (l.map pr).all (fun p => good p.1 p.2)) := by
  unfold impl_arePrefixes.f slices_ContainsFunc_impl_Prefix_impl_Prefix.f slices_IndexFunc_impl_Prefix_impl_Prefix.f
  rw [any_gen (fun k i => slices_IndexFunc_impl_Prefix_impl_Prefix.l0 k l (l.length : Int) i) l (fun p => !good p.f0 p.f1) (fun k => by
      show slices_IndexFunc_impl_Prefix_impl_Prefix.l0 (k + 1) l (l.length : Int) (l.length : Int) = _
      rw [slices_IndexFunc_impl_Prefix_impl_Prefix.l0, if_neg (not_lt_end l)]) (fun k pre a rest e => by
      show slices_IndexFunc_impl_Prefix_impl_Prefix.l0 (k + 1) l (l.length : Int) (pre.length : Int) = _
      have h1 : rd_T45 l (pre.length : Int) = a := by rw [e]; exact rdm_Prefix _ _ _
      rw [slices_IndexFunc_impl_Prefix_impl_Prefix.l0, if_pos (by rw [e]; exact lt_mid _ _ _), if_pos (len_nn _), if_pos (by rw [e]; exact lt_mid _ _ _), h1]
      unfold impl_arePrefixes_1.f
      rw [impl_GoodPrefix_is, Option.bind_some, Option.bind_some, wrap_mid (rest := rest) (by rw [← e]; simp only [maxLen]; omega)]) k hk]
  have e64 : ((l.length : Int) ≤ 64) ↔ l.length ≤ 64 := by omega
  by_cases h : (l.length : Int) ≤ 64
  · rw [if_pos h, Option.bind_some]
    have h2 := e64.1 h
    simp only [h2, decide_true, Bool.true_and, List.all_map, Function.comp_def, pr]
    rw [List.not_any_eq_all_not]
    simp
  · rw [if_neg h]
    have h2 : ¬ l.length ≤ 64 := fun h' => h (e64.2 h')
    simp [h2]
theorem mx_max (a b : Int) : mx a b = max a b := by unfold mx; split <;> omega
theorem spansOf_l0 (l : List S45) (hn : l.length ≤ 1048576) (hg : ∀ p, p ∈ l → good p.f0 p.f1 = true) : ∀ (rest pre : List S45) (out : List S74), l = pre ++ rest → out.length ≤ pre.length → (∀ s, s ∈ out → 0 ≤ s.f0 ∧ 0 ≤ s.f1 ∧ s.f1 ≤ 4294967295) →
    ∃ r : List S74, r.map spn = (rest.map pr).foldl rowPut (out.map spn) ∧ r.length ≤ l.length ∧ (∀ s, s ∈ r → 0 ≤ s.f0 ∧ 0 ≤ s.f1 ∧ s.f1 ≤ 4294967295) ∧ Ev (fun k => impl_spansOf.l0 k out l (l.length : Int) (pre.length : Int)) r := by
  intro rest
  induction rest with
  | nil =>
    intro pre out e ho hb
    refine ⟨out, rfl, by rw [e]; simpa using ho, hb, ?_⟩
    refine Ev.step (f := fun _ => some out) (fun k => ?_) (Ev.now out)
    simp only [impl_spansOf.l0]
    rw [if_neg (by rw [e]; simp)]
  | cons a rest ih =>
    intro pre out e ho hb
    have hga := hg a (by rw [e]; simp)
    have hlast : impl_Prefix_end.f a.f0 a.f1 = some (last (pr a)) := impl_Prefix_end_is hga
    obtain ⟨g1, g2, g3, g4, _⟩ := good_iff.1 hga
    have hszp := sz_pos a.f1
    have hle : last (pr a) ≤ 4294967295 := good_end hga
    have hl0 : a.f0 ≤ last (pr a) := fst_le_last (pr a)
    have hlen : pre.length < l.length := by rw [e]; simp
    have h1 : rd_T45 l (pre.length : Int) = a := by rw [e]; exact rdm_Prefix _ _ _
    have hw : wrap64 ((pre.length : Int) + 1) = ((pre ++ [a]).length : Int) := by rw [wrap_id (by omega) (by omega)]; simp
    -- what comes next
    have next : ∀ out' : List S74, out'.map spn = rowPut (out.map spn) (pr a) → out'.length ≤ pre.length + 1 → (∀ s, s ∈ out' → 0 ≤ s.f0 ∧ 0 ≤ s.f1 ∧ s.f1 ≤ 4294967295) →
        (∃ f : Nat → Option (List S74), (∀ k, impl_spansOf.l0 (k + 1) out l (l.length : Int) (pre.length : Int) = f k) ∧ ∀ k, f (k + 1) = impl_spansOf.l0 k out' l (l.length : Int) ((pre ++ [a]).length : Int)) →
        ∃ r : List S74, r.map spn = ((a :: rest).map pr).foldl rowPut (out.map spn) ∧ r.length ≤ l.length ∧ (∀ s, s ∈ r → 0 ≤ s.f0 ∧ 0 ≤ s.f1 ∧ s.f1 ≤ 4294967295) ∧ Ev (fun k => impl_spansOf.l0 k out l (l.length : Int) (pre.length : Int)) r := by
      rintro out' ho' hl' hb' ⟨f, hf1, hf2⟩
      obtain ⟨r, hr, hrl, hrb, E⟩ := ih (pre ++ [a]) out' (by rw [e]; simp) (by simpa using hl') hb'
      refine ⟨r, by rw [hr, ho']; rfl, hrl, hrb, ?_⟩
      exact Ev.step (f := f) hf1 (Ev.step (f := fun k => impl_spansOf.l0 k out' l (l.length : Int) ((pre ++ [a]).length : Int)) hf2 E)
    rcases List.eq_nil_or_concat out with rfl | ⟨init, s, rfl⟩
    · refine next [⟨a.f0, last (pr a)⟩] rfl (by simp) (fun s hs => by rcases List.mem_singleton.1 hs with rfl; exact ⟨g3, by show 0 ≤ last (pr a); omega, hle⟩) ?_
      refine ⟨fun k => impl_spansOf.j1 k [] (wrap64 ((([] : List S74).length : Int) - 1)) l (l.length : Int) (pre.length : Int) false a.f0 a.f1, fun k => ?_, fun k => ?_⟩
      · simp only [impl_spansOf.l0]
        rw [if_pos (by omega), if_pos (len_nn _), if_pos (by omega), if_neg (by simp only [List.length_nil]; rw [wrap_id (by omega) (by omega)]; omega), h1]
      · simp only [impl_spansOf.j1]
        rw [if_neg (by simp), hlast, Option.bind_some, if_pos (by simp), hw]
        rfl
    · rw [List.concat_eq_append] at *
      have hbs := hb s (by simp)
      have hol : init.length + 1 ≤ pre.length := by simpa using ho
      have hw2 : wrap64 (((init ++ [s]).length : Int) - 1) = (init.length : Int) := by
        rw [show ((init ++ [s]).length : Int) = (init.length : Int) + 1 by simp, wrap_id (by omega) (by omega)]; omega
      have h2 : rd_T74 (init ++ [s]) (init.length : Int) = s := rdm_Span init s []
      have hw3 : wrap64 (s.f1 + 1) = s.f1 + 1 := wrap_id (by omega) (by omega)
      have hin : (init.length : Int) < ((init ++ [s]).length : Int) := by simp; omega
      have hgl : (List.map spn (init ++ [s])).getLast? = some (spn s) := by simp
      by_cases hc : a.f0 ≤ s.f1 + 1
      · refine next (init ++ [⟨s.f0, max s.f1 (last (pr a))⟩]) ?_ (by simpa using Nat.le_succ_of_le hol) (fun t ht => ?_) ?_
        · unfold rowPut
          rw [hgl]
          dsimp only
          rw [if_pos (show (pr a).1 ≤ (spn s).2 + 1 from hc)]
          simp [spn]
        · rcases List.mem_append.1 ht with h3 | h3
          · exact hb t (List.mem_append.2 (.inl h3))
          · rcases List.mem_singleton.1 h3 with rfl
            refine ⟨hbs.1, ?_, ?_⟩
            · show 0 ≤ max s.f1 (last (pr a)); omega
            · show max s.f1 (last (pr a)) ≤ 4294967295; omega
        · refine ⟨fun k => impl_spansOf.j1 k (init ++ [s]) (init.length : Int) l (l.length : Int) (pre.length : Int) (decide (a.f0 ≤ s.f1 + 1)) a.f0 a.f1, fun k => ?_, fun k => ?_⟩
          · simp only [impl_spansOf.l0]
            rw [if_pos (by omega), if_pos (len_nn _), if_pos (by omega), hw2, if_pos (len_nn _), if_pos (len_nn _), if_pos hin, h1, h2, hw3]
          · simp only [impl_spansOf.j1]
            rw [if_pos (by simpa using hc), if_pos (len_nn _), if_pos hin, hlast, Option.bind_some, h2, hw, mx_max, set_mid]
      · refine next (init ++ [s] ++ [⟨a.f0, last (pr a)⟩]) ?_ (by simp; omega) (fun t ht => ?_) ?_
        · unfold rowPut
          rw [hgl]
          dsimp only
          rw [if_neg (show ¬ (pr a).1 ≤ (spn s).2 + 1 from hc), List.map_append]
          rfl
        · rcases List.mem_append.1 ht with h3 | h3
          · exact hb t h3
          · rcases List.mem_singleton.1 h3 with rfl
            exact ⟨g3, by show 0 ≤ last (pr a); omega, hle⟩
        · refine ⟨fun k => impl_spansOf.j1 k (init ++ [s]) (init.length : Int) l (l.length : Int) (pre.length : Int) (decide (a.f0 ≤ s.f1 + 1)) a.f0 a.f1, fun k => ?_, fun k => ?_⟩
          · simp only [impl_spansOf.l0]
            rw [if_pos (by omega), if_pos (len_nn _), if_pos (by omega), hw2, if_pos (len_nn _), if_pos (len_nn _), if_pos hin, h1, h2, hw3]
          · simp only [impl_spansOf.j1]
            rw [if_neg (by simpa using hc), hlast, Option.bind_some, if_pos (show (init ++ [s]).length < 8796093022208 by omega), hw]
theorem sv_sort_pairs (l : List (Int × Int)) : (sv_sort l).Pairwise (fun p q => p.1 ≤ q.1) := by
  have h := List.pairwise_mergeSort (le := fun x y : Int × Int => !(ltOf sv_cf) y x) (fun a b c h1 h2 => by
    have := sv_swo.ntrans c b a (by simpa using h2) (by simpa using h1)
    simpa using this) (fun a b => by
    cases h1 : ltOf sv_cf b a
    · simp
    · cases h2 : ltOf sv_cf a b
      · simp
      · have := sv_swo.trans a b a h2 h1
        rw [sv_swo.irrefl] at this; cases this) l
  refine h.imp (fun {a b} hab => ?_)
  have h1 : ltOf sv_cf b a = false := by simpa using hab
  rw [sv_lt] at h1
  simp only [decide_eq_false_iff_not] at h1
  omega
theorem spansOf_is (l : List S45) (hn : l.length ≤ 1048576) (hg : ∀ p, p ∈ l → good p.f0 p.f1 = true) :
    ∃ r : List S74, Gapped (r.map spn) ∧ (∀ x, inS (r.map spn) x ↔ inL (l.map pr) x) ∧ r.length ≤ l.length ∧ (∀ s, s ∈ r → 0 ≤ s.f0 ∧ 0 ≤ s.f1 ∧ s.f1 ≤ 4294967295) ∧ Ev (fun k => impl_spansOf.f k l) r := by
  have hperm : (sv_sort (l.map sv_p)).Perm (l.map sv_p) := List.mergeSort_perm _ _
  have hmem : ∀ p, p ∈ (sv_sort (l.map sv_p)).map sv_s ↔ p ∈ l := fun p => by
    rw [List.mem_map]
    constructor
    · rintro ⟨q, hq, rfl⟩
      obtain ⟨t, ht, rfl⟩ := List.mem_map.1 (hperm.mem_iff.1 hq)
      exact ht
    · intro hp
      exact ⟨sv_p p, hperm.mem_iff.2 (List.mem_map.2 ⟨p, hp, rfl⟩), rfl⟩
  have hlen : ((sv_sort (l.map sv_p)).map sv_s).length = l.length := by rw [List.length_map, hperm.length_eq, List.length_map]
  obtain ⟨r, hr, hrl, hrb, E⟩ := spansOf_l0 ((sv_sort (l.map sv_p)).map sv_s) (by omega) (fun p hp => hg p ((hmem p).1 hp)) ((sv_sort (l.map sv_p)).map sv_s) [] [] rfl (by simp) (by simp)
  have hpairs : (((sv_sort (l.map sv_p)).map sv_s).map pr) = sv_sort (l.map sv_p) := by
    rw [List.map_map]
    exact List.map_id _
  rw [hpairs] at hr
  obtain ⟨b', hI⟩ := rows_fold (sv_sort (l.map sv_p)) [] _ (-1) (rows_start (-1)) (sv_sort_pairs _) (fun p hp => by
    obtain ⟨t, ht, rfl⟩ := List.mem_map.1 (hperm.mem_iff.1 hp)
    obtain ⟨_, _, g3, _, _⟩ := good_iff.1 (hg t ht)
    show -1 ≤ t.f0
    omega)
  have hr' : r.map spn = (sv_sort (l.map sv_p)).foldl rowPut [] := hr
  refine ⟨r, by rw [hr']; exact hI.gap, fun x => ?_, by omega, hrb, ?_⟩
  · rw [hr', hI.eq x]
    unfold inL
    constructor
    · rintro (h | ⟨p, hp, h⟩)
      · exact h.elim
      · exact ⟨p, hperm.mem_iff.1 hp, h⟩
    · rintro ⟨p, hp, h⟩
      exact .inr ⟨p, hperm.mem_iff.2 hp, h⟩
  · refine Ev.congr (f := fun k => impl_spansOf.l0 k [] ((sv_sort (l.map sv_p)).map sv_s) (((sv_sort (l.map sv_p)).map sv_s).length : Int) (([] : List S45).length : Int)) (fun k => ?_) E
    unfold impl_spansOf.f slices_SortedFunc.f
    rw [if_pos (by omega), Option.bind_some]
    rfl
theorem l3Put_l2 (p : Pr) : ∀ (rest pre : List S45), (pre ++ rest).length ≤ 1048576 → (rest.map pr).Pairwise (fun a b => a.1 ≤ b.1) → (∀ q, q ∈ pre → q.f0 ≤ p.1) →
    ∃ l1 l2, pre ++ rest = l1 ++ l2 ∧ (∀ q, q ∈ l1 → q.f0 ≤ p.1) ∧ (∀ q, q ∈ l2 → p.1 ≤ q.f0) ∧ ∃ K, ∀ k, K ≤ k → spec_l3Put.l2 k (pre ++ rest) (pre.length : Int) p.1 p.2 = some (l1 ++ ⟨p.1, p.2⟩ :: l2) := by
  have fin : ∀ (pre rest : List S45), (pre ++ rest).length ≤ 1048576 → (if (pre.length : Int) ≤ ((pre ++ rest).length : Int) then ((some ((pre ++ rest).take (pre.length : Int).toNat : List S45)).bind fun y176 => (if ([] : List S45).length + y176.length < 8796093022208 then ((some (([] : List S45) ++ y176 : List S45)).bind fun y180 => (if y180.length < 8796093022208 then ((some (y180 ++ [(⟨p.1, p.2⟩ : S45)] : List S45)).bind fun y183 => ((some ((pre ++ rest).drop (pre.length : Int).toNat : List S45)).bind fun y186 => (if y183.length + y186.length < 8796093022208 then (some (y183 ++ y186)) else (none)))) else (none))) else (none))) else (none)) = some (pre ++ ⟨p.1, p.2⟩ :: rest) := by
    intro pre rest h
    have h' : pre.length + rest.length ≤ 1048576 := by simpa using h
    rw [if_pos (by simp; omega), Int.toNat_natCast, List.take_left, List.drop_left]
    simp only [Option.bind_some, List.nil_append]
    rw [if_pos (by simp; omega), if_pos (by omega), if_pos (by simp; omega)]
    simp
  intro rest
  induction rest with
  | nil =>
    intro pre h hs hp
    refine ⟨pre, [], rfl, hp, by simp, 1, fun k hk => ?_⟩
    obtain ⟨k, rfl⟩ : ∃ k', k = k' + 1 := ⟨k - 1, by omega⟩
    rw [spec_l3Put.l2, if_neg (by simp), if_pos (len_nn _)]
    exact fin pre [] h
  | cons q rest ih =>
    intro pre h hs hp
    have h1 : rd_T45 (pre ++ q :: rest) (pre.length : Int) = q := rdm_Prefix _ _ _
    have h' : pre.length + (rest.length + 1) ≤ 1048576 := by simpa using h
    obtain ⟨s1, s2⟩ := List.pairwise_cons.1 hs
    by_cases hc : cmpP q.f0 q.f1 p.1 p.2 < 0
    · have hq : q.f0 ≤ p.1 := by unfold cmpP at hc; split at hc <;> (try split at hc) <;> omega
      obtain ⟨l1, l2, e, a1, a2, K, hK⟩ := ih (pre ++ [q]) (by simpa using h) s2 (fun t ht => by
        rcases List.mem_append.1 ht with h2 | h2
        · exact hp t h2
        · rcases List.mem_singleton.1 h2 with rfl; exact hq)
      have e2 : pre ++ q :: rest = pre ++ [q] ++ rest := by simp
      refine ⟨l1, l2, by rw [e2, e], a1, a2, K + 2, fun k hk => ?_⟩
      obtain ⟨k, rfl⟩ : ∃ k', k = k' + 1 + 1 := ⟨k - 2, by omega⟩
      rw [spec_l3Put.l2, if_pos (lt_mid _ _ _), if_pos (len_nn _), h1, spec_l1Compare_is, Option.bind_some, if_pos hc, wrap_id (by omega) (by omega), e2, show (pre.length : Int) + 1 = ((pre ++ [q]).length : Int) by simp]
      exact hK _ (by omega)
    · have hq : p.1 ≤ q.f0 := by unfold cmpP at hc; split at hc <;> (try split at hc) <;> omega
      refine ⟨pre, q :: rest, rfl, hp, fun t ht => ?_, 2, fun k hk => ?_⟩
      · rcases List.mem_cons.1 ht with rfl | h2
        · exact hq
        · exact Int.le_trans hq (s1 (pr t) (List.mem_map.2 ⟨t, h2, rfl⟩))
      · obtain ⟨k, rfl⟩ : ∃ k', k = k' + 1 + 1 := ⟨k - 2, by omega⟩
        rw [spec_l3Put.l2, if_pos (lt_mid _ _ _), if_pos (len_nn _), h1, spec_l1Compare_is, Option.bind_some, if_neg hc]
        exact fin pre (q :: rest) h
def kcov (p : Pr) (q : S45) : Bool := decide (p.2 ≤ q.f1 ∧ p.1 ≤ q.f0 ∧ q.f0 ≤ p.1 + sz p.2 - 1)
def ksib (p : Pr) (q : S45) : Bool := decide (0 < p.2) && (q.f0 == sib p.1 p.2 && q.f1 == p.2)
theorem l3Put_l1 (p : Pr) (hp : good p.1 p.2 = true) (l : List S45) (hl : l.length ≤ 1048576) (hg : ∀ q, q ∈ l → good q.f0 q.f1 = true) (k : Nat) : ∀ (rest pre x7 : List S45) (x8 : Bool), l = pre ++ rest → x7.length ≤ pre.length →
    spec_l3Put.l1 (k + rest.length + 1) x7 x8 l (l.length : Int) (pre.length : Int) p.1 p.2 = if (x8 || rest.any (fun q => !kcov p q && ksib p q)) = true then ((spec_l1Parent.f p.1 p.2).bind fun bt => ((spec_l3Put.f k (x7 ++ rest.filter (fun q => !kcov p q && !ksib p q)) bt.1 bt.2).bind fun t => (some t))) else spec_l3Put.l2 k (x7 ++ rest.filter (fun q => !kcov p q && !ksib p q)) 0 p.1 p.2 := by
  intro rest
  induction rest with
  | nil =>
    intro pre x7 x8 e h7
    rw [spec_l3Put.l1, if_neg (by rw [e]; simp)]
    simp
  | cons q rest ih =>
    intro pre x7 x8 e h7
    have hq := hg q (by rw [e]; simp)
    have hlen : pre.length < l.length := by rw [e]; simp
    have h1 : rd_T45 l (pre.length : Int) = q := by rw [e]; exact rdm_Prefix _ _ _
    have hw : wrap64 ((pre.length : Int) + 1) = ((pre ++ [q]).length : Int) := by rw [wrap_id (by omega) (by omega)]; simp
    have hk : k + (q :: rest).length + 1 = (k + rest.length + 1) + 1 := by simp; omega
    have e2 : l = (pre ++ [q]) ++ rest := by rw [e]; simp
    rw [hk, spec_l3Put.l1, if_pos (by omega), if_pos (len_nn _), if_pos (by omega), h1, spec_l1Covers_is hp hq, Option.bind_some, hw, show decide (p.2 ≤ q.f1 ∧ p.1 ≤ q.f0 ∧ q.f0 ≤ p.1 + sz p.2 - 1) = kcov p q from rfl]
    by_cases hc : kcov p q = true
    · rw [if_pos hc, ih (pre ++ [q]) x7 x8 e2 (by simp; omega)]
      simp [hc]
    · have hc' : kcov p q = false := by simpa using hc
      rw [if_neg hc]
      have push : (if x7.length < 8796093022208 then (spec_l3Put.l1 (k + rest.length + 1) (x7 ++ [(⟨q.f0, q.f1⟩ : S45)]) x8 l (l.length : Int) ((pre ++ [q]).length : Int) p.1 p.2) else (none)) = if (x8 || rest.any (fun q => !kcov p q && ksib p q)) = true then ((spec_l1Parent.f p.1 p.2).bind fun bt => ((spec_l3Put.f k (x7 ++ q :: rest.filter (fun q => !kcov p q && !ksib p q)) bt.1 bt.2).bind fun t => (some t))) else spec_l3Put.l2 k (x7 ++ q :: rest.filter (fun q => !kcov p q && !ksib p q)) 0 p.1 p.2 := by
        rw [if_pos (by omega)]
        refine Eq.trans (ih (pre ++ [q]) (x7 ++ [q]) x8 e2 (by simp; omega)) ?_
        rw [show x7 ++ [q] ++ rest.filter (fun q => !kcov p q && !ksib p q) = x7 ++ q :: rest.filter (fun q => !kcov p q && !ksib p q) by simp]
      by_cases hn : p.2 > 0
      · rw [if_pos hn, spec_l1Sibling_is hp hn, Option.bind_some]
        by_cases hs : (q.f0 == sib p.1 p.2 && q.f1 == p.2) = true
        · have hks : ksib p q = true := by unfold ksib; rw [hs]; simp; omega
          rw [if_pos hs, ih (pre ++ [q]) x7 true e2 (by simp; omega)]
          simp [hc', hks]
        · have hks : ksib p q = false := by unfold ksib; rw [Bool.eq_false_iff.2 hs]; simp
          rw [if_neg hs, push]
          simp [hc', hks]
      · have hks : ksib p q = false := by unfold ksib; simp; omega
        rw [if_neg hn, push]
        simp [hc', hks]
theorem l3Put_l0 (p : Pr) (hp : good p.1 p.2 = true) (l : List S45) (hl : l.length ≤ 1048576) (hg : ∀ q, q ∈ l → good q.f0 q.f1 = true) (k : Nat) : ∀ (rest pre : List S45), l = pre ++ rest →
    spec_l3Put.l0 (k + rest.length + 1) l l (l.length : Int) (pre.length : Int) p.1 p.2 = if rest.any (fun q => decide (cov (pr q) p)) = true then some l else spec_l3Put.l1 k [] false l (l.length : Int) 0 p.1 p.2 := by
  intro rest
  induction rest with
  | nil =>
    intro pre e
    rw [spec_l3Put.l0, if_neg (by rw [e]; simp)]
    simp
  | cons q rest ih =>
    intro pre e
    have hq := hg q (by rw [e]; simp)
    have hlen : pre.length < l.length := by rw [e]; simp
    have h1 : rd_T45 l (pre.length : Int) = q := by rw [e]; exact rdm_Prefix _ _ _
    have hw : wrap64 ((pre.length : Int) + 1) = ((pre ++ [q]).length : Int) := by rw [wrap_id (by omega) (by omega)]; simp
    have hk : k + (q :: rest).length + 1 = (k + rest.length + 1) + 1 := by simp; omega
    rw [hk, spec_l3Put.l0, if_pos (by omega), if_pos (len_nn _), if_pos (by omega), h1, spec_l1Covers_is hq hp, Option.bind_some, hw]
    by_cases hc : q.f1 ≤ p.2 ∧ q.f0 ≤ p.1 ∧ p.1 ≤ q.f0 + sz q.f1 - 1
    · have hc2 : cov (pr q) p := hc
      rw [if_pos (by simpa using hc)]
      simp [hc2]
    · have hc2 : ¬ cov (pr q) p := hc
      rw [if_neg (by simpa using hc), ih (pre ++ [q]) (by rw [e]; simp)]
      simp [hc2]
theorem kcov_iff (p : Pr) (q : S45) : kcov p q = true ↔ cov p (pr q) := by unfold kcov; simp only [decide_eq_true_eq]; exact Iff.rfl
theorem ksib_iff (p : Pr) (q : S45) : ksib p q = true ↔ (0 < p.2 ∧ pr q = sibp p) := by
  unfold ksib sibp pr
  simp only [Bool.and_eq_true, decide_eq_true_eq, beq_iff_eq, Prod.mk.injEq]
def kf (p x : Pr) : Bool := !decide (cov p x) && !decide (0 < p.2 ∧ x = sibp p)
theorem kf_false {p q : Pr} (h : kf p q = false) : cov p q ∨ q = sibp p := by
  unfold kf at h
  by_cases h1 : cov p q
  · exact .inl h1
  · by_cases h2 : 0 < p.2 ∧ q = sibp p
    · exact .inr h2.2
    · simp [h1, h2] at h
theorem kept_map (p : Pr) (l : List S45) : (l.filter (fun q => !kcov p q && !ksib p q)).map pr = (l.map pr).filter (kf p) := by
  rw [List.filter_map]
  congr 1
  apply List.filter_congr
  intro q hq
  show (!kcov p q && !ksib p q) = kf p (pr q)
  unfold kf
  have e1 : kcov p q = decide (cov p (pr q)) := by rw [Bool.eq_iff_iff, kcov_iff]; simp
  have e2 : ksib p q = decide (0 < p.2 ∧ pr q = sibp p) := by rw [Bool.eq_iff_iff, ksib_iff]; simp
  rw [e1, e2]
theorem l3Put_is : ∀ (n : Nat) (p : Pr) (l : List S45) (S : Int → Prop), p.2.toNat = n → good p.1 p.2 = true → Canon S (l.map pr) → l.length ≤ 1000000 →
    ∃ r : List S45, Canon (fun x => S x ∨ inP p x) (r.map pr) ∧ r.length ≤ l.length + 1 ∧ ∃ K, ∀ k, K ≤ k → spec_l3Put.f k l p.1 p.2 = some r := by
  intro n
  induction n using Nat.strongRecOn with
  | _ n ih =>
    intro p l S hn hp hC hl
    have hg : ∀ q, q ∈ l → good q.f0 q.f1 = true := fun q hq => (hC.mem.1 (List.mem_map.2 ⟨q, hq, rfl⟩)).1
    have h0 := l3Put_l0 p hp l (by omega) hg
    have h1 := l3Put_l1 p hp l (by omega) hg
    by_cases hcov : l.any (fun q => decide (cov (pr q) p)) = true
    · obtain ⟨q, hq, hc⟩ := List.any_eq_true.1 hcov
      refine ⟨l, put_in hC hp (List.mem_map.2 ⟨q, hq, rfl⟩) (by simpa using hc), by omega, l.length + 2, fun k hk => ?_⟩
      obtain ⟨k', rfl⟩ : ∃ k', k = k' + l.length + 1 + 1 := ⟨k - l.length - 2, by omega⟩
      rw [spec_l3Put.f]
      refine (h0 k' l [] rfl).trans ?_
      rw [if_pos hcov]
    · have hno : ∀ q, q ∈ l → ¬ cov (pr q) p := fun q hq hc => hcov (List.any_eq_true.2 ⟨q, hq, by simpa using hc⟩)
      have hstart : ∀ k, spec_l3Put.f (k + l.length + 1 + l.length + 1 + 1) l p.1 p.2 = spec_l3Put.l1 (k + l.length + 1) [] false l (l.length : Int) 0 p.1 p.2 := fun k => by
        rw [spec_l3Put.f]
        refine (h0 (k + l.length + 1) l [] rfl).trans ?_
        rw [if_neg hcov]
      have hR := put_rest hC (kf p)
      have hkl : (l.filter (fun q => !kcov p q && !ksib p q)).length ≤ l.length := List.length_filter_le _ _
      by_cases hs : 0 < p.2 ∧ sibp p ∈ l.map pr
      · obtain ⟨hn0, hsm⟩ := hs
        obtain ⟨q, hq, hqs⟩ := List.mem_map.1 hsm
        have hncov : ¬ cov p (sibp p) := by
          rintro ⟨_, a1, a2⟩
          have := parent_cases hp
          have h3 : last p = p.1 + sz p.2 - 1 := rfl
          have := sz_pos p.2
          omega
        have hany : l.any (fun q => !kcov p q && ksib p q) = true := List.any_eq_true.2 ⟨q, hq, by
          have e1 : kcov p q = false := by rw [Bool.eq_false_iff]; intro hk; exact hncov (hqs ▸ (kcov_iff p q).1 hk)
          rw [e1, (ksib_iff p q).2 ⟨hn0, hqs⟩]; rfl⟩
        obtain ⟨r, rC, rl, K, hK⟩ := ih (parent p).2.toNat (by show (p.2 - 1).toNat < n; omega) (parent p) (l.filter (fun q => !kcov p q && !ksib p q)) _ rfl (good_parent hp hn0) (by rw [kept_map]; exact hR) (by omega)
        refine ⟨r, rC.congr (fun x => put_pair hC hp hn0 hsm (fun q h => kf_false h) x), by omega, K + l.length + 1 + l.length + 1 + 1, fun k hk => ?_⟩
        obtain ⟨k', rfl⟩ : ∃ k', k = k' + l.length + 1 + l.length + 1 + 1 := ⟨k - (l.length + 1 + l.length + 1 + 1), by omega⟩
        rw [hstart]
        refine (h1 k' l [] [] false rfl (by simp)).trans ?_
        rw [if_pos (by simpa using hany), spec_l1Parent_is hp hn0, Option.bind_some, List.nil_append]
        have hK' := hK k' (by omega)
        exact (congrArg (fun o : Option (List S45) => o.bind fun t => some t) hK').trans rfl
      · have hsn : 0 < p.2 → sibp p ∉ l.map pr := fun h3 h4 => hs ⟨h3, h4⟩
        have hany : ¬ l.any (fun q => !kcov p q && ksib p q) = true := fun h => by
          obtain ⟨q, hq, hb⟩ := List.any_eq_true.1 h
          have hb2 : ksib p q = true := (Bool.and_eq_true _ _ ▸ hb).2
          obtain ⟨b1, b2⟩ := (ksib_iff p q).1 hb2
          exact hs ⟨b1, b2 ▸ List.mem_map.2 ⟨q, hq, rfl⟩⟩
        have hsrt : ((l.filter (fun q => !kcov p q && !ksib p q)).map pr).Pairwise (fun a b => a.1 ≤ b.1) := by
          rw [kept_map]
          exact hR.srt.imp (fun {a b} hab => by have := fst_le_last a; omega)
        obtain ⟨l1, l2, e, a1, a2, K, hK⟩ := l3Put_l2 p (l.filter (fun q => !kcov p q && !ksib p q)) [] (by rw [List.nil_append]; omega) hsrt (by simp)
        rw [List.nil_append] at e hK
        have el : l1.length + l2.length ≤ l.length := by rw [← List.length_append, ← e]; exact hkl
        refine ⟨l1 ++ ⟨p.1, p.2⟩ :: l2, ?_, by simp; omega, K + l.length + 1 + l.length + 1 + 1, fun k hk => ?_⟩
        · rw [List.map_append, List.map_cons]
          exact put_new hC hp (fun q hq => by obtain ⟨t, ht, rfl⟩ := List.mem_map.1 hq; exact hno t ht) hsn (f := kf p) (fun q hq => by
            have : ¬ (0 < p.2 ∧ q = sibp p) := fun h => hsn h.1 (h.2 ▸ hq)
            unfold kf; simp [this]) (by rw [← kept_map, e, List.map_append]) (fun q hq => by obtain ⟨t, ht, rfl⟩ := List.mem_map.1 hq; exact a1 t ht) (fun q hq => by obtain ⟨t, ht, rfl⟩ := List.mem_map.1 hq; exact a2 t ht)
        · obtain ⟨k', rfl⟩ : ∃ k', k = k' + l.length + 1 + l.length + 1 + 1 := ⟨k - (l.length + 1 + l.length + 1 + 1), by omega⟩
          rw [hstart]
          refine (h1 k' l [] [] false rfl (by simp)).trans ?_
          rw [if_neg (by simpa using hany), List.nil_append]
          exact hK k' (by omega)
theorem l3Fewest_l0 (l : List S45) (hl : l.length ≤ 1000) (hg : ∀ q, q ∈ l → good q.f0 q.f1 = true) : ∀ (rest pre out : List S45) (S : Int → Prop), l = pre ++ rest → Canon S (out.map pr) → out.length ≤ pre.length →
    ∃ r : List S45, Canon (fun x => S x ∨ inL (rest.map pr) x) (r.map pr) ∧ r.length ≤ l.length ∧ ∃ K, ∀ k, K ≤ k → spec_l3Fewest.l0 k out l (l.length : Int) (pre.length : Int) = some r := by
  intro rest
  induction rest with
  | nil =>
    intro pre out S e hC ho
    refine ⟨out, hC.congr (fun x => ⟨.inl, fun h => h.elim id (fun ⟨p, hp, _⟩ => by simp at hp)⟩), by rw [e]; simpa using ho, 1, fun k hk => ?_⟩
    obtain ⟨k, rfl⟩ : ∃ k', k = k' + 1 := ⟨k - 1, by omega⟩
    rw [spec_l3Fewest.l0, if_neg (by rw [e]; simp)]
  | cons q rest ih =>
    intro pre out S e hC ho
    have hlen : pre.length < l.length := by rw [e]; simp
    have h1 : rd_T45 l (pre.length : Int) = q := by rw [e]; exact rdm_Prefix _ _ _
    have hw : wrap64 ((pre.length : Int) + 1) = ((pre ++ [q]).length : Int) := by rw [wrap_id (by omega) (by omega)]; simp
    obtain ⟨r1, rC, rl, K1, hK1⟩ := l3Put_is _ (pr q) out S rfl (hg q (by rw [e]; simp)) hC (by omega)
    obtain ⟨r, rC2, rl2, K2, hK2⟩ := ih (pre ++ [q]) r1 _ (by rw [e]; simp) rC (by simp; omega)
    refine ⟨r, rC2.congr (fun x => ?_), rl2, K1 + K2 + 1, fun k hk => ?_⟩
    · unfold inL
      constructor
      · rintro ((h | h) | ⟨p, hp, h⟩)
        · exact .inl h
        · exact .inr ⟨pr q, by simp, h⟩
        · exact .inr ⟨p, by simp only [List.map_cons, List.mem_cons]; exact .inr hp, h⟩
      · rintro (h | ⟨p, hp, h⟩)
        · exact .inl (.inl h)
        · rw [List.map_cons] at hp
          rcases List.mem_cons.1 hp with rfl | hp
          · exact .inl (.inr h)
          · exact .inr ⟨p, hp, h⟩
    · obtain ⟨k, rfl⟩ : ∃ k', k = k' + 1 := ⟨k - 1, by omega⟩
      rw [spec_l3Fewest.l0, if_pos (by omega), if_pos (len_nn _), if_pos (by omega), h1, hw]
      have := hK1 k (by omega)
      rw [show spec_l3Put.f k out q.f0 q.f1 = some r1 from this, Option.bind_some]
      exact hK2 k (by omega)
theorem spec_l3Fewest_is (l : List S45) (hl : l.length ≤ 1000) (hg : ∀ q, q ∈ l → good q.f0 q.f1 = true) : ∃ r : List S45, Canon (inL (l.map pr)) (r.map pr) ∧ r.length ≤ l.length ∧ ∃ K, ∀ k, K ≤ k → spec_l3Fewest.f k l = some r := by
  obtain ⟨r, rC, rl, K, hK⟩ := l3Fewest_l0 l hl hg l [] [] (fun _ => False) rfl ⟨by simp [Srt], fun p hp => by simp at hp, fun x hx => hx.elim⟩ (by simp)
  exact ⟨r, rC.congr (fun x => ⟨fun h => h.elim False.elim id, .inr⟩), rl, K, fun k hk => hK k hk⟩
def okL (l : List S45) : Bool := decide (l.length ≤ 64) && (l.map pr).all (fun p => good p.1 p.2)
theorem okL_facts {l : List S45} (h : okL l = true) : l.length ≤ 64 ∧ ∀ p, p ∈ l → good p.f0 p.f1 = true := by
  unfold okL at h
  rw [Bool.and_eq_true] at h
  refine ⟨of_decide_eq_true h.1, fun p hp => ?_⟩
  exact List.all_eq_true.1 h.2 (pr p) (List.mem_map.2 ⟨p, hp, rfl⟩)
theorem l1Covers_cov {p q : Pr} (hp : GoodP p) (hq : GoodP q) : spec_l1Covers.f p.1 p.2 q.1 q.2 = some (decide (cov p q)) := by
  rw [spec_l1Covers_is hp hq]
  exact congrArg some (decide_eq_decide.2 Iff.rfl)
theorem impl_Count_l0 (rs : List S74) (hl : rs.length ≤ 1000000) (hb : ∀ s, s ∈ rs → 0 ≤ s.f0 ∧ s.f0 ≤ s.f1 ∧ s.f1 ≤ 4294967295) : ∀ (rest pre : List S74) (acc : Int) (k : Nat), rs = pre ++ rest → 0 ≤ acc → acc ≤ pre.length * 4294967296 → rest.length < k →
    impl_CountAddrs.l0 k acc rs (rs.length : Int) (pre.length : Int) = some (acc + totalS (rest.map spn), true) := by
  intro rest
  induction rest with
  | nil =>
    intro pre acc k e h0 h1 hk
    obtain ⟨k, rfl⟩ : ∃ k', k = k' + 1 := ⟨k - 1, by omega⟩
    rw [impl_CountAddrs.l0, if_neg (by rw [e]; simp)]
    simp [totalS]
  | cons s rest ih =>
    intro pre acc k e h0 h1 hk
    rw [List.length_cons] at hk
    obtain ⟨k, rfl⟩ : ∃ k', k = k' + 1 := ⟨k - 1, by omega⟩
    have hs := hb s (by rw [e]; simp)
    have hlen : pre.length < rs.length := by rw [e]; simp
    have h2 : rd_T74 rs (pre.length : Int) = s := by rw [e]; exact rdm_Span _ _ _
    have hw : wrap64 ((pre.length : Int) + 1) = ((pre ++ [s]).length : Int) := by rw [wrap_id (by omega) (by omega)]; simp
    have e2 : rs = (pre ++ [s]) ++ rest := by rw [e]; simp
    rw [impl_CountAddrs.l0, if_pos (by omega), if_pos (len_nn _), if_pos (by omega), h2, hw, wrap_id (x := s.f1 - s.f0) (by omega) (by omega), wrap_id (x := s.f1 - s.f0 + 1) (by omega) (by omega), wrap_id (by omega) (by omega)]
    refine (ih (pre ++ [s]) (acc + (s.f1 - s.f0 + 1)) k e2 (by omega) (by rw [List.length_append, List.length_singleton]; omega) (by omega)).trans ?_
    rw [List.map_cons, totalS_cons]
    show some (acc + (s.f1 - s.f0 + 1) + _, true) = some (acc + (s.f1 - s.f0 + 1 + _), true)
    rw [Int.add_assoc]
theorem spec_Count_l0 (rs : List S45) (hl : rs.length ≤ 1000000) (hb : ∀ s, s ∈ rs → good s.f0 s.f1 = true) : ∀ (rest pre : List S45) (acc : Int) (k : Nat), rs = pre ++ rest → 0 ≤ acc → acc ≤ pre.length * 4294967296 → rest.length < k →
    spec_CountAddrs.l0 k acc rs (rs.length : Int) (pre.length : Int) = some (acc + total (rest.map pr), true) := by
  intro rest
  induction rest with
  | nil =>
    intro pre acc k e h0 h1 hk
    obtain ⟨k, rfl⟩ : ∃ k', k = k' + 1 := ⟨k - 1, by omega⟩
    rw [spec_CountAddrs.l0, if_neg (by rw [e]; simp)]
    simp [total]
  | cons s rest ih =>
    intro pre acc k e h0 h1 hk
    rw [List.length_cons] at hk
    obtain ⟨k, rfl⟩ : ∃ k', k = k' + 1 := ⟨k - 1, by omega⟩
    have hs := hb s (by rw [e]; simp)
    obtain ⟨g1, g2, g3, g4, _⟩ := good_iff.1 hs
    have g5 := good_end hs
    have g6 := sz_pos s.f1
    have hlen : pre.length < rs.length := by rw [e]; simp
    have h2 : rd_T45 rs (pre.length : Int) = s := by rw [e]; exact rdm_Prefix _ _ _
    have hw : wrap64 ((pre.length : Int) + 1) = ((pre ++ [s]).length : Int) := by rw [wrap_id (by omega) (by omega)]; simp
    have e2 : rs = (pre ++ [s]) ++ rest := by rw [e]; simp
    rw [spec_CountAddrs.l0, if_pos (by omega), if_pos (len_nn _), if_pos (by omega), h2, hw, spec_l1Size_is _ g1 g2, Option.bind_some, wrap_id (by omega) (by omega)]
    refine (ih (pre ++ [s]) (acc + sz s.f1) k e2 (by omega) (by rw [List.length_append, List.length_singleton]; omega) (by omega)).trans ?_
    rw [List.map_cons, total_cons]
    show some (acc + sz s.f1 + _, true) = some (acc + (sz s.f1 + _), true)
    rw [Int.add_assoc]
theorem CountAddrs_same (l : List S45) (hl : l.length ≤ 1048576) : ∃ r, Ev (fun k => spec_CountAddrs.f k l) r ∧ Ev (fun k => impl_CountAddrs.f k l) r := by
  by_cases h : okL l = true
  · obtain ⟨h64, hg⟩ := okL_facts h
    obtain ⟨rs, hgap, hin, hlen, hb, K1, E1⟩ := spansOf_is l hl hg
    obtain ⟨q, qC, ql, K3, E3⟩ := spec_l3Fewest_is l (by omega) hg
    have gq : ∀ s, s ∈ q → good s.f0 s.f1 = true := fun s hs => (qC.max (pr s) (List.mem_map.2 ⟨s, hs, rfl⟩)).1
    have ht : total (q.map pr) = totalS (rs.map spn) := canon_total hgap (fun s hs => by
      obtain ⟨t, ht, rfl⟩ := List.mem_map.1 hs
      exact ⟨(hb t ht).1, (hb t ht).2.2⟩) (qC.congr (fun x => (hin x).symm))
    refine ⟨(totalS (rs.map spn), true), ⟨K1 + K3 + l.length + 1, fun k hk => ?_⟩, ⟨K1 + K3 + l.length + 1, fun k hk => ?_⟩⟩
    · show spec_CountAddrs.f k l = _
      unfold spec_CountAddrs.f
      rw [spec_l3Good_is k l hl (by omega), Option.bind_some, if_pos (show (decide (l.length ≤ 64) && (l.map pr).all (fun p => good p.1 p.2)) = true from h), E3 k (by omega), Option.bind_some]
      refine (spec_Count_l0 q (by omega) gq q [] 0 k rfl (by omega) (by simp) (by omega)).trans ?_
      rw [ht, Int.zero_add]
    · show impl_CountAddrs.f k l = _
      unfold impl_CountAddrs.f
      replace E1 : impl_spansOf.f k l = some rs := E1 k (by omega)
      rw [impl_arePrefixes_is k l hl (by omega), Option.bind_some, if_pos (show (decide (l.length ≤ 64) && (l.map pr).all (fun p => good p.1 p.2)) = true from h), E1, Option.bind_some]
      refine (impl_Count_l0 rs (by omega) (fun s hs => ⟨(hb s hs).1, hgap.ne (spn s) (List.mem_map.2 ⟨s, hs, rfl⟩), (hb s hs).2.2⟩) rs [] 0 k rfl (by omega) (by simp) (by omega)).trans ?_
      rw [Int.zero_add]
  · refine ⟨(0, false), ⟨l.length + 1, fun k hk => ?_⟩, ⟨l.length + 1, fun k hk => ?_⟩⟩
    · show spec_CountAddrs.f k l = _
      unfold spec_CountAddrs.f
      rw [spec_l3Good_is k l hl (by omega), Option.bind_some, if_neg (show ¬ (decide (l.length ≤ 64) && (l.map pr).all (fun p => good p.1 p.2)) = true from h)]
    · show impl_CountAddrs.f k l = _
      unfold impl_CountAddrs.f
      rw [impl_arePrefixes_is k l hl (by omega), Option.bind_some, if_neg (show ¬ (decide (l.length ≤ 64) && (l.map pr).all (fun p => good p.1 p.2)) = true from h)]
theorem szTwo (l l' : List S43) (m : l.length ≤ maxLen) (m' : l'.length ≤ maxLen) {r0 : Int} (h : laws_szPrefixS.f l 1048576 = some r0) (hn : ¬ r0 < 0) : ∃ r1, laws_szPrefixS.f l' r0 = some r1 ∧ (¬ r1 < 0 → l.length ≤ 1048576 ∧ l'.length ≤ 1048576) := by
  simp only [maxLen] at m m'
  have e : r0 = 1048576 - (l.length : Int) := by
    unfold laws_szPrefixS.f at h
    rw [wrap_id (by omega) (by omega)] at h
    split at h
    · have := Option.some.inj h; omega
    · exact (Option.some.inj h).symm
  unfold laws_szPrefixS.f
  rw [wrap_id (by omega) (by omega)]
  by_cases h2 : r0 - (l'.length : Int) < 0
  · exact ⟨_, if_pos h2, fun h' => absurd (by omega) h'⟩
  · exact ⟨_, if_neg h2, fun _ => ⟨by omega, by omega⟩⟩

end FnExactCountAddrsUses
open Go.RowKit Go.Proofs.Ytabejlfejlpkeaa.PFnExactCountAddrs Go.Proofs.YtabejlfejlpkeaaW.PrintWords Go.Proofs.YtabejlfejlpkeaaW.PrintLast Go.Proofs.YtabejlfejlpkeaaW.PrintMore Go.Proofs.Ytabejlfejlpkeaa.Pfx Go.Proofs.Ytabejlfejlpkeaa.Loop Go.Proofs.Ytabejlfejlpkeaa.Tbl FnExactCountAddrsUses
set_option linter.unusedVariables false
theorem FnExactCountAddrs (l0 : List S43) (m0 : l0.length ≤ maxLen) (w0 : ∀ a, a ∈ l0 → ((Lit.int .i64 a.f0).wf = true ∧ (Lit.int .i64 a.f1).wf = true)) : ∃ k, laws_FnExactCountAddrs.f k l0 = some true := by
  obtain ⟨r0, hr0, hb0⟩ := laws_szPrefixS_is l0 m0
  by_cases h : r0 < 0
  · exact ⟨0, by unfold laws_FnExactCountAddrs.f; rw [hr0, Option.bind_some, if_pos h]⟩
  · have hl := hb0 h
    obtain ⟨L, hL⟩ : ∃ L, L = (l0.map fun p => (⟨p.f0, p.f1⟩ : S45)) := ⟨_, rfl⟩
    have hLl : L.length = l0.length := by rw [hL]; simp
    obtain ⟨r, ⟨K1, h1⟩, ⟨K2, h2⟩⟩ := CountAddrs_same L (by omega)
    replace h1 : ∀ k, K1 ≤ k → spec_CountAddrs.f k L = some r := h1
    replace h2 : ∀ k, K2 ≤ k → impl_CountAddrs.f k L = some r := h2
    obtain ⟨K, hK⟩ : ∃ K : Nat, K1 + K2 + l0.length + 200 ≤ K := ⟨_, Nat.le_refl _⟩
    have ht : ∀ k, K ≤ k → laws_toPrefixS.f k l0 = some L := fun k hk => by rw [laws_toPrefixS_is k l0 hl (by omega), hL]
    have he : ∀ k, K ≤ k → laws_eqPrefixS.f k L L = some true := fun k hk => laws_eqPrefixS_refl k L (by simp only [maxLen]; omega) (by omega)
    refine ⟨K + 1, ?_⟩
    unfold laws_FnExactCountAddrs.f
    rw [hr0, Option.bind_some, if_neg h, ht _ (by omega), Option.bind_some, h1 _ (by omega), Option.bind_some, Option.bind_some, h2 _ (by omega), Option.bind_some, if_pos rfl]
    rw [laws_FnExactCountAddrs.j0, if_neg (by simp), ht _ (by omega), Option.bind_some, he _ (by omega), Option.bind_some, if_pos rfl]
end Go.Proofs.Ytabejlfejlpkeaa.Pure
