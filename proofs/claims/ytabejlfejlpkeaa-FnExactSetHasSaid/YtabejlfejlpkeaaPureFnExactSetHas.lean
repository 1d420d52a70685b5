/- The pure statement of FnExactSetHas: what the printed functions tell is what the reference tells. No condition but the arguments' own bounds. -/
import Derived.Test.YtabejlfejlpkeaaPFnExactSetHasx4
import Derived.Test.YtabejlfejlpkeaaPfx
import Derived.Test.YtabejlfejlpkeaaSets
import Derived.Test.YtabejlfejlpkeaaLoop
import Derived.Test.YtabejlfejlpkeaaTbl
namespace Go.Proofs.Ytabejlfejlpkeaa.Pure
namespace FnExactSetHasUses
open Go.RowKit Go.Proofs.Ytabejlfejlpkeaa.PFnExactSetHas Go.Proofs.YtabejlfejlpkeaaW.PrintWords Go.Proofs.YtabejlfejlpkeaaW.PrintLast Go.Proofs.YtabejlfejlpkeaaW.PrintMore Go.Proofs.Ytabejlfejlpkeaa.Pfx Go.Proofs.Ytabejlfejlpkeaa.Loop Go.Proofs.Ytabejlfejlpkeaa.Tbl
set_option linter.unusedVariables false
set_option linter.unusedSimpArgs false

theorem spec_l1In_is (a lo hi : Int) : spec_l1In.f a lo hi = some (decide (lo ≤ a ∧ a ≤ hi)) := by
  unfold spec_l1In.f
  by_cases h : lo ≤ a
  · rw [if_pos h]; simp [h]
  · rw [if_neg h]; simp [h]
theorem impl_within_is (a lo hi : Int) : impl_within.f a lo hi = some (decide (lo ≤ a ∧ a ≤ hi)) := by
  unfold impl_within.f
  by_cases h : lo ≤ a
  · rw [if_pos h]; simp [h]
  · rw [if_neg h]; simp [h]
theorem spec_l1Addr_is (a : Int) : spec_l1Addr.f a = some (decide (0 ≤ a ∧ a ≤ 4294967295)) := by
  unfold spec_l1Addr.f; rw [spec_l1In_is]; rfl
theorem impl_isAddr_is (a : Int) : impl_isAddr.f a = some (decide (0 ≤ a ∧ a ≤ 4294967295)) := by
  unfold impl_isAddr.f; rw [impl_within_is]; rfl
theorem impl_sizeOf_is {n : Int} (h0 : 0 ≤ n) (h1 : n ≤ 32) : impl_sizeOf.f n = some (sz n) := by
  unfold impl_sizeOf.f
  rw [shl_sz h0 h1, if_pos (by rw [wrap_id (by omega) (by omega)]; omega)]
theorem spec_l1Size_is (a : Int) {n : Int} (h0 : 0 ≤ n) (h1 : n ≤ 32) : spec_l1Size.f a n = some (sz n) := by
  unfold spec_l1Size.f
  have e : IntKind.u64.wrap (wrap64 (32 - n)) = wrap64 (32 - n) := by rw [wrap_id (by omega) (by omega), u64_id (by omega) (by omega)]
  rw [e, shl_sz h0 h1, if_pos (by rw [wrap_id (by omega) (by omega)]; omega)]
theorem impl_GoodPrefix_is (a n : Int) : impl_GoodPrefix.f a n = some (good a n) := by
  unfold impl_GoodPrefix.f
  rw [impl_within_is, Option.bind_some]
  by_cases h : 0 ≤ n ∧ n ≤ 32
  · rw [if_pos (decide_eq_true h), impl_isAddr_is, Option.bind_some]
    by_cases h' : 0 ≤ a ∧ a ≤ 4294967295
    · rw [if_pos (decide_eq_true h'), impl_sizeOf_is h.1 h.2, Option.bind_some, if_neg (by have := sz_pos n; omega), Int.tmod_eq_emod_of_nonneg h'.1]
      simp [good, h.1, h.2, h'.1, h'.2, beq_dec]
    · rw [if_neg (by simpa using h')]
      have : good a n = false := by simp [good]; omega
      rw [this]
  · rw [if_neg (by simpa using h)]
    have : good a n = false := by simp [good]; omega
    rw [this]
theorem spec_GoodPrefix_is (a n : Int) : spec_GoodPrefix.f a n = some (good a n) := by
  unfold spec_GoodPrefix.f
  rw [spec_l1In_is, Option.bind_some]
  by_cases h : 0 ≤ n ∧ n ≤ 32
  · rw [if_pos (decide_eq_true h), spec_l1Addr_is, Option.bind_some]
    by_cases h' : 0 ≤ a ∧ a ≤ 4294967295
    · rw [if_pos (decide_eq_true h'), spec_l1Size_is a h.1 h.2, Option.bind_some, if_neg (by have := sz_pos n; omega), Int.tmod_eq_emod_of_nonneg h'.1]
      simp [good, h.1, h.2, h'.1, h'.2, beq_dec]
    · rw [if_neg (by simpa using h')]
      have : good a n = false := by simp [good]; omega
      rw [this]
  · rw [if_neg (by simpa using h)]
    have : good a n = false := by simp [good]; omega
    rw [this]
theorem impl_Prefix_end_is {a n : Int} (h : good a n = true) : impl_Prefix_end.f a n = some (a + sz n - 1) := by
  obtain ⟨h0, h1, h2, h3, h4⟩ := good_iff.1 h
  have := sz_pos n
  have := sz_le h0
  unfold impl_Prefix_end.f
  rw [impl_sizeOf_is h0 h1, Option.bind_some, wrap_id (x := a + sz n) (by omega) (by omega), wrap_id (by omega) (by omega)]
theorem impl_Prefix_has_is {a n : Int} (x : Int) (h : good a n = true) : impl_Prefix_has.f a n x = some (decide (a ≤ x ∧ x ≤ a + sz n - 1)) := by
  unfold impl_Prefix_has.f
  rw [impl_Prefix_end_is h, Option.bind_some, impl_within_is]; rfl
theorem spec_l1HasAddr_is {a n x : Int} (h : good a n = true) (h5 : 0 ≤ x) (h6 : x ≤ 4294967295) : spec_l1HasAddr.f a n x = some (decide (a ≤ x ∧ x ≤ a + sz n - 1)) := by
  obtain ⟨h0, h1, h2, h3, h4⟩ := good_iff.1 h
  have hs := sz_pos n
  have h7 := Int.emod_nonneg x (show sz n ≠ 0 by omega)
  have h8 := Int.emod_lt_of_pos x (show 0 < sz n by omega)
  have h9 := sz_le h0
  unfold spec_l1HasAddr.f
  rw [spec_l1Size_is a h0 h1, Option.bind_some, if_neg (by omega), Int.tmod_eq_emod_of_nonneg h5, wrap_id (by omega) (by omega), beq_dec]
  congr 1
  exact decide_eq_decide.2 (in_row (by omega) h4)
theorem laws_eqPrefix_is (a n b m : Int) : laws_eqPrefix.f a n b m = some (decide (a = b ∧ n = m)) := by
  unfold laws_eqPrefix.f
  by_cases h : a = b
  · by_cases h' : n = m
    · rw [if_pos h, if_pos h']; simp [h, h']
    · rw [if_pos h, if_neg h']; simp [h']
  · rw [if_neg h]; simp [h]
theorem rdm_Prefix (pre : List S45) (a : S45) (rest : List S45) : rd_T45 (pre ++ a :: rest) (pre.length : Int) = a := by unfold rd_T45; simp
def pr (p : S45) : Pr := (p.f0, p.f1)
theorem pr_inj {p q : S45} (h : pr p = pr q) : p = q := by cases p; cases q; simpa [pr] using h
theorem rdm_LPrefix (pre : List S43) (a : S43) (rest : List S43) : rd_T43 (pre ++ a :: rest) (pre.length : Int) = a := by unfold rd_T43; simp
theorem laws_eqPrefixS_refl (k : Nat) (l : List S45) (hl : l.length ≤ maxLen) (hk : l.length < k) : laws_eqPrefixS.f k l l = some true := by
  unfold laws_eqPrefixS.f
  rw [if_pos rfl]
  have key : ∀ (rest pre : List S45) (k : Nat), l = pre ++ rest → rest.length < k → laws_eqPrefixS.l0 k l l (pre.length : Int) = some true := by
    intro rest
    induction rest with
    | nil =>
      intro pre k e hk
      obtain ⟨k, rfl⟩ : ∃ m, k = m + 1 := ⟨k - 1, by omega⟩
      simp only [laws_eqPrefixS.l0]
      rw [if_neg (by rw [e]; simp)]
    | cons a rest ih =>
      intro pre k e hk
      obtain ⟨k, rfl⟩ : ∃ m, k = m + 1 := ⟨k - 1, by omega⟩
      simp only [laws_eqPrefixS.l0]
      rw [if_pos (by rw [e]; exact lt_mid _ _ _), if_pos (len_nn _), if_pos (by rw [e]; exact lt_mid _ _ _), laws_eqPrefix_is]
      simp only [Option.bind_some, and_self, decide_true, if_true]
      rw [wrap_mid (rest := rest) (by rw [← e]; exact hl)]
      exact ih (pre ++ [a]) k (by rw [e]; simp) (by simp at hk; omega)
  exact key l [] k rfl hk
theorem laws_toPrefixS_is (k : Nat) (l : List S43) (hl : l.length ≤ 1048576) (hk : l.length < k) : laws_toPrefixS.f k l = some (l.map fun p => (⟨p.f0, p.f1⟩ : S45)) := by
  unfold laws_toPrefixS.f
  rw [if_pos (len_nn _), if_pos (by simp; omega)]
  have key : ∀ (rest pre : List S43) (k : Nat), l = pre ++ rest → rest.length < k →
      laws_toPrefixS.l0 k l ((pre.map fun p => (⟨p.f0, p.f1⟩ : S45)) ++ List.replicate rest.length z45) (pre.length : Int) = some (l.map fun p => (⟨p.f0, p.f1⟩ : S45)) := by
    intro rest
    induction rest with
    | nil =>
      intro pre k e hk
      obtain ⟨k, rfl⟩ : ∃ m, k = m + 1 := ⟨k - 1, by omega⟩
      simp only [laws_toPrefixS.l0]
      rw [if_neg (by rw [e]; simp)]
      simp [e]
    | cons a rest ih =>
      intro pre k e hk
      obtain ⟨k, rfl⟩ : ∃ m, k = m + 1 := ⟨k - 1, by omega⟩
      simp only [laws_toPrefixS.l0, laws_toPrefix.f, Option.bind_some]
      rw [if_pos (by rw [e]; exact lt_mid _ _ _), if_pos (len_nn _), if_pos (by simp; omega), wrap_mid (rest := rest) (by rw [← e]; simp only [maxLen]; omega)]
      have h1 : rd_T43 l (pre.length : Int) = a := by rw [e]; exact rdm_LPrefix _ _ _
      rw [h1, List.length_cons, List.replicate_succ]
      have h2 := ih (pre ++ [a]) k (by rw [e]; simp) (by simp at hk; omega)
      have h3 : ((pre.map fun p => (⟨p.f0, p.f1⟩ : S45)) ++ z45 :: List.replicate rest.length z45).set ((pre.length : Int)).toNat (⟨a.f0, a.f1⟩ : S45) = ((pre ++ [a]).map fun p => (⟨p.f0, p.f1⟩ : S45)) ++ List.replicate rest.length z45 := by
        have := set_mid (pre.map fun p => (⟨p.f0, p.f1⟩ : S45)) z45 ⟨a.f0, a.f1⟩ (List.replicate rest.length z45)
        rw [List.length_map] at this
        rw [this]; simp
      rw [h3]; exact h2
  have := key l [] k rfl hk
  simpa using this
theorem laws_szPrefixS_is (l : List S43) (m0 : l.length ≤ maxLen) : ∃ r, laws_szPrefixS.f l 1048576 = some r ∧ (¬ r < 0 → l.length ≤ 1048576) := by
  unfold laws_szPrefixS.f
  by_cases h : wrap64 (1048576 - (l.length : Int)) < 0
  · exact ⟨_, if_pos h, fun h' => absurd (by omega) h'⟩
  · exact ⟨_, if_neg h, fun h' => sz_ok m0 (if_neg h) h'⟩
theorem map_pr_inj : ∀ {l l' : List S45}, l.map pr = l'.map pr → l = l'
  | [], [], _ => rfl
  | [], _ :: _, h => by simp at h
  | _ :: _, [], h => by simp at h
  | a :: t, b :: t', h => by
    simp only [List.map_cons, List.cons.injEq] at h
    rw [pr_inj h.1, map_pr_inj h.2]
theorem spec_l3Good_is (k : Nat) (l : List S45) (hl : l.length ≤ 1048576) (hk : l.length < k) : spec_l3Good.f k l = some (decide (l.length ≤ 64) && (l.map pr).all (fun p => good p.1 p.2)) := by
  unfold spec_l3Good.f
  have key : ∀ (rest pre : List S45) (k : Nat), l = pre ++ rest → rest.length < k →
      spec_l3Good.l0 k l l (l.length : Int) (pre.length : Int) = some (decide (l.length ≤ 64) && (rest.map pr).all (fun p => good p.1 p.2)) := by
    intro rest
    induction rest with
    | nil =>
      intro pre k e hk
      obtain ⟨k, rfl⟩ : ∃ m, k = m + 1 := ⟨k - 1, by omega⟩
      simp only [spec_l3Good.l0]
      rw [if_neg (by rw [e]; simp)]
      have : ((l.length : Int) ≤ 64) ↔ l.length ≤ 64 := by omega
      simp [this]
    | cons a rest ih =>
      intro pre k e hk
      obtain ⟨k, rfl⟩ : ∃ m, k = m + 1 := ⟨k - 1, by omega⟩
      have h1 : rd_T45 l (pre.length : Int) = a := by rw [e]; exact rdm_Prefix _ _ _
      have hih := ih (pre ++ [a]) k (by rw [e]; simp) (by simp at hk; omega)
      simp only [spec_l3Good.l0]
      rw [if_pos (by rw [e]; exact lt_mid _ _ _), if_pos (len_nn _), if_pos (by rw [e]; exact lt_mid _ _ _), h1, spec_GoodPrefix_is, Option.bind_some, wrap_mid (rest := rest) (by rw [← e]; simp only [maxLen]; omega), hih]
      by_cases hg : good a.f0 a.f1 = true
      · rw [if_pos hg]; simp [pr, hg]
      · rw [if_neg hg]; simp [pr, hg]
  exact key l [] k rfl hk
theorem impl_arePrefixes_is (k : Nat) (l : List S45) (hl : l.length ≤ 1048576) (hk : l.length < k) : impl_arePrefixes.f k l = some (decide (l.length ≤ 64) && (l.map pr).all (fun p => good p.1 p.2)) := by
  unfold impl_arePrefixes.f slices_ContainsFunc_impl_Prefix_impl_Prefix.f slices_IndexFunc_impl_Prefix_impl_Prefix.f
  rw [any_gen (fun k i => slices_IndexFunc_impl_Prefix_impl_Prefix.l0 k l (l.length : Int) i) l (fun p => !good p.f0 p.f1) (fun k => by
      show slices_IndexFunc_impl_Prefix_impl_Prefix.l0 (k + 1) l (l.length : Int) (l.length : Int) = _
      rw [slices_IndexFunc_impl_Prefix_impl_Prefix.l0, if_neg (not_lt_end l)]) (fun k pre a rest e => by
      show slices_IndexFunc_impl_Prefix_impl_Prefix.l0 (k + 1) l (l.length : Int) (pre.length : Int) = _
      have h1 : rd_T45 l (pre.length : Int) = a := by rw [e]; exact rdm_Prefix _ _ _
      rw [slices_IndexFunc_impl_Prefix_impl_Prefix.l0, if_pos (by rw [e]; exact lt_mid _ _ _), if_pos (len_nn _), if_pos (by rw [e]; exact lt_mid _ _ _), h1]
      unfold impl_arePrefixes_1.f
      rw [impl_GoodPrefix_is, Option.bind_some, Option.bind_some, wrap_mid (rest := rest) (by rw [← e]; simp only [maxLen]; omega)]) k hk]
  have e64 : ((l.length : Int) ≤ 64) ↔ l.length ≤ 64 := by omega
  by_cases h : (l.length : Int) ≤ 64
  · rw [if_pos h, Option.bind_some]
    have h2 := e64.1 h
    simp only [h2, decide_true, Bool.true_and, List.all_map, Function.comp_def, pr]
    rw [List.not_any_eq_all_not]
    simp
  · rw [if_neg h]
    have h2 : ¬ l.length ≤ 64 := fun h' => h (e64.2 h')
    simp [h2]
def setHas (l : List Pr) (x : Int) : Bool := l.any (fun p => decide (p.1 ≤ x ∧ x ≤ p.1 + sz p.2 - 1))
def setHasR (l : List Pr) (x : Int) : Bool × Bool := if (decide (l.length ≤ 64) && l.all (fun p => good p.1 p.2)) = true ∧ (0 ≤ x ∧ x ≤ 4294967295) then (setHas l x, true) else (false, false)
theorem impl_SetHas_is (k : Nat) (l : List S45) (x : Int) (hl : l.length ≤ 1048576) (hk : l.length < k) : impl_SetHas.f k l x = some (setHasR (l.map pr) x) := by
  unfold impl_SetHas.f setHasR
  rw [impl_arePrefixes_is k l hl hk, Option.bind_some]
  have el : (l.map pr).length = l.length := List.length_map ..
  rw [el]
  by_cases hA : (decide (l.length ≤ 64) && (l.map pr).all (fun p => good p.1 p.2)) = true
  · rw [if_pos hA, impl_isAddr_is, Option.bind_some]
    by_cases hx : 0 ≤ x ∧ x ≤ 4294967295
    · rw [if_pos (decide_eq_true hx), if_pos ⟨hA, hx⟩]
      have hg : ∀ p, p ∈ l → good p.f0 p.f1 = true := by
        intro p hp
        simp only [Bool.and_eq_true, List.all_eq_true, List.mem_map] at hA
        exact hA.2 (pr p) ⟨p, hp, rfl⟩
      have key : impl_SetHas_ct.f k l x = some (setHas (l.map pr) x) := by
        unfold impl_SetHas_ct.f impl_SetHas_ix.f
        rw [any_gen (fun k i => impl_SetHas_ix.l0 x k l (l.length : Int) i) l (fun p => decide (p.f0 ≤ x ∧ x ≤ p.f0 + sz p.f1 - 1)) (fun k => by
          show impl_SetHas_ix.l0 x (k + 1) l (l.length : Int) (l.length : Int) = _
          rw [impl_SetHas_ix.l0, if_neg (not_lt_end l)]) (fun k pre a rest e => by
          show impl_SetHas_ix.l0 x (k + 1) l (l.length : Int) (pre.length : Int) = _
          have h1 : rd_T45 l (pre.length : Int) = a := by rw [e]; exact rdm_Prefix _ _ _
          rw [impl_SetHas_ix.l0, if_pos (by rw [e]; exact lt_mid _ _ _), if_pos (len_nn _), if_pos (by rw [e]; exact lt_mid _ _ _), h1]
          unfold impl_SetHas_1.f
          rw [impl_Prefix_has_is x (hg a (by rw [e]; simp)), Option.bind_some, wrap_mid (rest := rest) (by rw [← e]; simp only [maxLen]; omega)]) k hk]
        unfold setHas
        rw [List.any_map]
        rfl
      rw [key, Option.bind_some]
    · rw [if_neg (by simpa using hx), if_neg (fun h => hx h.2)]
  · rw [if_neg hA, if_neg (fun h => hA h.1)]
theorem spec_SetHas_is (k : Nat) (l : List S45) (x : Int) (hl : l.length ≤ 1048576) (hk : l.length + 1 < k) : spec_SetHas.f k l x = some (setHasR (l.map pr) x) := by
  unfold spec_SetHas.f setHasR
  rw [spec_l3Good_is k l hl (by omega), Option.bind_some]
  have el : (l.map pr).length = l.length := List.length_map ..
  rw [el]
  obtain ⟨k, rfl⟩ : ∃ m, k = m + 1 := ⟨k - 1, by omega⟩
  by_cases hA : (decide (l.length ≤ 64) && (l.map pr).all (fun p => good p.1 p.2)) = true
  · rw [if_pos hA, spec_l1Addr_is, Option.bind_some]
    by_cases hx : 0 ≤ x ∧ x ≤ 4294967295
    · rw [if_pos ⟨hA, hx⟩]
      have hg : ∀ p, p ∈ l → good p.f0 p.f1 = true := by
        intro p hp
        simp only [Bool.and_eq_true, List.all_eq_true, List.mem_map] at hA
        exact hA.2 (pr p) ⟨p, hp, rfl⟩
      simp only [spec_SetHas.j0]
      rw [if_neg (by simp [hx])]
      have key : ∀ (rest pre : List S45) (k : Nat), l = pre ++ rest → rest.length < k → spec_SetHas.l0 k x l (l.length : Int) (pre.length : Int) = some (setHas (rest.map pr) x, true) := by
        intro rest
        induction rest with
        | nil =>
          intro pre k e hk
          obtain ⟨k, rfl⟩ : ∃ m, k = m + 1 := ⟨k - 1, by omega⟩
          rw [spec_SetHas.l0, if_neg (by rw [e]; simp)]
          rfl
        | cons a rest ih =>
          intro pre k e hk
          obtain ⟨k, rfl⟩ : ∃ m, k = m + 1 := ⟨k - 1, by omega⟩
          have h1 : rd_T45 l (pre.length : Int) = a := by rw [e]; exact rdm_Prefix _ _ _
          rw [spec_SetHas.l0, if_pos (by rw [e]; exact lt_mid _ _ _), if_pos (len_nn _), if_pos (by rw [e]; exact lt_mid _ _ _), h1, spec_l1HasAddr_is (hg a (by rw [e]; simp)) hx.1 hx.2, Option.bind_some, wrap_mid (rest := rest) (by rw [← e]; simp only [maxLen]; omega), ih (pre ++ [a]) k (by rw [e]; simp) (by simp at hk; omega)]
          by_cases hv : a.f0 ≤ x ∧ x ≤ a.f0 + sz a.f1 - 1
          · rw [if_pos (decide_eq_true hv)]; simp [setHas, pr, hv]
          · rw [if_neg (by simpa using hv)]
            have : decide (a.f0 ≤ x ∧ x ≤ a.f0 + sz a.f1 - 1) = false := decide_eq_false hv
            simp only [setHas, List.map_cons, List.any_cons, pr, this, Bool.false_or]
      exact key l [] k rfl (by omega)
    · rw [if_neg (fun h => hx h.2)]
      simp only [spec_SetHas.j0]
      rw [if_pos (by simp only [decide_eq_false hx, Bool.not_false])]
  · rw [if_neg hA, if_neg (fun h => hA h.1)]
    simp only [spec_SetHas.j0]
    rw [if_pos trivial]

end FnExactSetHasUses
open Go.RowKit Go.Proofs.Ytabejlfejlpkeaa.PFnExactSetHas Go.Proofs.YtabejlfejlpkeaaW.PrintWords Go.Proofs.YtabejlfejlpkeaaW.PrintLast Go.Proofs.YtabejlfejlpkeaaW.PrintMore Go.Proofs.Ytabejlfejlpkeaa.Pfx Go.Proofs.Ytabejlfejlpkeaa.Loop Go.Proofs.Ytabejlfejlpkeaa.Tbl FnExactSetHasUses
set_option linter.unusedVariables false
theorem FnExactSetHas (l0 : List S43) (a1 : Int) (m0 : l0.length ≤ maxLen) (w0 : ∀ a, a ∈ l0 → ((Lit.int .i64 a.f0).wf = true ∧ (Lit.int .i64 a.f1).wf = true)) (w1 : (Lit.int .i64 a1).wf = true) : ∃ k, laws_FnExactSetHas.f k l0 a1 = some true := by
  obtain ⟨r, hr, hb⟩ := laws_szPrefixS_is l0 m0
  by_cases h : r < 0
  · exact ⟨0, by unfold laws_FnExactSetHas.f; rw [hr, Option.bind_some, if_pos h]⟩
  · have hl := hb h
    have hl2 : (l0.map fun p => (⟨p.f0, p.f1⟩ : S45)).length = l0.length := by simp
    refine ⟨l0.length + 3, ?_⟩
    unfold laws_FnExactSetHas.f
    rw [hr, Option.bind_some, if_neg h, laws_toPrefixS_is _ l0 hl (by omega)]
    simp only [Option.bind_some]
    rw [spec_SetHas_is _ _ a1 (by omega) (by omega), impl_SetHas_is _ _ a1 (by omega) (by omega)]
    simp only [Option.bind_some, bne_self_eq_false, Bool.false_eq_true, if_false]
    simp only [laws_FnExactSetHas.j0]
    rw [if_neg (by simp), laws_toPrefixS_is _ l0 hl (by omega)]
    simp only [Option.bind_some]
    rw [laws_eqPrefixS_refl _ _ (by simp only [maxLen]; omega) (by omega)]
    simp
end Go.Proofs.Ytabejlfejlpkeaa.Pure
