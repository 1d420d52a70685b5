/- The pure statement of FnExactGoodAttrs: what the printed functions tell is what the reference tells. No condition but the arguments' own bounds. -/
import Derived.Test.YtlnfcobloolnnaaPFnExactGoodAttrsx3
import Derived.Test.YtlnfcobloolnnaaPfx
import Derived.Test.YtlnfcobloolnnaaLoop
import Derived.Test.YtlnfcobloolnnaaTbl
namespace Go.Proofs.Ytlnfcobloolnnaa.Pure
namespace FnExactGoodAttrsUses
open Go.RowKit Go.Proofs.Ytlnfcobloolnnaa.PFnExactGoodAttrs Go.Proofs.YtlnfcobloolnnaaW.PrintWords Go.Proofs.YtlnfcobloolnnaaW.PrintLast Go.Proofs.YtlnfcobloolnnaaW.PrintMore Go.Proofs.Ytlnfcobloolnnaa.Pfx Go.Proofs.Ytlnfcobloolnnaa.Loop Go.Proofs.Ytlnfcobloolnnaa.Tbl
set_option linter.unusedVariables false
set_option linter.unusedSimpArgs false

theorem spec_l1In_is (a lo hi : Int) : spec_l1In.f a lo hi = some (decide (lo ≤ a ∧ a ≤ hi)) := by
  unfold spec_l1In.f
  by_cases h : lo ≤ a
  · rw [if_pos h]; simp [h]
  · rw [if_neg h]; simp [h]
theorem impl_within_is (a lo hi : Int) : impl_within.f a lo hi = some (decide (lo ≤ a ∧ a ≤ hi)) := by
  unfold impl_within.f
  by_cases h : lo ≤ a
  · rw [if_pos h]; simp [h]
  · rw [if_neg h]; simp [h]
theorem spec_l1Addr_is (a : Int) : spec_l1Addr.f a = some (decide (0 ≤ a ∧ a ≤ 4294967295)) := by
  unfold spec_l1Addr.f; rw [spec_l1In_is]; rfl
theorem impl_isAddr_is (a : Int) : impl_isAddr.f a = some (decide (0 ≤ a ∧ a ≤ 4294967295)) := by
  unfold impl_isAddr.f; rw [impl_within_is]; rfl
theorem impl_isValue_is (a : Int) : impl_isValue.f a = some (isVal a) := by
  unfold impl_isValue.f; rw [impl_within_is]; rfl
theorem laws_szIntS_ex (l : List Int) (hl : l.length ≤ maxLen) (n : Int) (h0 : 0 ≤ n) (h1 : n ≤ 1048576) : ∃ r, laws_szIntS.f l n = some r ∧ (¬ r < 0 → r = n - l.length ∧ (l.length : Int) ≤ n) := by
  have h2 : maxLen = 9223372036854775807 := rfl
  rw [h2] at hl
  unfold laws_szIntS.f
  rw [wrap_id (by omega) (by omega)]
  by_cases h : n - (l.length : Int) < 0
  · exact ⟨_, if_pos h, fun h' => absurd (by omega) h'⟩
  · exact ⟨_, if_neg h, fun _ => ⟨rfl, by omega⟩⟩
theorem laws_szAttrs_ex (a : Int) (l : List Int) (b c d : Int) (m : List Int) (hl : l.length ≤ maxLen) (hm : m.length ≤ maxLen) : ∃ r, laws_szAttrs.f a l b c d m 1048576 = some r ∧ (¬ r < 0 → l.length ≤ 1048576 ∧ m.length ≤ 1048576) := by
  obtain ⟨r, hr, hb⟩ := laws_szIntS_ex l hl 1048576 (by omega) (by omega)
  unfold laws_szAttrs.f
  rw [hr, Option.bind_some]
  by_cases h : r < 0
  · exact ⟨_, if_pos h, fun h' => absurd (by omega) h'⟩
  · have h3 := hb h
    obtain ⟨s, hs, hc⟩ := laws_szIntS_ex m hm r (by omega) (by omega)
    rw [if_neg h, hs, Option.bind_some]
    by_cases h4 : s < 0
    · exact ⟨_, if_pos h4, fun h' => absurd (by omega) h'⟩
    · have h5 := hc h4
      exact ⟨_, if_neg h4, fun _ => ⟨by omega, by omega⟩⟩
theorem laws_toIntS_is (k : Nat) (l : List Int) (hl : l.length ≤ 1048576) (hk : l.length < k) : laws_toIntS.f k l = some l := by
  unfold laws_toIntS.f
  rw [if_pos (len_nn _), if_pos (by simp; omega)]
  have key : ∀ (rest pre : List Int) (k : Nat), l = pre ++ rest → rest.length < k →
      laws_toIntS.l0 k l (pre ++ List.replicate rest.length 0) (pre.length : Int) = some l := by
    intro rest
    induction rest with
    | nil =>
      intro pre k e hk
      obtain ⟨k, rfl⟩ : ∃ m, k = m + 1 := ⟨k - 1, by omega⟩
      simp only [laws_toIntS.l0]
      rw [if_neg (by rw [e]; simp)]
      simp [e]
    | cons a rest ih =>
      intro pre k e hk
      obtain ⟨k, rfl⟩ : ∃ m, k = m + 1 := ⟨k - 1, by omega⟩
      simp only [laws_toIntS.l0]
      rw [if_pos (by rw [e]; exact lt_mid _ _ _), if_pos (len_nn _), if_pos (by simp; omega), wrap_mid (rest := rest) (by rw [← e]; simp only [maxLen]; omega)]
      have h1 : rd l (pre.length : Int) = a := by rw [e]; exact rd_mid _ _ _
      rw [h1, List.length_cons, List.replicate_succ, set_mid]
      have h2 := ih (pre ++ [a]) k (by rw [e]; simp) (by simp at hk; omega)
      rw [List.append_assoc] at h2
      exact h2
  have := key l [] k rfl hk
  simpa using this
theorem laws_toAttrs_is (k : Nat) (a : Int) (l : List Int) (b c d : Int) (m : List Int) (hl : l.length ≤ 1048576) (hm : m.length ≤ 1048576) (hk : l.length + m.length < k) : laws_toAttrs.f k a l b c d m = some (a, l, b, c, d, m) := by
  unfold laws_toAttrs.f
  rw [laws_toIntS_is k l hl (by omega), Option.bind_some, laws_toIntS_is k m hm (by omega)]; rfl
theorem laws_eqIntS_refl (k : Nat) (l : List Int) (hl : l.length ≤ maxLen) (hk : l.length < k) : laws_eqIntS.f k l l = some true := by
  unfold laws_eqIntS.f
  rw [if_pos rfl]
  have key : ∀ (rest pre : List Int) (k : Nat), l = pre ++ rest → rest.length < k → laws_eqIntS.l0 k l l (pre.length : Int) = some true := by
    intro rest
    induction rest with
    | nil =>
      intro pre k e hk
      obtain ⟨k, rfl⟩ : ∃ m, k = m + 1 := ⟨k - 1, by omega⟩
      simp only [laws_eqIntS.l0]
      rw [if_neg (by rw [e]; simp)]
    | cons a rest ih =>
      intro pre k e hk
      obtain ⟨k, rfl⟩ : ∃ m, k = m + 1 := ⟨k - 1, by omega⟩
      simp only [laws_eqIntS.l0]
      rw [if_pos (by rw [e]; exact lt_mid _ _ _), if_pos (len_nn _), if_pos (by rw [e]; exact lt_mid _ _ _)]
      simp only [if_true]
      rw [wrap_mid (rest := rest) (by rw [← e]; exact hl)]
      exact ih (pre ++ [a]) k (by rw [e]; simp) (by simp at hk; omega)
  exact key l [] k rfl hk
theorem laws_eqAttrs_refl (k : Nat) (a : Int) (l : List Int) (b c d : Int) (m : List Int) (hl : l.length ≤ maxLen) (hm : m.length ≤ maxLen) (hk : l.length + m.length < k) : laws_eqAttrs.f k a l b c d m a l b c d m = some true := by
  unfold laws_eqAttrs.f
  rw [if_pos rfl, laws_eqIntS_refl k l hl (by omega), Option.bind_some, if_pos rfl, if_pos rfl, if_pos rfl, if_pos rfl, laws_eqIntS_refl k m hm (by omega), Option.bind_some, if_pos rfl]
def pathOk (l : List Int) : Bool := l.all fun a => decide (1 ≤ a ∧ a ≤ 65535)
theorem idx_Path (l : List Int) (hl : l.length ≤ maxLen) : ∀ (rest pre : List Int), l = pre ++ rest →
    ∃ r : Int, Ev (fun k => slices_IndexFunc_int_int.l0 k l (l.length : Int) (pre.length : Int)) r ∧ (decide (r ≥ 0) = !pathOk rest) := by
  intro rest
  induction rest with
  | nil =>
    intro pre e
    refine ⟨-1, Ev.step (f := fun _ => some (-1)) (fun k => ?_) (Ev.now _), by simp [pathOk]⟩
    simp only [slices_IndexFunc_int_int.l0]
    rw [if_neg (by rw [e]; simp)]
  | cons a rest ih =>
    intro pre e
    have hlt : (pre.length : Int) < (l.length : Int) := by rw [e]; exact lt_mid _ _ _
    have h1 : rd l (pre.length : Int) = a := by rw [e]; exact rd_mid _ _ _
    by_cases hm : 1 ≤ a ∧ a ≤ 65535
    · obtain ⟨r, hr, hb⟩ := ih (pre ++ [a]) (by rw [e]; simp)
      refine ⟨r, Ev.step (fun k => ?_) hr, by rw [hb]; simp [pathOk, hm]⟩
      simp only [slices_IndexFunc_int_int.l0, impl_isPath_1.f, impl_isAsn.f]
      rw [if_pos hlt, if_pos (len_nn _), if_pos hlt, h1, impl_within_is]
      simp only [Option.bind_some]
      rw [if_neg (by simp [hm]), wrap_mid (rest := rest) (by rw [← e]; exact hl)]
    · refine ⟨(pre.length : Int), Ev.step (f := fun _ => some (pre.length : Int)) (fun k => ?_) (Ev.now _), ?_⟩
      · simp only [slices_IndexFunc_int_int.l0, impl_isPath_1.f, impl_isAsn.f]
        rw [if_pos hlt, if_pos (len_nn _), if_pos hlt, h1, impl_within_is]
        simp only [Option.bind_some]
        rw [if_pos (by simp; omega)]
      · have : pathOk (a :: rest) = false := by
          unfold pathOk
          rw [List.all_cons, decide_eq_false hm, Bool.false_and]
        rw [this]; simp
theorem impl_isPath_is (l : List Int) (hl : l.length ≤ maxLen) : Ev (fun k => impl_isPath.f k l) (decide (l.length ≤ 10) && pathOk l) := by
  by_cases h : (l.length : Int) ≤ 10
  · have h' : l.length ≤ 10 := by omega
    obtain ⟨r, hr, hb⟩ := idx_Path l hl l [] rfl
    refine Ev.congr (fun k => by unfold impl_isPath.f slices_ContainsFunc_int_int.f; rw [if_pos h]) (Ev.bind (f := fun _ b => some (!b)) (Ev.bind (g := fun k => slices_IndexFunc_int_int.f k l) (f := fun _ t => some (decide (t ≥ 0))) hr (Ev.now _)) ?_)
    rw [hb]
    simp only [h', decide_true, Bool.true_and, Bool.not_not]
    exact Ev.now _
  · have h' : ¬ l.length ≤ 10 := by omega
    rw [show (decide (l.length ≤ 10) && pathOk l) = false by simp [h']]
    exact Ev.congr (fun k => by unfold impl_isPath.f; rw [if_neg h]) (Ev.now _)
def commOk : Int → List Int → Bool
  | _, [] => true
  | p, a :: t => decide (0 ≤ a ∧ a ≤ 1000000) && (decide (p < a) && commOk a t)
def prevOf (pre : List Int) : Int := if pre = [] then -1 else rd pre ((pre.length : Int) - 1)
theorem prevOf_snoc (pre : List Int) (a : Int) : prevOf (pre ++ [a]) = a := by
  unfold prevOf
  rw [if_neg (by simp)]
  rw [show (((pre ++ [a]).length : Int) - 1) = (pre.length : Int) by simp]
  exact rd_mid pre a []
theorem rd_prev {pre : List Int} (h : pre ≠ []) (rest : List Int) : rd (pre ++ rest) ((pre.length : Int) - 1) = prevOf pre := by
  obtain h2 | ⟨p, q, rfl⟩ := snoc_cases pre
  · exact absurd h2 h
  · rw [prevOf_snoc]
    rw [show (((p ++ [q]).length : Int) - 1) = (p.length : Int) by simp, List.append_assoc]
    exact rd_mid p q rest
theorem impl_areComms_is (l : List Int) (hl : l.length ≤ 1048576) : Ev (fun k => impl_areComms.f k l) (commOk (-1) l && decide (l.length ≤ 6)) := by
  have key : ∀ (rest pre : List Int), l = pre ++ rest →
      Ev (fun k => impl_areComms.l0 k l l (l.length : Int) (pre.length : Int)) (commOk (prevOf pre) rest && decide (l.length ≤ 6)) := by
    intro rest
    induction rest with
    | nil =>
      intro pre e
      refine Ev.step (f := fun _ => some (decide (l.length ≤ 6))) (fun k => ?_) (by simp only [commOk, Bool.true_and]; exact Ev.now _)
      simp only [impl_areComms.l0]
      rw [if_neg (by rw [e]; simp)]
      congr 1
      exact decide_eq_decide.mpr (by omega)
    | cons a rest ih =>
      intro pre e
      have hlt : (pre.length : Int) < (l.length : Int) := by rw [e]; exact lt_mid _ _ _
      have h1 : rd l (pre.length : Int) = a := by rw [e]; exact rd_mid _ _ _
      have hr := ih (pre ++ [a]) (by rw [e]; simp)
      rw [prevOf_snoc] at hr
      have hw := wrap_mid (pre := pre) (a := a) (rest := rest) (by rw [← e]; simp only [maxLen]; omega)
      simp only [commOk]
      by_cases hm : 0 ≤ a ∧ a ≤ 1000000
      · rw [decide_eq_true hm, Bool.true_and]
        by_cases hp : pre = []
        · have hq : prevOf pre < a := by unfold prevOf; rw [if_pos hp]; omega
          rw [decide_eq_true hq, Bool.true_and]
          refine Ev.step (fun k => ?_) hr
          simp only [impl_areComms.l0, impl_isValue.f]
          rw [if_pos hlt, if_pos (len_nn _), if_pos hlt, h1, impl_within_is]
          simp only [Option.bind_some]
          rw [if_pos (decide_eq_true hm), if_neg (by rw [hp]; simp), hw]
        · have hn : 0 < pre.length := List.length_pos_iff.mpr hp
          have hv : wrap64 ((pre.length : Int) - 1) = (pre.length : Int) - 1 := wrap_id (by omega) (by omega)
          have hr2 : rd l ((pre.length : Int) - 1) = prevOf pre := by rw [e]; exact rd_prev hp _
          by_cases hq : prevOf pre < a
          · rw [decide_eq_true hq, Bool.true_and]
            refine Ev.step (fun k => ?_) hr
            simp only [impl_areComms.l0, impl_isValue.f]
            rw [if_pos hlt, if_pos (len_nn _), if_pos hlt, h1, impl_within_is]
            simp only [Option.bind_some]
            rw [if_pos (decide_eq_true hm), if_pos (by omega), hv, if_pos (by omega), if_pos (by omega), hr2, if_neg (by omega), hw]
          · rw [decide_eq_false hq, Bool.false_and]
            refine Ev.step (f := fun _ => some false) (fun k => ?_) (Ev.now _)
            simp only [impl_areComms.l0, impl_isValue.f]
            rw [if_pos hlt, if_pos (len_nn _), if_pos hlt, h1, impl_within_is]
            simp only [Option.bind_some]
            rw [if_pos (decide_eq_true hm), if_pos (by omega), hv, if_pos (by omega), if_pos (by omega), hr2, if_pos (by omega)]
      · rw [decide_eq_false hm, Bool.false_and, Bool.false_and]
        refine Ev.step (f := fun _ => some false) (fun k => ?_) (Ev.now _)
        simp only [impl_areComms.l0, impl_isValue.f]
        rw [if_pos hlt, if_pos (len_nn _), if_pos hlt, h1, impl_within_is]
        simp only [Option.bind_some]
        rw [if_neg (by rw [decide_eq_false hm]; simp)]
  exact key l [] rfl
def attrsOk (a : Int) (l : List Int) (b c d : Int) (m : List Int) : Bool :=
  decide (0 ≤ a ∧ a ≤ 2) && ((decide (l.length ≤ 10) && pathOk l) && (decide (0 ≤ b ∧ b ≤ 4294967295) && (decide (0 ≤ c ∧ c ≤ 1000000) && (decide (0 ≤ d ∧ d ≤ 1000000) && (commOk (-1) m && decide (m.length ≤ 6))))))
theorem Ev_and {x y : Bool} {g : Nat → Option Bool} (h : Ev g y) : Ev (fun k => if x = true then g k else some false) (x && y) := by
  cases x with
  | true => exact Ev.congr (fun k => if_pos rfl) h
  | false => exact Ev.congr (fun k => if_neg (by simp)) (Ev.now _)
theorem impl_GoodAttrs_is (a : Int) (l : List Int) (b c d : Int) (m : List Int) (hl : l.length ≤ 1048576) (hm : m.length ≤ 1048576) : Ev (fun k => impl_GoodAttrs.f k a l b c d m) (attrsOk a l b c d m) := by
  obtain ⟨K1, h1⟩ := impl_isPath_is l (by simp only [maxLen]; omega)
  obtain ⟨K2, h2⟩ := impl_areComms_is m hm
  replace h1 : ∀ k, K1 ≤ k → impl_isPath.f k l = _ := h1
  replace h2 : ∀ k, K2 ≤ k → impl_areComms.f k m = _ := h2
  refine ⟨K1 + K2, fun k hk => ?_⟩
  simp only [impl_GoodAttrs.f, impl_isAddr.f, impl_isValue.f, impl_within_is, Option.bind_some]
  rw [h1 k (by omega), h2 k (by omega)]
  simp only [Option.bind_some]
  unfold attrsOk
  generalize decide (0 ≤ a ∧ a ≤ 2) = x1
  generalize (decide (l.length ≤ 10) && pathOk l) = x2
  generalize decide (0 ≤ b ∧ b ≤ 4294967295) = x3
  generalize decide (0 ≤ c ∧ c ≤ 1000000) = x4
  generalize decide (0 ≤ d ∧ d ≤ 1000000) = x5
  generalize (commOk (-1) m && decide (m.length ≤ 6)) = x6
  cases x1 <;> cases x2 <;> cases x3 <;> cases x4 <;> cases x5 <;> cases x6 <;> rfl
theorem spec_GoodAttrs_is (a : Int) (l : List Int) (b c d : Int) (m : List Int) (hl : l.length ≤ 1048576) (hm : m.length ≤ 1048576) : Ev (fun k => spec_GoodAttrs.f k a l b c d m) (attrsOk a l b c d m) := by
  have k1 : ∀ (rest pre : List Int), m = pre ++ rest →
      Ev (fun k => spec_GoodAttrs.l1 k m (m.length : Int) (pre.length : Int) a l b c d m) (commOk (prevOf pre) rest && (decide (0 ≤ a ∧ a ≤ 2) && (decide (l.length ≤ 10) && (decide (0 ≤ b ∧ b ≤ 4294967295) && (decide (0 ≤ c ∧ c ≤ 1000000) && (decide (0 ≤ d ∧ d ≤ 1000000) && decide (m.length ≤ 6))))))) := by
    intro rest
    induction rest with
    | nil =>
      intro pre e
      simp only [commOk, Bool.true_and]
      refine Ev.step (f := fun _ => _) (fun k => ?_) (Ev_and (Ev_and (Ev_and (Ev_and (Ev_and (Ev.now _))))))
      simp only [spec_GoodAttrs.l1]
      rw [if_neg (by rw [e]; simp), spec_l1In_is, Option.bind_some]
      by_cases h1 : 0 ≤ a ∧ a ≤ 2
      · rw [if_pos (decide_eq_true h1), if_pos (decide_eq_true h1)]
        by_cases h2 : (l.length : Int) ≤ 10
        · have h2' : l.length ≤ 10 := by omega
          rw [if_pos h2, if_pos (decide_eq_true h2')]
          simp only [spec_l1Addr_is, spec_l1In_is, Option.bind_some]
          have : decide ((m.length : Int) ≤ 6) = decide (m.length ≤ 6) := decide_eq_decide.mpr (by omega)
          rw [this]
        · have h2' : ¬ l.length ≤ 10 := by omega
          rw [if_neg h2, if_neg (by simpa using h2')]
      · rw [if_neg (by rw [decide_eq_false h1]; simp), if_neg (by rw [decide_eq_false h1]; simp)]
    | cons x rest ih =>
      intro pre e
      have hlt : (pre.length : Int) < (m.length : Int) := by rw [e]; exact lt_mid _ _ _
      have h1 : rd m (pre.length : Int) = x := by rw [e]; exact rd_mid _ _ _
      have hr := ih (pre ++ [x]) (by rw [e]; simp)
      rw [prevOf_snoc] at hr
      have hw := wrap_mid (pre := pre) (a := x) (rest := rest) (by rw [← e]; simp only [maxLen]; omega)
      simp only [commOk]
      by_cases hm : 0 ≤ x ∧ x ≤ 1000000
      · rw [decide_eq_true hm, Bool.true_and]
        by_cases hp : pre = []
        · have hq : prevOf pre < x := by unfold prevOf; rw [if_pos hp]; omega
          rw [decide_eq_true hq, Bool.true_and]
          refine Ev.step (fun k => ?_) hr
          simp only [spec_GoodAttrs.l1]
          rw [if_pos hlt, if_pos (len_nn _), if_pos hlt, h1, spec_l1In_is]
          simp only [Option.bind_some]
          rw [if_pos (decide_eq_true hm), if_neg (by rw [hp]; simp), hw]
        · have hn : 0 < pre.length := List.length_pos_iff.mpr hp
          have hv : wrap64 ((pre.length : Int) - 1) = (pre.length : Int) - 1 := wrap_id (by omega) (by omega)
          have hr2 : rd m ((pre.length : Int) - 1) = prevOf pre := by rw [e]; exact rd_prev hp _
          by_cases hq : prevOf pre < x
          · rw [decide_eq_true hq, Bool.true_and]
            refine Ev.step (fun k => ?_) hr
            simp only [spec_GoodAttrs.l1]
            rw [if_pos hlt, if_pos (len_nn _), if_pos hlt, h1, spec_l1In_is]
            simp only [Option.bind_some]
            rw [if_pos (decide_eq_true hm), if_pos (by omega), hv, if_pos (by omega), if_pos (by omega), hr2, if_neg (by omega), hw]
          · rw [decide_eq_false hq, Bool.false_and]
            refine Ev.step (f := fun _ => some false) (fun k => ?_) (Ev.now _)
            simp only [spec_GoodAttrs.l1]
            rw [if_pos hlt, if_pos (len_nn _), if_pos hlt, h1, spec_l1In_is]
            simp only [Option.bind_some]
            rw [if_pos (decide_eq_true hm), if_pos (by omega), hv, if_pos (by omega), if_pos (by omega), hr2, if_pos (by omega)]
      · rw [decide_eq_false hm, Bool.false_and, Bool.false_and]
        refine Ev.step (f := fun _ => some false) (fun k => ?_) (Ev.now _)
        simp only [spec_GoodAttrs.l1]
        rw [if_pos hlt, if_pos (len_nn _), if_pos hlt, h1, spec_l1In_is]
        simp only [Option.bind_some]
        rw [if_neg (by rw [decide_eq_false hm]; simp)]
  have k0 : ∀ (rest pre : List Int) (r : Bool), Ev (fun k => spec_GoodAttrs.l1 k m (m.length : Int) 0 a l b c d m) r → l = pre ++ rest →
      Ev (fun k => spec_GoodAttrs.l0 k l (l.length : Int) (pre.length : Int) a l b c d m) (pathOk rest && r) := by
    intro rest
    induction rest with
    | nil =>
      intro pre r hr e
      rw [show (pathOk [] && r) = r by simp [pathOk]]
      refine Ev.step (fun k => ?_) hr
      simp only [spec_GoodAttrs.l0]
      rw [if_neg (by rw [e]; simp)]
    | cons x rest ih =>
      intro pre r hr e
      have hlt : (pre.length : Int) < (l.length : Int) := by rw [e]; exact lt_mid _ _ _
      have h1 : rd l (pre.length : Int) = x := by rw [e]; exact rd_mid _ _ _
      have hw := wrap_mid (pre := pre) (a := x) (rest := rest) (by rw [← e]; simp only [maxLen]; omega)
      have hi := ih (pre ++ [x]) r hr (by rw [e]; simp)
      by_cases hx : 1 ≤ x ∧ x ≤ 65535
      · rw [show pathOk (x :: rest) = pathOk rest by unfold pathOk; rw [List.all_cons, decide_eq_true hx, Bool.true_and]]
        refine Ev.step (fun k => ?_) hi
        simp only [spec_GoodAttrs.l0]
        rw [if_pos hlt, if_pos (len_nn _), if_pos hlt, h1, spec_l1In_is]
        simp only [Option.bind_some]
        rw [if_pos (decide_eq_true hx), hw]
      · rw [show pathOk (x :: rest) = false by unfold pathOk; rw [List.all_cons, decide_eq_false hx, Bool.false_and], Bool.false_and]
        refine Ev.step (f := fun _ => some false) (fun k => ?_) (Ev.now _)
        simp only [spec_GoodAttrs.l0]
        rw [if_pos hlt, if_pos (len_nn _), if_pos hlt, h1, spec_l1In_is]
        simp only [Option.bind_some]
        rw [if_neg (by rw [decide_eq_false hx]; simp)]
  have := k0 l [] _ (k1 m [] rfl) rfl
  have e : attrsOk a l b c d m = (pathOk l && (commOk (prevOf []) m && (decide (0 ≤ a ∧ a ≤ 2) && (decide (l.length ≤ 10) && (decide (0 ≤ b ∧ b ≤ 4294967295) && (decide (0 ≤ c ∧ c ≤ 1000000) && (decide (0 ≤ d ∧ d ≤ 1000000) && decide (m.length ≤ 6)))))))) := by
    rw [show prevOf [] = -1 from rfl]
    unfold attrsOk
    generalize decide (0 ≤ a ∧ a ≤ 2) = x1
    generalize decide (l.length ≤ 10) = x2
    generalize decide (0 ≤ b ∧ b ≤ 4294967295) = x3
    generalize decide (0 ≤ c ∧ c ≤ 1000000) = x4
    generalize decide (0 ≤ d ∧ d ≤ 1000000) = x5
    generalize decide (m.length ≤ 6) = x6
    generalize pathOk l = x7
    generalize commOk (-1) m = x8
    cases x1 <;> cases x2 <;> cases x3 <;> cases x4 <;> cases x5 <;> cases x6 <;> cases x7 <;> cases x8 <;> rfl
  rw [e]; exact this

end FnExactGoodAttrsUses
open Go.RowKit Go.Proofs.Ytlnfcobloolnnaa.PFnExactGoodAttrs Go.Proofs.YtlnfcobloolnnaaW.PrintWords Go.Proofs.YtlnfcobloolnnaaW.PrintLast Go.Proofs.YtlnfcobloolnnaaW.PrintMore Go.Proofs.Ytlnfcobloolnnaa.Pfx Go.Proofs.Ytlnfcobloolnnaa.Loop Go.Proofs.Ytlnfcobloolnnaa.Tbl FnExactGoodAttrsUses
set_option linter.unusedVariables false
theorem FnExactGoodAttrs (a0_0 : Int) (l0_1 : List Int) (a0_2 : Int) (a0_3 : Int) (a0_4 : Int) (l0_5 : List Int) (w0_0 : (Lit.int .i64 a0_0).wf = true) (m0_1 : l0_1.length ≤ maxLen) (w0_1 : ∀ a, a ∈ l0_1 → (Lit.int .i64 a).wf = true) (w0_2 : (Lit.int .i64 a0_2).wf = true) (w0_3 : (Lit.int .i64 a0_3).wf = true) (w0_4 : (Lit.int .i64 a0_4).wf = true) (m0_5 : l0_5.length ≤ maxLen) (w0_5 : ∀ a, a ∈ l0_5 → (Lit.int .i64 a).wf = true) : ∃ k, laws_FnExactGoodAttrs.f k a0_0 l0_1 a0_2 a0_3 a0_4 l0_5 = some true := by
  obtain ⟨r, hr, hb⟩ := laws_szAttrs_ex a0_0 l0_1 a0_2 a0_3 a0_4 l0_5 m0_1 m0_5
  by_cases h : r < 0
  · exact ⟨0, by unfold laws_FnExactGoodAttrs.f; rw [hr, Option.bind_some, if_pos h]⟩
  · obtain ⟨hl, hm⟩ := hb h
    obtain ⟨K1, h1⟩ := spec_GoodAttrs_is a0_0 l0_1 a0_2 a0_3 a0_4 l0_5 hl hm
    obtain ⟨K2, h2⟩ := impl_GoodAttrs_is a0_0 l0_1 a0_2 a0_3 a0_4 l0_5 hl hm
    replace h1 : ∀ k, K1 ≤ k → spec_GoodAttrs.f k a0_0 l0_1 a0_2 a0_3 a0_4 l0_5 = _ := h1
    replace h2 : ∀ k, K2 ≤ k → impl_GoodAttrs.f k a0_0 l0_1 a0_2 a0_3 a0_4 l0_5 = _ := h2
    refine ⟨K1 + K2 + l0_1.length + l0_5.length + 1, ?_⟩
    unfold laws_FnExactGoodAttrs.f
    rw [hr, Option.bind_some, if_neg h, laws_toAttrs_is _ _ _ _ _ _ _ hl hm (by omega)]
    simp only [Option.bind_some]
    rw [h1 _ (by omega), h2 _ (by omega)]
    simp only [Option.bind_some, bne_self_eq_false]
    rw [if_neg (by simp), laws_eqAttrs_refl _ _ _ _ _ _ _ (by simp only [maxLen]; omega) (by simp only [maxLen]; omega) (by omega)]
    simp
end Go.Proofs.Ytlnfcobloolnnaa.Pure
