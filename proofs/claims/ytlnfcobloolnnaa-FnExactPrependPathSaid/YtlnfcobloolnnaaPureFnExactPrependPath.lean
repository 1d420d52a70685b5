/- The pure statement of FnExactPrependPath: what the printed functions tell is what the reference tells. No condition but the arguments' own bounds. -/
import Derived.Test.YtlnfcobloolnnaaPFnExactPrependPathx7
import Derived.Test.YtlnfcobloolnnaaPfx
import Derived.Test.YtlnfcobloolnnaaLoop
import Derived.Test.YtlnfcobloolnnaaTbl
namespace Go.Proofs.Ytlnfcobloolnnaa.Pure
namespace FnExactPrependPathUses
open Go.RowKit Go.Proofs.Ytlnfcobloolnnaa.PFnExactPrependPath Go.Proofs.YtlnfcobloolnnaaW.PrintWords Go.Proofs.YtlnfcobloolnnaaW.PrintLast Go.Proofs.YtlnfcobloolnnaaW.PrintMore Go.Proofs.Ytlnfcobloolnnaa.Pfx Go.Proofs.Ytlnfcobloolnnaa.Loop Go.Proofs.Ytlnfcobloolnnaa.Tbl
set_option linter.unusedVariables false
set_option linter.unusedSimpArgs false

theorem spec_l1In_is (a lo hi : Int) : spec_l1In.f a lo hi = some (decide (lo ≤ a ∧ a ≤ hi)) := by
  unfold spec_l1In.f
  by_cases h : lo ≤ a
  · rw [if_pos h]; simp [h]
  · rw [if_neg h]; simp [h]
theorem impl_within_is (a lo hi : Int) : impl_within.f a lo hi = some (decide (lo ≤ a ∧ a ≤ hi)) := by
  unfold impl_within.f
  by_cases h : lo ≤ a
  · rw [if_pos h]; simp [h]
  · rw [if_neg h]; simp [h]
theorem spec_l1Addr_is (a : Int) : spec_l1Addr.f a = some (decide (0 ≤ a ∧ a ≤ 4294967295)) := by
  unfold spec_l1Addr.f; rw [spec_l1In_is]; rfl
theorem impl_isAddr_is (a : Int) : impl_isAddr.f a = some (decide (0 ≤ a ∧ a ≤ 4294967295)) := by
  unfold impl_isAddr.f; rw [impl_within_is]; rfl
theorem impl_isValue_is (a : Int) : impl_isValue.f a = some (isVal a) := by
  unfold impl_isValue.f; rw [impl_within_is]; rfl
theorem laws_szIntS_ex (l : List Int) (hl : l.length ≤ maxLen) (n : Int) (h0 : 0 ≤ n) (h1 : n ≤ 1048576) : ∃ r, laws_szIntS.f l n = some r ∧ (¬ r < 0 → r = n - l.length ∧ (l.length : Int) ≤ n) := by
  have h2 : maxLen = 9223372036854775807 := rfl
  rw [h2] at hl
  unfold laws_szIntS.f
  rw [wrap_id (by omega) (by omega)]
  by_cases h : n - (l.length : Int) < 0
  · exact ⟨_, if_pos h, fun h' => absurd (by omega) h'⟩
  · exact ⟨_, if_neg h, fun _ => ⟨rfl, by omega⟩⟩
theorem laws_szAttrs_ex (a : Int) (l : List Int) (b c d : Int) (m : List Int) (hl : l.length ≤ maxLen) (hm : m.length ≤ maxLen) : ∃ r, laws_szAttrs.f a l b c d m 1048576 = some r ∧ (¬ r < 0 → l.length ≤ 1048576 ∧ m.length ≤ 1048576) := by
  obtain ⟨r, hr, hb⟩ := laws_szIntS_ex l hl 1048576 (by omega) (by omega)
  unfold laws_szAttrs.f
  rw [hr, Option.bind_some]
  by_cases h : r < 0
  · exact ⟨_, if_pos h, fun h' => absurd (by omega) h'⟩
  · have h3 := hb h
    obtain ⟨s, hs, hc⟩ := laws_szIntS_ex m hm r (by omega) (by omega)
    rw [if_neg h, hs, Option.bind_some]
    by_cases h4 : s < 0
    · exact ⟨_, if_pos h4, fun h' => absurd (by omega) h'⟩
    · have h5 := hc h4
      exact ⟨_, if_neg h4, fun _ => ⟨by omega, by omega⟩⟩
theorem laws_toIntS_is (k : Nat) (l : List Int) (hl : l.length ≤ 1048576) (hk : l.length < k) : laws_toIntS.f k l = some l := by
  unfold laws_toIntS.f
  rw [if_pos (len_nn _), if_pos (by simp; omega)]
  have key : ∀ (rest pre : List Int) (k : Nat), l = pre ++ rest → rest.length < k →
      laws_toIntS.l0 k l (pre ++ List.replicate rest.length 0) (pre.length : Int) = some l := by
    intro rest
    induction rest with
    | nil =>
      intro pre k e hk
      obtain ⟨k, rfl⟩ : ∃ m, k = m + 1 := ⟨k - 1, by omega⟩
      simp only [laws_toIntS.l0]
      rw [if_neg (by rw [e]; simp)]
      simp [e]
    | cons a rest ih =>
      intro pre k e hk
      obtain ⟨k, rfl⟩ : ∃ m, k = m + 1 := ⟨k - 1, by omega⟩
      simp only [laws_toIntS.l0]
      rw [if_pos (by rw [e]; exact lt_mid _ _ _), if_pos (len_nn _), if_pos (by simp; omega), wrap_mid (rest := rest) (by rw [← e]; simp only [maxLen]; omega)]
      have h1 : rd l (pre.length : Int) = a := by rw [e]; exact rd_mid _ _ _
      rw [h1, List.length_cons, List.replicate_succ, set_mid]
      have h2 := ih (pre ++ [a]) k (by rw [e]; simp) (by simp at hk; omega)
      rw [List.append_assoc] at h2
      exact h2
  have := key l [] k rfl hk
  simpa using this
theorem laws_toAttrs_is (k : Nat) (a : Int) (l : List Int) (b c d : Int) (m : List Int) (hl : l.length ≤ 1048576) (hm : m.length ≤ 1048576) (hk : l.length + m.length < k) : laws_toAttrs.f k a l b c d m = some (a, l, b, c, d, m) := by
  unfold laws_toAttrs.f
  rw [laws_toIntS_is k l hl (by omega), Option.bind_some, laws_toIntS_is k m hm (by omega)]; rfl
theorem laws_eqIntS_refl (k : Nat) (l : List Int) (hl : l.length ≤ maxLen) (hk : l.length < k) : laws_eqIntS.f k l l = some true := by
  unfold laws_eqIntS.f
  rw [if_pos rfl]
  have key : ∀ (rest pre : List Int) (k : Nat), l = pre ++ rest → rest.length < k → laws_eqIntS.l0 k l l (pre.length : Int) = some true := by
    intro rest
    induction rest with
    | nil =>
      intro pre k e hk
      obtain ⟨k, rfl⟩ : ∃ m, k = m + 1 := ⟨k - 1, by omega⟩
      simp only [laws_eqIntS.l0]
      rw [if_neg (by rw [e]; simp)]
    | cons a rest ih =>
      intro pre k e hk
      obtain ⟨k, rfl⟩ : ∃ m, k = m + 1 := ⟨k - 1, by omega⟩
      simp only [laws_eqIntS.l0]
      rw [if_pos (by rw [e]; exact lt_mid _ _ _), if_pos (len_nn _), if_pos (by rw [e]; exact lt_mid _ _ _)]
      simp only [if_true]
      rw [wrap_mid (rest := rest) (by rw [← e]; exact hl)]
      exact ih (pre ++ [a]) k (by rw [e]; simp) (by simp at hk; omega)
  exact key l [] k rfl hk
theorem laws_eqAttrs_refl (k : Nat) (a : Int) (l : List Int) (b c d : Int) (m : List Int) (hl : l.length ≤ maxLen) (hm : m.length ≤ maxLen) (hk : l.length + m.length < k) : laws_eqAttrs.f k a l b c d m a l b c d m = some true := by
  unfold laws_eqAttrs.f
  rw [if_pos rfl, laws_eqIntS_refl k l hl (by omega), Option.bind_some, if_pos rfl, if_pos rfl, if_pos rfl, if_pos rfl, laws_eqIntS_refl k m hm (by omega), Option.bind_some, if_pos rfl]
def pathOk (l : List Int) : Bool := l.all fun a => decide (1 ≤ a ∧ a ≤ 65535)
theorem idx_Path (l : List Int) (hl : l.length ≤ maxLen) : ∀ (rest pre : List Int), l = pre ++ rest →
    ∃ r : Int, Ev (fun k => slices_IndexFunc_int_int.l0 k l (l.length : Int) (pre.length : Int)) r ∧ (decide (r ≥ 0) = !pathOk rest) := by
  intro rest
  induction rest with
  | nil =>
    intro pre e
    refine ⟨-1, Ev.step (f := fun _ => some (-1)) (fun k => ?_) (Ev.now _), by simp [pathOk]⟩
    simp only [slices_IndexFunc_int_int.l0]
    rw [if_neg (by rw [e]; simp)]
  | cons a rest ih =>
    intro pre e
    have hlt : (pre.length : Int) < (l.length : Int) := by rw [e]; exact lt_mid _ _ _
    have h1 : rd l (pre.length : Int) = a := by rw [e]; exact rd_mid _ _ _
    by_cases hm : 1 ≤ a ∧ a ≤ 65535
    · obtain ⟨r, hr, hb⟩ := ih (pre ++ [a]) (by rw [e]; simp)
      refine ⟨r, Ev.step (fun k => ?_) hr, by rw [hb]; simp [pathOk, hm]⟩
      simp only [slices_IndexFunc_int_int.l0, impl_isPath_1.f, impl_isAsn.f]
      rw [if_pos hlt, if_pos (len_nn _), if_pos hlt, h1, impl_within_is]
      simp only [Option.bind_some]
      rw [if_neg (by simp [hm]), wrap_mid (rest := rest) (by rw [← e]; exact hl)]
    · refine ⟨(pre.length : Int), Ev.step (f := fun _ => some (pre.length : Int)) (fun k => ?_) (Ev.now _), ?_⟩
      · simp only [slices_IndexFunc_int_int.l0, impl_isPath_1.f, impl_isAsn.f]
        rw [if_pos hlt, if_pos (len_nn _), if_pos hlt, h1, impl_within_is]
        simp only [Option.bind_some]
        rw [if_pos (by simp; omega)]
      · have : pathOk (a :: rest) = false := by
          unfold pathOk
          rw [List.all_cons, decide_eq_false hm, Bool.false_and]
        rw [this]; simp
theorem impl_isPath_is (l : List Int) (hl : l.length ≤ maxLen) : Ev (fun k => impl_isPath.f k l) (decide (l.length ≤ 10) && pathOk l) := by
  by_cases h : (l.length : Int) ≤ 10
  · have h' : l.length ≤ 10 := by omega
    obtain ⟨r, hr, hb⟩ := idx_Path l hl l [] rfl
    refine Ev.congr (fun k => by unfold impl_isPath.f slices_ContainsFunc_int_int.f; rw [if_pos h]) (Ev.bind (f := fun _ b => some (!b)) (Ev.bind (g := fun k => slices_IndexFunc_int_int.f k l) (f := fun _ t => some (decide (t ≥ 0))) hr (Ev.now _)) ?_)
    rw [hb]
    simp only [h', decide_true, Bool.true_and, Bool.not_not]
    exact Ev.now _
  · have h' : ¬ l.length ≤ 10 := by omega
    rw [show (decide (l.length ≤ 10) && pathOk l) = false by simp [h']]
    exact Ev.congr (fun k => by unfold impl_isPath.f; rw [if_neg h]) (Ev.now _)
def commOk : Int → List Int → Bool
  | _, [] => true
  | p, a :: t => decide (0 ≤ a ∧ a ≤ 1000000) && (decide (p < a) && commOk a t)
def prevOf (pre : List Int) : Int := if pre = [] then -1 else rd pre ((pre.length : Int) - 1)
theorem prevOf_snoc (pre : List Int) (a : Int) : prevOf (pre ++ [a]) = a := by
  unfold prevOf
  rw [if_neg (by simp)]
  rw [show (((pre ++ [a]).length : Int) - 1) = (pre.length : Int) by simp]
  exact rd_mid pre a []
theorem rd_prev {pre : List Int} (h : pre ≠ []) (rest : List Int) : rd (pre ++ rest) ((pre.length : Int) - 1) = prevOf pre := by
  obtain h2 | ⟨p, q, rfl⟩ := snoc_cases pre
  · exact absurd h2 h
  · rw [prevOf_snoc]
    rw [show (((p ++ [q]).length : Int) - 1) = (p.length : Int) by simp, List.append_assoc]
    exact rd_mid p q rest
theorem impl_areComms_is (l : List Int) (hl : l.length ≤ 1048576) : Ev (fun k => impl_areComms.f k l) (commOk (-1) l && decide (l.length ≤ 6)) := by
  have key : ∀ (rest pre : List Int), l = pre ++ rest →
      Ev (fun k => impl_areComms.l0 k l l (l.length : Int) (pre.length : Int)) (commOk (prevOf pre) rest && decide (l.length ≤ 6)) := by
    intro rest
    induction rest with
    | nil =>
      intro pre e
      refine Ev.step (f := fun _ => some (decide (l.length ≤ 6))) (fun k => ?_) (by simp only [commOk, Bool.true_and]; exact Ev.now _)
      simp only [impl_areComms.l0]
      rw [if_neg (by rw [e]; simp)]
      congr 1
      exact decide_eq_decide.mpr (by omega)
    | cons a rest ih =>
      intro pre e
      have hlt : (pre.length : Int) < (l.length : Int) := by rw [e]; exact lt_mid _ _ _
      have h1 : rd l (pre.length : Int) = a := by rw [e]; exact rd_mid _ _ _
      have hr := ih (pre ++ [a]) (by rw [e]; simp)
      rw [prevOf_snoc] at hr
      have hw := wrap_mid (pre := pre) (a := a) (rest := rest) (by rw [← e]; simp only [maxLen]; omega)
      simp only [commOk]
      by_cases hm : 0 ≤ a ∧ a ≤ 1000000
      · rw [decide_eq_true hm, Bool.true_and]
        by_cases hp : pre = []
        · have hq : prevOf pre < a := by unfold prevOf; rw [if_pos hp]; omega
          rw [decide_eq_true hq, Bool.true_and]
          refine Ev.step (fun k => ?_) hr
          simp only [impl_areComms.l0, impl_isValue.f]
          rw [if_pos hlt, if_pos (len_nn _), if_pos hlt, h1, impl_within_is]
          simp only [Option.bind_some]
          rw [if_pos (decide_eq_true hm), if_neg (by rw [hp]; simp), hw]
        · have hn : 0 < pre.length := List.length_pos_iff.mpr hp
          have hv : wrap64 ((pre.length : Int) - 1) = (pre.length : Int) - 1 := wrap_id (by omega) (by omega)
          have hr2 : rd l ((pre.length : Int) - 1) = prevOf pre := by rw [e]; exact rd_prev hp _
          by_cases hq : prevOf pre < a
          · rw [decide_eq_true hq, Bool.true_and]
            refine Ev.step (fun k => ?_) hr
            simp only [impl_areComms.l0, impl_isValue.f]
            rw [if_pos hlt, if_pos (len_nn _), if_pos hlt, h1, impl_within_is]
            simp only [Option.bind_some]
            rw [if_pos (decide_eq_true hm), if_pos (by omega), hv, if_pos (by omega), if_pos (by omega), hr2, if_neg (by omega), hw]
          · rw [decide_eq_false hq, Bool.false_and]
            refine Ev.step (f := fun _ => some false) (fun k => ?_) (Ev.now _)
            simp only [impl_areComms.l0, impl_isValue.f]
            rw [if_pos hlt, if_pos (len_nn _), if_pos hlt, h1, impl_within_is]
            simp only [Option.bind_some]
            rw [if_pos (decide_eq_true hm), if_pos (by omega), hv, if_pos (by omega), if_pos (by omega), hr2, if_pos (by omega)]
      · rw [decide_eq_false hm, Bool.false_and, Bool.false_and]
        refine Ev.step (f := fun _ => some false) (fun k => ?_) (Ev.now _)
        simp only [impl_areComms.l0, impl_isValue.f]
        rw [if_pos hlt, if_pos (len_nn _), if_pos hlt, h1, impl_within_is]
        simp only [Option.bind_some]
        rw [if_neg (by rw [decide_eq_false hm]; simp)]
  exact key l [] rfl
def attrsOk (a : Int) (l : List Int) (b c d : Int) (m : List Int) : Bool :=
  decide (0 ≤ a ∧ a ≤ 2) && ((decide (l.length ≤ 10) && pathOk l) && (decide (0 ≤ b ∧ b ≤ 4294967295) && (decide (0 ≤ c ∧ c ≤ 1000000) && (decide (0 ≤ d ∧ d ≤ 1000000) && (commOk (-1) m && decide (m.length ≤ 6))))))
theorem Ev_and {x y : Bool} {g : Nat → Option Bool} (h : Ev g y) : Ev (fun k => if x = true then g k else some false) (x && y) := by
  cases x with
  | true => exact Ev.congr (fun k => if_pos rfl) h
  | false => exact Ev.congr (fun k => if_neg (by simp)) (Ev.now _)
theorem impl_GoodAttrs_is (a : Int) (l : List Int) (b c d : Int) (m : List Int) (hl : l.length ≤ 1048576) (hm : m.length ≤ 1048576) : Ev (fun k => impl_GoodAttrs.f k a l b c d m) (attrsOk a l b c d m) := by
  obtain ⟨K1, h1⟩ := impl_isPath_is l (by simp only [maxLen]; omega)
  obtain ⟨K2, h2⟩ := impl_areComms_is m hm
  replace h1 : ∀ k, K1 ≤ k → impl_isPath.f k l = _ := h1
  replace h2 : ∀ k, K2 ≤ k → impl_areComms.f k m = _ := h2
  refine ⟨K1 + K2, fun k hk => ?_⟩
  simp only [impl_GoodAttrs.f, impl_isAddr.f, impl_isValue.f, impl_within_is, Option.bind_some]
  rw [h1 k (by omega), h2 k (by omega)]
  simp only [Option.bind_some]
  unfold attrsOk
  generalize decide (0 ≤ a ∧ a ≤ 2) = x1
  generalize (decide (l.length ≤ 10) && pathOk l) = x2
  generalize decide (0 ≤ b ∧ b ≤ 4294967295) = x3
  generalize decide (0 ≤ c ∧ c ≤ 1000000) = x4
  generalize decide (0 ≤ d ∧ d ≤ 1000000) = x5
  generalize (commOk (-1) m && decide (m.length ≤ 6)) = x6
  cases x1 <;> cases x2 <;> cases x3 <;> cases x4 <;> cases x5 <;> cases x6 <;> rfl
theorem spec_GoodAttrs_is (a : Int) (l : List Int) (b c d : Int) (m : List Int) (hl : l.length ≤ 1048576) (hm : m.length ≤ 1048576) : Ev (fun k => spec_GoodAttrs.f k a l b c d m) (attrsOk a l b c d m) := by
  have k1 : ∀ (rest pre : List Int), m = pre ++ rest →
      Ev (fun k => spec_GoodAttrs.l1 k m (m.length : Int) (pre.length : Int) a l b c d m) (commOk (prevOf pre) rest && (decide (0 ≤ a ∧ a ≤ 2) && (decide (l.length ≤ 10) && (decide (0 ≤ b ∧ b ≤ 4294967295) && (decide (0 ≤ c ∧ c ≤ 1000000) && (decide (0 ≤ d ∧ d ≤ 1000000) && decide (m.length ≤ 6))))))) := by
    intro rest
    induction rest with
    | nil =>
      intro pre e
      simp only [commOk, Bool.true_and]
      refine Ev.step (f := fun _ => _) (fun k => ?_) (Ev_and (Ev_and (Ev_and (Ev_and (Ev_and (Ev.now _))))))
      simp only [spec_GoodAttrs.l1]
      rw [if_neg (by rw [e]; simp), spec_l1In_is, Option.bind_some]
      by_cases h1 : 0 ≤ a ∧ a ≤ 2
      · rw [if_pos (decide_eq_true h1), if_pos (decide_eq_true h1)]
        by_cases h2 : (l.length : Int) ≤ 10
        · have h2' : l.length ≤ 10 := by omega
          rw [if_pos h2, if_pos (decide_eq_true h2')]
          simp only [spec_l1Addr_is, spec_l1In_is, Option.bind_some]
          have : decide ((m.length : Int) ≤ 6) = decide (m.length ≤ 6) := decide_eq_decide.mpr (by omega)
          rw [this]
        · have h2' : ¬ l.length ≤ 10 := by omega
          rw [if_neg h2, if_neg (by simpa using h2')]
      · rw [if_neg (by rw [decide_eq_false h1]; simp), if_neg (by rw [decide_eq_false h1]; simp)]
    | cons x rest ih =>
      intro pre e
      have hlt : (pre.length : Int) < (m.length : Int) := by rw [e]; exact lt_mid _ _ _
      have h1 : rd m (pre.length : Int) = x := by rw [e]; exact rd_mid _ _ _
      have hr := ih (pre ++ [x]) (by rw [e]; simp)
      rw [prevOf_snoc] at hr
      have hw := wrap_mid (pre := pre) (a := x) (rest := rest) (by rw [← e]; simp only [maxLen]; omega)
      simp only [commOk]
      by_cases hm : 0 ≤ x ∧ x ≤ 1000000
      · rw [decide_eq_true hm, Bool.true_and]
        by_cases hp : pre = []
        · have hq : prevOf pre < x := by unfold prevOf; rw [if_pos hp]; omega
          rw [decide_eq_true hq, Bool.true_and]
          refine Ev.step (fun k => ?_) hr
          simp only [spec_GoodAttrs.l1]
          rw [if_pos hlt, if_pos (len_nn _), if_pos hlt, h1, spec_l1In_is]
          simp only [Option.bind_some]
          rw [if_pos (decide_eq_true hm), if_neg (by rw [hp]; simp), hw]
        · have hn : 0 < pre.length := List.length_pos_iff.mpr hp
          have hv : wrap64 ((pre.length : Int) - 1) = (pre.length : Int) - 1 := wrap_id (by omega) (by omega)
          have hr2 : rd m ((pre.length : Int) - 1) = prevOf pre := by rw [e]; exact rd_prev hp _
          by_cases hq : prevOf pre < x
          · rw [decide_eq_true hq, Bool.true_and]
            refine Ev.step (fun k => ?_) hr
            simp only [spec_GoodAttrs.l1]
            rw [if_pos hlt, if_pos (len_nn _), if_pos hlt, h1, spec_l1In_is]
            simp only [Option.bind_some]
            rw [if_pos (decide_eq_true hm), if_pos (by omega), hv, if_pos (by omega), if_pos (by omega), hr2, if_neg (by omega), hw]
          · rw [decide_eq_false hq, Bool.false_and]
            refine Ev.step (f := fun _ => some false) (fun k => ?_) (Ev.now _)
            simp only [spec_GoodAttrs.l1]
            rw [if_pos hlt, if_pos (len_nn _), if_pos hlt, h1, spec_l1In_is]
            simp only [Option.bind_some]
            rw [if_pos (decide_eq_true hm), if_pos (by omega), hv, if_pos (by omega), if_pos (by omega), hr2, if_pos (by omega)]
      · rw [decide_eq_false hm, Bool.false_and, Bool.false_and]
        refine Ev.step (f := fun _ => some false) (fun k => ?_) (Ev.now _)
        simp only [spec_GoodAttrs.l1]
        rw [if_pos hlt, if_pos (len_nn _), if_pos hlt, h1, spec_l1In_is]
        simp only [Option.bind_some]
        rw [if_neg (by rw [decide_eq_false hm]; simp)]
  have k0 : ∀ (rest pre : List Int) (r : Bool), Ev (fun k => spec_GoodAttrs.l1 k m (m.length : Int) 0 a l b c d m) r → l = pre ++ rest →
      Ev (fun k => spec_GoodAttrs.l0 k l (l.length : Int) (pre.length : Int) a l b c d m) (pathOk rest && r) := by
    intro rest
    induction rest with
    | nil =>
      intro pre r hr e
      rw [show (pathOk [] && r) = r by simp [pathOk]]
      refine Ev.step (fun k => ?_) hr
      simp only [spec_GoodAttrs.l0]
      rw [if_neg (by rw [e]; simp)]
    | cons x rest ih =>
      intro pre r hr e
      have hlt : (pre.length : Int) < (l.length : Int) := by rw [e]; exact lt_mid _ _ _
      have h1 : rd l (pre.length : Int) = x := by rw [e]; exact rd_mid _ _ _
      have hw := wrap_mid (pre := pre) (a := x) (rest := rest) (by rw [← e]; simp only [maxLen]; omega)
      have hi := ih (pre ++ [x]) r hr (by rw [e]; simp)
      by_cases hx : 1 ≤ x ∧ x ≤ 65535
      · rw [show pathOk (x :: rest) = pathOk rest by unfold pathOk; rw [List.all_cons, decide_eq_true hx, Bool.true_and]]
        refine Ev.step (fun k => ?_) hi
        simp only [spec_GoodAttrs.l0]
        rw [if_pos hlt, if_pos (len_nn _), if_pos hlt, h1, spec_l1In_is]
        simp only [Option.bind_some]
        rw [if_pos (decide_eq_true hx), hw]
      · rw [show pathOk (x :: rest) = false by unfold pathOk; rw [List.all_cons, decide_eq_false hx, Bool.false_and], Bool.false_and]
        refine Ev.step (f := fun _ => some false) (fun k => ?_) (Ev.now _)
        simp only [spec_GoodAttrs.l0]
        rw [if_pos hlt, if_pos (len_nn _), if_pos hlt, h1, spec_l1In_is]
        simp only [Option.bind_some]
        rw [if_neg (by rw [decide_eq_false hx]; simp)]
  have := k0 l [] _ (k1 m [] rfl) rfl
  have e : attrsOk a l b c d m = (pathOk l && (commOk (prevOf []) m && (decide (0 ≤ a ∧ a ≤ 2) && (decide (l.length ≤ 10) && (decide (0 ≤ b ∧ b ≤ 4294967295) && (decide (0 ≤ c ∧ c ≤ 1000000) && (decide (0 ≤ d ∧ d ≤ 1000000) && decide (m.length ≤ 6)))))))) := by
    rw [show prevOf [] = -1 from rfl]
    unfold attrsOk
    generalize decide (0 ≤ a ∧ a ≤ 2) = x1
    generalize decide (l.length ≤ 10) = x2
    generalize decide (0 ≤ b ∧ b ≤ 4294967295) = x3
    generalize decide (0 ≤ c ∧ c ≤ 1000000) = x4
    generalize decide (0 ≤ d ∧ d ≤ 1000000) = x5
    generalize decide (m.length ≤ 6) = x6
    generalize pathOk l = x7
    generalize commOk (-1) m = x8
    cases x1 <;> cases x2 <;> cases x3 <;> cases x4 <;> cases x5 <;> cases x6 <;> cases x7 <;> cases x8 <;> rfl
  rw [e]; exact this
theorem slices_Repeat_one (a n : Int) (h0 : 0 ≤ n) (h1 : n ≤ 17592186044416) : slices_Repeat_int_int.f [a] n = some (List.replicate n.toNat a) := by
  unfold slices_Repeat_int_int.f
  dsimp only
  rw [if_pos h0, if_pos h1]
def mk_Int (q : Int) : Nat → List Int
  | 0 => []
  | n + 1 => q :: mk_Int (q + 1) n
theorem mk_Int_len (q : Int) (n : Nat) : (mk_Int q n).length = n := by
  induction n generalizing q with
  | zero => rfl
  | succ n ih => simp [mk_Int, ih]
theorem laws_markIntS_is (l : List Int) (hl : l.length ≤ 1000000000) (q : Int) (hq : 0 ≤ q) (hq2 : q ≤ 1000000000000) (k : Nat) (hk : l.length < k) : laws_markIntS.f k l q = some (q + l.length, mk_Int q l.length) := by
  have key : ∀ (rest pre : List Int) (k : Nat) (q : Int), (pre ++ rest).length ≤ 1000000000 → 0 ≤ q → q + rest.length ≤ 2000000000000 → rest.length < k → laws_markIntS.l0 k (pre ++ rest) q (pre.length : Int) = some (q + rest.length, pre ++ mk_Int q rest.length) := by
    intro rest
    induction rest with
    | nil =>
      intro pre k q _ _ _ hk
      obtain ⟨k, rfl⟩ : ∃ m, k = m + 1 := ⟨k - 1, by omega⟩
      rw [laws_markIntS.l0, if_neg (by simp)]
      simp [mk_Int]
    | cons a rest ih =>
      intro pre k q hp h0 h1 hk
      obtain ⟨k, rfl⟩ : ∃ m, k = m + 1 := ⟨k - 1, by omega⟩
      simp only [List.length_cons] at h1 hk
      rw [laws_markIntS.l0, if_pos (lt_mid _ _ _), if_pos (len_nn _), set_mid, wrap_id (x := q + 1) (by omega) (by omega), wrap_mid (pre := pre) (a := a) (rest := rest) (by simp only [maxLen]; omega)]
      have := ih (pre ++ [q]) k (q + 1) (by simp at hp ⊢; omega) (by omega) (by omega) (by omega)
      simp only [List.append_assoc, List.singleton_append] at this
      rw [show ((pre ++ [a]).length : Int) = ((pre ++ [q]).length : Int) by simp, this]
      simp only [List.length_cons, mk_Int]
      congr 2
      omega
  have := key l [] k q (by simpa using hl) hq (by omega) hk
  simpa [laws_markIntS.f] using this
theorem laws_heldIntS_is (n : Nat) (hn : n ≤ 1000000000) (q : Int) (hq : 0 ≤ q) (hq2 : q ≤ 1000000000000) (k : Nat) (hk : n < k) : laws_heldIntS.f k (mk_Int q n) q = some (q + n) := by
  have key : ∀ (n : Nat) (pre : List Int) (k : Nat) (q : Int), pre.length + n ≤ 1000000000 → 0 ≤ q → q + n ≤ 2000000000000 → n < k → laws_heldIntS.l0 k (pre ++ mk_Int q n) q (pre.length : Int) = some (q + n) := by
    intro n
    induction n with
    | zero =>
      intro pre k q _ _ _ hk
      obtain ⟨k, rfl⟩ : ∃ m, k = m + 1 := ⟨k - 1, by omega⟩
      rw [laws_heldIntS.l0, if_neg (by simp [mk_Int])]
      simp
    | succ n ih =>
      intro pre k q hp h0 h1 hk
      obtain ⟨k, rfl⟩ : ∃ m, k = m + 1 := ⟨k - 1, by omega⟩
      have hlen : (pre ++ q :: mk_Int (q + 1) n).length ≤ maxLen := by simp [mk_Int_len, maxLen]; omega
      simp only [mk_Int]
      rw [laws_heldIntS.l0, if_pos (lt_mid _ _ _), if_pos (len_nn _), rd_mid, if_pos rfl, wrap_id (x := q + 1) (by omega) (by omega), wrap_mid (rest := mk_Int (q + 1) n) hlen]
      have := ih (pre ++ [q]) k (q + 1) (by simp; omega) (by omega) (by omega) (by omega)
      simp only [List.append_assoc, List.singleton_append] at this
      rw [this]
      congr 1
      omega
  have := key n [] k q (by simpa using hn) hq (by omega) hk
  simpa [laws_heldIntS.f] using this
theorem laws_markAttrs_is (a b c d : Int) (l m : List Int) (hl : l.length ≤ 100000000) (hm : m.length ≤ 100000000) (k : Nat) (hk : l.length + m.length < k) : laws_markAttrs.f k a l b c d m 1 = some (1 + (l.length : Int) + (m.length : Int), mk_Int 1 l.length, mk_Int (1 + l.length) m.length) := by
  unfold laws_markAttrs.f
  rw [laws_markIntS_is l (by omega) 1 (by omega) (by omega) k (by omega), Option.bind_some, laws_markIntS_is m (by omega) _ (by omega) (by omega) k (by omega)]
  rfl
theorem laws_heldAttrs_is (a b c d : Int) (n o : Nat) (hl : n ≤ 100000000) (hm : o ≤ 100000000) (k : Nat) (hk : n + o < k) : laws_heldAttrs.f k a (mk_Int 1 n) b c d (mk_Int (1 + n) o) 1 = some (1 + (n : Int) + (o : Int)) := by
  unfold laws_heldAttrs.f
  rw [laws_heldIntS_is n (by omega) 1 (by omega) (by omega) k (by omega), Option.bind_some, if_neg (by omega), laws_heldIntS_is o (by omega) _ (by omega) (by omega) k (by omega), Option.bind_some, if_neg (by omega)]
def prepR (a : Int) (l : List Int) (b c d : Int) (m : List Int) (n many : Int) : Int × List Int × Int × Int × Int × List Int × Bool :=
  if attrsOk a l b c d m = true ∧ (1 ≤ n ∧ n ≤ 65535) ∧ (1 ≤ many ∧ many ≤ 10 - (l.length : Int)) then (a, List.replicate many.toNat n ++ l, b, c, d, m, true) else (0, [], 0, 0, 0, [], false)
theorem impl_isAsn_is (n : Int) : impl_isAsn.f n = some (decide (1 ≤ n ∧ n ≤ 65535)) := by unfold impl_isAsn.f; rw [impl_within_is]; rfl
theorem attrsOk_len {a : Int} {l : List Int} {b c d : Int} {m : List Int} (h : attrsOk a l b c d m = true) : l.length ≤ 10 ∧ m.length ≤ 6 := by
  unfold attrsOk at h
  simp only [Bool.and_eq_true, decide_eq_true_eq] at h
  exact ⟨h.2.1.1, h.2.2.2.2.2.2⟩
theorem impl_PrependPath_is (a : Int) (l : List Int) (b c d : Int) (m : List Int) (n many : Int) (hl : l.length ≤ 1048576) (hm : m.length ≤ 1048576) : Ev (fun k => impl_PrependPath.f k a l b c d m n many) (prepR a l b c d m n many) := by
  obtain ⟨K, hK⟩ := impl_GoodAttrs_is a l b c d m hl hm
  replace hK : ∀ k, K ≤ k → impl_GoodAttrs.f k a l b c d m = _ := hK
  refine ⟨K + 1, fun k hk => ?_⟩
  obtain ⟨k, rfl⟩ : ∃ j, k = j + 1 := ⟨k - 1, by omega⟩
  show impl_PrependPath.f (k + 1) a l b c d m n many = _
  unfold impl_PrependPath.f prepR
  rw [hK _ (by omega), Option.bind_some]
  have bad : impl_PrependPath.j0 (k + 1) n many true a l b c d m = some (0, [], 0, 0, 0, [], false) := by rw [impl_PrependPath.j0, if_pos rfl]
  by_cases h1 : attrsOk a l b c d m = true
  · have hlen := attrsOk_len h1
    rw [if_pos h1, impl_isAsn_is, Option.bind_some]
    by_cases h2 : 1 ≤ n ∧ n ≤ 65535
    · rw [if_pos (decide_eq_true h2), impl_within_is, Option.bind_some, wrap_id (by omega) (by omega)]
      by_cases h3 : 1 ≤ many ∧ many ≤ 10 - (l.length : Int)
      · rw [if_pos ⟨h1, h2, h3⟩, decide_eq_true h3, impl_PrependPath.j0, if_neg (by decide)]
        unfold impl_ownAttrs.f slices_Clone_int_int.f
        rw [if_pos (by omega), Option.bind_some, if_pos (by omega), Option.bind_some, Option.bind_some]
        rw [slices_Repeat_one _ _ (by omega) (by omega), Option.bind_some, if_pos (by simp; omega)]
      · rw [if_neg (fun h => h3 h.2.2), decide_eq_false h3]
        exact bad
    · rw [if_neg (by simpa using h2), if_neg (fun h => h2 h.2.1)]
      exact bad
  · rw [if_neg h1, if_neg (fun h => h1 h.1)]
    exact bad
theorem spec_Prepend_l0 (n a b c d : Int) (l m : List Int) : ∀ (j : Nat) (x : List Int) (k : Nat), j < k → x.length + j ≤ 1000 → ∃ k', k ≤ k' + j + 1 ∧ k' < k ∧ spec_PrependPath.l0 k n (j : Int) x a l b c d m = (spec_l4Own.f a l b c d m).bind fun bt157 => (if (x ++ List.replicate j n).length + l.length < 17592186044416 then ((some ((x ++ List.replicate j n) ++ l : List Int)).bind fun y168 => ((spec_GoodAttrs.f k' bt157.1 y168 bt157.2.2.1 bt157.2.2.2.1 bt157.2.2.2.2.1 bt157.2.2.2.2.2).bind fun t171 => (if t171 = true then (some (bt157.1, y168, bt157.2.2.1, bt157.2.2.2.1, bt157.2.2.2.2.1, bt157.2.2.2.2.2, true)) else (some (0, ([] : List Int), 0, 0, 0, ([] : List Int), false))))) else (none))
  | 0, x, k, hk, hx => by
    obtain ⟨k, rfl⟩ : ∃ j, k = j + 1 := ⟨k - 1, by omega⟩
    refine ⟨k, by omega, by omega, ?_⟩
    rw [spec_PrependPath.l0, if_neg (by omega)]
    simp only [List.replicate_zero, List.append_nil]
  | j + 1, x, k, hk, hx => by
    obtain ⟨k, rfl⟩ : ∃ j, k = j + 1 := ⟨k - 1, by omega⟩
    obtain ⟨k', h1, h2, h3⟩ := spec_Prepend_l0 n a b c d l m j (x ++ [n]) k (by omega) (by simp; omega)
    refine ⟨k', by omega, by omega, ?_⟩
    rw [spec_PrependPath.l0, if_pos (by omega), if_pos (by omega), wrap_id (by omega) (by omega), show ((j + 1 : Nat) : Int) - 1 = (j : Int) by omega, h3]
    simp only [List.append_assoc, List.singleton_append, List.replicate_succ]
theorem pathOk_append (l m : List Int) : pathOk (l ++ m) = (pathOk l && pathOk m) := by unfold pathOk; rw [List.all_append]
theorem pathOk_rep {n : Int} (h : 1 ≤ n ∧ n ≤ 65535) (j : Nat) : pathOk (List.replicate j n) = true := by unfold pathOk; simp [List.all_replicate, h]
theorem spec_PrependPath_is (a : Int) (l : List Int) (b c d : Int) (m : List Int) (n many : Int) (hl : l.length ≤ 1048576) (hm : m.length ≤ 1048576) : Ev (fun k => spec_PrependPath.f k a l b c d m n many) (prepR a l b c d m n many) := by
  obtain ⟨K, hK⟩ := spec_GoodAttrs_is a l b c d m hl hm
  replace hK : ∀ k, K ≤ k → spec_GoodAttrs.f k a l b c d m = _ := hK
  by_cases h1 : attrsOk a l b c d m = true
  · have hlen := attrsOk_len h1
    by_cases h2 : 1 ≤ n ∧ n ≤ 65535
    · by_cases h3 : 1 ≤ many ∧ many ≤ 10
      · obtain ⟨j, rfl⟩ := Int.eq_ofNat_of_zero_le (show 0 ≤ many by omega)
        obtain ⟨K2, hK2⟩ := spec_GoodAttrs_is a (List.replicate j n ++ l) b c d m (by simp; omega) hm
        replace hK2 : ∀ k, K2 ≤ k → spec_GoodAttrs.f k a (List.replicate j n ++ l) b c d m = _ := hK2
        refine ⟨K + K2 + j + 5, fun k hk => ?_⟩
        obtain ⟨k, rfl⟩ : ∃ j, k = j + 1 := ⟨k - 1, by omega⟩
        show spec_PrependPath.f (k + 1) a l b c d m n j = _
        unfold spec_PrependPath.f
        rw [hK _ (by omega), Option.bind_some, if_pos h1, spec_l1In_is, Option.bind_some, if_pos (decide_eq_true h2), spec_l1In_is, Option.bind_some, decide_eq_true h3, spec_PrependPath.j0, if_neg (by decide)]
        obtain ⟨k', g1, g2, g3⟩ := spec_Prepend_l0 n a b c d l m j [] k (by omega) (by simp; omega)
        rw [g3]
        unfold spec_l4Own.f
        rw [Option.bind_some, if_pos (by simp; omega), Option.bind_some, if_pos (by simp; omega), Option.bind_some]
        simp only [List.nil_append]
        rw [if_pos (by simp; omega), Option.bind_some, hK2 k' (by omega), Option.bind_some]
        have e : attrsOk a (List.replicate j n ++ l) b c d m = decide ((j : Int) ≤ 10 - (l.length : Int)) := by
          unfold attrsOk at h1 ⊢
          simp only [Bool.and_eq_true] at h1
          rw [pathOk_append, pathOk_rep h2, h1.1, h1.2.1.2, h1.2.2.1, h1.2.2.2.1, h1.2.2.2.2.1, h1.2.2.2.2.2.1, h1.2.2.2.2.2.2]
          simp only [Bool.true_and, Bool.and_true, List.length_append, List.length_replicate]
          exact decide_eq_decide.mpr (by omega)
        rw [e]
        unfold prepR
        by_cases h4 : (j : Int) ≤ 10 - (l.length : Int)
        · rw [if_pos (decide_eq_true h4), if_pos ⟨h1, h2, h3.1, h4⟩]; rfl
        · rw [if_neg (by simpa using h4), if_neg (fun h => h4 h.2.2.2)]
      · refine ⟨K + 1, fun k hk => ?_⟩
        obtain ⟨k, rfl⟩ : ∃ j, k = j + 1 := ⟨k - 1, by omega⟩
        show spec_PrependPath.f (k + 1) a l b c d m n many = _
        unfold spec_PrependPath.f prepR
        rw [hK _ (by omega), Option.bind_some, if_pos h1, spec_l1In_is, Option.bind_some, if_pos (decide_eq_true h2), spec_l1In_is, Option.bind_some, decide_eq_false h3, spec_PrependPath.j0, if_pos (by rfl), if_neg (fun h => h3 ⟨h.2.2.1, by have := h.2.2.2; omega⟩)]
    · refine ⟨K + 1, fun k hk => ?_⟩
      obtain ⟨k, rfl⟩ : ∃ j, k = j + 1 := ⟨k - 1, by omega⟩
      show spec_PrependPath.f (k + 1) a l b c d m n many = _
      unfold spec_PrependPath.f prepR
      rw [hK _ (by omega), Option.bind_some, if_pos h1, spec_l1In_is, Option.bind_some, if_neg (by simpa using h2), spec_PrependPath.j0, if_pos rfl, if_neg (fun h => h2 h.2.1)]
  · refine ⟨K + 1, fun k hk => ?_⟩
    obtain ⟨k, rfl⟩ : ∃ j, k = j + 1 := ⟨k - 1, by omega⟩
    show spec_PrependPath.f (k + 1) a l b c d m n many = _
    unfold spec_PrependPath.f prepR
    rw [hK _ (by omega), Option.bind_some, if_neg h1, spec_PrependPath.j0, if_pos rfl, if_neg (fun h => h1 h.1)]
theorem prepR_len (a : Int) (l : List Int) (b c d : Int) (m : List Int) (n many : Int) (hl : l.length ≤ 1048576) (hm : m.length ≤ 1048576) : (prepR a l b c d m n many).2.1.length ≤ 2000000 ∧ (prepR a l b c d m n many).2.2.2.2.2.1.length ≤ 2000000 := by
  unfold prepR
  by_cases h : attrsOk a l b c d m = true ∧ (1 ≤ n ∧ n ≤ 65535) ∧ (1 ≤ many ∧ many ≤ 10 - (l.length : Int))
  · rw [if_pos h]; simp; omega
  · rw [if_neg h]; simp

end FnExactPrependPathUses
open Go.RowKit Go.Proofs.Ytlnfcobloolnnaa.PFnExactPrependPath Go.Proofs.YtlnfcobloolnnaaW.PrintWords Go.Proofs.YtlnfcobloolnnaaW.PrintLast Go.Proofs.YtlnfcobloolnnaaW.PrintMore Go.Proofs.Ytlnfcobloolnnaa.Pfx Go.Proofs.Ytlnfcobloolnnaa.Loop Go.Proofs.Ytlnfcobloolnnaa.Tbl FnExactPrependPathUses
set_option linter.unusedVariables false
theorem FnExactPrependPath (a0_0 : Int) (l0_1 : List Int) (a0_2 : Int) (a0_3 : Int) (a0_4 : Int) (l0_5 : List Int) (a1 : Int) (a2 : Int) (w0_0 : (Lit.int .i64 a0_0).wf = true) (m0_1 : l0_1.length ≤ maxLen) (w0_1 : ∀ a, a ∈ l0_1 → (Lit.int .i64 a).wf = true) (w0_2 : (Lit.int .i64 a0_2).wf = true) (w0_3 : (Lit.int .i64 a0_3).wf = true) (w0_4 : (Lit.int .i64 a0_4).wf = true) (m0_5 : l0_5.length ≤ maxLen) (w0_5 : ∀ a, a ∈ l0_5 → (Lit.int .i64 a).wf = true) (w1 : (Lit.int .i64 a1).wf = true) (w2 : (Lit.int .i64 a2).wf = true) : ∃ k, laws_FnExactPrependPath.f k a0_0 l0_1 a0_2 a0_3 a0_4 l0_5 a1 a2 = some true := by
  obtain ⟨r, hr, hb⟩ := laws_szAttrs_ex a0_0 l0_1 a0_2 a0_3 a0_4 l0_5 m0_1 m0_5
  by_cases h : r < 0
  · exact ⟨0, by unfold laws_FnExactPrependPath.f; rw [hr, Option.bind_some, if_pos h]⟩
  · have hl := hb h
    obtain ⟨K1, h1⟩ := spec_PrependPath_is a0_0 l0_1 a0_2 a0_3 a0_4 l0_5 a1 a2 hl.1 hl.2
    obtain ⟨K2, h2⟩ := impl_PrependPath_is a0_0 l0_1 a0_2 a0_3 a0_4 l0_5 a1 a2 hl.1 hl.2
    replace h1 : ∀ k, K1 ≤ k → spec_PrependPath.f k _ _ _ _ _ _ _ _ = _ := h1
    replace h2 : ∀ k, K2 ≤ k → impl_PrependPath.f k _ _ _ _ _ _ _ _ = _ := h2
    have hp := prepR_len a0_0 l0_1 a0_2 a0_3 a0_4 l0_5 a1 a2 hl.1 hl.2
    generalize prepR a0_0 l0_1 a0_2 a0_3 a0_4 l0_5 a1 a2 = p at h1 h2 hp
    obtain ⟨K, hK⟩ : ∃ K : Nat, K1 + K2 + l0_1.length + l0_5.length + 10000000 ≤ K := ⟨_, Nat.le_refl _⟩
    refine ⟨K + 1 + 1 + 1, ?_⟩
    unfold laws_FnExactPrependPath.f
    rw [hr, Option.bind_some, if_neg h, laws_toAttrs_is _ _ _ _ _ _ _ hl.1 hl.2 (by omega)]
    simp only [Option.bind_some]
    rw [h1 _ (by omega), h2 _ (by omega)]
    simp only [Option.bind_some]
    rw [laws_eqAttrs_refl _ _ _ _ _ _ _ (by simp only [maxLen]; omega) (by simp only [maxLen]; omega) (by omega)]
    simp only [Option.bind_some, if_true, bne_self_eq_false]
    rw [laws_FnExactPrependPath.j0, if_neg (by simp), laws_toAttrs_is _ _ _ _ _ _ _ hl.1 hl.2 (by omega)]
    simp only [Option.bind_some]
    rw [laws_eqAttrs_refl _ _ _ _ _ _ _ (by simp only [maxLen]; omega) (by simp only [maxLen]; omega) (by omega)]
    simp only [Option.bind_some, if_true]
    rw [laws_markAttrs_is a0_0 a0_2 a0_3 a0_4 l0_1 l0_5 (by omega) (by omega) _ (by omega)]
    simp only [Option.bind_some]
    rw [if_neg (by omega), laws_eqAttrs_refl _ _ _ _ _ _ _ (by simp only [maxLen]; omega) (by simp only [maxLen]; omega) (by omega)]
    simp only [Option.bind_some, if_true, bne_self_eq_false]
    rw [laws_FnExactPrependPath.j1, if_neg (by simp), laws_markAttrs_is p.1 p.2.2.1 p.2.2.2.1 p.2.2.2.2.1 p.2.1 p.2.2.2.2.2.1 (by omega) (by omega) _ (by omega)]
    simp only [Option.bind_some]
    rw [laws_heldAttrs_is p.1 p.2.2.1 p.2.2.2.1 p.2.2.2.2.1 p.2.1.length p.2.2.2.2.2.1.length (by omega) (by omega) _ (by omega)]
    simp only [Option.bind_some]
    rw [if_neg (by omega), if_pos trivial, laws_toAttrs_is _ _ _ _ _ _ _ hl.1 hl.2 (by omega)]
    simp only [Option.bind_some]
    rw [h2 _ (by omega)]
    simp only [Option.bind_some]
    rw [laws_eqAttrs_refl _ _ _ _ _ _ _ (by simp only [maxLen]; omega) (by simp only [maxLen]; omega) (by omega)]
    simp only [Option.bind_some, if_true, bne_self_eq_false]
    rw [laws_FnExactPrependPath.j2, if_neg (by simp), laws_heldAttrs_is p.1 p.2.2.1 p.2.2.2.1 p.2.2.2.2.1 p.2.1.length p.2.2.2.2.2.1.length (by omega) (by omega) _ (by omega)]
    simp only [Option.bind_some]
    rw [if_neg (by omega), if_pos trivial]
end Go.Proofs.Ytlnfcobloolnnaa.Pure
