/- The pure statement of FnUpdates: what the printed functions tell is what the reference tells. No condition but the arguments' own bounds. -/
import Derived.Test.YtlnfcobloolnnaaYFnUpdatesx25
import Derived.Test.YtlnfcobloolnnaaQFnUpdates
namespace Go.Proofs.Ytlnfcobloolnnaa.Pure
namespace FnUpdatesUses
open Go.RowKit Go.Proofs.Ytlnfcobloolnnaa.PFnUpdates Go.Proofs.YtlnfcobloolnnaaW.PrintWords Go.Proofs.YtlnfcobloolnnaaW.PrintLast Go.Proofs.YtlnfcobloolnnaaW.PrintMore Go.Proofs.Ytlnfcobloolnnaa.Pfx Go.Proofs.Ytlnfcobloolnnaa.Loop Go.Proofs.Ytlnfcobloolnnaa.Tbl
open Option renaming bind_some → kz
open _root_.ByteArray renaming size_append → kq, data_append → kg, size → ku, toList_eq → kt, append_assoc → kp, size_extract → kn
open List renaming length_append → ky, length_cons → kj, append_assoc → kk, length_singleton → kv, nil_append → kh, flatMap_cons → ke, eq_nil_of_length_eq_zero → kd, append_nil → kc, cons_append → ko, length_take → km, map_cons → ks, map_singleton → kr, map_append → kl, length_pos_iff → ki, mem_cons → kQ
open Bool renaming false_and → kf, true_and → kb, and_eq_true → kx
open Nat renaming zero_add → kw, add_assoc → kZ
open IntKind renaming signed → ka
set_option linter.unusedVariables false
set_option linter.unusedSimpArgs false

theorem ah (a lo hi : Int) : spec_l1In.f a lo hi = some (decide (lo ≤ a ∧ a ≤ hi)) := by
  unfold spec_l1In.f
  by_cases h : lo ≤ a
  · rw [if_pos h]; simp [h]
  · rw [if_neg h]; simp [h]
theorem af (a lo hi : Int) : impl_within.f a lo hi = some (decide (lo ≤ a ∧ a ≤ hi)) := by
  unfold impl_within.f
  by_cases h : lo ≤ a
  · rw [if_pos h]; simp [h]
  · rw [if_neg h]; simp [h]
theorem cp (a : Int) : spec_l1Addr.f a = some (decide (0 ≤ a ∧ a ≤ 4294967295)) := by
  unfold spec_l1Addr.f; rw [ah]; rfl
theorem d3 (a : Int) : impl_isAddr.f a = some (decide (0 ≤ a ∧ a ≤ 4294967295)) := by
  unfold impl_isAddr.f; rw [af]; rfl
theorem dx {n : Int} (h0 : 0 ≤ n) (h1 : n ≤ 32) : impl_sizeOf.f n = some (sz n) := by
  unfold impl_sizeOf.f
  rw [shl_sz h0 h1, if_pos (by rw [wrap_id (by omega) (by omega)]; omega)]
theorem co (a : Int) {n : Int} (h0 : 0 ≤ n) (h1 : n ≤ 32) : spec_l1Size.f a n = some (sz n) := by
  unfold spec_l1Size.f
  have e : IntKind.u64.wrap (wrap64 (32 - n)) = wrap64 (32 - n) := by rw [wrap_id (by omega) (by omega), u64_id (by omega) (by omega)]
  rw [e, shl_sz h0 h1, if_pos (by rw [wrap_id (by omega) (by omega)]; omega)]
theorem c5 (a n : Int) : impl_GoodPrefix.f a n = some (good a n) := by
  unfold impl_GoodPrefix.f
  rw [af, kz]
  by_cases h : 0 ≤ n ∧ n ≤ 32
  · rw [if_pos (decide_eq_true h), d3, kz]
    by_cases h' : 0 ≤ a ∧ a ≤ 4294967295
    · rw [if_pos (decide_eq_true h'), dx h.1 h.2, kz, if_neg (by have := sz_pos n; omega), Int.tmod_eq_emod_of_nonneg h'.1]
      simp [good, h.1, h.2, h'.1, h'.2, beq_dec]
    · rw [if_neg (by simpa using h')]
      have : good a n = false := by simp [good]; omega
      rw [this]
  · rw [if_neg (by simpa using h)]
    have : good a n = false := by simp [good]; omega
    rw [this]
theorem bn (a n : Int) : spec_GoodPrefix.f a n = some (good a n) := by
  unfold spec_GoodPrefix.f
  rw [ah, kz]
  by_cases h : 0 ≤ n ∧ n ≤ 32
  · rw [if_pos (decide_eq_true h), cp, kz]
    by_cases h' : 0 ≤ a ∧ a ≤ 4294967295
    · rw [if_pos (decide_eq_true h'), co a h.1 h.2, kz, if_neg (by have := sz_pos n; omega), Int.tmod_eq_emod_of_nonneg h'.1]
      simp [good, h.1, h.2, h'.1, h'.2, beq_dec]
    · rw [if_neg (by simpa using h')]
      have : good a n = false := by simp [good]; omega
      rw [this]
  · rw [if_neg (by simpa using h)]
    have : good a n = false := by simp [good]; omega
    rw [this]
theorem dj (a : Int) : cmp_isNaN_int.f a = some false := by unfold cmp_isNaN_int.f; simp
theorem br (a b : Int) : cmp_Compare_int.f a b = some (if a < b then -1 else if a > b then 1 else 0) := by
  unfold cmp_Compare_int.f
  simp only [dj, kz, Bool.false_eq_true, if_false]
  by_cases h1 : a < b
  · simp [h1]
  · by_cases h2 : a > b
    · simp [h1, h2]
    · simp [h1, h2]
theorem dl (k : Nat) (a n b m : Int) : impl_compare.f (k + 3) a n b m = some (cmpP a n b m) := by
  unfold impl_compare.f cmp_Or_int.f
  rw [br, kz, br, kz]
  have w1 : wrap64 (0 + 1) = 1 := wrap_id (by omega) (by omega)
  have w2 : wrap64 (1 + 1) = 2 := wrap_id (by omega) (by omega)
  simp only [cmp_Or_int.l0, rd, kj, List.length_nil, w1, w2]
  unfold cmpP
  by_cases h1 : a < b
  · simp [h1]
  · by_cases h2 : b < a
    · have : ¬ a = b := by omega
      simp [h1, h2, this]
    · obtain rfl : a = b := by omega
      by_cases h3 : n < m
      · simp [h3]
      · by_cases h4 : m < n
        · have : ¬ n = m := by omega
          simp [h3, h4, this]
        · obtain rfl : n = m := by omega
          simp
theorem bw (k : Nat) (a n b m : Int) : spec_l1Compare.f (k + 1) a n b m = some (cmpP a n b m) := by
  unfold spec_l1Compare.f cmpP
  simp only [spec_l1Compare.j0]
  by_cases h1 : a < b
  · simp [h1]
  · by_cases h2 : a = b
    · subst h2
      by_cases h3 : n < m
      · simp [h3]
      · by_cases h4 : n = m
        · subst h4; simp
        · simp [h3, h4]
    · simp [h1, h2]
theorem am (pre : List S35) (a : S35) (rest : List S35) : rd_T35 (pre ++ a :: rest) (pre.length : Int) = a := by unfold rd_T35; simp
def pr (p : S35) : Pr := (p.f0, p.f1)
theorem bx (k : Nat) (l : List S35) (hl : l.length ≤ 1048576) (hk : l.length + 4 < k) : impl_areRising.f k l = some (rising (l.map pr)) := by
  unfold impl_areRising.f
  have key : ∀ (rest pre : List S35) (k : Nat), l = pre ++ rest → rest.length + 4 < k →
      impl_areRising.l0 k l l (l.length : Int) (pre.length : Int) = some (risingFrom ((pre.map pr).getLast?) (rest.map pr)) := by
    intro rest
    induction rest with
    | nil =>
      intro pre k e hk
      obtain ⟨k, rfl⟩ : ∃ m, k = m + 1 := ⟨k - 1, by omega⟩
      simp only [impl_areRising.l0]
      rw [if_neg (by rw [e]; simp)]
      simp [risingFrom]
    | cons a rest ih =>
      intro pre k e hk
      obtain ⟨k, rfl⟩ : ∃ m, k = m + 1 := ⟨k - 1, by omega⟩
      have h1 : rd_T35 l (pre.length : Int) = a := by rw [e]; exact am _ _ _
      have hih := ih (pre ++ [a]) k (by rw [e]; simp) (by simp at hk; omega)
      rw [kl, kr, List.getLast?_concat] at hih
      simp only [impl_areRising.l0]
      rw [if_pos (by rw [e]; exact lt_mid _ _ _), if_pos (len_nn _), if_pos (by rw [e]; exact lt_mid _ _ _), h1, c5, kz, wrap_mid (rest := rest) (by rw [← e]; simp only [maxLen]; omega)]
      simp only [ks, risingFrom]
      by_cases hg : good a.f0 a.f1 = true
      · rw [if_pos hg]
        rcases snoc_cases pre with rfl | ⟨pre', q, rfl⟩
        · rw [if_neg (by simp)]
          simp only [kh, kv] at hih
          rw [show (([] : List S35) ++ [a]).length = 1 from rfl, hih]
          simp [pr, hg]
        · have h2 : wrap64 (((pre' ++ [q]).length : Int) - 1) = (pre'.length : Int) := by
            have : (pre' ++ [q] ++ a :: rest).length ≤ 1048576 := by rw [← e]; exact hl
            simp at this
            rw [ky, kv, wrap_id (by omega) (by omega)]; omega
          have h3 : rd_T35 l (pre'.length : Int) = q := by rw [e, kk]; exact am _ _ _
          obtain ⟨k', rfl⟩ : ∃ m, k = m + 3 := ⟨k - 3, by simp at hk; omega⟩
          rw [if_pos (by rw [ky, kv]; omega), h2, if_pos (len_nn _), if_pos (by rw [e, ky, ky, kv]; omega), h3, dl, kz, hih, kl, kr, List.getLast?_concat]
          by_cases hc : cmpP q.f0 q.f1 a.f0 a.f1 ≥ 0
          · rw [if_pos hc]
            have : ¬ cmpP q.f0 q.f1 a.f0 a.f1 < 0 := by omega
            simp [pr, this]
          · rw [if_neg hc]
            have : cmpP q.f0 q.f1 a.f0 a.f1 < 0 := by omega
            simp [pr, hg, this]
      · rw [if_neg hg]
        simp [pr, hg]
  exact key l [] k rfl hk
def an (l : List Int) : Bool := l.all fun a => decide (1 ≤ a ∧ a ≤ 65535)
theorem gb (l : List Int) (hl : l.length ≤ maxLen) : ∀ (rest pre : List Int), l = pre ++ rest →
    ∃ r : Int, Ev (fun k => slices_IndexFunc_int_int.l0 k l (l.length : Int) (pre.length : Int)) r ∧ (decide (r ≥ 0) = !an rest) := by
  intro rest
  induction rest with
  | nil =>
    intro pre e
    refine ⟨-1, Ev.step (f := fun _ => some (-1)) (fun k => ?_) (Ev.now _), by simp [an]⟩
    simp only [slices_IndexFunc_int_int.l0]
    rw [if_neg (by rw [e]; simp)]
  | cons a rest ih =>
    intro pre e
    have hlt : (pre.length : Int) < (l.length : Int) := by rw [e]; exact lt_mid _ _ _
    have h1 : rd l (pre.length : Int) = a := by rw [e]; exact rd_mid _ _ _
    by_cases hm : 1 ≤ a ∧ a ≤ 65535
    · obtain ⟨r, hr, hb⟩ := ih (pre ++ [a]) (by rw [e]; simp)
      refine ⟨r, Ev.step (fun k => ?_) hr, by rw [hb]; simp [an, hm]⟩
      simp only [slices_IndexFunc_int_int.l0, impl_isPath_1.f, impl_isAsn.f]
      rw [if_pos hlt, if_pos (len_nn _), if_pos hlt, h1, af]
      simp only [kz]
      rw [if_neg (by simp [hm]), wrap_mid (rest := rest) (by rw [← e]; exact hl)]
    · refine ⟨(pre.length : Int), Ev.step (f := fun _ => some (pre.length : Int)) (fun k => ?_) (Ev.now _), ?_⟩
      · simp only [slices_IndexFunc_int_int.l0, impl_isPath_1.f, impl_isAsn.f]
        rw [if_pos hlt, if_pos (len_nn _), if_pos hlt, h1, af]
        simp only [kz]
        rw [if_pos (by simp; omega)]
      · have : an (a :: rest) = false := by
          unfold an
          rw [List.all_cons, decide_eq_false hm, kf]
        rw [this]; simp
theorem dz (l : List Int) (hl : l.length ≤ maxLen) : Ev (fun k => impl_isPath.f k l) (decide (l.length ≤ 10) && an l) := by
  by_cases h : (l.length : Int) ≤ 10
  · have h' : l.length ≤ 10 := by omega
    obtain ⟨r, hr, hb⟩ := gb l hl l [] rfl
    refine Ev.congr (fun k => by unfold impl_isPath.f slices_ContainsFunc_int_int.f; rw [if_pos h]) (Ev.bind (f := fun _ b => some (!b)) (Ev.bind (g := fun k => slices_IndexFunc_int_int.f k l) (f := fun _ t => some (decide (t ≥ 0))) hr (Ev.now _)) ?_)
    rw [hb]
    simp only [h', decide_true, kb, Bool.not_not]
    exact Ev.now _
  · have h' : ¬ l.length ≤ 10 := by omega
    rw [show (decide (l.length ≤ 10) && an l) = false by simp [h']]
    exact Ev.congr (fun k => by unfold impl_isPath.f; rw [if_neg h]) (Ev.now _)
def bc : Int → List Int → Bool
  | _, [] => true
  | p, a :: t => decide (0 ≤ a ∧ a ≤ 1000000) && (decide (p < a) && bc a t)
def a9 (pre : List Int) : Int := if pre = [] then -1 else rd pre ((pre.length : Int) - 1)
theorem cs (pre : List Int) (a : Int) : a9 (pre ++ [a]) = a := by
  unfold a9
  rw [if_neg (by simp)]
  rw [show (((pre ++ [a]).length : Int) - 1) = (pre.length : Int) by simp]
  exact rd_mid pre a []
theorem ff {pre : List Int} (h : pre ≠ []) (rest : List Int) : rd (pre ++ rest) ((pre.length : Int) - 1) = a9 pre := by
  obtain h2 | ⟨p, q, rfl⟩ := snoc_cases pre
  · exact absurd h2 h
  · rw [cs]
    rw [show (((p ++ [q]).length : Int) - 1) = (p.length : Int) by simp, kk]
    exact rd_mid p q rest
theorem dh (l : List Int) (hl : l.length ≤ 1048576) : Ev (fun k => impl_areComms.f k l) (bc (-1) l && decide (l.length ≤ 6)) := by
  have key : ∀ (rest pre : List Int), l = pre ++ rest →
      Ev (fun k => impl_areComms.l0 k l l (l.length : Int) (pre.length : Int)) (bc (a9 pre) rest && decide (l.length ≤ 6)) := by
    intro rest
    induction rest with
    | nil =>
      intro pre e
      refine Ev.step (f := fun _ => some (decide (l.length ≤ 6))) (fun k => ?_) (by simp only [bc, kb]; exact Ev.now _)
      simp only [impl_areComms.l0]
      rw [if_neg (by rw [e]; simp)]
      congr 1
      exact decide_eq_decide.mpr (by omega)
    | cons a rest ih =>
      intro pre e
      have hlt : (pre.length : Int) < (l.length : Int) := by rw [e]; exact lt_mid _ _ _
      have h1 : rd l (pre.length : Int) = a := by rw [e]; exact rd_mid _ _ _
      have hr := ih (pre ++ [a]) (by rw [e]; simp)
      rw [cs] at hr
      have hw := wrap_mid (pre := pre) (a := a) (rest := rest) (by rw [← e]; simp only [maxLen]; omega)
      simp only [bc]
      by_cases hm : 0 ≤ a ∧ a ≤ 1000000
      · rw [decide_eq_true hm, kb]
        by_cases hp : pre = []
        · have hq : a9 pre < a := by unfold a9; rw [if_pos hp]; omega
          rw [decide_eq_true hq, kb]
          refine Ev.step (fun k => ?_) hr
          simp only [impl_areComms.l0, impl_isValue.f]
          rw [if_pos hlt, if_pos (len_nn _), if_pos hlt, h1, af]
          simp only [kz]
          rw [if_pos (decide_eq_true hm), if_neg (by rw [hp]; simp), hw]
        · have hn : 0 < pre.length := ki.mpr hp
          have hv : wrap64 ((pre.length : Int) - 1) = (pre.length : Int) - 1 := wrap_id (by omega) (by omega)
          have hr2 : rd l ((pre.length : Int) - 1) = a9 pre := by rw [e]; exact ff hp _
          by_cases hq : a9 pre < a
          · rw [decide_eq_true hq, kb]
            refine Ev.step (fun k => ?_) hr
            simp only [impl_areComms.l0, impl_isValue.f]
            rw [if_pos hlt, if_pos (len_nn _), if_pos hlt, h1, af]
            simp only [kz]
            rw [if_pos (decide_eq_true hm), if_pos (by omega), hv, if_pos (by omega), if_pos (by omega), hr2, if_neg (by omega), hw]
          · rw [decide_eq_false hq, kf]
            refine Ev.step (f := fun _ => some false) (fun k => ?_) (Ev.now _)
            simp only [impl_areComms.l0, impl_isValue.f]
            rw [if_pos hlt, if_pos (len_nn _), if_pos hlt, h1, af]
            simp only [kz]
            rw [if_pos (decide_eq_true hm), if_pos (by omega), hv, if_pos (by omega), if_pos (by omega), hr2, if_pos (by omega)]
      · rw [decide_eq_false hm, kf, kf]
        refine Ev.step (f := fun _ => some false) (fun k => ?_) (Ev.now _)
        simp only [impl_areComms.l0, impl_isValue.f]
        rw [if_pos hlt, if_pos (len_nn _), if_pos hlt, h1, af]
        simp only [kz]
        rw [if_neg (by rw [decide_eq_false hm]; simp)]
  exact key l [] rfl
def ax (a : Int) (l : List Int) (b c d : Int) (m : List Int) : Bool :=
  decide (0 ≤ a ∧ a ≤ 2) && ((decide (l.length ≤ 10) && an l) && (decide (0 ≤ b ∧ b ≤ 4294967295) && (decide (0 ≤ c ∧ c ≤ 1000000) && (decide (0 ≤ d ∧ d ≤ 1000000) && (bc (-1) m && decide (m.length ≤ 6))))))
theorem d8 {x y : Bool} {g : Nat → Option Bool} (h : Ev g y) : Ev (fun k => if x = true then g k else some false) (x && y) := by
  cases x with
  | true => exact Ev.congr (fun k => if_pos rfl) h
  | false => exact Ev.congr (fun k => if_neg (by simp)) (Ev.now _)
theorem db (a : Int) (l : List Int) (b c d : Int) (m : List Int) (hl : l.length ≤ 1048576) (hm : m.length ≤ 1048576) : Ev (fun k => impl_GoodAttrs.f k a l b c d m) (ax a l b c d m) := by
  obtain ⟨K1, h1⟩ := dz l (by simp only [maxLen]; omega)
  obtain ⟨K2, h2⟩ := dh m hm
  replace h1 : ∀ k, K1 ≤ k → impl_isPath.f k l = _ := h1
  replace h2 : ∀ k, K2 ≤ k → impl_areComms.f k m = _ := h2
  refine ⟨K1 + K2, fun k hk => ?_⟩
  simp only [impl_GoodAttrs.f, impl_isAddr.f, impl_isValue.f, af, kz]
  rw [h1 k (by omega), h2 k (by omega)]
  simp only [kz]
  unfold ax
  generalize decide (0 ≤ a ∧ a ≤ 2) = x1
  generalize (decide (l.length ≤ 10) && an l) = x2
  generalize decide (0 ≤ b ∧ b ≤ 4294967295) = x3
  generalize decide (0 ≤ c ∧ c ≤ 1000000) = x4
  generalize decide (0 ≤ d ∧ d ≤ 1000000) = x5
  generalize (bc (-1) m && decide (m.length ≤ 6)) = x6
  cases x1 <;> cases x2 <;> cases x3 <;> cases x4 <;> cases x5 <;> cases x6 <;> rfl
theorem c8 (a : Int) (l : List Int) (b c d : Int) (m : List Int) (hl : l.length ≤ 1048576) (hm : m.length ≤ 1048576) : Ev (fun k => spec_GoodAttrs.f k a l b c d m) (ax a l b c d m) := by
  have k1 : ∀ (rest pre : List Int), m = pre ++ rest →
      Ev (fun k => spec_GoodAttrs.l1 k m (m.length : Int) (pre.length : Int) a l b c d m) (bc (a9 pre) rest && (decide (0 ≤ a ∧ a ≤ 2) && (decide (l.length ≤ 10) && (decide (0 ≤ b ∧ b ≤ 4294967295) && (decide (0 ≤ c ∧ c ≤ 1000000) && (decide (0 ≤ d ∧ d ≤ 1000000) && decide (m.length ≤ 6))))))) := by
    intro rest
    induction rest with
    | nil =>
      intro pre e
      simp only [bc, kb]
      refine Ev.step (f := fun _ => _) (fun k => ?_) (d8 (d8 (d8 (d8 (d8 (Ev.now _))))))
      simp only [spec_GoodAttrs.l1]
      rw [if_neg (by rw [e]; simp), ah, kz]
      by_cases h1 : 0 ≤ a ∧ a ≤ 2
      · rw [if_pos (decide_eq_true h1), if_pos (decide_eq_true h1)]
        by_cases h2 : (l.length : Int) ≤ 10
        · have h2' : l.length ≤ 10 := by omega
          rw [if_pos h2, if_pos (decide_eq_true h2')]
          simp only [cp, ah, kz]
          have : decide ((m.length : Int) ≤ 6) = decide (m.length ≤ 6) := decide_eq_decide.mpr (by omega)
          rw [this]
        · have h2' : ¬ l.length ≤ 10 := by omega
          rw [if_neg h2, if_neg (by simpa using h2')]
      · rw [if_neg (by rw [decide_eq_false h1]; simp), if_neg (by rw [decide_eq_false h1]; simp)]
    | cons x rest ih =>
      intro pre e
      have hlt : (pre.length : Int) < (m.length : Int) := by rw [e]; exact lt_mid _ _ _
      have h1 : rd m (pre.length : Int) = x := by rw [e]; exact rd_mid _ _ _
      have hr := ih (pre ++ [x]) (by rw [e]; simp)
      rw [cs] at hr
      have hw := wrap_mid (pre := pre) (a := x) (rest := rest) (by rw [← e]; simp only [maxLen]; omega)
      simp only [bc]
      by_cases hm : 0 ≤ x ∧ x ≤ 1000000
      · rw [decide_eq_true hm, kb]
        by_cases hp : pre = []
        · have hq : a9 pre < x := by unfold a9; rw [if_pos hp]; omega
          rw [decide_eq_true hq, kb]
          refine Ev.step (fun k => ?_) hr
          simp only [spec_GoodAttrs.l1]
          rw [if_pos hlt, if_pos (len_nn _), if_pos hlt, h1, ah]
          simp only [kz]
          rw [if_pos (decide_eq_true hm), if_neg (by rw [hp]; simp), hw]
        · have hn : 0 < pre.length := ki.mpr hp
          have hv : wrap64 ((pre.length : Int) - 1) = (pre.length : Int) - 1 := wrap_id (by omega) (by omega)
          have hr2 : rd m ((pre.length : Int) - 1) = a9 pre := by rw [e]; exact ff hp _
          by_cases hq : a9 pre < x
          · rw [decide_eq_true hq, kb]
            refine Ev.step (fun k => ?_) hr
            simp only [spec_GoodAttrs.l1]
            rw [if_pos hlt, if_pos (len_nn _), if_pos hlt, h1, ah]
            simp only [kz]
            rw [if_pos (decide_eq_true hm), if_pos (by omega), hv, if_pos (by omega), if_pos (by omega), hr2, if_neg (by omega), hw]
          · rw [decide_eq_false hq, kf]
            refine Ev.step (f := fun _ => some false) (fun k => ?_) (Ev.now _)
            simp only [spec_GoodAttrs.l1]
            rw [if_pos hlt, if_pos (len_nn _), if_pos hlt, h1, ah]
            simp only [kz]
            rw [if_pos (decide_eq_true hm), if_pos (by omega), hv, if_pos (by omega), if_pos (by omega), hr2, if_pos (by omega)]
      · rw [decide_eq_false hm, kf, kf]
        refine Ev.step (f := fun _ => some false) (fun k => ?_) (Ev.now _)
        simp only [spec_GoodAttrs.l1]
        rw [if_pos hlt, if_pos (len_nn _), if_pos hlt, h1, ah]
        simp only [kz]
        rw [if_neg (by rw [decide_eq_false hm]; simp)]
  have k0 : ∀ (rest pre : List Int) (r : Bool), Ev (fun k => spec_GoodAttrs.l1 k m (m.length : Int) 0 a l b c d m) r → l = pre ++ rest →
      Ev (fun k => spec_GoodAttrs.l0 k l (l.length : Int) (pre.length : Int) a l b c d m) (an rest && r) := by
    intro rest
    induction rest with
    | nil =>
      intro pre r hr e
      rw [show (an [] && r) = r by simp [an]]
      refine Ev.step (fun k => ?_) hr
      simp only [spec_GoodAttrs.l0]
      rw [if_neg (by rw [e]; simp)]
    | cons x rest ih =>
      intro pre r hr e
      have hlt : (pre.length : Int) < (l.length : Int) := by rw [e]; exact lt_mid _ _ _
      have h1 : rd l (pre.length : Int) = x := by rw [e]; exact rd_mid _ _ _
      have hw := wrap_mid (pre := pre) (a := x) (rest := rest) (by rw [← e]; simp only [maxLen]; omega)
      have hi := ih (pre ++ [x]) r hr (by rw [e]; simp)
      by_cases hx : 1 ≤ x ∧ x ≤ 65535
      · rw [show an (x :: rest) = an rest by unfold an; rw [List.all_cons, decide_eq_true hx, kb]]
        refine Ev.step (fun k => ?_) hi
        simp only [spec_GoodAttrs.l0]
        rw [if_pos hlt, if_pos (len_nn _), if_pos hlt, h1, ah]
        simp only [kz]
        rw [if_pos (decide_eq_true hx), hw]
      · rw [show an (x :: rest) = false by unfold an; rw [List.all_cons, decide_eq_false hx, kf], kf]
        refine Ev.step (f := fun _ => some false) (fun k => ?_) (Ev.now _)
        simp only [spec_GoodAttrs.l0]
        rw [if_pos hlt, if_pos (len_nn _), if_pos hlt, h1, ah]
        simp only [kz]
        rw [if_neg (by rw [decide_eq_false hx]; simp)]
  have := k0 l [] _ (k1 m [] rfl) rfl
  have e : ax a l b c d m = (an l && (bc (a9 []) m && (decide (0 ≤ a ∧ a ≤ 2) && (decide (l.length ≤ 10) && (decide (0 ≤ b ∧ b ≤ 4294967295) && (decide (0 ≤ c ∧ c ≤ 1000000) && (decide (0 ≤ d ∧ d ≤ 1000000) && decide (m.length ≤ 6)))))))) := by
    rw [show a9 [] = -1 from rfl]
    unfold ax
    generalize decide (0 ≤ a ∧ a ≤ 2) = x1
    generalize decide (l.length ≤ 10) = x2
    generalize decide (0 ≤ b ∧ b ≤ 4294967295) = x3
    generalize decide (0 ≤ c ∧ c ≤ 1000000) = x4
    generalize decide (0 ≤ d ∧ d ≤ 1000000) = x5
    generalize decide (m.length ≤ 6) = x6
    generalize an l = x7
    generalize bc (-1) m = x8
    cases x1 <;> cases x2 <;> cases x3 <;> cases x4 <;> cases x5 <;> cases x6 <;> cases x7 <;> cases x8 <;> rfl
  rw [e]; exact this
def ad (s : ByteArray) : Nat → Int → Int → Int
  | 0, _, x => x
  | n + 1, i, x => ad s n (i + 1) (Go.bits .or .i64 (wrap64 (x * 256)) (wrap64 (bt s i)))
theorem cn (s : ByteArray) (hs : s.size ≤ 1000000000) : ∀ (n k : Nat) (i x e : Int), n < k → 0 ≤ i → i + n ≤ s.size → spec_l4R_number.l0 k n x s i e = some (ad s n i x, s, i + n, e)
  | 0, k + 1, i, x, e, _, _, _ => by
    simp only [spec_l4R_number.l0]
    rw [if_neg (by omega)]
    simp [ad]
  | n + 1, k + 1, i, x, e, hk, h0, h1 => by
    simp only [spec_l4R_number.l0]
    rw [if_pos (by omega), if_pos h0, if_pos (by omega), wrap_id (x := ((n + 1 : Nat) : Int) - 1) (by omega) (by omega), wrap_id (x := i + 1) (by omega) (by omega)]
    rw [show ((n + 1 : Nat) : Int) - 1 = (n : Int) by omega, cn s hs n k (i + 1) _ e (by omega) (by omega) (by omega)]
    rw [show i + 1 + (n : Int) = i + ((n + 1 : Nat) : Int) by omega]
    rfl
theorem cu (s : ByteArray) (hs : s.size ≤ 1000000000) : ∀ (n k : Nat) (i x e j : Int), n < k → 0 ≤ i → i + n ≤ s.size → 0 ≤ j → j + n ≤ 1000000000 → impl_input_number.l0 k x (j + n) j s i e = some (ad s n i x, s, i + n, e)
  | 0, k + 1, i, x, e, j, _, _, _, _, _ => by
    simp only [impl_input_number.l0]
    rw [if_neg (by omega)]
    simp [ad]
  | n + 1, k + 1, i, x, e, j, hk, h0, h1, h2, h3 => by
    simp only [impl_input_number.l0]
    rw [if_pos (by omega), if_pos h0, if_pos (by omega), wrap_id (x := j + 1) (by omega) (by omega), wrap_id (x := i + 1) (by omega) (by omega)]
    rw [show j + ((n + 1 : Nat) : Int) = (j + 1) + (n : Int) by omega, cu s hs n k (i + 1) _ e (j + 1) (by omega) (by omega) (by omega) (by omega) (by omega)]
    rw [show i + 1 + (n : Int) = i + ((n + 1 : Nat) : Int) by omega]
    rfl
theorem bb (s : ByteArray) (hs : s.size ≤ 1000000000) (n k : Nat) (i : Int) (hk : n + 2 ≤ k) (hn : n ≤ 1000000) (h0 : 0 ≤ i) (h1 : i ≤ s.size) : spec_l4R_number.f k s i 0 n = some (if i + n ≤ s.size then (ad s n i 0, s, i + n, 0) else (0, s, i, 1)) := by
  obtain ⟨k, rfl⟩ : ∃ m, k = m + 1 := ⟨k - 1, by omega⟩
  unfold spec_l4R_number.f
  rw [if_pos rfl]
  simp only [spec_l4R_number.j0]
  rw [wrap_id (x := (s.size : Int) - i) (by omega) (by omega)]
  by_cases h : i + n ≤ s.size
  · rw [if_neg (by simp; omega), if_pos h, cn s hs n k i 0 0 (by omega) h0 h]
  · rw [if_pos (by simp; omega), if_neg h, if_pos trivial]
theorem ag (s : ByteArray) (hs : s.size ≤ 1000000000) (n k : Nat) (i : Int) (hk : n + 3 ≤ k) (hn : n ≤ 1000000) (h0 : 0 ≤ i) (h1 : i ≤ s.size) : impl_input_number.f k s i 0 n = some (if i + n ≤ s.size then (ad s n i 0, s, i + n, 0) else (0, s, i, 1)) := by
  obtain ⟨k, rfl⟩ : ∃ m, k = m + 2 := ⟨k - 2, by omega⟩
  unfold impl_input_number.f
  rw [if_pos rfl]
  simp only [impl_input_number.j0, impl_input_number.j1]
  rw [wrap_id (x := i + (n : Int)) (by omega) (by omega)]
  by_cases h : i + n ≤ s.size
  · have := cu s hs n k i 0 0 0 (by omega) h0 h (by omega) (by omega)
    rw [show (0 : Int) + (n : Int) = n by omega] at this
    rw [if_neg (by simp; omega), if_pos trivial, if_pos h, this]
  · rw [if_pos (by simp; omega), if_neg h, if_neg (by omega)]
theorem gi (n : Nat) (h : n < 256) : Go.bits .or .i64 0 (n : Int) = (n : Int) := by
  have e1 : (BitVec.ofInt 64 0 ||| BitVec.ofInt 64 (n : Int)).toNat = n := by
    rw [BitVec.toNat_or, BitVec.ofInt_natCast, BitVec.toNat_ofNat]
    have e0 : (BitVec.ofInt 64 0).toNat = 0 := rfl
    rw [e0, Nat.zero_or]
    exact Nat.mod_eq_of_lt (by omega)
  show IntKind.i64.wrap ((BitVec.ofInt 64 0 ||| BitVec.ofInt 64 (n : Int)).toNat : Int) = _
  rw [e1]
  have e : (n : Int) % 2 ^ 64 = n := Int.emod_eq_of_lt (by omega) (by omega)
  simp only [IntKind.wrap, IntKind.bits, ka, e]
  rw [if_neg]
  simp
  omega
theorem ba (s : ByteArray) (i : Int) : ad s 1 i 0 = bt s i := by
  have hb := bt_range s i
  simp only [ad]
  rw [show (0 : Int) * 256 = 0 by omega, show wrap64 0 = 0 from wrap_id (by omega) (by omega), wrap_id (x := bt s i) (by omega) (by omega)]
  obtain ⟨n, hn⟩ := Int.eq_ofNat_of_zero_le hb.1
  rw [hn]
  exact gi n (by omega)
def ab (L : Int) : Nat := ((L + 7) / 8).toNat
def bk (s : ByteArray) (i : Int) : Option (Int × Int × Int) :=
  if i + 1 ≤ s.size then
    if bt s i > 32 then none else
    if i + 1 + ab (bt s i) ≤ s.size then some (shl .i64 (ad s (ab (bt s i)) (i + 1) 0) (32 - 8 * (ab (bt s i) : Int)), bt s i, i + 1 + ab (bt s i)) else none
  else none
theorem bf {L : Int} (h0 : 0 ≤ L) (h1 : L ≤ 255) : wrap64 (Int.tdiv (wrap64 (L + 7)) 8) = (ab L : Int) ∧ ((ab L : Nat) : Int) = (L + 7) / 8 := by
  unfold ab
  have e : Int.tdiv (L + 7) 8 = (L + 7) / 8 := Int.tdiv_eq_ediv_of_nonneg (by omega)
  rw [wrap_id (x := L + 7) (by omega) (by omega), e, wrap_id (by omega) (by omega)]
  omega
theorem dy (s : ByteArray) (hs : s.size ≤ 1000000000) (k : Nat) (hk : 100 ≤ k) (i : Int) (h0 : 0 ≤ i) (h1 : i ≤ s.size) : ∃ q, impl_input_prefix.f k s i 0 = some q ∧ (∀ t, bk s i = some t → q = (t.1, t.2.1, s, t.2.2, 0)) ∧ (bk s i = none → q.2.2.2.2 ≠ 0) := by
  obtain ⟨k, rfl⟩ : ∃ m, k = m + 1 := ⟨k - 1, by omega⟩
  have hn := ag s hs 1 (k + 1) i (by omega) (by omega) h0 h1
  unfold impl_input_prefix.f bk
  rw [show ((1 : Nat) : Int) = 1 from rfl] at hn
  rw [hn, kz, ba]
  have hb := bt_range s i
  have ho := bf hb.1 hb.2
  by_cases h2 : i + 1 ≤ (s.size : Int)
  · rw [if_pos h2, if_pos h2]
    simp only [if_true, impl_input_prefix.j0]
    by_cases h3 : bt s i > 32
    · rw [if_pos (decide_eq_true h3), if_pos h3]
      exact ⟨_, rfl, fun t h => by simp at h, fun _ => by simp⟩
    · rw [if_neg (by simpa using h3), if_neg h3, ho.1, ag s hs (ab (bt s i)) k (i + 1) (by omega) (by omega) (by omega) h2]
      rw [kz]
      have w1 : wrap64 (8 * (ab (bt s i) : Int)) = 8 * (ab (bt s i) : Int) := wrap_id (by omega) (by omega)
      have w2 : wrap64 (32 - 8 * (ab (bt s i) : Int)) = 32 - 8 * (ab (bt s i) : Int) := wrap_id (by omega) (by omega)
      have w3 : 0 ≤ 32 - 8 * (ab (bt s i) : Int) := by omega
      by_cases h4 : i + 1 + (ab (bt s i) : Int) ≤ s.size
      · rw [if_pos h4, if_pos h4]
        rw [w1, w2, if_pos w3]
        dsimp only
        exact ⟨_, rfl, fun t h => by cases h; rfl, fun h => by simp at h⟩
      · rw [if_neg h4, if_neg h4]
        rw [w1, w2, if_pos w3]
        dsimp only
        exact ⟨_, rfl, fun t h => by simp at h, fun _ => by simp⟩
  · rw [if_neg h2, if_neg h2]
    simp only []
    rw [if_neg (by omega)]
    simp only [impl_input_prefix.j0]
    rw [if_neg (by simp), if_neg (by omega)]
    exact ⟨_, rfl, fun t h => by simp at h, fun _ => by simp⟩
def be : Nat → Int → List Int
  | 0, _ => []
  | n + 1, x => be n (x / 256) ++ [x % 256]
theorem em (n : Nat) (x : Int) : (be n x).length = n := by
  induction n generalizing x with
  | zero => rfl
  | succ n ih => simp [be, ih]
theorem cf : ∀ (n k : Nat) (x : Int) (tl : List Int), n < k → n + tl.length ≤ 1000000 → spec_l4Bytes.l0 k x (List.replicate n 0 ++ tl) ((n : Int) - 1) = some (strOfNums (be n x ++ tl))
  | 0, k + 1, x, tl, _, _ => by
    simp only [spec_l4Bytes.l0]
    rw [if_neg (by omega)]
    simp [be]
  | n + 1, k + 1, x, tl, hk, hl => by
    simp only [spec_l4Bytes.l0]
    rw [show ((n + 1 : Nat) : Int) - 1 = (n : Int) by omega, if_pos (by omega), if_pos (by omega), if_pos (by simp; omega), wrap_id (by omega) (by omega)]
    have e : (List.replicate (n + 1) (0 : Int) ++ tl).set ((n : Int)).toNat (x % 256) = List.replicate n 0 ++ ([x % 256] ++ tl) := by
      rw [List.replicate_succ', kk]
      simp
    rw [e, cf n k (x / 256) ([x % 256] ++ tl) (by omega) (by simp; omega)]
    simp [be]
theorem cg (k n : Nat) (x : Int) (hk : n < k) (hn : n ≤ 100000) : spec_l4Bytes.f k x (n : Int) = some (strOfNums (be n x)) := by
  unfold spec_l4Bytes.f
  rw [if_pos (by omega), if_pos (by omega), wrap_id (by omega) (by omega)]
  have := cf n k x [] hk (by simp; omega)
  simpa using this
def hb (x : Int) : Nat → List Int
  | 0 => []
  | n + 1 => (shr .i64 x (8 * (n : Int))) % 256 :: hb x n
theorem ci : ∀ (n k : Nat) (x : Int) (acc : List Int), n < k → n + acc.length ≤ 1000000 → impl_bytesOf.l0 k x acc ((n : Int) - 1) = some (strOfNums (acc ++ hb x n))
  | 0, k + 1, x, acc, _, _ => by
    simp only [impl_bytesOf.l0]
    rw [if_neg (by omega)]
    simp [hb]
  | n + 1, k + 1, x, acc, hk, hl => by
    simp only [impl_bytesOf.l0]
    rw [show ((n + 1 : Nat) : Int) - 1 = (n : Int) by omega, if_pos (by omega), wrap_id (x := 8 * (n : Int)) (by omega) (by omega), if_pos (by omega), if_pos (by omega), wrap_id (by omega) (by omega)]
    rw [ci n k x _ (by omega) (by simp; omega)]
    simp [hb]
theorem cj (k n : Nat) (x : Int) (hk : n < k) (hn : n ≤ 100000) : impl_bytesOf.f k x (n : Int) = some (strOfNums (hb x n)) := by
  unfold impl_bytesOf.f
  rw [wrap_id (by omega) (by omega)]
  have := ci n k x [] hk (by simp; omega)
  simpa using this
theorem dr (xs : List Int) (m : Nat) : (strOfNums xs).extract 0 m = strOfNums (xs.take m) := by
  apply ByteArray.ext
  simp [strOfNums, ByteArray.data_extract, List.map_take]
theorem ca (xs : List Int) : (strOfNums xs).size = xs.length := by simp [strOfNums, ku]
theorem cq (x : Int) (n : Nat) (h : n ≤ 64) : shr .i64 x (n : Int) = x / 2 ^ n := by
  unfold shr
  rw [show min (n : Int).toNat IntKind.i64.bits = n by show min (n : Int).toNat 64 = n; omega]
theorem gk (a : Int) (m : Nat) (hm : m ≤ 4) : be m (shr .i64 a (32 - 8 * (m : Int))) = (hb a 4).take m := by
  have e0 := cq a 0 (by omega)
  have e8 := cq a 8 (by omega)
  have e16 := cq a 16 (by omega)
  have e24 := cq a 24 (by omega)
  rw [show ((0 : Nat) : Int) = 0 from rfl] at e0
  rw [show ((8 : Nat) : Int) = 8 from rfl] at e8
  rw [show ((16 : Nat) : Int) = 16 from rfl] at e16
  rw [show ((24 : Nat) : Int) = 24 from rfl] at e24
  have hl : hb a 4 = [shr .i64 a 24 % 256, shr .i64 a 16 % 256, shr .i64 a 8 % 256, shr .i64 a 0 % 256] := rfl
  rw [hl, e0, e8, e16, e24]
  have hc : m = 0 ∨ m = 1 ∨ m = 2 ∨ m = 3 ∨ m = 4 := by omega
  rcases hc with rfl | rfl | rfl | rfl | rfl
  · rfl
  · rw [show (32 : Int) - 8 * ((1 : Nat) : Int) = 24 by omega, e24]; rfl
  · rw [show (32 : Int) - 8 * ((2 : Nat) : Int) = 16 by omega, e16]
    simp only [be, kh, List.take, ko, List.cons.injEq, and_true]
    omega
  · rw [show (32 : Int) - 8 * ((3 : Nat) : Int) = 8 by omega, e8]
    simp only [be, kh, List.take, ko, List.cons.injEq, and_true]
    omega
  · rw [show (32 : Int) - 8 * ((4 : Nat) : Int) = 0 by omega, e0]
    simp only [be, kh, List.take, ko, List.cons.injEq, and_true]
    omega
theorem dm (k : Nat) (l : List S35) (a b : Int) (hl : l.length ≤ 1048576) (hk : l.length < k) : slices_Contains_impl_Prefix_impl_Prefix.f k l a b = some (l.any fun q => a == q.f0 && b == q.f1) := by
  unfold slices_Contains_impl_Prefix_impl_Prefix.f slices_Index_impl_Prefix_impl_Prefix.f
  exact any_gen (fun k i => slices_Index_impl_Prefix_impl_Prefix.l0 k l (l.length : Int) i a b) l (fun q => a == q.f0 && b == q.f1) (fun k => by
      show slices_Index_impl_Prefix_impl_Prefix.l0 (k + 1) l (l.length : Int) (l.length : Int) a b = _
      rw [slices_Index_impl_Prefix_impl_Prefix.l0, if_neg (not_lt_end l)]) (fun k pre x rest e => by
      show slices_Index_impl_Prefix_impl_Prefix.l0 (k + 1) l (l.length : Int) (pre.length : Int) a b = _
      have h1 : rd_T35 l (pre.length : Int) = x := by rw [e]; exact am _ _ _
      rw [slices_Index_impl_Prefix_impl_Prefix.l0, if_pos (by rw [e]; exact lt_mid _ _ _), if_pos (len_nn _), if_pos (by rw [e]; exact lt_mid _ _ _), h1, wrap_mid (rest := rest) (by rw [← e]; simp only [maxLen]; omega)]) k hk
theorem c7 (k : Nat) (l : List S35) (a b : Int) (hl : l.length ≤ 1048576) (hk : l.length < k) : spec_l4In.f k l a b = some (l.any fun q => a == q.f0 && b == q.f1) := by
  unfold spec_l4In.f
  have key : ∀ (rest pre : List S35) (k : Nat), l = pre ++ rest → rest.length < k → spec_l4In.l0 k l (l.length : Int) (pre.length : Int) a b = some (rest.any fun q => a == q.f0 && b == q.f1) := by
    intro rest
    induction rest with
    | nil =>
      intro pre k e hk
      obtain ⟨k, rfl⟩ : ∃ m, k = m + 1 := ⟨k - 1, by omega⟩
      rw [spec_l4In.l0, if_neg (by rw [e]; simp)]
      rfl
    | cons x rest ih =>
      intro pre k e hk
      obtain ⟨k, rfl⟩ : ∃ m, k = m + 1 := ⟨k - 1, by omega⟩
      have h1 : rd_T35 l (pre.length : Int) = x := by rw [e]; exact am _ _ _
      rw [spec_l4In.l0, if_pos (by rw [e]; exact lt_mid _ _ _), if_pos (len_nn _), if_pos (by rw [e]; exact lt_mid _ _ _), h1, wrap_mid (rest := rest) (by rw [← e]; simp only [maxLen]; omega), ih (pre ++ [x]) k (by rw [e]; simp) (by simp at hk; omega)]
      have hs : (x.f0 == a && x.f1 == b) = (a == x.f0 && b == x.f1) := by rw [Bool.beq_comm, Bool.beq_comm (a := x.f1)]
      rw [hs, List.any_cons]
      cases (a == x.f0 && b == x.f1)
      · rw [if_neg (by decide)]; rfl
      · rw [if_pos rfl]; rfl
  exact key l [] k rfl hk
theorem b7 (k : Nat) (l : List S35) (hl : l.length ≤ 1048576) (hk : l.length + 4 < k) : spec_l4Rising.f k l = some (rising (l.map pr) && decide (l.length ≤ 10)) := by
  unfold spec_l4Rising.f
  have key : ∀ (rest pre : List S35) (k : Nat), l = pre ++ rest → rest.length + 4 < k →
      spec_l4Rising.l0 k l l (l.length : Int) (pre.length : Int) = some (risingFrom ((pre.map pr).getLast?) (rest.map pr) && decide (l.length ≤ 10)) := by
    intro rest
    induction rest with
    | nil =>
      intro pre k e hk
      obtain ⟨k, rfl⟩ : ∃ m, k = m + 1 := ⟨k - 1, by omega⟩
      simp only [spec_l4Rising.l0]
      rw [if_neg (by rw [e]; simp)]
      have : decide ((l.length : Int) ≤ 10) = decide (l.length ≤ 10) := decide_eq_decide.mpr (by omega)
      rw [this]
      simp [risingFrom]
    | cons a rest ih =>
      intro pre k e hk
      obtain ⟨k, rfl⟩ : ∃ m, k = m + 1 := ⟨k - 1, by omega⟩
      have h1 : rd_T35 l (pre.length : Int) = a := by rw [e]; exact am _ _ _
      have hih := ih (pre ++ [a]) k (by rw [e]; simp) (by simp at hk; omega)
      rw [kl, kr, List.getLast?_concat] at hih
      simp only [spec_l4Rising.l0]
      rw [if_pos (by rw [e]; exact lt_mid _ _ _), if_pos (len_nn _), if_pos (by rw [e]; exact lt_mid _ _ _), h1, bn, kz, wrap_mid (rest := rest) (by rw [← e]; simp only [maxLen]; omega)]
      simp only [ks, risingFrom]
      by_cases hg : good a.f0 a.f1 = true
      · rw [if_pos hg]
        rcases snoc_cases pre with rfl | ⟨pre', q, rfl⟩
        · rw [if_neg (by simp)]
          simp only [kh, kv] at hih
          rw [show (([] : List S35) ++ [a]).length = 1 from rfl, hih]
          simp [pr, hg]
        · have h2 : wrap64 (((pre' ++ [q]).length : Int) - 1) = (pre'.length : Int) := by
            have : (pre' ++ [q] ++ a :: rest).length ≤ 1048576 := by rw [← e]; exact hl
            simp at this
            rw [ky, kv, wrap_id (by omega) (by omega)]; omega
          have h3 : rd_T35 l (pre'.length : Int) = q := by rw [e, kk]; exact am _ _ _
          obtain ⟨k', rfl⟩ : ∃ m, k = m + 1 := ⟨k - 1, by simp at hk; omega⟩
          rw [if_pos (by rw [ky, kv]; omega), h2, if_pos (len_nn _), if_pos (by rw [e, ky, ky, kv]; omega), h3, bw, kz, hih, kl, kr, List.getLast?_concat]
          by_cases hc : cmpP q.f0 q.f1 a.f0 a.f1 ≥ 0
          · rw [if_pos hc]
            have : ¬ cmpP q.f0 q.f1 a.f0 a.f1 < 0 := by omega
            simp [pr, this]
          · rw [if_neg hc]
            have : cmpP q.f0 q.f1 a.f0 a.f1 < 0 := by omega
            simp [pr, hg, this]
      · rw [if_neg hg]
        simp [pr, hg]
  exact key l [] k rfl hk
def ck (a : Int) (l : List Int) (b c d : Int) (m : List Int) : Bool := a == 0 && (decide (l.length = 0) && (b == 0 && (c == 0 && (d == 0 && decide (m.length = 0)))))
def cv (g e : List S35) : Bool := e.any fun p => g.any fun q => p.f0 == q.f0 && p.f1 == q.f1
def ao (g : List S35) (a : Int) (l : List Int) (b c d : Int) (m : List Int) (e : List S35) : Bool :=
  (rising (g.map pr) && decide (g.length ≤ 10)) && ((rising (e.map pr) && decide (e.length ≤ 10)) && (ax a l b c d m && (!cv g e && (decide (0 < e.length) || ck a l b c d m))))
theorem fb (g e : List S35) : (g.any fun p => e.any fun q => p.f0 == q.f0 && p.f1 == q.f1) = cv g e := by
  unfold cv
  rw [Bool.eq_iff_iff]
  simp only [List.any_eq_true, kx, beq_iff_eq]
  constructor
  · rintro ⟨p, hp, q, hq, h1, h2⟩; exact ⟨q, hq, p, hp, h1.symm, h2.symm⟩
  · rintro ⟨p, hp, q, hq, h1, h2⟩; exact ⟨q, hq, p, hp, h1.symm, h2.symm⟩
theorem ei (k : Nat) (l : List Int) : slices_Equal_int_int.f (k + 1) l [] = some (decide (l.length = 0)) := by
  unfold slices_Equal_int_int.f
  by_cases h : l.length = 0
  · have e : l = [] := kd h
    subst e
    rw [if_pos rfl, slices_Equal_int_int.l0, if_neg (by decide)]
    rfl
  · rw [if_neg (by simp; exact fun h' => h (by simp [h']))]
    simp only [h, decide_false]
theorem cx (k : Nat) (a : Int) (l : List Int) (b c d : Int) (m : List Int) : impl_sameAttrs.f (k + 1) a l b c d m 0 [] 0 0 0 [] = some (ck a l b c d m) := by
  unfold impl_sameAttrs.f ck
  rw [ei, ei]
  simp only [kz]
  by_cases h1 : a = 0
  · rw [if_pos h1]
    by_cases h2 : l.length = 0
    · rw [if_pos (decide_eq_true h2)]
      by_cases h3 : b = 0
      · rw [if_pos h3]
        by_cases h4 : c = 0
        · rw [if_pos h4]
          by_cases h5 : d = 0
          · rw [if_pos h5]; simp [h1, h2, h3, h4, h5]
          · rw [if_neg h5]; simp [h5]
        · rw [if_neg h4]; simp [h4]
      · rw [if_neg h3]; simp [h3]
    · rw [if_neg (by simpa using h2)]
      have : decide (l.length = 0) = false := decide_eq_false h2
      rw [this]; simp only [kf, Bool.and_false]
  · rw [if_neg h1]; simp [h1]
theorem fa (k : Nat) (g e : List S35) (hg : g.length ≤ 1048576) (he : e.length ≤ 1048576) (hk : g.length + e.length + 1 < k) : impl_GoodUpdate_ct.f k g e = some (cv g e) := by
  unfold impl_GoodUpdate_ct.f impl_GoodUpdate_ix.f
  rw [← fb]
  exact any_genK (e.length + 1) (fun k i => impl_GoodUpdate_ix.l0 e k g (g.length : Int) i) g (fun p => e.any fun q => p.f0 == q.f0 && p.f1 == q.f1) (fun k => by
      show impl_GoodUpdate_ix.l0 e (k + 1) g (g.length : Int) (g.length : Int) = _
      rw [impl_GoodUpdate_ix.l0, if_neg (not_lt_end g)]) (fun k hk pre x rest e' => by
      show impl_GoodUpdate_ix.l0 e (k + 1) g (g.length : Int) (pre.length : Int) = _
      have h1 : rd_T35 g (pre.length : Int) = x := by rw [e']; exact am _ _ _
      rw [impl_GoodUpdate_ix.l0, if_pos (by rw [e']; exact lt_mid _ _ _), if_pos (len_nn _), if_pos (by rw [e']; exact lt_mid _ _ _), h1]
      unfold impl_GoodUpdate_1.f
      rw [dm k e x.f0 x.f1 he (by omega), kz, wrap_mid (rest := rest) (by rw [← e']; simp only [maxLen]; omega)]) k (by omega)
theorem ar (g : List S35) (a : Int) (l : List Int) (b c d : Int) (m : List Int) (e : List S35) (hg : g.length ≤ 1048576) (he : e.length ≤ 1048576) (hl : l.length ≤ 1048576) (hm : m.length ≤ 1048576) :
    Ev (fun k => impl_GoodUpdate.f k g a l b c d m e) (ao g a l b c d m e) := by
  obtain ⟨K, hK⟩ := db a l b c d m hl hm
  replace hK : ∀ k, K ≤ k → impl_GoodAttrs.f k a l b c d m = _ := hK
  refine ⟨K + g.length + e.length + 10, fun k hk => ?_⟩
  obtain ⟨k, rfl⟩ : ∃ j, k = j + 1 := ⟨k - 1, by omega⟩
  show impl_GoodUpdate.f (k + 1) g a l b c d m e = _
  unfold impl_GoodUpdate.f ao
  have eg : ((g.length : Int) > 10) ↔ ¬ g.length ≤ 10 := by omega
  have ee : ((e.length : Int) > 10) ↔ ¬ e.length ≤ 10 := by omega
  by_cases h1 : g.length ≤ 10
  · rw [if_neg (fun h => eg.1 h h1), decide_eq_true h1, Bool.and_true]
    by_cases h2 : e.length ≤ 10
    · rw [if_neg (fun h => ee.1 h h2), decide_eq_true h2, Bool.and_true, bx _ g hg (by omega), kz, bx _ e he (by omega), hK _ (by omega), fa _ g e hg he (by omega), cx]
      simp only [kz]
      generalize rising (g.map pr) = x1
      generalize rising (e.map pr) = x2
      generalize ax a l b c d m = x3
      generalize cv g e = x4
      generalize ck a l b c d m = x6
      by_cases h5 : (e.length : Int) > 0
      · rw [if_pos h5]
        have h5' : 0 < e.length := by omega
        rw [decide_eq_true h5']
        cases x1 <;> cases x2 <;> cases x3 <;> cases x4 <;> rfl
      · rw [if_neg h5]
        have h5' : ¬ 0 < e.length := by omega
        rw [decide_eq_false h5']
        cases x1 <;> cases x2 <;> cases x3 <;> cases x4 <;> rfl
    · rw [if_pos (ee.2 h2), decide_eq_false h2]
      cases rising (g.map pr) <;> simp
  · rw [if_pos (eg.2 h1), decide_eq_false h1]
    simp
theorem dt (a : Int) (l : List Int) (b c d : Int) (m : List Int) : spec_l4Zero.f a l b c d m = some (ck a l b c d m) := by
  unfold spec_l4Zero.f ck
  have e1 : ((l.length : Int) = 0) ↔ l.length = 0 := by omega
  have e2 : (((m.length : Int) == 0)) = decide (m.length = 0) := by rw [beq_dec]; exact decide_eq_decide.mpr (by omega)
  rw [e2]
  by_cases h1 : a = 0
  · rw [if_pos h1]
    by_cases h2 : l.length = 0
    · rw [if_pos (e1.2 h2)]
      by_cases h3 : b = 0
      · rw [if_pos h3]
        by_cases h4 : c = 0
        · rw [if_pos h4]
          by_cases h5 : d = 0
          · rw [if_pos h5]; simp [h1, h2, h3, h4, h5]
          · rw [if_neg h5]; simp [h5]
        · rw [if_neg h4]; simp [h4]
      · rw [if_neg h3]; simp [h3]
    · rw [if_neg (fun h => h2 (e1.1 h))]
      have : decide (l.length = 0) = false := decide_eq_false h2
      rw [this]; simp only [kf, Bool.and_false]
  · rw [if_neg h1]; simp [h1]
theorem bm (g : List S35) (a : Int) (l : List Int) (b c d : Int) (m : List Int) (e : List S35) (hg : g.length ≤ 1048576) (he : e.length ≤ 1048576) (hl : l.length ≤ 1048576) (hm : m.length ≤ 1048576) :
    Ev (fun k => spec_GoodUpdate.f k g a l b c d m e) (ao g a l b c d m e) := by
  obtain ⟨K, hK⟩ := c8 a l b c d m hl hm
  replace hK : ∀ k, K ≤ k → spec_GoodAttrs.f k a l b c d m = _ := hK
  have key : ∀ (rest pre : List S35) (k : Nat), e = pre ++ rest → rest.length + K + g.length + e.length + 10 < k →
      spec_GoodUpdate.l0 k e (e.length : Int) (pre.length : Int) g a l b c d m e = some (if cv g rest = true then false else ((rising (g.map pr) && decide (g.length ≤ 10)) && ((rising (e.map pr) && decide (e.length ≤ 10)) && (ax a l b c d m && (decide (0 < e.length) || ck a l b c d m))))) := by
    intro rest
    induction rest with
    | nil =>
      intro pre k e' hk
      obtain ⟨k, rfl⟩ : ∃ m, k = m + 1 := ⟨k - 1, by omega⟩
      rw [spec_GoodUpdate.l0, if_neg (by rw [e']; simp), b7 _ g hg (by simp at hk; omega), kz, b7 _ e he (by simp at hk; omega), hK _ (by simp at hk; omega), dt]
      simp only [kz]
      have hc : cv g [] = false := rfl
      have hc' : ¬ cv g [] = true := by rw [hc]; decide
      rw [if_neg hc']
      generalize (rising (g.map pr) && decide (g.length ≤ 10)) = x1
      generalize (rising (e.map pr) && decide (e.length ≤ 10)) = x2
      generalize ax a l b c d m = x3
      generalize ck a l b c d m = x6
      by_cases h5 : (e.length : Int) > 0
      · rw [if_pos h5]
        have h5' : 0 < e.length := by omega
        rw [decide_eq_true h5']
        cases x1 <;> cases x2 <;> cases x3 <;> rfl
      · rw [if_neg h5]
        have h5' : ¬ 0 < e.length := by omega
        rw [decide_eq_false h5']
        cases x1 <;> cases x2 <;> cases x3 <;> rfl
    | cons x rest ih =>
      intro pre k e' hk
      obtain ⟨k, rfl⟩ : ∃ m, k = m + 1 := ⟨k - 1, by omega⟩
      simp only [kj] at hk
      have h1 : rd_T35 e (pre.length : Int) = x := by rw [e']; exact am _ _ _
      rw [spec_GoodUpdate.l0, if_pos (by rw [e']; exact lt_mid _ _ _), if_pos (len_nn _), if_pos (by rw [e']; exact lt_mid _ _ _), h1, c7 k g x.f0 x.f1 hg (by omega), kz, wrap_mid (rest := rest) (by rw [← e']; simp only [maxLen]; omega), ih (pre ++ [x]) k (by rw [e']; simp) (by omega)]
      have hc : cv g (x :: rest) = ((g.any fun q => x.f0 == q.f0 && x.f1 == q.f1) || cv g rest) := rfl
      rw [hc]
      cases (g.any fun q => x.f0 == q.f0 && x.f1 == q.f1)
      · rw [if_neg (by decide), Bool.false_or]
      · rw [if_pos rfl, Bool.true_or, if_pos rfl]
  refine ⟨e.length + K + g.length + e.length + 11, fun k hk => ?_⟩
  show spec_GoodUpdate.f k g a l b c d m e = _
  unfold spec_GoodUpdate.f ao
  have := key e [] k rfl (by omega)
  simp only [List.length_nil, Int.natCast_zero] at this
  rw [this]
  congr 1
  generalize (rising (g.map pr) && decide (g.length ≤ 10)) = x1
  generalize (rising (e.map pr) && decide (e.length ≤ 10)) = x2
  generalize ax a l b c d m = x3
  generalize (decide (0 < e.length) || ck a l b c d m) = x5
  cases cv g e <;> cases x1 <;> cases x2 <;> cases x3 <;> cases x5 <;> rfl
theorem fi (x : Int) (n : Nat) (hn : n ≤ 4) : hb x n = be n x := by
  have e0 := cq x 0 (by omega)
  have e8 := cq x 8 (by omega)
  have e16 := cq x 16 (by omega)
  have e24 := cq x 24 (by omega)
  rw [show ((0 : Nat) : Int) = 0 from rfl] at e0
  rw [show ((8 : Nat) : Int) = 8 from rfl] at e8
  rw [show ((16 : Nat) : Int) = 16 from rfl] at e16
  rw [show ((24 : Nat) : Int) = 24 from rfl] at e24
  have h1 : hb x 1 = [shr .i64 x 0 % 256] := rfl
  have h2 : hb x 2 = [shr .i64 x 8 % 256, shr .i64 x 0 % 256] := rfl
  have h3 : hb x 3 = [shr .i64 x 16 % 256, shr .i64 x 8 % 256, shr .i64 x 0 % 256] := rfl
  have h4 : hb x 4 = [shr .i64 x 24 % 256, shr .i64 x 16 % 256, shr .i64 x 8 % 256, shr .i64 x 0 % 256] := rfl
  have hc : n = 0 ∨ n = 1 ∨ n = 2 ∨ n = 3 ∨ n = 4 := by omega
  rcases hc with rfl | rfl | rfl | rfl | rfl
  · rfl
  · rw [h1, e0]; simp only [be, kh, ko, List.cons.injEq, and_true]; omega
  · rw [h2, e0, e8]; simp only [be, kh, ko, List.cons.injEq, and_true]; omega
  · rw [h3, e0, e8, e16]; simp only [be, kh, ko, List.cons.injEq, and_true]; omega
  · rw [h4, e0, e8, e16, e24]; simp only [be, kh, ko, List.cons.injEq, and_true]; omega
def bl (n : Nat) (x : Int) : ByteArray := strOfNums (be n x)
theorem ac (n : Nat) (x : Int) : (bl n x).size = n := by unfold bl; rw [ca, em]
theorem ay (k n : Nat) (x : Int) (hk : n < k) (hn : n ≤ 4) : spec_l4Bytes.f k x (n : Int) = some (bl n x) := cg k n x hk (by omega)
theorem aq (k n : Nat) (x : Int) (hk : n < k) (hn : n ≤ 4) : impl_bytesOf.f k x (n : Int) = some (bl n x) := by rw [cj k n x hk (by omega), fi x n hn]; rfl
def ct (a n : Int) : ByteArray := bl 1 n ++ strOfNums ((be 4 a).take ((n + 7) / 8).toNat)
theorem du (a n : Int) : (ct a n).size ≤ 5 := by
  unfold ct
  rw [kq, ac, ca, km, em]
  omega
theorem ga {n : Int} (h0 : 0 ≤ n) (h1 : n ≤ 32) : wrap64 (Int.tdiv (wrap64 (n + 7)) 8) = ((((n + 7) / 8).toNat : Nat) : Int) ∧ ((n + 7) / 8).toNat ≤ 4 := by
  have e : Int.tdiv (n + 7) 8 = (n + 7) / 8 := Int.tdiv_eq_ediv_of_nonneg (by omega)
  rw [wrap_id (x := n + 7) (by omega) (by omega), e, wrap_id (by omega) (by omega)]
  omega
theorem f9 (k : Nat) (hk : 10 ≤ k) (a n : Int) (h0 : 0 ≤ n) (h1 : n ≤ 32) : spec_l4Prefix.f k a n = some (ct a n) ∧ impl_prefixBytes.f k a n = some (ct a n) := by
  obtain ⟨hm, hm4⟩ := ga h0 h1
  unfold ct
  generalize ((n + 7) / 8).toNat = m at hm hm4 ⊢
  have s1 := ay k 1 n (by omega) (by omega)
  have i1 := aq k 1 n (by omega) (by omega)
  have i4 := aq k 4 a (by omega) (by omega)
  rw [show ((1 : Nat) : Int) = 1 from rfl] at s1 i1
  rw [show ((4 : Nat) : Int) = 4 from rfl] at i4
  have ht := gk a m hm4
  rw [fi a 4 (by omega)] at ht
  constructor
  · unfold spec_l4Prefix.f
    rw [s1, hm, wrap_id (x := 8 * (m : Int)) (by omega) (by omega), wrap_id (x := 32 - 8 * (m : Int)) (by omega) (by omega), u64_id (by omega) (by omega)]
    simp only [kz]
    rw [if_pos (by omega), cg k m _ (by omega) (by omega), ht, kz, if_pos (by rw [ac, ca, km, em]; omega)]
  · unfold impl_prefixBytes.f
    rw [i1, i4, hm]
    simp only [kz]
    rw [if_pos (by omega), if_pos (by rw [ac]; omega), show ((m : Int)).toNat = m by omega]
    have hx : (bl 4 a).extract 0 m = strOfNums ((be 4 a).take m) := dr _ _
    rw [hx, if_pos (by rw [ac, ca, km, em]; omega)]
def er (s : ByteArray) (l : List S35) : ByteArray := l.foldl (fun s p => s ++ ct p.f0 p.f1) s
def eu (w : Nat) (s : ByteArray) (l : List Int) : ByteArray := l.foldl (fun s x => s ++ bl w x) s
theorem df : ∀ (l : List S35) (s : ByteArray), (er s l).size ≤ s.size + 5 * l.length
  | [], s => by simp [er]
  | p :: t, s => by
    have h1 := df t (s ++ ct p.f0 p.f1)
    have h2 := du p.f0 p.f1
    rw [kq] at h1
    have e : er s (p :: t) = er (s ++ ct p.f0 p.f1) t := rfl
    rw [e, kj]
    omega
theorem dg (w : Nat) : ∀ (l : List Int) (s : ByteArray), (eu w s l).size = s.size + w * l.length
  | [], s => by simp [eu]
  | p :: t, s => by
    have h1 := dg w t (s ++ bl w p)
    rw [kq, ac] at h1
    have e : eu w s (p :: t) = eu w (s ++ bl w p) t := rfl
    rw [e, h1, kj, Nat.mul_succ]
    omega
def ek (l : List S35) : ByteArray := er (bl 1 l.length) l
def et (w : Nat) (l : List Int) : ByteArray := eu w (bl 1 l.length) l
theorem ep (l : List S35) (hl : l.length ≤ 1048576) (hg : ∀ p, p ∈ l → 0 ≤ p.f1 ∧ p.f1 ≤ 32) (k : Nat) (hk : l.length + 12 ≤ k) : spec_l4Prefixes.f k l = some (ek l) ∧ impl_prefixesBytes.f k l = some (ek l) := by
  have key : ∀ (rest pre : List S35) (s : ByteArray) (k : Nat), l = pre ++ rest → rest.length + 11 ≤ k → s.size + 5 * rest.length ≤ 100000000 →
      spec_l4Prefixes.l0 k s l (l.length : Int) (pre.length : Int) = some (er s rest) ∧ impl_prefixesBytes.l0 k s l (l.length : Int) (pre.length : Int) = some (er s rest) := by
    intro rest
    induction rest with
    | nil =>
      intro pre s k e hk _
      obtain ⟨k, rfl⟩ : ∃ m, k = m + 1 := ⟨k - 1, by omega⟩
      rw [spec_l4Prefixes.l0, impl_prefixesBytes.l0, if_neg (by rw [e]; simp), if_neg (by rw [e]; simp)]
      exact ⟨rfl, rfl⟩
    | cons p rest ih =>
      intro pre s k e hk hs
      simp only [kj] at hk hs
      obtain ⟨k, rfl⟩ : ∃ m, k = m + 1 := ⟨k - 1, by omega⟩
      have h1 : rd_T35 l (pre.length : Int) = p := by rw [e]; exact am _ _ _
      have hlt : (pre.length : Int) < (l.length : Int) := by rw [e]; exact lt_mid _ _ _
      have hp := hg p (by rw [e]; simp)
      obtain ⟨v1, v2⟩ := f9 k (by omega) p.f0 p.f1 hp.1 hp.2
      have hz := du p.f0 p.f1
      obtain ⟨i1, i2⟩ := ih (pre ++ [p]) (s ++ ct p.f0 p.f1) k (by rw [e]; simp) (by omega) (by rw [kq]; omega)
      have hw : wrap64 ((pre.length : Int) + 1) = ((pre ++ [p]).length : Int) := wrap_mid (rest := rest) (by rw [← e]; simp only [maxLen]; omega)
      constructor
      · rw [spec_l4Prefixes.l0, if_pos hlt, if_pos (len_nn _), if_pos hlt, h1, v1, kz, if_pos (by omega), hw, i1]; rfl
      · rw [impl_prefixesBytes.l0, if_pos hlt, if_pos (len_nn _), if_pos hlt, h1, v2, kz, if_pos (by omega), hw, i2]; rfl
  obtain ⟨k1, k2⟩ := key l [] (bl 1 l.length) k rfl (by omega) (by rw [ac]; omega)
  unfold spec_l4Prefixes.f impl_prefixesBytes.f
  have s1 := ay k 1 (l.length : Int) (by omega) (by omega)
  have i1 := aq k 1 (l.length : Int) (by omega) (by omega)
  rw [show ((1 : Nat) : Int) = 1 from rfl] at s1 i1
  rw [s1, i1, kz, kz]
  exact ⟨k1, k2⟩
theorem es (w : Nat) (hw4 : w ≤ 4) (l : List Int) (hl : l.length ≤ 1048576) (k : Nat) (hk : l.length + 12 ≤ k) : spec_l4Numbers.f k l (w : Int) = some (et w l) ∧ impl_numbersBytes.f k l (w : Int) = some (et w l) := by
  have key : ∀ (rest pre : List Int) (s : ByteArray) (k : Nat), l = pre ++ rest → rest.length + 11 ≤ k → s.size + 4 * rest.length ≤ 100000000 →
      spec_l4Numbers.l0 k (w : Int) s l (l.length : Int) (pre.length : Int) = some (eu w s rest) ∧ impl_numbersBytes.l0 k (w : Int) s l (l.length : Int) (pre.length : Int) = some (eu w s rest) := by
    intro rest
    induction rest with
    | nil =>
      intro pre s k e hk _
      obtain ⟨k, rfl⟩ : ∃ m, k = m + 1 := ⟨k - 1, by omega⟩
      rw [spec_l4Numbers.l0, impl_numbersBytes.l0, if_neg (by rw [e]; simp), if_neg (by rw [e]; simp)]
      exact ⟨rfl, rfl⟩
    | cons p rest ih =>
      intro pre s k e hk hs
      simp only [kj] at hk hs
      obtain ⟨k, rfl⟩ : ∃ m, k = m + 1 := ⟨k - 1, by omega⟩
      have h1 : rd l (pre.length : Int) = p := by rw [e]; exact rd_mid _ _ _
      have hlt : (pre.length : Int) < (l.length : Int) := by rw [e]; exact lt_mid _ _ _
      have hz := ac w p
      obtain ⟨i1, i2⟩ := ih (pre ++ [p]) (s ++ bl w p) k (by rw [e]; simp) (by omega) (by rw [kq]; omega)
      have hw : wrap64 ((pre.length : Int) + 1) = ((pre ++ [p]).length : Int) := wrap_mid (rest := rest) (by rw [← e]; simp only [maxLen]; omega)
      constructor
      · rw [spec_l4Numbers.l0, if_pos hlt, if_pos (len_nn _), if_pos hlt, h1, ay k w p (by omega) hw4, kz, if_pos (by omega), hw, i1]; rfl
      · rw [impl_numbersBytes.l0, if_pos hlt, if_pos (len_nn _), if_pos hlt, h1, aq k w p (by omega) hw4, kz, if_pos (by omega), hw, i2]; rfl
  obtain ⟨k1, k2⟩ := key l [] (bl 1 l.length) k rfl (by omega) (by rw [ac]; omega)
  unfold spec_l4Numbers.f impl_numbersBytes.f
  have s1 := ay k 1 (l.length : Int) (by omega) (by omega)
  have i1 := aq k 1 (l.length : Int) (by omega) (by omega)
  rw [show ((1 : Nat) : Int) = 1 from rfl] at s1 i1
  rw [s1, i1, kz, kz]
  exact ⟨k1, k2⟩
def fq (g : List S35) (a : Int) (l : List Int) (b c d : Int) (m : List Int) (e : List S35) : ByteArray :=
  if e.length = 0 then ek g else ek g ++ (bl 1 a ++ (et 2 l ++ (bl 4 b ++ (bl 3 c ++ (bl 3 d ++ (et 3 m ++ ek e))))))
theorem fc (g : List S35) (a : Int) (l : List Int) (b c d : Int) (m : List Int) (e : List S35) (hg : g.length ≤ 1048576) (hl : l.length ≤ 1048576) (hm : m.length ≤ 1048576) (he : e.length ≤ 1048576)
    (hgg : ∀ p, p ∈ g → 0 ≤ p.f1 ∧ p.f1 ≤ 32) (hge : ∀ p, p ∈ e → 0 ≤ p.f1 ∧ p.f1 ≤ 32) (k : Nat) (hk : g.length + l.length + m.length + e.length + 12 ≤ k) : spec_l4Update.f k g a l b c d m e = some (fq g a l b c d m e) ∧ impl_updateBytes.f k g a l b c d m e = some (fq g a l b c d m e) := by
  obtain ⟨g1, g2⟩ := ep g hg hgg k (by omega)
  obtain ⟨e1, e2⟩ := ep e he hge k (by omega)
  obtain ⟨l1, l2⟩ := es 2 (by omega) l hl k (by omega)
  obtain ⟨m1, m2⟩ := es 3 (by omega) m hm k (by omega)
  rw [show ((2 : Nat) : Int) = 2 from rfl] at l1 l2
  rw [show ((3 : Nat) : Int) = 3 from rfl] at m1 m2
  have sg : (ek g).size ≤ 1 + 5 * g.length := by have := df g (bl 1 g.length); rwa [ac] at this
  have se : (ek e).size ≤ 1 + 5 * e.length := by have := df e (bl 1 e.length); rwa [ac] at this
  have sl : (et 2 l).size = 1 + 2 * l.length := by have := dg 2 l (bl 1 l.length); rwa [ac] at this
  have sm : (et 3 m).size = 1 + 3 * m.length := by have := dg 3 m (bl 1 m.length); rwa [ac] at this
  have a1 := ay k 1 a (by omega) (by omega)
  have a2 := aq k 1 a (by omega) (by omega)
  have b1 := ay k 4 b (by omega) (by omega)
  have b2 := aq k 4 b (by omega) (by omega)
  have c1 := ay k 3 c (by omega) (by omega)
  have c2 := aq k 3 c (by omega) (by omega)
  have d1 := ay k 3 d (by omega) (by omega)
  have d2 := aq k 3 d (by omega) (by omega)
  rw [show ((1 : Nat) : Int) = 1 from rfl] at a1 a2
  rw [show ((4 : Nat) : Int) = 4 from rfl] at b1 b2
  rw [show ((3 : Nat) : Int) = 3 from rfl] at c1 c2 d1 d2
  unfold fq
  by_cases h0 : e.length = 0
  · rw [if_pos h0]
    constructor
    · unfold spec_l4Update.f; rw [g1, kz, if_pos (by omega)]
    · unfold impl_updateBytes.f; rw [g2, kz, if_pos (by omega)]
  · rw [if_neg h0]
    constructor
    · unfold spec_l4Update.f spec_l4Attrs.f
      rw [g1, e1, l1, m1, a1, b1, c1, d1]
      simp only [kz]
      rw [if_neg (by omega), if_pos (by simp only [ac, sl]; omega), if_pos (by simp only [kq, ac, sl]; omega), if_pos (by simp only [kq, ac, sl]; omega), if_pos (by simp only [kq, ac, sl]; omega), if_pos (by simp only [kq, ac, sl, sm]; omega)]
      simp only [kz]
      rw [if_pos (by simp only [kq, ac, sl, sm]; omega), if_pos (by simp only [kq, ac, sl, sm]; omega)]
      simp only [kp]
    · unfold impl_updateBytes.f
      rw [g2, e2, l2, m2, a2, b2, c2, d2]
      simp only [kz]
      rw [if_neg (by omega), if_pos (by simp only [ac]; omega), if_pos (by simp only [kq, ac, sl]; omega), if_pos (by simp only [kq, ac, sl]; omega), if_pos (by simp only [kq, ac, sl]; omega), if_pos (by simp only [kq, ac, sl]; omega), if_pos (by simp only [kq, ac, sl, sm]; omega), if_pos (by simp only [kq, ac, sl, sm]; omega)]
      simp only [kp]
theorem cl {g : List S35} {a : Int} {l : List Int} {b c d : Int} {m : List Int} {e : List S35} (h : ao g a l b c d m e = true) : (∀ p, p ∈ g → good p.f0 p.f1 = true) ∧ (∀ p, p ∈ e → good p.f0 p.f1 = true) ∧ g.length ≤ 10 ∧ e.length ≤ 10 ∧ ax a l b c d m = true := by
  unfold ao at h
  simp only [kx, decide_eq_true_eq] at h
  obtain ⟨⟨h1, h2⟩, ⟨h3, h4⟩, h5, _⟩ := h
  exact ⟨fun p hp => rising_good h1 (pr p) (List.mem_map.2 ⟨p, hp, rfl⟩), fun p hp => rising_good h3 (pr p) (List.mem_map.2 ⟨p, hp, rfl⟩), h2, h4, h5⟩
def bj (g : List S35) (a : Int) (l : List Int) (b c d : Int) (m : List Int) (e : List S35) : ByteArray × Bool := if ao g a l b c d m e = true then (fq g a l b c d m e, true) else (⟨#[]⟩, false)
theorem bv (g : List S35) (a : Int) (l : List Int) (b c d : Int) (m : List Int) (e : List S35) (hg : g.length ≤ 1048576) (he : e.length ≤ 1048576) (hl : l.length ≤ 1048576) (hm : m.length ≤ 1048576) :
    Ev (fun k => spec_UpdateBytes.f k g a l b c d m e) (bj g a l b c d m e) ∧ Ev (fun k => impl_UpdateBytes.f k g a l b c d m e) (bj g a l b c d m e) := by
  obtain ⟨K1, h1⟩ := bm g a l b c d m e hg he hl hm
  obtain ⟨K2, h2⟩ := ar g a l b c d m e hg he hl hm
  replace h1 : ∀ k, K1 ≤ k → spec_GoodUpdate.f k g a l b c d m e = _ := h1
  replace h2 : ∀ k, K2 ≤ k → impl_GoodUpdate.f k g a l b c d m e = _ := h2
  unfold bj
  by_cases h : ao g a l b c d m e = true
  · rw [if_pos h]
    obtain ⟨f1, f2, _⟩ := cl h
    have f1' : ∀ p, p ∈ g → 0 ≤ p.f1 ∧ p.f1 ≤ 32 := fun p hp => by have := good_iff.1 (f1 p hp); exact ⟨this.1, this.2.1⟩
    have f2' : ∀ p, p ∈ e → 0 ≤ p.f1 ∧ p.f1 ≤ 32 := fun p hp => by have := good_iff.1 (f2 p hp); exact ⟨this.1, this.2.1⟩
    refine ⟨⟨K1 + g.length + l.length + m.length + e.length + 12, fun k hk => ?_⟩, ⟨K2 + g.length + l.length + m.length + e.length + 12, fun k hk => ?_⟩⟩
    · show spec_UpdateBytes.f k g a l b c d m e = _
      unfold spec_UpdateBytes.f
      rw [h1 _ (by omega), kz, if_pos h, (fc g a l b c d m e hg hl hm he f1' f2' k (by omega)).1]
      rfl
    · show impl_UpdateBytes.f k g a l b c d m e = _
      unfold impl_UpdateBytes.f
      rw [h2 _ (by omega), kz, if_pos h, (fc g a l b c d m e hg hl hm he f1' f2' k (by omega)).2]
      rfl
  · rw [if_neg h]
    refine ⟨⟨K1, fun k hk => ?_⟩, ⟨K2, fun k hk => ?_⟩⟩
    · show spec_UpdateBytes.f k g a l b c d m e = _
      unfold spec_UpdateBytes.f
      rw [h1 _ (by omega), kz, if_neg h]
    · show impl_UpdateBytes.f k g a l b c d m e = _
      unfold impl_UpdateBytes.f
      rw [h2 _ (by omega), kz, if_neg h]
def Bts (c : List Int) : Prop := c.length ≤ 140737488351232 ∧ ∀ x, x ∈ c → 0 ≤ x ∧ x ≤ 255
theorem Bts.at_ {c : List Int} (h : Bts c) {i : Int} (h0 : 0 ≤ i) (h1 : i < (c.length : Int)) : 0 ≤ rd c i ∧ rd c i ≤ 255 := by
  have : i.toNat < c.length := by omega
  unfold rd
  rw [List.getD_eq_getElem?_getD, List.getElem?_eq_getElem this]
  exact h.2 _ (List.getElem_mem this)
theorem fr (x : Int) : 0 ≤ IntKind.u64.wrap x ∧ IntKind.u64.wrap x < 18446744073709551616 := by
  simp only [IntKind.wrap, IntKind.bits, ka]
  constructor
  · simp; omega
  · simp; omega
theorem ez {x : Int} (h0 : 0 ≤ x) (h1 : x < 18446744073709551616) : Go.bits .and .u64 x 255 = x % 256 :=
  bits_mask .u64 64 (by decide) (fun n h2 h3 => by simp only [IntKind.wrap, IntKind.bits, ka]; simp; omega) 8 (by decide) x h0 h1
theorem fg {c : List Int} (hc : Bts c) {i : Int} (s : Int) (h0 : 0 ≤ i) (h1 : i ≤ 1000000000000000) : ∃ b s', spec_l1Cur_next.f c i s = some (b, i + 1, s') ∧ 0 ≤ b ∧ b ≤ 255 := by
  have hl := hc.1
  unfold spec_l1Cur_next.f
  rw [wrap_id (x := i + 1) (by omega) (by omega)]
  by_cases h : i < (c.length : Int)
  · have hb := hc.at_ h0 h
    rw [if_pos h, if_pos h0, if_pos (by omega)]
    exact ⟨_, _, rfl, by rw [wrap_id (by omega) (by omega)]; exact hb.1, by rw [wrap_id (by omega) (by omega)]; exact hb.2⟩
  · rw [if_neg h, if_neg (by omega)]
    refine ⟨_, _, rfl, ?_⟩
    have hr := fr (IntKind.u64.wrap (IntKind.u64.wrap (s * 6364136223846793005)) + 1442695040888963407)
    generalize IntKind.u64.wrap (IntKind.u64.wrap (IntKind.u64.wrap (s * 6364136223846793005)) + 1442695040888963407) = X at hr
    rw [ez (by omega) (by omega), wrap_id (by omega) (by omega)]
    omega
theorem av {c : List Int} (hc : Bts c) {i : Int} (s : Int) {n : Int} (h0 : 0 ≤ i) (h1 : i ≤ 100000000000000) (hn : n ≤ 1000000) : ∃ b i' s', spec_l1Cur_pick.f c i s n = some (b, i', s') ∧ 0 ≤ b ∧ (b < n ∨ b = 0) ∧ i ≤ i' ∧ i' ≤ i + 2 := by
  unfold spec_l1Cur_pick.f
  by_cases h : n ≤ 1
  · rw [if_pos h]
    exact ⟨_, _, _, rfl, by omega, .inr rfl, by omega, by omega⟩
  · rw [if_neg h]
    obtain ⟨b, s1, e1, b0, b1⟩ := fg hc s h0 (by omega)
    rw [e1, kz]
    have hmod : ∀ x : Int, 0 ≤ x → 0 ≤ Int.tmod x n ∧ Int.tmod x n < n := fun x hx => ⟨Int.tmod_nonneg _ hx, Int.tmod_lt_of_pos _ (by omega)⟩
    by_cases h2 : n > 200
    · rw [if_pos h2]
      dsimp only
      obtain ⟨d, s2, e2, d0, d1⟩ := fg hc (i := i + 1) s1 (by omega) (by omega)
      rw [e2, kz, if_neg (by omega)]
      dsimp only
      rw [wrap_id (x := b * 256) (by omega) (by omega), wrap_id (by omega) (by omega)]
      obtain ⟨m0, m1⟩ := hmod (b * 256 + d) (by omega)
      exact ⟨_, _, _, rfl, m0, .inl m1, by omega, by omega⟩
    · rw [if_neg h2, if_neg (by omega)]
      dsimp only
      obtain ⟨m0, m1⟩ := hmod b b0
      exact ⟨_, _, _, rfl, m0, .inl m1, by omega, by omega⟩
theorem el {c : List Int} (hc : Bts c) {i : Int} (s : Int) {n : Int} (h0 : 0 ≤ i) (h1 : i ≤ 100000000000000) (hn : n ≤ 1000000) : ∃ b i' s', spec_l1Cur_one.f c i s n = some (b, i', s') ∧ i ≤ i' ∧ i' ≤ i + 2 := by
  unfold spec_l1Cur_one.f
  obtain ⟨b, i', s', e, _, _, h2, h3⟩ := av hc s h0 h1 hn
  rw [e, kz]
  exact ⟨_, _, _, rfl, h2, h3⟩
theorem bu {c : List Int} (hc : Bts c) {i : Int} (s : Int) (l : List Int) (h0 : 0 ≤ i) (h1 : i ≤ 100000000000000) (hl : l ≠ []) (hn : l.length ≤ 1000) : ∃ v i' s', spec_l1Cur_among.f c i s l = some (v, i', s') ∧ v ∈ l ∧ i ≤ i' ∧ i' ≤ i + 2 := by
  unfold spec_l1Cur_among.f
  have hpos : 0 < l.length := ki.2 hl
  obtain ⟨b, i', s', e, b0, b1, h2, h3⟩ := av hc s (n := (l.length : Int)) h0 h1 (by omega)
  have hb : b < (l.length : Int) := by omega
  rw [e, kz, if_pos b0, if_pos hb]
  refine ⟨_, _, _, rfl, ?_, h2, h3⟩
  have : b.toNat < l.length := by omega
  unfold rd
  rw [List.getD_eq_getElem?_getD, List.getElem?_eq_getElem this]
  exact List.getElem_mem this
theorem ed {c : List Int} (hc : Bts c) {i : Int} (s : Int) (h0 : 0 ≤ i) (h1 : i ≤ 10000000000000) : ∃ a n i' s', spec_l1Cur_prefix.f c i s = some (a, n, i', s') ∧ i ≤ i' ∧ i' ≤ i + 8 := by
  unfold spec_l1Cur_prefix.f
  obtain ⟨n, i1, s1, e1, m1, a1, b1⟩ := bu hc s [0, 1, 2, 3, 4, 8, 8, 16, 24, 31, 32] h0 (by omega) (by simp) (by simp)
  rw [e1, kz]
  dsimp only
  obtain ⟨a, i2, s2, e2, m2, a2, b2⟩ := bu hc s1 [0, 167772160, 167837696, 3232235520, 2147483648, 4294967295, 3758096384, 167772165] (i := i1) (by omega) (by omega) (by simp) (by simp)
  rw [e2, kz]
  have hn : 0 ≤ n ∧ n ≤ 32 := by
    simp only [kQ, List.not_mem_nil, or_false] at m1
    omega
  have hs := sz_pos n
  dsimp only
  rw [co _ hn.1 hn.2, kz, if_neg (by omega)]
  obtain ⟨b, i3, s3, e3, _, _, a3, b3⟩ := av hc s2 (n := 30) (i := i2) (by omega) (by omega) (by omega)
  rw [e3, kz]
  dsimp only
  by_cases hb : b = 0
  · rw [if_pos hb]; exact ⟨_, _, _, _, rfl, by omega, by omega⟩
  · rw [if_neg hb]
    by_cases hb2 : b = 1
    · rw [if_pos hb2]
      obtain ⟨v, i4, s4, e4, _, a4, b4⟩ := bu hc s3 [(-1), 33] (i := i3) (by omega) (by omega) (by simp) (by simp)
      rw [e4, kz]
      exact ⟨_, _, _, _, rfl, by dsimp only; omega, by dsimp only; omega⟩
    · rw [if_neg hb2]; exact ⟨_, _, _, _, rfl, by omega, by omega⟩
theorem fj {c : List Int} (hc : Bts c) {i : Int} (s : Int) (h0 : 0 ≤ i) (h1 : i ≤ 10000000000000) : ∃ a n i' s', spec_l1Cur_fine.f c i s = some (a, n, i', s') ∧ good a n = true ∧ i ≤ i' ∧ i' ≤ i + 8 := by
  unfold spec_l1Cur_fine.f
  obtain ⟨a, n, i1, s1, e1, a1, b1⟩ := ed hc s h0 h1
  rw [e1, kz, bn, kz]
  dsimp only
  by_cases hg : good a n = true
  · rw [if_pos hg]; exact ⟨_, _, _, _, rfl, hg, a1, b1⟩
  · rw [if_neg hg]
    refine ⟨_, _, _, _, rfl, ?_, a1, b1⟩
    refine good_iff.2 ⟨by omega, by omega, by omega, by omega, ?_⟩
    have : sz 8 = 16777216 := by unfold sz; rfl
    rw [this]; rfl
theorem d5 (x : Int) (n : Nat) : (hb x n).length = n := by
  induction n with
  | zero => rfl
  | succ n ih => simp [hb, ih]
def bW (n : Nat) (x : Int) : ByteArray := strOfNums (hb x n)
theorem ai (n : Nat) (x : Int) : (bW n x).size = n := by
  have : (strOfNums (hb x n)).size = (hb x n).length := by simp [strOfNums, ku]
  unfold bW; rw [this, d5]
theorem ce (k n : Nat) (x : Int) (hk : n < k) (hn : n ≤ 4) : impl_bytesOf.f k x (n : Int) = some (bW n x) := cj k n x hk (by omega)
def seg (s : ByteArray) (i n : Nat) : List UInt8 := (s.data.toList.drop i).take n
theorem bo (s : ByteArray) (i : Nat) : seg s i 0 = [] := by unfold seg; simp
theorem au (s : ByteArray) (i n : Nat) (h : i < s.size) : seg s i (n + 1) = UInt8.ofNat (bt s (i : Int)).toNat :: seg s (i + 1) n := by
  unfold seg
  have hl : i < s.data.toList.length := by simpa using h
  rw [List.drop_eq_getElem_cons hl, List.take_succ_cons]
  congr 1
  have : bt s (i : Int) = ((s[i]'h).toNat : Int) := by unfold bt; rw [dif_pos (by simpa using h)]; rfl
  rw [this, Int.toNat_natCast]
  have e2 : s.data.toList[i] = s[i]'h := by simp [ByteArray.getElem_eq_getElem_data]
  rw [e2]
  simp
theorem ak (s : ByteArray) (i m n : Nat) : seg s i (m + n) = seg s i m ++ seg s (i + m) n := by
  unfold seg
  rw [List.take_add, List.drop_drop]
theorem ej (s : ByteArray) : seg s 0 s.size = s.data.toList := by
  unfold seg
  rw [List.drop_zero, List.take_of_length_le]
  rw [Array.length_toList]
  exact Nat.le_refl _
theorem cw (s : ByteArray) (i n : Nat) (h : i + n ≤ s.size) : (seg s i n).length = n := by
  unfold seg
  rw [km, List.length_drop]
  have : s.data.toList.length = s.size := by rw [Array.length_toList]; rfl
  omega
theorem orB {x b : Int} (h0 : 0 ≤ x) (h1 : x ≤ 1099511627776) (b0 : 0 ≤ b) (b1 : b ≤ 255) : Go.bits .or .i64 (wrap64 (x * 256)) (wrap64 b) = x * 256 + b := by
  rw [wrap_id (x := x * 256) (by omega) (by omega), wrap_id (x := b) (by omega) (by omega)]
  exact bits_join .i64 62 (by decide) (fun n h2 h3 => by
    have h4 : n < 4611686018427387904 := by simpa using h3
    show IntKind.i64.wrap n = n
    rw [IntKind.wrap_i64]; omega) 8 (x * 256) b (by omega) (by show x * 256 % 256 = 0; omega) (by show x * 256 < 4611686018427387904; omega) b0 (by show b < 256; omega) (by show b < 4611686018427387904; omega)
theorem aa (s : ByteArray) (n : Nat) (i x : Int) (h0 : 0 ≤ x) (h1 : x ≤ 1099511627776) : ad s (n + 1) i x = ad s n (i + 1) (x * 256 + bt s i) := by
  have hb := bt_range s i
  rw [ad, orB h0 h1 hb.1 hb.2]
theorem dp (x : Int) (n : Nat) (h : n ≤ 64) : shr .i64 x (n : Int) = x / 2 ^ n := by
  unfold shr
  rw [show min (n : Int).toNat IntKind.i64.bits = n by show min (n : Int).toNat 64 = n; omega]
theorem a7 (x : Int) : hb x 4 = [x / 16777216 % 256, x / 65536 % 256, x / 256 % 256, x % 256] ∧ hb x 3 = [x / 65536 % 256, x / 256 % 256, x % 256] ∧ hb x 2 = [x / 256 % 256, x % 256] ∧ hb x 1 = [x % 256] := by
  have e0 : shr .i64 x (8 * ((0 : Nat) : Int)) = x := by have := dp x 0 (by omega); simpa using this
  have e1 : shr .i64 x (8 * ((1 : Nat) : Int)) = x / 256 := by have := dp x 8 (by omega); simpa using this
  have e2 : shr .i64 x (8 * ((2 : Nat) : Int)) = x / 65536 := by have := dp x 16 (by omega); simpa using this
  have e3 : shr .i64 x (8 * ((3 : Nat) : Int)) = x / 16777216 := by have := dp x 24 (by omega); simpa using this
  refine ⟨?_, ?_, ?_, ?_⟩ <;> simp only [hb, e0, e1, e2, e3]
theorem bi (n : Nat) (x : Int) : (bW n x).data.toList = (hb x n).map (fun n => UInt8.ofNat n.toNat) := by unfold bW strOfNums; simp
theorem cr (s : ByteArray) : ∀ (n : Nat) (i : Int), n ≤ 4 → 0 ≤ ad s n i 0 ∧ ad s n i 0 < 4294967296
  | 0, i, _ => by simp [ad]
  | 1, i, _ => by
    have h0 := bt_range s i
    rw [aa s 0 i 0 (by omega) (by omega), ad]; omega
  | 2, i, _ => by
    have h0 := bt_range s i; have h1 := bt_range s (i + 1)
    rw [aa s 1 i 0 (by omega) (by omega), aa s 0 _ _ (by omega) (by omega), ad]; omega
  | 3, i, _ => by
    have h0 := bt_range s i; have h1 := bt_range s (i + 1); have h2 := bt_range s (i + 1 + 1)
    rw [aa s 2 i 0 (by omega) (by omega), aa s 1 _ _ (by omega) (by omega), aa s 0 _ _ (by omega) (by omega), ad]; omega
  | 4, i, _ => by
    have h0 := bt_range s i; have h1 := bt_range s (i + 1); have h2 := bt_range s (i + 1 + 1); have h3 := bt_range s (i + 1 + 1 + 1)
    rw [aa s 3 i 0 (by omega) (by omega), aa s 2 _ _ (by omega) (by omega), aa s 1 _ _ (by omega) (by omega), aa s 0 _ _ (by omega) (by omega), ad]; omega
  | n + 5, i, h => by omega
theorem bh (s : ByteArray) : ∀ (n i : Nat), n ≤ 4 → i + n ≤ s.size → (bW n (ad s n (i : Int) 0)).data.toList = seg s i n
  | 0, i, _, _ => by rw [bi, bo]; rfl
  | 1, i, _, h => by
    have h0 := bt_range s (i : Int)
    rw [bi, au s i 0 (by omega), bo, aa s 0 i 0 (by omega) (by omega), ad, (a7 _).2.2.2]
    simp only [ks, List.map_nil]
    rw [show ((0 : Int) * 256 + bt s (i : Int)) % 256 = bt s (i : Int) by omega]
  | 2, i, _, h => by
    have h0 := bt_range s (i : Int); have h1 := bt_range s ((i : Int) + 1)
    rw [bi, au s i 1 (by omega), au s (i + 1) 0 (by omega), bo, aa s 1 i 0 (by omega) (by omega), aa s 0 _ _ (by omega) (by omega), ad, (a7 _).2.2.1]
    simp only [ks, List.map_nil]
    rw [show (((0 : Int) * 256 + bt s (i : Int)) * 256 + bt s ((i : Int) + 1)) / 256 % 256 = bt s (i : Int) by omega, show (((0 : Int) * 256 + bt s (i : Int)) * 256 + bt s ((i : Int) + 1)) % 256 = bt s ((i : Int) + 1) by omega, show (((i + 1 : Nat) : Int)) = (i : Int) + 1 by omega]
  | 3, i, _, h => by
    have h0 := bt_range s (i : Int); have h1 := bt_range s ((i : Int) + 1); have h2 := bt_range s ((i : Int) + 1 + 1)
    rw [bi, au s i 2 (by omega), au s (i + 1) 1 (by omega), au s (i + 1 + 1) 0 (by omega), bo, aa s 2 i 0 (by omega) (by omega), aa s 1 _ _ (by omega) (by omega), aa s 0 _ _ (by omega) (by omega), ad, (a7 _).2.1]
    simp only [ks, List.map_nil]
    rw [show ((i + 1 : Nat) : Int) = (i : Int) + 1 by omega, show ((i + 1 + 1 : Nat) : Int) = (i : Int) + 1 + 1 by omega]
    generalize bt s (i : Int) = a at h0 ⊢
    generalize bt s ((i : Int) + 1) = b at h1 ⊢
    generalize bt s ((i : Int) + 1 + 1) = c at h2 ⊢
    rw [show (((0 * 256 + a) * 256 + b) * 256 + c) / 65536 % 256 = a by omega, show (((0 * 256 + a) * 256 + b) * 256 + c) / 256 % 256 = b by omega, show (((0 * 256 + a) * 256 + b) * 256 + c) % 256 = c by omega]
  | 4, i, _, h => by
    have h0 := bt_range s (i : Int); have h1 := bt_range s ((i : Int) + 1); have h2 := bt_range s ((i : Int) + 1 + 1); have h3 := bt_range s ((i : Int) + 1 + 1 + 1)
    rw [bi, au s i 3 (by omega), au s (i + 1) 2 (by omega), au s (i + 1 + 1) 1 (by omega), au s (i + 1 + 1 + 1) 0 (by omega), bo, aa s 3 i 0 (by omega) (by omega), aa s 2 _ _ (by omega) (by omega), aa s 1 _ _ (by omega) (by omega), aa s 0 _ _ (by omega) (by omega), ad, (a7 _).1]
    simp only [ks, List.map_nil]
    rw [show ((i + 1 : Nat) : Int) = (i : Int) + 1 by omega, show ((i + 1 + 1 : Nat) : Int) = (i : Int) + 1 + 1 by omega, show ((i + 1 + 1 + 1 : Nat) : Int) = (i : Int) + 1 + 1 + 1 by omega]
    generalize bt s (i : Int) = a at h0 ⊢
    generalize bt s ((i : Int) + 1) = b at h1 ⊢
    generalize bt s ((i : Int) + 1 + 1) = c at h2 ⊢
    generalize bt s ((i : Int) + 1 + 1 + 1) = d at h3 ⊢
    rw [show ((((0 * 256 + a) * 256 + b) * 256 + c) * 256 + d) / 16777216 % 256 = a by omega, show ((((0 * 256 + a) * 256 + b) * 256 + c) * 256 + d) / 65536 % 256 = b by omega, show ((((0 * 256 + a) * 256 + b) * 256 + c) * 256 + d) / 256 % 256 = c by omega, show ((((0 * 256 + a) * 256 + b) * 256 + c) * 256 + d) % 256 = d by omega]
  | n + 5, i, h, _ => by omega
def ae (a n : Int) : ByteArray := bW 1 n ++ strOfNums ((hb a 4).take (ab n))
theorem cb (a n : Int) : (ae a n).size ≤ 5 := by
  unfold ae
  have : (strOfNums ((hb a 4).take (ab n))).size = ((hb a 4).take (ab n)).length := by simp [strOfNums, ku]
  rw [kq, ai, this, km, d5]
  omega
theorem gl (k : Nat) (hk : 10 ≤ k) (a n : Int) (h0 : 0 ≤ n) (h1 : n ≤ 32) : impl_prefixBytes.f k a n = some (ae a n) := by
  obtain ⟨hm, hm4⟩ := bf h0 (by omega)
  have hle : ab n ≤ 4 := by omega
  unfold ae
  generalize ab n = m at hm hm4 hle ⊢
  have i1 := ce k 1 n (by omega) (by omega)
  have i4 := ce k 4 a (by omega) (by omega)
  rw [show ((1 : Nat) : Int) = 1 from rfl] at i1
  rw [show ((4 : Nat) : Int) = 4 from rfl] at i4
  unfold impl_prefixBytes.f
  rw [i1, i4, hm]
  simp only [kz]
  have hx : (bW 4 a).extract 0 m = strOfNums ((hb a 4).take m) := by
    unfold bW strOfNums; ext1; simp [ByteArray.data_extract]
  have hs : (strOfNums ((hb a 4).take m)).size = ((hb a 4).take m).length := by simp [strOfNums, ku]
  rw [if_pos (by omega), if_pos (by rw [ai]; omega), show ((m : Int)).toNat = m by omega, hx, if_pos (by rw [ai, hs, km, d5]; omega)]
theorem gh (s : ByteArray) (i : Nat) (hi : i ≤ s.size) {t : Int × Int × Int} (h : bk s (i : Int) = some t) : 0 ≤ t.2.1 ∧ t.2.1 ≤ 32 ∧ ∃ n : Nat, t.2.2 = ((i + n : Nat) : Int) ∧ i + n ≤ s.size ∧ 1 ≤ n ∧ (ae t.1 t.2.1).data.toList = seg s i n := by
  unfold bk at h
  split at h
  · rename_i c1
    split at h
    · cases h
    · rename_i c2
      split at h
      · rename_i c3
        cases h
        have hbt := bt_range s (i : Int)
        obtain ⟨_, ho⟩ := bf hbt.1 hbt.2
        have hle : ab (bt s (i : Int)) ≤ 4 := by omega
        refine ⟨hbt.1, by dsimp only; omega, 1 + ab (bt s (i : Int)), by dsimp only; omega, by omega, by omega, ?_⟩
        dsimp only
        unfold ae
        have hone : (bW 1 (bt s (i : Int))).data.toList = seg s i 1 := by
          have := bh s 1 i (by omega) (by omega)
          rw [ba] at this
          exact this
        rw [kg, Array.toList_append, hone, ak]
        congr 1
        have hnum := bh s (ab (bt s (i : Int))) (i + 1) hle (by omega)
        rw [show ((i + 1 : Nat) : Int) = (i : Int) + 1 by omega] at hnum
        rw [← hnum, bi]
        have hr := cr s (ab (bt s (i : Int))) ((i : Int) + 1) hle
        have hsz : ∀ (x : Int) (m : Nat), m = ab (bt s (i : Int)) → 0 ≤ x → x < 256 ^ m → (hb (shl .i64 x (32 - 8 * (m : Int))) 4).take m = hb x m := by
          intro x m hm hx0 hx1
          have hm4 : m ≤ 4 := by omega
          have hsh : shl .i64 x (32 - 8 * (m : Int)) = x * 2 ^ (32 - 8 * m) := by
            unfold shl
            have e : min (32 - 8 * (m : Int)).toNat IntKind.i64.bits = 32 - 8 * m := by show min (32 - 8 * (m : Int)).toNat 64 = _; omega
            rw [e]
            rw [i64_w]
            refine wrap_id ?_ ?_
            · have : 0 ≤ x * 2 ^ (32 - 8 * m) := Int.mul_nonneg hx0 (by exact_mod_cast Nat.zero_le _)
              omega
            · have h5 : m = 0 ∨ m = 1 ∨ m = 2 ∨ m = 3 ∨ m = 4 := by omega
              rcases h5 with rfl | rfl | rfl | rfl | rfl <;> simp at hx1 ⊢ <;> omega
          rw [hsh, (a7 _).1]
          have h5 : m = 0 ∨ m = 1 ∨ m = 2 ∨ m = 3 ∨ m = 4 := by omega
          rcases h5 with rfl | rfl | rfl | rfl | rfl
          · rfl
          · rw [(a7 x).2.2.2]; simp at hx1 ⊢ <;> omega
          · rw [(a7 x).2.2.1]; simp at hx1 ⊢ <;> omega
          · rw [(a7 x).2.1]; simp at hx1 ⊢ <;> omega
          · rw [(a7 x).1]; simp at hx1 ⊢
        have hlt : ∀ (m : Nat) (j : Int), m ≤ 4 → ad s m j 0 < 256 ^ m := by
          intro m j hm
          have h5 : m = 0 ∨ m = 1 ∨ m = 2 ∨ m = 3 ∨ m = 4 := by omega
          have g0 := bt_range s j; have g1 := bt_range s (j + 1); have g2 := bt_range s (j + 1 + 1)
          rcases h5 with rfl | rfl | rfl | rfl | rfl
          · simp [ad]
          · rw [aa s 0 _ 0 (by omega) (by omega), ad]; simp; omega
          · rw [aa s 1 _ 0 (by omega) (by omega), aa s 0 _ _ (by omega) (by omega), ad]; simp; omega
          · rw [aa s 2 _ 0 (by omega) (by omega), aa s 1 _ _ (by omega) (by omega), aa s 0 _ _ (by omega) (by omega), ad]; simp; omega
          · have := (cr s 4 j (by omega)).2; simpa using this
        rw [← hsz _ _ rfl hr.1 (hlt _ _ hle)]
        unfold strOfNums
        simp
      · cases h
  · cases h
def az (s : ByteArray) (i : Int) : Int := if i + 1 ≤ s.size then (if bt s i > 32 then 3 else 1) else 1
theorem gc (s : ByteArray) (i : Int) : az s i ≠ 0 := by unfold az; split <;> (try split) <;> omega
theorem b6 (s : ByteArray) (hs : s.size ≤ 1000000000) (k : Nat) (hk : 100 ≤ k) (i : Int) (h0 : 0 ≤ i) (h1 : i ≤ s.size) : ∃ q, spec_l4R_prefix.f k s i 0 = some q ∧ (∀ t, bk s i = some t → q = (t.1, t.2.1, s, t.2.2, 0)) ∧ (bk s i = none → q.2.2.2.2 = az s i) ∧ q.2.2.1 = s := by
  obtain ⟨k, rfl⟩ : ∃ m, k = m + 1 := ⟨k - 1, by omega⟩
  have hn := bb s hs 1 (k + 1) i (by omega) (by omega) h0 h1
  unfold spec_l4R_prefix.f bk
  rw [show ((1 : Nat) : Int) = 1 from rfl] at hn
  rw [hn, kz, ba]
  have hb := bt_range s i
  have ho := bf hb.1 hb.2
  by_cases h2 : i + 1 ≤ (s.size : Int)
  · rw [if_pos h2, if_pos h2]
    simp only [if_true, spec_l4R_prefix.j0]
    by_cases h3 : bt s i > 32
    · rw [if_pos (decide_eq_true h3), if_pos h3]
      have hz : ∀ n, spec_l4R_number.f k s (i + 1) 3 n = some (0, s, i + 1, 3) := by
        intro n
        obtain ⟨k, rfl⟩ : ∃ m, k = m + 1 := ⟨k - 1, by omega⟩
        unfold spec_l4R_number.f
        rw [if_neg (by omega)]
        simp only [spec_l4R_number.j0]
        simp
      rw [hz]
      simp only [kz]
      rw [if_neg (by omega)]
      exact ⟨_, rfl, fun t h => by simp at h, fun _ => by first | simp [az, h2, h3] | simp [az, h2], rfl⟩
    · rw [if_neg (by simpa using h3), if_neg h3, ho.1, bb s hs (ab (bt s i)) k (i + 1) (by omega) (by omega) (by omega) h2]
      simp only [kz]
      by_cases h4 : i + 1 + (ab (bt s i) : Int) ≤ s.size
      · rw [if_pos h4, if_pos h4]
        simp only [if_true]
        rw [wrap_id (x := 8 * (ab (bt s i) : Int)) (by omega) (by omega), wrap_id (x := 32 - 8 * (ab (bt s i) : Int)) (by omega) (by omega), u64_id (by omega) (by omega), if_pos (by omega)]
        exact ⟨_, rfl, fun t h => by cases h; rfl, fun h => by simp at h, rfl⟩
      · rw [if_neg h4, if_neg h4]
        simp only []
        rw [if_neg (by omega)]
        exact ⟨_, rfl, fun t h => by simp at h, fun _ => by first | simp [az, h2, h3] | simp [az, h2], rfl⟩
  · rw [if_neg h2, if_neg h2]
    simp only []
    rw [if_neg (by omega)]
    simp only [spec_l4R_prefix.j0]
    rw [if_neg (by simp)]
    have hz : spec_l4R_number.f k s i 1 (wrap64 (Int.tdiv (wrap64 (0 + 7)) 8)) = some (0, s, i, 1) := by
      obtain ⟨k, rfl⟩ : ∃ m, k = m + 1 := ⟨k - 1, by omega⟩
      unfold spec_l4R_number.f
      rw [if_neg (by omega)]
      simp only [spec_l4R_number.j0]
      simp
    rw [hz]
    simp only [kz]
    rw [if_neg (by omega)]
    exact ⟨_, rfl, fun t h => by simp at h, fun _ => by first | simp [az, h2, h3] | simp [az, h2], rfl⟩
theorem b9 (s : ByteArray) (hs : s.size ≤ 1000000000) (k : Nat) (hk : 100 ≤ k) (i : Int) (h0 : 0 ≤ i) (h1 : i ≤ s.size) : ∃ q, impl_input_prefix.f k s i 0 = some q ∧ (∀ t, bk s i = some t → q = (t.1, t.2.1, s, t.2.2, 0)) ∧ (bk s i = none → q.2.2.2.2 = az s i) ∧ q.2.2.1 = s := by
  obtain ⟨k, rfl⟩ : ∃ m, k = m + 1 := ⟨k - 1, by omega⟩
  have hn := ag s hs 1 (k + 1) i (by omega) (by omega) h0 h1
  unfold impl_input_prefix.f bk
  rw [show ((1 : Nat) : Int) = 1 from rfl] at hn
  rw [hn, kz, ba]
  have hb := bt_range s i
  have ho := bf hb.1 hb.2
  by_cases h2 : i + 1 ≤ (s.size : Int)
  · rw [if_pos h2, if_pos h2]
    simp only [if_true, impl_input_prefix.j0]
    by_cases h3 : bt s i > 32
    · rw [if_pos (decide_eq_true h3), if_pos h3]
      exact ⟨_, rfl, fun t h => by simp at h, fun _ => by first | simp [az, h2, h3] | simp [az, h2], rfl⟩
    · rw [if_neg (by simpa using h3), if_neg h3, ho.1, ag s hs (ab (bt s i)) k (i + 1) (by omega) (by omega) (by omega) h2]
      rw [kz]
      have w1 : wrap64 (8 * (ab (bt s i) : Int)) = 8 * (ab (bt s i) : Int) := wrap_id (by omega) (by omega)
      have w2 : wrap64 (32 - 8 * (ab (bt s i) : Int)) = 32 - 8 * (ab (bt s i) : Int) := wrap_id (by omega) (by omega)
      have w3 : 0 ≤ 32 - 8 * (ab (bt s i) : Int) := by omega
      by_cases h4 : i + 1 + (ab (bt s i) : Int) ≤ s.size
      · rw [if_pos h4, if_pos h4]
        rw [w1, w2, if_pos w3]
        dsimp only
        exact ⟨_, rfl, fun t h => by cases h; rfl, fun h => by simp at h, rfl⟩
      · rw [if_neg h4, if_neg h4]
        rw [w1, w2, if_pos w3]
        dsimp only
        exact ⟨_, rfl, fun t h => by simp at h, fun _ => by first | simp [az, h2, h3] | simp [az, h2], rfl⟩
  · rw [if_neg h2, if_neg h2]
    simp only []
    rw [if_neg (by omega)]
    simp only [impl_input_prefix.j0]
    rw [if_neg (by simp), if_neg (by omega)]
    exact ⟨_, rfl, fun t h => by simp at h, fun _ => by first | simp [az, h2, h3] | simp [az, h2], rfl⟩

def d7 (s : ByteArray) (i1 i2 e : Int) : Prop := e = 0 → i1 = i2 ∧ 0 ≤ i1 ∧ i1 ≤ (s.size : Int)
theorem dk (s : ByteArray) (k : Nat) (i e n : Int) (he : e ≠ 0) (hk : 1 ≤ k) : spec_l4R_number.f k s i e n = some (0, s, i, e) := by
  obtain ⟨k, rfl⟩ : ∃ m, k = m + 1 := ⟨k - 1, by omega⟩
  unfold spec_l4R_number.f
  rw [if_neg he, spec_l4R_number.j0, if_pos rfl, if_neg he]
theorem ch (s : ByteArray) (k : Nat) (i e n : Int) (he : e ≠ 0) (hk : 2 ≤ k) : impl_input_number.f k s i e n = some (0, s, i, e) := by
  obtain ⟨k, rfl⟩ : ∃ m, k = m + 1 + 1 := ⟨k - 2, by omega⟩
  unfold impl_input_number.f
  rw [if_neg he, impl_input_number.j0, if_neg (by simp), impl_input_number.j1, if_neg he]
theorem ap (s : ByteArray) (hs : s.size ≤ 1000) (n : Nat) (hn : n ≤ 4) (i1 i2 e : Int) (h : d7 s i1 i2 e) : ∃ v1 j1 v2 j2 e', (∀ k, 10 ≤ k → spec_l4R_number.f k s i1 e n = some (v1, s, j1, e')) ∧ (∀ k, 10 ≤ k → impl_input_number.f k s i2 e n = some (v2, s, j2, e')) ∧ d7 s j1 j2 e' ∧ (e' = 0 → e = 0 ∧ v1 = v2 ∧ j1 = i1 + n ∧ v1 = ad s n i1 0) := by
  by_cases he : e = 0
  · subst he
    obtain ⟨rfl, h0, h1⟩ := h rfl
    by_cases hb : i1 + n ≤ (s.size : Int)
    · refine ⟨ad s n i1 0, i1 + n, ad s n i1 0, i1 + n, 0, fun k hk => ?_, fun k hk => ?_, fun _ => ⟨rfl, by omega, hb⟩, fun _ => ⟨rfl, rfl, rfl, rfl⟩⟩
      · rw [bb s (by omega) n k i1 (by omega) (by omega) h0 h1, if_pos hb]
      · rw [ag s (by omega) n k i1 (by omega) (by omega) h0 h1, if_pos hb]
    · refine ⟨0, i1, 0, i1, 1, fun k hk => ?_, fun k hk => ?_, fun hf => by omega, fun hf => by omega⟩
      · rw [bb s (by omega) n k i1 (by omega) (by omega) h0 h1, if_neg hb]
      · rw [ag s (by omega) n k i1 (by omega) (by omega) h0 h1, if_neg hb]
  · exact ⟨0, i1, 0, i2, e, fun k hk => dk s k i1 e n he (by omega), fun k hk => ch s k i2 e n he (by omega), fun hf => absurd hf he, fun hf => absurd hf he⟩
theorem ds (s : ByteArray) (hs : s.size ≤ 1000) (w : Nat) (hw : w ≤ 4) : ∀ (m : Nat) (i1 i2 e : Int) (o1 o2 : List Int), m ≤ 255 → o1.length + m ≤ 1000 → o2.length + m ≤ 1000 → d7 s i1 i2 e → ∃ l1 j1 l2 j2 e', (∀ k, 11 + m ≤ k → spec_l4R_numbers.l0 k (w : Int) o1 (m : Int) s i1 e = some (o1 ++ l1, s, j1, e')) ∧ (∀ k, 11 + m ≤ k → impl_input_numbers.l0 k (w : Int) o2 (m : Int) s i2 e = some (o2 ++ l2, s, j2, e')) ∧ d7 s j1 j2 e' ∧ (e' = 0 → e = 0 ∧ l1 = l2 ∧ l1.length = m ∧ (∀ i : Nat, i1 = i → ∃ q : Nat, j1 = ((i + q : Nat) : Int) ∧ i + q ≤ s.size ∧ l1.flatMap (fun x => (bW w x).data.toList) = seg s i q)) := by
  intro m
  induction m with
  | zero =>
    intro i1 i2 e o1 o2 _ _ _ h
    refine ⟨[], i1, [], i2, e, fun k hk => ?_, fun k hk => ?_, h, fun he => ⟨he, rfl, rfl, fun i hi => ⟨0, by omega, by have := (h he).2.2; omega, by rw [bo]; rfl⟩⟩⟩
    · obtain ⟨k, rfl⟩ : ∃ q, k = q + 1 := ⟨k - 1, by omega⟩
      rw [spec_l4R_numbers.l0, if_neg (by omega), kc]
    · obtain ⟨k, rfl⟩ : ∃ q, k = q + 1 := ⟨k - 1, by omega⟩
      rw [impl_input_numbers.l0, if_neg (by omega), kc]
  | succ m ih =>
    intro i1 i2 e o1 o2 hm h1 h2 h
    by_cases he : e = 0
    · obtain ⟨v1, j1, v2, j2, e1, s1, s2, hS, hv⟩ := ap s hs w hw i1 i2 e h
      obtain ⟨l1, p1, l2, p2, e2, t1, t2, hT, hl⟩ := ih j1 j2 e1 (o1 ++ [v1]) (o2 ++ [v2]) (by omega) (by simp; omega) (by simp; omega) hS
      have hwr : wrap64 (((m + 1 : Nat) : Int) - 1) = (m : Int) := by rw [wrap_id (by omega) (by omega)]; omega
      refine ⟨v1 :: l1, p1, v2 :: l2, p2, e2, fun k hk => ?_, fun k hk => ?_, hT, fun hz => ?_⟩
      · obtain ⟨k, rfl⟩ : ∃ q, k = q + 1 := ⟨k - 1, by omega⟩
        rw [spec_l4R_numbers.l0, if_pos (by omega), if_pos he, s1 k (by omega), kz]
        dsimp only
        rw [if_pos (by omega), hwr, t1 k (by omega), kk]
        rfl
      · obtain ⟨k, rfl⟩ : ∃ q, k = q + 1 := ⟨k - 1, by omega⟩
        rw [impl_input_numbers.l0, if_pos (by omega), if_pos he, s2 k (by omega), kz]
        dsimp only
        rw [if_pos (by omega), hwr, t2 k (by omega), kk]
        rfl
      · obtain ⟨a1, a2, a3, a4⟩ := hl hz
        obtain ⟨b1, b2, b3, b4⟩ := hv a1
        refine ⟨he, by rw [a2, b2], by simp [a3], fun i hi => ?_⟩
        have hj := (hS a1).2.2
        obtain ⟨q, c1, c2, c3⟩ := a4 (i + w) (by omega)
        refine ⟨w + q, by omega, by omega, ?_⟩
        rw [ke, c3, b4, hi, bh s w i hw (by omega), ak]
    · refine ⟨[], i1, [], i2, e, fun k hk => ?_, fun k hk => ?_, h, fun hf => absurd hf he⟩
      · obtain ⟨k, rfl⟩ : ∃ q, k = q + 1 := ⟨k - 1, by omega⟩
        rw [spec_l4R_numbers.l0, if_pos (by omega), if_neg he, kc]
      · obtain ⟨k, rfl⟩ : ∃ q, k = q + 1 := ⟨k - 1, by omega⟩
        rw [impl_input_numbers.l0, if_pos (by omega), if_neg he, kc]
def bp (w : Nat) (l : List Int) : ByteArray := l.foldl (fun s x => s ++ bW w x) (bW 1 l.length)
theorem ew {α : Type} (f : α → ByteArray) : ∀ (l : List α) (s : ByteArray), (l.foldl (fun s x => s ++ f x) s).data.toList = s.data.toList ++ l.flatMap (fun x => (f x).data.toList)
  | [], s => by simp
  | a :: l, s => by
    rw [List.foldl_cons, ew f l, kg, Array.toList_append, ke, kk]
theorem cy (s : ByteArray) (hs : s.size ≤ 1000) (w : Nat) (hw : w ≤ 4) (i1 i2 e : Int) (h : d7 s i1 i2 e) : ∃ l1 j1 l2 j2 e', (∀ k, 300 ≤ k → spec_l4R_numbers.f k s i1 e w = some (l1, s, j1, e')) ∧ (∀ k, 300 ≤ k → impl_input_numbers.f k s i2 e w = some (l2, s, j2, e')) ∧ d7 s j1 j2 e' ∧ (e' = 0 → e = 0 ∧ l1 = l2 ∧ l1.length ≤ 255 ∧ (∀ i : Nat, i1 = i → ∃ q : Nat, j1 = ((i + q : Nat) : Int) ∧ i + q ≤ s.size ∧ (bp w l1).data.toList = seg s i q)) := by
  obtain ⟨v1, j1, v2, j2, e1, s1, s2, hS, hv⟩ := ap s hs 1 (by omega) i1 i2 e h
  rw [show ((1 : Nat) : Int) = 1 from rfl] at s1 s2
  by_cases he : e1 = 0
  · obtain ⟨b1, b2, b3, b4⟩ := hv he
    rw [ba] at b4
    have hb := bt_range s i1
    have hv1 : v1 = ((bt s i1).toNat : Int) := by omega
    obtain ⟨l1, p1, l2, p2, e2, t1, t2, hT, hl⟩ := ds s hs w hw (bt s i1).toNat j1 j2 e1 [] [] (by omega) (by simp; omega) (by simp; omega) hS
    refine ⟨l1, p1, l2, p2, e2, fun k hk => ?_, fun k hk => ?_, hT, fun hz => ?_⟩
    · unfold spec_l4R_numbers.f
      rw [s1 k (by omega), kz]
      dsimp only
      rw [hv1]
      exact t1 k (by omega)
    · unfold impl_input_numbers.f
      rw [s2 k (by omega), kz]
      dsimp only
      rw [← b2, hv1]
      exact t2 k (by omega)
    · obtain ⟨a1, a2, a3, a4⟩ := hl hz
      refine ⟨b1, a2, by omega, fun i hi => ?_⟩
      have hj := (hS he).2.2
      obtain ⟨q, c1, c2, c3⟩ := a4 (i + 1) (by omega)
      refine ⟨1 + q, by omega, by omega, ?_⟩
      unfold bp
      rw [ew, c3, ak]
      congr 1
      have := bh s 1 i (by omega) (by omega)
      rw [ba, ← hi] at this
      rw [a3, show (((bt s i1).toNat : Nat) : Int) = bt s i1 by omega, this]
  · obtain ⟨l1, p1, l2, p2, e2, t1, t2, hT, hl⟩ := ds s hs w hw 0 j1 j2 e1 [] [] (by omega) (by simp) (by simp) hS
    have hz1 : ∀ k, 11 ≤ k → spec_l4R_numbers.l0 k (w : Int) [] v1 s j1 e1 = some ([], s, j1, e1) := fun k hk => by
      obtain ⟨k, rfl⟩ : ∃ q, k = q + 1 := ⟨k - 1, by omega⟩
      rw [spec_l4R_numbers.l0, if_neg he]
      split <;> rfl
    have hz2 : ∀ k, 11 ≤ k → impl_input_numbers.l0 k (w : Int) [] v2 s j2 e1 = some ([], s, j2, e1) := fun k hk => by
      obtain ⟨k, rfl⟩ : ∃ q, k = q + 1 := ⟨k - 1, by omega⟩
      rw [impl_input_numbers.l0, if_neg he]
      split <;> rfl
    refine ⟨[], j1, [], j2, e1, fun k hk => ?_, fun k hk => ?_, hS, fun hf => absurd hf he⟩
    · unfold spec_l4R_numbers.f
      rw [s1 k (by omega), kz]
      exact hz1 k (by omega)
    · unfold impl_input_numbers.f
      rw [s2 k (by omega), kz]
      exact hz2 k (by omega)
theorem e9 (s : ByteArray) (hs : s.size ≤ 1000) : ∀ (m : Nat) (i1 i2 e : Int) (o1 o2 : List S35), m ≤ 255 → o1.length + m ≤ 1000 → o2.length + m ≤ 1000 → d7 s i1 i2 e → ∃ l1 j1 l2 j2 e', (∀ k, 101 + m ≤ k → spec_l4R_prefixes.l0 k o1 (m : Int) s i1 e = some (o1 ++ l1, s, j1, e')) ∧ (∀ k, 101 + m ≤ k → impl_input_prefixes.l0 k o2 (m : Int) s i2 e = some (o2 ++ l2, s, j2, e')) ∧ d7 s j1 j2 e' ∧ (e' = 0 → e = 0 ∧ l1 = l2 ∧ l1.length = m ∧ (∀ p, p ∈ l1 → 0 ≤ p.f1 ∧ p.f1 ≤ 32) ∧ (∀ i : Nat, i1 = i → ∃ q : Nat, j1 = ((i + q : Nat) : Int) ∧ i + q ≤ s.size ∧ l1.flatMap (fun p => (ae p.f0 p.f1).data.toList) = seg s i q)) := by
  intro m
  induction m with
  | zero =>
    intro i1 i2 e o1 o2 _ _ _ h
    refine ⟨[], i1, [], i2, e, fun k hk => ?_, fun k hk => ?_, h, fun he => ⟨he, rfl, rfl, by simp, fun i hi => ⟨0, by omega, by have := (h he).2.2; omega, by rw [bo]; rfl⟩⟩⟩
    · obtain ⟨k, rfl⟩ : ∃ q, k = q + 1 := ⟨k - 1, by omega⟩
      rw [spec_l4R_prefixes.l0, if_neg (by omega), kc]
    · obtain ⟨k, rfl⟩ : ∃ q, k = q + 1 := ⟨k - 1, by omega⟩
      rw [impl_input_prefixes.l0, if_neg (by omega), kc]
  | succ m ih =>
    intro i1 i2 e o1 o2 hm h1 h2 h
    have hwr : wrap64 (((m + 1 : Nat) : Int) - 1) = (m : Int) := by rw [wrap_id (by omega) (by omega)]; omega
    by_cases he : e = 0
    · subst he
      obtain ⟨rfl, g0, g1⟩ := h rfl
      cases ht : bk s i1 with
      | none =>
        have st : ∀ k, 100 ≤ k → ∃ a n j, spec_l4R_prefix.f k s i1 0 = some (a, n, s, j, az s i1) := fun k hk => by
          obtain ⟨⟨a, n, s', j, c⟩, q1, _, q2, q3⟩ := b6 s (by omega) k hk i1 g0 g1
          have e1 : c = az s i1 := q2 ht
          have e2 : s' = s := q3
          subst e1; subst e2
          exact ⟨a, n, j, q1⟩
        have im : ∀ k, 100 ≤ k → ∃ a n j, impl_input_prefix.f k s i1 0 = some (a, n, s, j, az s i1) := fun k hk => by
          obtain ⟨⟨a, n, s', j, c⟩, q1, _, q2, q3⟩ := b9 s (by omega) k hk i1 g0 g1
          have e1 : c = az s i1 := q2 ht
          have e2 : s' = s := q3
          subst e1; subst e2
          exact ⟨a, n, j, q1⟩
        obtain ⟨a1, n1, j1, f1⟩ := st 100 (by omega)
        obtain ⟨a2, n2, j2, f2⟩ := im 100 (by omega)
        have f1' : ∀ k, 100 ≤ k → spec_l4R_prefix.f k s i1 0 = some (a1, n1, s, j1, az s i1) := fun k hk => at_rounds (fun k => spec_l4R_prefix.mono _ _ _ k) hk f1
        have f2' : ∀ k, 100 ≤ k → impl_input_prefix.f k s i1 0 = some (a2, n2, s, j2, az s i1) := fun k hk => at_rounds (fun k => impl_input_prefix.mono _ _ _ k) hk f2
        have hc := gc s i1
        refine ⟨[⟨a1, n1⟩], j1, [⟨a2, n2⟩], j2, az s i1, fun k hk => ?_, fun k hk => ?_, fun hf => absurd hf hc, fun hf => absurd hf hc⟩
        · obtain ⟨k, rfl⟩ : ∃ q, k = q + 1 + 1 := ⟨k - 2, by omega⟩
          rw [spec_l4R_prefixes.l0, if_pos (by omega), if_pos rfl, f1' (k + 1) (by omega), kz]
          dsimp only
          rw [if_pos (by omega), hwr, spec_l4R_prefixes.l0, if_neg hc]
          split <;> rfl
        · obtain ⟨k, rfl⟩ : ∃ q, k = q + 1 + 1 := ⟨k - 2, by omega⟩
          rw [impl_input_prefixes.l0, if_pos (by omega), if_pos rfl, f2' (k + 1) (by omega), kz]
          dsimp only
          rw [if_pos (by omega), hwr, impl_input_prefixes.l0, if_neg hc]
          split <;> rfl
      | some t =>
        have hn1 : i1 = ((i1.toNat : Nat) : Int) := by omega
        obtain ⟨u0, u1, n, u2, u3, u4, u5⟩ := gh s i1.toNat (by omega) (t := t) (by rw [← hn1]; exact ht)
        have f1 : ∀ k, 100 ≤ k → spec_l4R_prefix.f k s i1 0 = some (t.1, t.2.1, s, t.2.2, 0) := fun k hk => by
          obtain ⟨q, q1, q2, _⟩ := b6 s (by omega) k hk i1 g0 g1
          rw [q1, q2 t ht]
        have f2 : ∀ k, 100 ≤ k → impl_input_prefix.f k s i1 0 = some (t.1, t.2.1, s, t.2.2, 0) := fun k hk => by
          obtain ⟨q, q1, q2, _⟩ := b9 s (by omega) k hk i1 g0 g1
          rw [q1, q2 t ht]
        obtain ⟨l1, p1, l2, p2, e2, t1, t2, hT, hl⟩ := ih t.2.2 t.2.2 0 (o1 ++ [⟨t.1, t.2.1⟩]) (o2 ++ [⟨t.1, t.2.1⟩]) (by omega) (by simp; omega) (by simp; omega) (fun _ => ⟨rfl, by omega, by omega⟩)
        refine ⟨⟨t.1, t.2.1⟩ :: l1, p1, ⟨t.1, t.2.1⟩ :: l2, p2, e2, fun k hk => ?_, fun k hk => ?_, hT, fun hz => ?_⟩
        · obtain ⟨k, rfl⟩ : ∃ q, k = q + 1 := ⟨k - 1, by omega⟩
          rw [spec_l4R_prefixes.l0, if_pos (by omega), if_pos rfl, f1 k (by omega), kz]
          dsimp only
          rw [if_pos (by omega), hwr, t1 k (by omega), kk]
          rfl
        · obtain ⟨k, rfl⟩ : ∃ q, k = q + 1 := ⟨k - 1, by omega⟩
          rw [impl_input_prefixes.l0, if_pos (by omega), if_pos rfl, f2 k (by omega), kz]
          dsimp only
          rw [if_pos (by omega), hwr, t2 k (by omega), kk]
          rfl
        · obtain ⟨a1, a2, a3, a4, a5⟩ := hl hz
          refine ⟨rfl, by rw [a2], by simp [a3], fun p hp => ?_, fun i hi => ?_⟩
          · rcases kQ.1 hp with rfl | hp
            · exact ⟨u0, u1⟩
            · exact a4 p hp
          · obtain ⟨q, c1, c2, c3⟩ := a5 (i1.toNat + n) u2
            refine ⟨n + q, by omega, by omega, ?_⟩
            rw [ke, c3]
            dsimp only
            rw [u5, show i1.toNat = i by omega, ak]
    · refine ⟨[], i1, [], i2, e, fun k hk => ?_, fun k hk => ?_, h, fun hf => absurd hf he⟩
      · obtain ⟨k, rfl⟩ : ∃ q, k = q + 1 := ⟨k - 1, by omega⟩
        rw [spec_l4R_prefixes.l0, if_pos (by omega), if_neg he, kc]
      · obtain ⟨k, rfl⟩ : ∃ q, k = q + 1 := ⟨k - 1, by omega⟩
        rw [impl_input_prefixes.l0, if_pos (by omega), if_neg he, kc]
def aw (l : List S35) : ByteArray := l.foldl (fun s p => s ++ ae p.f0 p.f1) (bW 1 l.length)
theorem cm (s : ByteArray) (hs : s.size ≤ 1000) (i1 i2 e : Int) (h : d7 s i1 i2 e) : ∃ l1 j1 l2 j2 e', (∀ k, 400 ≤ k → spec_l4R_prefixes.f k s i1 e = some (l1, s, j1, e')) ∧ (∀ k, 400 ≤ k → impl_input_prefixes.f k s i2 e = some (l2, s, j2, e')) ∧ d7 s j1 j2 e' ∧ (e' = 0 → e = 0 ∧ l1 = l2 ∧ l1.length ≤ 255 ∧ (∀ p, p ∈ l1 → 0 ≤ p.f1 ∧ p.f1 ≤ 32) ∧ (∀ i : Nat, i1 = i → ∃ q : Nat, j1 = ((i + q : Nat) : Int) ∧ i + q ≤ s.size ∧ 1 ≤ q ∧ (aw l1).data.toList = seg s i q)) := by
  obtain ⟨v1, j1, v2, j2, e1, s1, s2, hS, hv⟩ := ap s hs 1 (by omega) i1 i2 e h
  rw [show ((1 : Nat) : Int) = 1 from rfl] at s1 s2
  by_cases he : e1 = 0
  · obtain ⟨b1, b2, b3, b4⟩ := hv he
    rw [ba] at b4
    have hb := bt_range s i1
    have hv1 : v1 = ((bt s i1).toNat : Int) := by omega
    obtain ⟨l1, p1, l2, p2, e2, t1, t2, hT, hl⟩ := e9 s hs (bt s i1).toNat j1 j2 e1 [] [] (by omega) (by simp; omega) (by simp; omega) hS
    refine ⟨l1, p1, l2, p2, e2, fun k hk => ?_, fun k hk => ?_, hT, fun hz => ?_⟩
    · unfold spec_l4R_prefixes.f
      rw [s1 k (by omega), kz]
      dsimp only
      rw [hv1]
      exact t1 k (by omega)
    · unfold impl_input_prefixes.f
      rw [s2 k (by omega), kz]
      dsimp only
      rw [← b2, hv1]
      exact t2 k (by omega)
    · obtain ⟨a1, a2, a3, a4, a5⟩ := hl hz
      refine ⟨b1, a2, by omega, a4, fun i hi => ?_⟩
      have hj := (hS he).2.2
      obtain ⟨q, c1, c2, c3⟩ := a5 (i + 1) (by omega)
      refine ⟨1 + q, by omega, by omega, by omega, ?_⟩
      unfold aw
      rw [ew (fun p : S35 => ae p.f0 p.f1), c3, ak]
      congr 1
      have := bh s 1 i (by omega) (by omega)
      rw [ba, ← hi] at this
      rw [a3, show (((bt s i1).toNat : Nat) : Int) = bt s i1 by omega, this]
  · have hz1 : ∀ k, 11 ≤ k → spec_l4R_prefixes.l0 k [] v1 s j1 e1 = some ([], s, j1, e1) := fun k hk => by
      obtain ⟨k, rfl⟩ : ∃ q, k = q + 1 := ⟨k - 1, by omega⟩
      rw [spec_l4R_prefixes.l0, if_neg he]
      split <;> rfl
    have hz2 : ∀ k, 11 ≤ k → impl_input_prefixes.l0 k [] v2 s j2 e1 = some ([], s, j2, e1) := fun k hk => by
      obtain ⟨k, rfl⟩ : ∃ q, k = q + 1 := ⟨k - 1, by omega⟩
      rw [impl_input_prefixes.l0, if_neg he]
      split <;> rfl
    refine ⟨[], j1, [], j2, e1, fun k hk => ?_, fun k hk => ?_, hS, fun hf => absurd hf he⟩
    · unfold spec_l4R_prefixes.f
      rw [s1 k (by omega), kz]
      exact hz1 k (by omega)
    · unfold impl_input_prefixes.f
      rw [s2 k (by omega), kz]
      exact hz2 k (by omega)
theorem bq {α : Type} (f : α → ByteArray) (c : Nat) (hf : ∀ x, (f x).size ≤ c) : ∀ (l : List α) (s : ByteArray), (l.foldl (fun s x => s ++ f x) s).size ≤ s.size + c * l.length
  | [], s => by simp
  | a :: l, s => by
    have h1 := bq f c hf l (s ++ f a)
    have h2 := hf a
    rw [kq] at h1
    rw [List.foldl_cons, kj, Nat.mul_succ]
    omega
theorem fd (l : List S35) (hl : l.length ≤ 1000) (hg : ∀ p, p ∈ l → 0 ≤ p.f1 ∧ p.f1 ≤ 32) (k : Nat) (hk : l.length + 12 ≤ k) : impl_prefixesBytes.f k l = some (aw l) := by
  have key : ∀ (rest pre : List S35) (s : ByteArray) (k : Nat), l = pre ++ rest → rest.length + 11 ≤ k → s.size + 5 * rest.length ≤ 100000000 → impl_prefixesBytes.l0 k s l (l.length : Int) (pre.length : Int) = some (rest.foldl (fun s p => s ++ ae p.f0 p.f1) s) := by
    intro rest
    induction rest with
    | nil =>
      intro pre s k e hk _
      obtain ⟨k, rfl⟩ : ∃ m, k = m + 1 := ⟨k - 1, by omega⟩
      rw [impl_prefixesBytes.l0, if_neg (by rw [e]; simp)]
      rfl
    | cons p rest ih =>
      intro pre s k e hk hs
      simp only [kj] at hk hs
      obtain ⟨k, rfl⟩ : ∃ m, k = m + 1 := ⟨k - 1, by omega⟩
      have h1 : rd_T35 l (pre.length : Int) = p := by rw [e]; exact am _ _ _
      have hlt : (pre.length : Int) < (l.length : Int) := by rw [e]; exact lt_mid _ _ _
      have hp := hg p (by rw [e]; simp)
      have hz := cb p.f0 p.f1
      have i2 := ih (pre ++ [p]) (s ++ ae p.f0 p.f1) k (by rw [e]; simp) (by omega) (by rw [kq]; omega)
      have hw : wrap64 ((pre.length : Int) + 1) = ((pre ++ [p]).length : Int) := wrap_mid (rest := rest) (by rw [← e]; simp only [maxLen]; omega)
      rw [impl_prefixesBytes.l0, if_pos hlt, if_pos (len_nn _), if_pos hlt, h1, gl k (by omega) p.f0 p.f1 hp.1 hp.2, kz, if_pos (by omega), hw, i2]; rfl
  have k2 := key l [] (bW 1 l.length) k rfl (by omega) (by rw [ai]; omega)
  unfold impl_prefixesBytes.f
  have i1 := ce k 1 (l.length : Int) (by omega) (by omega)
  rw [show ((1 : Nat) : Int) = 1 from rfl] at i1
  rw [i1, kz]
  exact k2
theorem fe (w : Nat) (hw4 : w ≤ 4) (l : List Int) (hl : l.length ≤ 1000) (k : Nat) (hk : l.length + 12 ≤ k) : impl_numbersBytes.f k l (w : Int) = some (bp w l) := by
  have key : ∀ (rest pre : List Int) (s : ByteArray) (k : Nat), l = pre ++ rest → rest.length + 11 ≤ k → s.size + 4 * rest.length ≤ 100000000 → impl_numbersBytes.l0 k (w : Int) s l (l.length : Int) (pre.length : Int) = some (rest.foldl (fun s x => s ++ bW w x) s) := by
    intro rest
    induction rest with
    | nil =>
      intro pre s k e hk _
      obtain ⟨k, rfl⟩ : ∃ m, k = m + 1 := ⟨k - 1, by omega⟩
      rw [impl_numbersBytes.l0, if_neg (by rw [e]; simp)]
      rfl
    | cons p rest ih =>
      intro pre s k e hk hs
      simp only [kj] at hk hs
      obtain ⟨k, rfl⟩ : ∃ m, k = m + 1 := ⟨k - 1, by omega⟩
      have h1 : rd l (pre.length : Int) = p := by rw [e]; exact rd_mid _ _ _
      have hlt : (pre.length : Int) < (l.length : Int) := by rw [e]; exact lt_mid _ _ _
      have hz := ai w p
      have i2 := ih (pre ++ [p]) (s ++ bW w p) k (by rw [e]; simp) (by omega) (by rw [kq]; omega)
      have hw : wrap64 ((pre.length : Int) + 1) = ((pre ++ [p]).length : Int) := wrap_mid (rest := rest) (by rw [← e]; simp only [maxLen]; omega)
      rw [impl_numbersBytes.l0, if_pos hlt, if_pos (len_nn _), if_pos hlt, h1, ce k w p (by omega) hw4, kz, if_pos (by omega), hw, i2]; rfl
  have k2 := key l [] (bW 1 l.length) k rfl (by omega) (by rw [ai]; omega)
  unfold impl_numbersBytes.f
  have i1 := ce k 1 (l.length : Int) (by omega) (by omega)
  rw [show ((1 : Nat) : Int) = 1 from rfl] at i1
  rw [i1, kz]
  exact k2
def a8 (g : List S35) (a : Int) (l : List Int) (b c d : Int) (m : List Int) (e : List S35) : ByteArray :=
  if e.length = 0 then aw g else aw g ++ (bW 1 a ++ (bp 2 l ++ (bW 4 b ++ (bW 3 c ++ (bW 3 d ++ (bp 3 m ++ aw e))))))
theorem fz (g : List S35) (a : Int) (l : List Int) (b c d : Int) (m : List Int) (e : List S35) (hg : g.length ≤ 1000) (hl : l.length ≤ 1000) (hm : m.length ≤ 1000) (he : e.length ≤ 1000)
    (hgg : ∀ p, p ∈ g → 0 ≤ p.f1 ∧ p.f1 ≤ 32) (hge : ∀ p, p ∈ e → 0 ≤ p.f1 ∧ p.f1 ≤ 32) (k : Nat) (hk : g.length + l.length + m.length + e.length + 12 ≤ k) : impl_updateBytes.f k g a l b c d m e = some (a8 g a l b c d m e) := by
  have g2 := fd g hg hgg k (by omega)
  have e2 := fd e he hge k (by omega)
  have l2 := fe 2 (by omega) l hl k (by omega)
  have m2 := fe 3 (by omega) m hm k (by omega)
  rw [show ((2 : Nat) : Int) = 2 from rfl] at l2
  rw [show ((3 : Nat) : Int) = 3 from rfl] at m2
  have sg : (aw g).size ≤ 1 + 5 * g.length := by have := bq (fun p : S35 => ae p.f0 p.f1) 5 (fun p => cb _ _) g (bW 1 g.length); rwa [ai] at this
  have se : (aw e).size ≤ 1 + 5 * e.length := by have := bq (fun p : S35 => ae p.f0 p.f1) 5 (fun p => cb _ _) e (bW 1 e.length); rwa [ai] at this
  have sl : (bp 2 l).size ≤ 1 + 2 * l.length := by have := bq (fun x => bW 2 x) 2 (fun x => by rw [ai]; omega) l (bW 1 l.length); rwa [ai] at this
  have sm : (bp 3 m).size ≤ 1 + 3 * m.length := by have := bq (fun x => bW 3 x) 3 (fun x => by rw [ai]; omega) m (bW 1 m.length); rwa [ai] at this
  have a2 := ce k 1 a (by omega) (by omega)
  have b2 := ce k 4 b (by omega) (by omega)
  have c2 := ce k 3 c (by omega) (by omega)
  have d2 := ce k 3 d (by omega) (by omega)
  rw [show ((1 : Nat) : Int) = 1 from rfl] at a2
  rw [show ((4 : Nat) : Int) = 4 from rfl] at b2
  rw [show ((3 : Nat) : Int) = 3 from rfl] at c2 d2
  unfold a8
  by_cases h0 : e.length = 0
  · rw [if_pos h0]
    unfold impl_updateBytes.f; rw [g2, kz, if_pos (by omega)]
  · rw [if_neg h0]
    unfold impl_updateBytes.f
    rw [g2, e2, l2, m2, a2, b2, c2, d2]
    simp only [kz]
    rw [if_neg (by omega), if_pos (by simp only [ai]; omega), if_pos (by simp only [kq, ai]; omega), if_pos (by simp only [kq, ai]; omega), if_pos (by simp only [kq, ai]; omega), if_pos (by simp only [kq, ai]; omega), if_pos (by simp only [kq, ai]; omega), if_pos (by simp only [kq, ai]; omega)]
    simp only [kp]
abbrev RU := List S35 × Int × List Int × Int × Int × Int × List Int × List S35 × Int × Bool
def aj (c : Int) : RU := ([], 0, [], 0, 0, 0, [], [], c, false)
theorem gj {a b : ByteArray} (h : a.size ≠ b.size) : ¬ a.toList = b.toList := by
  rw [kt, kt]
  intro e
  have := congrArg List.length e
  simp only [Array.length_toList] at this
  exact h this
theorem fh {a b : ByteArray} (h : a.data.toList = b.data.toList) : a.toList = b.toList := by
  rw [kt, kt, h]
theorem fu (a : ByteArray) : a.size = a.data.toList.length := by rw [Array.length_toList]; rfl
def gm (s : ByteArray) (r : RU) : Prop := r.2.2.2.2.2.2.2.2.2 = true → ao r.1 r.2.1 r.2.2.1 r.2.2.2.1 r.2.2.2.2.1 r.2.2.2.2.2.1 r.2.2.2.2.2.2.1 r.2.2.2.2.2.2.2.1 = true ∧ (a8 r.1 r.2.1 r.2.2.1 r.2.2.2.1 r.2.2.2.2.1 r.2.2.2.2.2.1 r.2.2.2.2.2.2.1 r.2.2.2.2.2.2.2.1).data.toList = s.data.toList
theorem b8 (s : ByteArray) (c : Int) : gm s (aj c) := fun h => by simp [aj] at h
theorem f8 (s : ByteArray) (come : Bool) (j1 j2 e : Int) (hS : d7 s j1 j2 e) (g1 g2 : List S35) (a1 a2 : Int) (l1 l2 : List Int) (b1 b2 c1 c2 d1 d2 : Int) (m1 m2 : List Int) (x1 x2 : List S35)
    (hv : e = 0 → g1 = g2 ∧ a1 = a2 ∧ l1 = l2 ∧ b1 = b2 ∧ c1 = c2 ∧ d1 = d2 ∧ m1 = m2 ∧ x1 = x2 ∧ g1.length ≤ 255 ∧ l1.length ≤ 255 ∧ m1.length ≤ 255 ∧ x1.length ≤ 255 ∧ (∀ p, p ∈ g1 → 0 ≤ p.f1 ∧ p.f1 ≤ 32) ∧ (∀ p, p ∈ x1 → 0 ≤ p.f1 ∧ p.f1 ≤ 32) ∧ (come = true → x1.length = 0 → (aw g1).size < s.size) ∧ (come = false → x1.length = 0) ∧ ((come = true → x1.length ≠ 0) → j1 = s.size → (a8 g1 a1 l1 b1 c1 d1 m1 x1).data.toList = s.data.toList)) :
    ∃ r : RU, (∃ K, ∀ k, K ≤ k → spec_ReadUpdate.j1 k s come s j1 e g1 a1 l1 b1 c1 d1 m1 x1 = some r) ∧ (∃ K, ∀ k, K ≤ k → impl_ReadUpdate.j1 k s s j2 e g2 a2 l2 b2 c2 d2 m2 x2 = some r) ∧ r.1.length ≤ 255 ∧ r.2.2.1.length ≤ 255 ∧ r.2.2.2.2.2.2.1.length ≤ 255 ∧ r.2.2.2.2.2.2.2.1.length ≤ 255 ∧ gm s r := by
  by_cases he : e = 0
  · obtain ⟨rfl, rfl, rfl, rfl, rfl, rfl, rfl, rfl, hg, hl, hm, hx, hgp, hxp, h1, h2, h3⟩ := hv he
    obtain ⟨rfl, q0, q1⟩ := hS he
    by_cases hlt : j1 < (s.size : Int)
    · refine ⟨aj 2, ⟨1, fun k hk => ?_⟩, ⟨1, fun k hk => ?_⟩, by simp [aj], by simp [aj], by simp [aj], by simp [aj], b8 _ _⟩
      · obtain ⟨k, rfl⟩ : ∃ k', k = k' + 1 := ⟨k - 1, by omega⟩
        rw [spec_ReadUpdate.j1, if_pos he, if_pos hlt]; rfl
      · obtain ⟨k, rfl⟩ : ∃ k', k = k' + 1 := ⟨k - 1, by omega⟩
        rw [impl_ReadUpdate.j1, if_pos he, if_pos hlt]; rfl
    · have hj : j1 = s.size := by omega
      obtain ⟨K1, G1⟩ := bm g1 a1 l1 b1 c1 d1 m1 x1 (by omega) (by omega) (by omega) (by omega)
      obtain ⟨K2, G2⟩ := ar g1 a1 l1 b1 c1 d1 m1 x1 (by omega) (by omega) (by omega) (by omega)
      replace G1 : ∀ k, K1 ≤ k → spec_GoodUpdate.f k g1 a1 l1 b1 c1 d1 m1 x1 = some (ao g1 a1 l1 b1 c1 d1 m1 x1) := G1
      replace G2 : ∀ k, K2 ≤ k → impl_GoodUpdate.f k g1 a1 l1 b1 c1 d1 m1 x1 = some (ao g1 a1 l1 b1 c1 d1 m1 x1) := G2
      have hU := fz g1 a1 l1 b1 c1 d1 m1 x1 (by omega) (by omega) (by omega) (by omega) hgp hxp
      by_cases hz : come = true ∧ x1.length = 0
      · refine ⟨aj 3, ⟨1, fun k hk => ?_⟩, ⟨K2 + 2000, fun k hk => ?_⟩, by simp [aj], by simp [aj], by simp [aj], by simp [aj], b8 _ _⟩
        · obtain ⟨k, rfl⟩ : ∃ k', k = k' + 1 := ⟨k - 1, by omega⟩
          rw [spec_ReadUpdate.j1, if_pos he, if_neg hlt, if_pos hz.1, if_pos (by omega)]; rfl
        · obtain ⟨k, rfl⟩ : ∃ k', k = k' + 1 := ⟨k - 1, by omega⟩
          rw [impl_ReadUpdate.j1, if_pos he, if_neg hlt, G2 k (by omega), kz]
          by_cases hok : ao g1 a1 l1 b1 c1 d1 m1 x1 = true
          · have hne : ¬ (a8 g1 a1 l1 b1 c1 d1 m1 x1).toList = s.toList := by
              refine gj ?_
              unfold a8
              rw [if_pos hz.2]
              have := h1 hz.1 hz.2
              omega
            rw [if_pos hok, hU k (by omega), kz, if_neg hne]; rfl
          · rw [if_neg hok]; rfl
      · have hb := h3 (fun hc hx0 => hz ⟨hc, hx0⟩) hj
        refine ⟨if ao g1 a1 l1 b1 c1 d1 m1 x1 = true then (g1, a1, l1, b1, c1, d1, m1, x1, 0, true) else aj 3, ⟨K1 + 2, fun k hk => ?_⟩, ⟨K2 + 2000, fun k hk => ?_⟩, ?_, ?_, ?_, ?_, ?_⟩
        · obtain ⟨k, rfl⟩ : ∃ k', k = k' + 1 := ⟨k - 1, by omega⟩
          rw [spec_ReadUpdate.j1, if_pos he, if_neg hlt]
          by_cases hc : come = true
          · rw [if_pos hc, if_neg (by have : x1.length ≠ 0 := fun h => hz ⟨hc, h⟩; omega), G1 k (by omega), kz]
            split <;> rfl
          · rw [if_neg hc, G1 k (by omega), kz]
            split <;> rfl
        · obtain ⟨k, rfl⟩ : ∃ k', k = k' + 1 := ⟨k - 1, by omega⟩
          rw [impl_ReadUpdate.j1, if_pos he, if_neg hlt, G2 k (by omega), kz]
          by_cases hok : ao g1 a1 l1 b1 c1 d1 m1 x1 = true
          · rw [if_pos hok, if_pos hok, hU k (by omega), kz, if_pos (fh hb)]
          · rw [if_neg hok, if_neg hok]; rfl
        · split
          · exact hg
          · simp [aj]
        · split
          · exact hl
          · simp [aj]
        · split
          · exact hm
          · simp [aj]
        · split
          · exact hx
          · simp [aj]
        · split
          · rename_i hok
            exact fun _ => ⟨hok, hb⟩
          · exact b8 _ _
  · refine ⟨aj e, ⟨1, fun k hk => ?_⟩, ⟨1, fun k hk => ?_⟩, by simp [aj], by simp [aj], by simp [aj], by simp [aj], b8 _ _⟩
    · obtain ⟨k, rfl⟩ : ∃ k', k = k' + 1 := ⟨k - 1, by omega⟩
      rw [spec_ReadUpdate.j1, if_neg he]; rfl
    · obtain ⟨k, rfl⟩ : ∃ k', k = k' + 1 := ⟨k - 1, by omega⟩
      rw [impl_ReadUpdate.j1, if_neg he]; rfl
theorem dd (g : List S35) (a : Int) (l : List Int) (b c d : Int) (m : List Int) (e : List S35) (he : e.length ≠ 0) : (a8 g a l b c d m e).data.toList = (aw g).data.toList ++ ((bW 1 a).data.toList ++ ((bp 2 l).data.toList ++ ((bW 4 b).data.toList ++ ((bW 3 c).data.toList ++ ((bW 3 d).data.toList ++ ((bp 3 m).data.toList ++ (aw e).data.toList)))))) := by
  unfold a8
  rw [if_neg he]
  simp only [kg, Array.toList_append]
theorem dn (s : ByteArray) : ∃ r : RU, (∃ K, ∀ k, K ≤ k → spec_ReadUpdate.f k s = some r) ∧ (∃ K, ∀ k, K ≤ k → impl_ReadUpdate.f k s = some r) ∧ r.1.length ≤ 255 ∧ r.2.2.1.length ≤ 255 ∧ r.2.2.2.2.2.2.1.length ≤ 255 ∧ r.2.2.2.2.2.2.2.1.length ≤ 255 ∧ gm s r := by
  by_cases hsz : (s.size : Int) > 1000
  · refine ⟨aj 0, ⟨0, fun k _ => ?_⟩, ⟨0, fun k _ => ?_⟩, by simp [aj], by simp [aj], by simp [aj], by simp [aj], b8 _ _⟩
    · unfold spec_ReadUpdate.f; rw [if_pos hsz]; rfl
    · unfold impl_ReadUpdate.f; rw [if_pos hsz]; rfl
  have hs : s.size ≤ 1000 := by omega
  obtain ⟨g1, p1, g2, p2, e0, G1, G2, S0, V0⟩ := cm s hs 0 0 0 (fun _ => ⟨rfl, by omega, by omega⟩)
  by_cases hc : e0 = 0 ∧ p1 < (s.size : Int)
  ·
    obtain ⟨hc1, hc2⟩ := hc
    obtain ⟨_, w1, w2, w3, w4⟩ := V0 hc1
    obtain ⟨hpp, hp0, hp1⟩ := S0 hc1
    obtain ⟨a1, q1, a2, q2, f1, A1, A2, S1, V1⟩ := ap s hs 1 (by omega) p1 p2 e0 S0
    obtain ⟨l1, r1, l2, r2, f2, L1, L2, S2, V2⟩ := cy s hs 2 (by omega) q1 q2 f1 S1
    obtain ⟨b1, t1, b2, t2, f3, B1, B2, S3, V3⟩ := ap s hs 4 (by omega) r1 r2 f2 S2
    obtain ⟨c1, u1, c2, u2, f4, C1, C2, S4, V4⟩ := ap s hs 3 (by omega) t1 t2 f3 S3
    obtain ⟨d1, v1, d2, v2, f5, D1, D2, S5, V5⟩ := ap s hs 3 (by omega) u1 u2 f4 S4
    obtain ⟨m1, x1, m2, x2, f6, M1, M2, S6, V6⟩ := cy s hs 3 (by omega) v1 v2 f5 S5
    obtain ⟨n1, y1, n2, y2, f7, N1, N2, S7, V7⟩ := cm s hs x1 x2 f6 S6
    rw [show ((1 : Nat) : Int) = 1 from rfl] at A1 A2
    rw [show ((2 : Nat) : Int) = 2 from rfl] at L1 L2
    rw [show ((4 : Nat) : Int) = 4 from rfl] at B1 B2
    rw [show ((3 : Nat) : Int) = 3 from rfl] at C1 C2 D1 D2 M1 M2
    obtain ⟨r, ⟨K1, R1⟩, ⟨K2, R2⟩, hr⟩ := f8 s true y1 y2 f7 S7 g1 g2 a1 a2 l1 l2 b1 b2 c1 c2 d1 d2 m1 m2 n1 n2 (fun he => by
      obtain ⟨h6, n_1, n_2, n_3, n_4⟩ := V7 he
      obtain ⟨h5, m_1, m_2, m_3⟩ := V6 h6
      obtain ⟨h4, d_1, d_2, d_3⟩ := V5 h5
      obtain ⟨h3, c_1, c_2, c_3⟩ := V4 h4
      obtain ⟨h2, b_1, b_2, b_3⟩ := V3 h3
      obtain ⟨h1, l_1, l_2, l_3⟩ := V2 h2
      obtain ⟨h0, a_1, a_2, a_3⟩ := V1 h1
      obtain ⟨i0, z1, z2, z3, z4⟩ := w4 0 rfl
      rw [kw] at z1 z2
      have k1 := (S1 h1).2
      have k3 := (S3 h3).2
      have k4 := (S4 h4).2
      have k5 := (S5 h5).2
      obtain ⟨i1, y_1, y_2, y_3⟩ := l_3 (i0 + 1) (by omega)
      obtain ⟨i2, x_1, x_2, x_3⟩ := m_3 (i0 + 1 + i1 + 4 + 3 + 3) (by omega)
      obtain ⟨i3, t_1, t_2, t_3, t_4⟩ := n_4 (i0 + 1 + i1 + 4 + 3 + 3 + i2) (by omega)
      refine ⟨w1, a_1, l_1, b_1, c_1, d_1, m_1, n_1, w2, l_2, m_2, n_2, w3, n_3, fun _ _ => ?_, fun hf => (by cases hf), fun hne hj => ?_⟩
      · rw [fu, z4, cw s 0 i0 (by omega)]
        omega
      · rw [dd _ _ _ _ _ _ _ _ (hne rfl), z4, y_3, x_3, t_4]
        have nA := bh s 1 i0 (by omega) (by omega)
        have nB := bh s 4 (i0 + 1 + i1) (by omega) (by omega)
        have nC := bh s 3 (i0 + 1 + i1 + 4) (by omega) (by omega)
        have nD := bh s 3 (i0 + 1 + i1 + 4 + 3) (by omega) (by omega)
        rw [show a1 = ad s 1 (i0 : Int) 0 by rw [a_3, z1], nA, show b1 = ad s 4 ((i0 + 1 + i1 : Nat) : Int) 0 by rw [b_3, y_1], nB, show c1 = ad s 3 ((i0 + 1 + i1 + 4 : Nat) : Int) 0 by rw [c_3]; congr 1; omega, nC, show d1 = ad s 3 ((i0 + 1 + i1 + 4 + 3 : Nat) : Int) 0 by rw [d_3]; congr 1; omega, nD]
        have hend : s.size = i0 + (1 + (i1 + (4 + (3 + (3 + (i2 + i3)))))) := by omega
        have hall := ej s
        rw [hend, ak, ak, ak, ak, ak, ak, ak] at hall
        rw [← hall]
        simp only [kw])
    refine ⟨r, ⟨K1 + 401, fun k hk => ?_⟩, ⟨K2 + 401, fun k hk => ?_⟩, hr⟩
    · obtain ⟨k, rfl⟩ : ∃ k', k = k' + 1 := ⟨k - 1, by omega⟩
      unfold spec_ReadUpdate.f
      rw [if_neg hsz, G1 _ (by omega), kz]
      dsimp only
      rw [if_pos hc1, decide_eq_true hc2, spec_ReadUpdate.j0, if_pos rfl, A1 _ (by omega), kz]
      dsimp only
      rw [L1 _ (by omega), kz]
      dsimp only
      rw [B1 _ (by omega), kz]
      dsimp only
      rw [C1 _ (by omega), kz]
      dsimp only
      rw [D1 _ (by omega), kz]
      dsimp only
      rw [M1 _ (by omega), kz]
      dsimp only
      rw [N1 _ (by omega), kz]
      exact R1 k (by omega)
    · obtain ⟨k, rfl⟩ : ∃ k', k = k' + 1 := ⟨k - 1, by omega⟩
      unfold impl_ReadUpdate.f
      rw [if_neg hsz, G2 _ (by omega), kz]
      dsimp only
      rw [if_pos hc1, ← hpp, decide_eq_true hc2, impl_ReadUpdate.j0, if_pos rfl, hpp, A2 _ (by omega), kz]
      dsimp only
      rw [L2 _ (by omega), kz]
      dsimp only
      rw [B2 _ (by omega), kz]
      dsimp only
      rw [C2 _ (by omega), kz]
      dsimp only
      rw [D2 _ (by omega), kz]
      dsimp only
      rw [M2 _ (by omega), kz]
      dsimp only
      rw [N2 _ (by omega), kz]
      exact R2 k (by omega)
  · obtain ⟨r, ⟨K1, R1⟩, ⟨K2, R2⟩, hr⟩ := f8 s false p1 p2 e0 S0 g1 g2 0 0 [] [] 0 0 0 0 0 0 [] [] [] [] (fun he => by
      obtain ⟨_, w1, w2, w3, w4⟩ := V0 he
      obtain ⟨i0, z1, z2, z3, z4⟩ := w4 0 rfl
      rw [kw] at z1 z2
      refine ⟨w1, rfl, rfl, rfl, rfl, rfl, rfl, rfl, w2, by simp, by simp, by simp, w3, by simp, fun hf => (by cases hf), fun _ => rfl, fun _ hj => ?_⟩
      unfold a8
      rw [if_pos (show ([] : List S35).length = 0 from rfl), z4, ← ej s]
      congr 1
      omega)
    have hd : e0 = 0 → decide (p1 < (s.size : Int)) = false := fun he => decide_eq_false (fun hlt => hc ⟨he, hlt⟩)
    refine ⟨r, ⟨K1 + 401, fun k hk => ?_⟩, ⟨K2 + 401, fun k hk => ?_⟩, hr⟩
    · obtain ⟨k, rfl⟩ : ∃ k', k = k' + 1 := ⟨k - 1, by omega⟩
      have hj : spec_ReadUpdate.j0 (k + 1) s false false s p1 e0 g1 0 0 0 0 = some r := by
        rw [spec_ReadUpdate.j0, if_neg (by simp)]
        exact R1 k (by omega)
      unfold spec_ReadUpdate.f
      rw [if_neg hsz, G1 _ (by omega), kz]
      dsimp only
      by_cases he : e0 = 0
      · rw [if_pos he, hd he]; exact hj
      · rw [if_neg he]; exact hj
    · obtain ⟨k, rfl⟩ : ∃ k', k = k' + 1 := ⟨k - 1, by omega⟩
      have hj : impl_ReadUpdate.j0 (k + 1) s false s p2 e0 g2 0 0 0 0 = some r := by
        rw [impl_ReadUpdate.j0, if_neg (by simp)]
        exact R2 k (by omega)
      unfold impl_ReadUpdate.f
      rw [if_neg hsz, G2 _ (by omega), kz]
      dsimp only
      by_cases he : e0 = 0
      · rw [if_pos he, ← (S0 he).1, hd he, (S0 he).1]; exact hj
      · rw [if_neg he]; exact hj
theorem al (a : ByteArray) : a.size = a.data.toList.length := by rw [Array.length_toList]; rfl
theorem ex {s : ByteArray} {j : Nat} {x : Int} (h : s.data.toList[j]? = some (UInt8.ofNat x.toNat)) (h0 : 0 ≤ x) (h1 : x < 256) : bt s (j : Int) = x := by
  obtain ⟨hj, e⟩ := List.getElem?_eq_some_iff.1 h
  have hs : j < s.size := by rw [al]; exact hj
  have : bt s (j : Int) = ((s[j]'hs).toNat : Int) := by unfold bt; rw [dif_pos (by simpa using hs)]; rfl
  rw [this]
  have e2 : s.data.toList[j] = s[j]'hs := by simp [ByteArray.getElem_eq_getElem_data]
  rw [← e2, e]
  simp
  omega
theorem bg {a n : Int} (h1 : ab n ≤ 4) : (ae a n).size = 1 + ab n := by
  unfold ae
  have : (strOfNums ((hb a 4).take (ab n))).size = ((hb a 4).take (ab n)).length := by simp [strOfNums, ku]
  rw [kq, ai, this, km, d5]
  omega
theorem e7 {a n : Int} (hg : good a n = true) (t : ByteArray) : bk (ae a n ++ t) 0 = some (a, n, ((ae a n).size : Int)) := by
  obtain ⟨n0, n1, a0, a1, ha⟩ := good_iff.1 hg
  obtain ⟨_, ho⟩ := bf n0 (by omega)
  have h4 : ab n ≤ 4 := by omega
  have hsz : (ae a n ++ t).size = 1 + ab n + t.size := by rw [kq, bg h4]
  have hd : a % sz (8 * (ab n : Int)) = 0 := Int.emod_eq_zero_of_dvd (Int.dvd_trans (sz_dvd n0 (by omega) (by omega)) (Int.dvd_of_emod_eq_zero ha))
  have hL : (ae a n ++ t).data.toList = UInt8.ofNat (n % 256).toNat :: (((hb a 4).take (ab n)).map (fun n => UInt8.ofNat n.toNat) ++ t.data.toList) := by
    unfold ae
    rw [kg, Array.toList_append, kg, Array.toList_append, bi, (a7 n).2.2.2]
    unfold strOfNums
    simp
  have hb0 : bt (ae a n ++ t) 0 = n := by
    have := ex (s := ae a n ++ t) (j := 0) (x := n % 256) (by rw [hL]; rfl) (by omega) (by omega)
    rw [show ((0 : Nat) : Int) = 0 from rfl] at this
    omega
  unfold bk
  rw [if_pos (by rw [hsz]; omega), hb0, if_neg (by omega), if_pos (by rw [hsz]; omega)]
  have key : shl .i64 (ad (ae a n ++ t) (ab n) (0 + 1) 0) (32 - 8 * (ab n : Int)) = a := by
    rw [(a7 a).1] at hL
    generalize hs : ae a n ++ t = s at hL hb0 ⊢
    have sh : ∀ (x : Int) (q : Nat), q ≤ 32 → 0 ≤ x → x * 2 ^ q ≤ 4294967295 → shl .i64 x (q : Int) = x * 2 ^ q := by
      intro x q hq hx hx1
      unfold shl
      have e : min (q : Int).toNat IntKind.i64.bits = q := by show min (q : Int).toNat 64 = _; omega
      have h0 : 0 ≤ x * 2 ^ q := Int.mul_nonneg hx (by exact_mod_cast Nat.zero_le _)
      rw [e, i64_w, wrap_id (by omega) (by omega)]
    have h5 : ab n = 0 ∨ ab n = 1 ∨ ab n = 2 ∨ ab n = 3 ∨ ab n = 4 := by omega
    have g0 := fun (x : Int) (h : s.data.toList[1]? = some (UInt8.ofNat x.toNat)) => ex (s := s) (j := 1) (x := x) h
    have g1 := fun (x : Int) (h : s.data.toList[2]? = some (UInt8.ofNat x.toNat)) => ex (s := s) (j := 2) (x := x) h
    have g2 := fun (x : Int) (h : s.data.toList[3]? = some (UInt8.ofNat x.toNat)) => ex (s := s) (j := 3) (x := x) h
    have g3 := fun (x : Int) (h : s.data.toList[4]? = some (UInt8.ofNat x.toNat)) => ex (s := s) (j := 4) (x := x) h
    rcases h5 with e | e | e | e | e <;> rw [e] at hL hd ⊢
    · rw [ad]
      have e0 : sz (8 * ((0 : Nat) : Int)) = 4294967296 := by unfold sz; rfl
      rw [e0] at hd
      have := sh 0 32 (by omega) (by omega) (by omega)
      rw [show (32 : Int) - 8 * ((0 : Nat) : Int) = ((32 : Nat) : Int) by omega, this]
      omega
    · have e0 : sz (8 * ((1 : Nat) : Int)) = 16777216 := by unfold sz; rfl
      rw [e0] at hd
      have b0 := g0 (a / 16777216 % 256) (by rw [hL]; rfl) (by omega) (by omega)
      rw [aa s 0 _ 0 (by omega) (by omega), ad, show (0 : Int) + 1 = ((1 : Nat) : Int) by omega, b0, show (32 : Int) - 8 * ((1 : Nat) : Int) = ((24 : Nat) : Int) by omega, sh _ 24 (by omega) (by omega) (by show _ * 16777216 ≤ _; omega)]
      show (0 * 256 + a / 16777216 % 256) * 16777216 = a
      omega
    · have e0 : sz (8 * ((2 : Nat) : Int)) = 65536 := by unfold sz; rfl
      rw [e0] at hd
      have b0 := g0 (a / 16777216 % 256) (by rw [hL]; rfl) (by omega) (by omega)
      have b1 := g1 (a / 65536 % 256) (by rw [hL]; rfl) (by omega) (by omega)
      have r0 := bt_range s ((1 : Nat) : Int)
      rw [aa s 1 _ 0 (by omega) (by omega), show (0 : Int) + 1 = ((1 : Nat) : Int) by omega, aa s 0 _ _ (by omega) (by omega), ad, show ((1 : Nat) : Int) + 1 = ((2 : Nat) : Int) by omega, b0, b1, show (32 : Int) - 8 * ((2 : Nat) : Int) = ((16 : Nat) : Int) by omega, sh _ 16 (by omega) (by omega) (by show _ * 65536 ≤ _; omega)]
      show ((0 * 256 + a / 16777216 % 256) * 256 + a / 65536 % 256) * 65536 = a
      omega
    · have e0 : sz (8 * ((3 : Nat) : Int)) = 256 := by unfold sz; rfl
      rw [e0] at hd
      have b0 := g0 (a / 16777216 % 256) (by rw [hL]; rfl) (by omega) (by omega)
      have b1 := g1 (a / 65536 % 256) (by rw [hL]; rfl) (by omega) (by omega)
      have b2 := g2 (a / 256 % 256) (by rw [hL]; rfl) (by omega) (by omega)
      have r0 := bt_range s ((1 : Nat) : Int)
      have r1 := bt_range s ((2 : Nat) : Int)
      rw [aa s 2 _ 0 (by omega) (by omega), show (0 : Int) + 1 = ((1 : Nat) : Int) by omega, aa s 1 _ _ (by omega) (by omega), show ((1 : Nat) : Int) + 1 = ((2 : Nat) : Int) by omega, aa s 0 _ _ (by omega) (by omega), ad, show ((2 : Nat) : Int) + 1 = ((3 : Nat) : Int) by omega, b0, b1, b2, show (32 : Int) - 8 * ((3 : Nat) : Int) = ((8 : Nat) : Int) by omega, sh _ 8 (by omega) (by omega) (by show _ * 256 ≤ _; omega)]
      show (((0 * 256 + a / 16777216 % 256) * 256 + a / 65536 % 256) * 256 + a / 256 % 256) * 256 = a
      omega
    · have b0 := g0 (a / 16777216 % 256) (by rw [hL]; rfl) (by omega) (by omega)
      have b1 := g1 (a / 65536 % 256) (by rw [hL]; rfl) (by omega) (by omega)
      have b2 := g2 (a / 256 % 256) (by rw [hL]; rfl) (by omega) (by omega)
      have b3 := g3 (a % 256) (by rw [hL]; rfl) (by omega) (by omega)
      have r0 := bt_range s ((1 : Nat) : Int)
      have r1 := bt_range s ((2 : Nat) : Int)
      have r2 := bt_range s ((3 : Nat) : Int)
      rw [aa s 3 _ 0 (by omega) (by omega), show (0 : Int) + 1 = ((1 : Nat) : Int) by omega, aa s 2 _ _ (by omega) (by omega), show ((1 : Nat) : Int) + 1 = ((2 : Nat) : Int) by omega, aa s 1 _ _ (by omega) (by omega), show ((2 : Nat) : Int) + 1 = ((3 : Nat) : Int) by omega, aa s 0 _ _ (by omega) (by omega), ad, show ((3 : Nat) : Int) + 1 = ((4 : Nat) : Int) by omega, b0, b1, b2, b3, show (32 : Int) - 8 * ((4 : Nat) : Int) = ((0 : Nat) : Int) by omega, sh _ 0 (by omega) (by omega) (by show _ * 1 ≤ _; omega)]
      show ((((0 * 256 + a / 16777216 % 256) * 256 + a / 65536 % 256) * 256 + a / 256 % 256) * 256 + a % 256) * 1 = a
      omega
  rw [key, bg h4]
  congr 2
theorem ft {c : List Int} (hc : Bts c) (x2 : ByteArray) (h2 : 0 < x2.size) (h3 : x2.size ≤ 100) : ∀ (m : Nat) (x1 : ByteArray) (i s : Int), m ≤ 5 → x1.size + m ≤ 5000 → 0 ≤ i → i + 6 * m ≤ 1000000 → ∃ r i' s', (∀ k, spec_l1Cur_spoilt.l0 (k + 2 * m + 2) x1 x2 (m : Int) c i s = some (r, i', s')) ∧ r.size ≤ x1.size + m ∧ 0 ≤ i' ∧ i' ≤ i + 6 * m := by
  intro m
  induction m with
  | zero =>
    intro x1 i s _ _ h0 _
    refine ⟨x1, i, s, fun k => ?_, by omega, h0, by omega⟩
    rw [show k + 2 * 0 + 2 = k + 1 + 1 by omega, spec_l1Cur_spoilt.l0, if_neg (by omega), spec_l1Cur_spoilt.j1, if_neg (by simp)]
  | succ m ih =>
    intro x1 i s hm hx h0 h1
    have hk : ∀ k : Nat, k + 2 * (m + 1) + 2 = (k + 2 * m + 2) + 1 + 1 := fun k => by omega
    by_cases hz : (x1.size : Int) > 0
    · obtain ⟨p, i1, s1, e1, p0, p1, a1, b1⟩ := av hc s (n := (x1.size : Int)) h0 (by omega) (by omega)
      obtain ⟨q, i2, s2, e2, q0, q1, a2, b2⟩ := av hc s1 (n := (x2.size : Int)) (i := i1) (by omega) (by omega) (by omega)
      obtain ⟨w, i3, s3, e3, w0, w1, a3, b3⟩ := av hc s2 (n := 3) (i := i2) (by omega) (by omega) (by omega)
      have hp : p < (x1.size : Int) := by omega
      have hq : q < (x2.size : Int) := by omega
      have hone : ∀ v : Int, (strOfNums [v]).size = 1 := fun v => by simp [strOfNums, ku]
      have hA : (x1.extract 0 p.toNat).size = p.toNat := by rw [kn]; omega
      have hB : (x1.extract p.toNat x1.size).size = x1.size - p.toNat := by rw [kn]; omega
      have hC : (x1.extract (p + 1).toNat x1.size).size = x1.size - (p + 1).toNat := by rw [kn]; omega
      have hw : wrap64 (((m + 1 : Nat) : Int) - 1) = (m : Int) := by rw [wrap_id (by omega) (by omega)]; omega
      have hp1 : wrap64 (p + 1) = p + 1 := wrap_id (by omega) (by omega)
      by_cases c0 : w = 0
      · obtain ⟨r, i4, s4, e4, h4, h5, h6⟩ := ih ((x1.extract 0 p.toNat ++ strOfNums [bt x2 q]) ++ x1.extract p.toNat x1.size) i3 s3 (by omega) (by rw [kq, kq, hone, hA, hB]; omega) (by omega) (by omega)
        rw [kq, kq, hone, hA, hB] at h4
        refine ⟨r, i4, s4, fun k => ?_, by omega, h5, by omega⟩
        rw [hk, spec_l1Cur_spoilt.l0, if_pos (by omega), decide_eq_true hz, spec_l1Cur_spoilt.j1, if_pos rfl, e1, kz]
        dsimp only
        rw [e2, kz]
        dsimp only
        rw [if_pos q0, if_pos hq, kz, e3, kz]
        dsimp only
        rw [if_pos c0, if_pos p0, if_pos (by omega), if_pos (by rw [hA, hone]; omega), if_pos (by rw [kq, hA, hone, hB]; omega), hw]
        exact e4 k
      · by_cases c1 : w = 1
        · obtain ⟨r, i4, s4, e4, h4, h5, h6⟩ := ih ((x1.extract 0 p.toNat ++ strOfNums [bt x2 q]) ++ x1.extract (p + 1).toNat x1.size) i3 s3 (by omega) (by rw [kq, kq, hone, hA, hC]; omega) (by omega) (by omega)
          rw [kq, kq, hone, hA, hC] at h4
          refine ⟨r, i4, s4, fun k => ?_, by omega, h5, by omega⟩
          rw [hk, spec_l1Cur_spoilt.l0, if_pos (by omega), decide_eq_true hz, spec_l1Cur_spoilt.j1, if_pos rfl, e1, kz]
          dsimp only
          rw [e2, kz]
          dsimp only
          rw [if_pos q0, if_pos hq, kz, e3, kz]
          dsimp only
          rw [if_neg c0, if_pos c1, if_pos p0, if_pos (by omega), if_pos (by rw [hA, hone]; omega), hp1, if_pos (by omega), if_pos (by omega), if_pos (by rw [kq, hA, hone, hC]; omega), hw]
          exact e4 k
        · obtain ⟨r, i4, s4, e4, h4, h5, h6⟩ := ih (x1.extract 0 p.toNat ++ x1.extract (p + 1).toNat x1.size) i3 s3 (by omega) (by rw [kq, hA, hC]; omega) (by omega) (by omega)
          rw [kq, hA, hC] at h4
          refine ⟨r, i4, s4, fun k => ?_, by omega, h5, by omega⟩
          rw [hk, spec_l1Cur_spoilt.l0, if_pos (by omega), decide_eq_true hz, spec_l1Cur_spoilt.j1, if_pos rfl, e1, kz]
          dsimp only
          rw [e2, kz]
          dsimp only
          rw [if_pos q0, if_pos hq, kz, e3, kz]
          dsimp only
          rw [if_neg c0, if_neg c1, if_pos p0, if_pos (by omega), hp1, if_pos (by omega), if_pos (by omega), if_pos (by rw [hA, hC]; omega), hw]
          exact e4 k
    · refine ⟨x1, i, s, fun k => ?_, by omega, h0, by omega⟩
      rw [hk, spec_l1Cur_spoilt.l0, if_pos (by omega), decide_eq_false hz, spec_l1Cur_spoilt.j1, if_neg (by simp)]
theorem fs {c : List Int} (hc : Bts c) (x1 x2 : ByteArray) (h1 : x1.size ≤ 4000) (h2 : 0 < x2.size) (h3 : x2.size ≤ 100) (i s : Int) (h0 : 0 ≤ i) (hi : i ≤ 900000) : ∃ r i' s', (∀ k, 100 ≤ k → spec_l1Cur_spoilt.f k c i s x1 x2 = some (r, i', s')) ∧ r.size ≤ x1.size + 3 ∧ 0 ≤ i' ∧ i' ≤ i + 30 := by
  obtain ⟨n, i1, s1, e1, n0, n1, a1, b1⟩ := av hc s (n := 3) h0 (by omega) (by omega)
  obtain ⟨r, i2, s2, e2, g1, g2, g3⟩ := ft hc x2 h2 h3 n.toNat x1 i1 s1 (by omega) (by omega) (by omega) (by omega)
  refine ⟨r, i2, s2, fun k hk => ?_, by omega, g2, by omega⟩
  obtain ⟨k, rfl⟩ : ∃ k', k = k' + 2 * n.toNat + 2 := ⟨k - (2 * n.toNat + 2), by omega⟩
  unfold spec_l1Cur_spoilt.f
  rw [e1, kz]
  dsimp only
  rw [show n = (n.toNat : Int) by omega]
  exact e2 k
theorem gf {c : List Int} (hc : Bts c) (o : Int) (l : List Int) (nx md pf : Int) (hl : l.length ≤ 100) : ∀ (d : Nat) (x : Int) (m : List Int) (i s : Int), x + d = 5 → 0 ≤ x → m.length + d ≤ 10 → 0 ≤ i → i + 10 * d ≤ 10000 →
    ∃ o' l' pf' m' i' s', (∀ k, spec_l1Cur_attrs.l1 (k + d + 1) x c i s o l nx md pf m = some (o', l', nx, md, pf', m', i', s')) ∧ l'.length ≤ l.length + 1 ∧ m'.length ≤ 10 ∧ 0 ≤ i' ∧ i' ≤ i + 10 * d + 10 := by
  intro d
  induction d with
  | zero =>
    intro x m i s hx _ hm h0 h1
    obtain ⟨b, i1, s1, e1, b0, b1, a1, c1⟩ := av hc s (n := 60) h0 (by omega) (by omega)
    by_cases h2 : b = 0
    · refine ⟨3, l, pf, m, i1, s1, fun k => ?_, by omega, by omega, by omega, by omega⟩
      rw [spec_l1Cur_attrs.l1, if_neg (by omega), e1, kz]
      dsimp only
      rw [if_pos h2]
    · by_cases h3 : b = 1
      · obtain ⟨v, i2, s2, e2, _, a2, c2⟩ := bu hc s1 [0, 65535, 65536] (i := i1) (by omega) (by omega) (by simp) (by simp)
        refine ⟨o, l ++ [v], pf, m, i2, s2, fun k => ?_, by simp, by omega, by omega, by omega⟩
        rw [spec_l1Cur_attrs.l1, if_neg (by omega), e1, kz]
        dsimp only
        rw [if_neg h2, if_pos h3, e2, kz, if_pos (by omega)]
      · by_cases h4 : b = 2
        · obtain ⟨v, i2, s2, e2, _, a2, c2⟩ := bu hc s1 [(-1), 1000000, 1000001] (i := i1) (by omega) (by omega) (by simp) (by simp)
          refine ⟨o, l, v, m, i2, s2, fun k => ?_, by omega, by omega, by omega, by omega⟩
          rw [spec_l1Cur_attrs.l1, if_neg (by omega), e1, kz]
          dsimp only
          rw [if_neg h2, if_neg h3, if_pos h4, e2, kz]
        · refine ⟨o, l, pf, m, i1, s1, fun k => ?_, by omega, by omega, by omega, by omega⟩
          rw [spec_l1Cur_attrs.l1, if_neg (by omega), e1, kz]
          dsimp only
          rw [if_neg h2, if_neg h3, if_neg h4]
  | succ d ih =>
    intro x m i s hx h5 hm h0 h1
    have hw : wrap64 (x + 1) = x + 1 := wrap_id (by omega) (by omega)
    obtain ⟨b, i1, s1, e1, a1, b1⟩ := el hc s (n := 4) h0 (by omega) (by omega)
    have hk : ∀ k : Nat, k + (d + 1) + 1 = (k + d + 1) + 1 := fun k => by omega
    cases b with
    | true =>
      obtain ⟨o', l', pf', m', i', s', e2, g1, g2, g3, g4⟩ := ih (x + 1) (m ++ [x]) i1 s1 (by omega) (by omega) (by simp; omega) (by omega) (by omega)
      refine ⟨o', l', pf', m', i', s', fun k => ?_, g1, g2, g3, by omega⟩
      rw [hk, spec_l1Cur_attrs.l1, if_pos (by omega), e1, kz, if_pos rfl, if_pos (by omega), hw]
      exact e2 k
    | false =>
      obtain ⟨o', l', pf', m', i', s', e2, g1, g2, g3, g4⟩ := ih (x + 1) m i1 s1 (by omega) (by omega) (by omega) (by omega) (by omega)
      refine ⟨o', l', pf', m', i', s', fun k => ?_, g1, g2, g3, by omega⟩
      rw [hk, spec_l1Cur_attrs.l1, if_pos (by omega), e1, kz, if_neg (by simp), hw]
      exact e2 k
theorem gg {c : List Int} (hc : Bts c) (o nx md pf : Int) : ∀ (n : Nat) (l : List Int) (i s : Int), n ≤ 10 → l.length + n ≤ 50 → 0 ≤ i → i + 10 * n ≤ 1000 →
    ∃ o' l' pf' m' i' s', (∀ k, spec_l1Cur_attrs.l0 (k + n + 7) (n : Int) c i s o l nx md pf = some (o', l', nx, md, pf', m', i', s')) ∧ l'.length ≤ 60 ∧ m'.length ≤ 10 ∧ 0 ≤ i' ∧ i' ≤ 5000 := by
  intro n
  induction n with
  | zero =>
    intro l i s _ hl h0 h1
    obtain ⟨o', l', pf', m', i', s', e2, g1, g2, g3, g4⟩ := gf hc o l nx md pf (by omega) 5 0 [] i s (by omega) (by omega) (by simp) h0 (by omega)
    refine ⟨o', l', pf', m', i', s', fun k => ?_, by omega, g2, g3, by omega⟩
    rw [show k + 0 + 7 = (k + 5 + 1) + 1 by omega, spec_l1Cur_attrs.l0, if_neg (by omega)]
    exact e2 k
  | succ n ih =>
    intro l i s hn hl h0 h1
    obtain ⟨b, i1, s1, e1, b0, b1, a1, c1⟩ := av hc s (n := 6) h0 (by omega) (by omega)
    have hw : wrap64 (((n + 1 : Nat) : Int) - 1) = (n : Int) := by rw [wrap_id (by omega) (by omega)]; omega
    obtain ⟨o', l', pf', m', i', s', e2, g⟩ := ih (l ++ [wrap64 (1 + b)]) i1 s1 (by omega) (by simp; omega) (by omega) (by omega)
    refine ⟨o', l', pf', m', i', s', fun k => ?_, g⟩
    rw [show k + (n + 1) + 7 = (k + n + 7) + 1 by omega, spec_l1Cur_attrs.l0, if_pos (by omega), e1, kz, if_pos (by omega), hw]
    exact e2 k
theorem fw {c : List Int} (hc : Bts c) (i s : Int) (h0 : 0 ≤ i) (hi : i ≤ 500) : ∃ o l nx md pf m i' s', (∀ k, 100 ≤ k → spec_l1Cur_attrs.f k c i s = some (o, l, nx, md, pf, m, i', s')) ∧ l.length ≤ 60 ∧ m.length ≤ 10 ∧ 0 ≤ i' ∧ i' ≤ 5000 := by
  obtain ⟨o, i1, s1, e1, _, _, a1, b1⟩ := av hc s (n := 3) (i := i) (by omega) (by omega) (by omega)
  obtain ⟨nx, i2, s2, e2, _, a2, b2⟩ := bu hc s1 [0, 1, 167772161] (i := i1) (by omega) (by omega) (by simp) (by simp)
  obtain ⟨md, i3, s3, e3, _, _, a3, b3⟩ := av hc s2 (n := 4) (i := i2) (by omega) (by omega) (by omega)
  obtain ⟨pf, i4, s4, e4, _, a4, b4⟩ := bu hc s3 [100, 100, 200, 50] (i := i3) (by omega) (by omega) (by simp) (by simp)
  obtain ⟨n, i5, s5, e5, n0, n1, a5, b5⟩ := av hc s4 (n := 5) (i := i4) (by omega) (by omega) (by omega)
  obtain ⟨o', l', pf', m', i', s', e6, g⟩ := gg hc o nx md pf n.toNat [] i5 s5 (by omega) (by simp; omega) (by omega) (by omega)
  refine ⟨o', l', nx, md, pf', m', i', s', fun k hk => ?_, g⟩
  obtain ⟨k, rfl⟩ : ∃ k', k = k' + n.toNat + 7 := ⟨k - (n.toNat + 7), by omega⟩
  unfold spec_l1Cur_attrs.f
  rw [e1, kz]
  dsimp only
  rw [e2, kz]
  dsimp only
  rw [e3, kz]
  dsimp only
  rw [e4, kz]
  dsimp only
  rw [e5, kz]
  dsimp only
  rw [show n = (n.toNat : Int) by omega]
  exact e6 k
theorem cz (l : List Int) (hl : l.length ≤ 1000000) (k : Nat) (hk : l.length < k) : laws_sameInts.f k l l = some true := by
  have key : ∀ (rest pre : List Int) (k : Nat), l = pre ++ rest → rest.length < k → laws_sameInts.l0 k l l (l.length : Int) (pre.length : Int) = some true := by
    intro rest
    induction rest with
    | nil =>
      intro pre k e hk
      obtain ⟨k, rfl⟩ : ∃ k', k = k' + 1 := ⟨k - 1, by omega⟩
      rw [laws_sameInts.l0, if_neg (by rw [e]; simp)]
    | cons a rest ih =>
      intro pre k e hk
      rw [kj] at hk
      obtain ⟨k, rfl⟩ : ∃ k', k = k' + 1 := ⟨k - 1, by omega⟩
      have hlen : pre.length < l.length := by rw [e]; simp
      have hw : wrap64 ((pre.length : Int) + 1) = ((pre ++ [a]).length : Int) := by rw [wrap_id (by omega) (by omega)]; simp
      rw [laws_sameInts.l0, if_pos (by omega), if_pos (by omega), if_pos (by omega), if_pos (by omega), if_pos rfl, hw]
      exact ih (pre ++ [a]) k (by rw [e]; simp) (by omega)
  unfold laws_sameInts.f
  rw [if_pos rfl]
  exact key l [] k rfl hk
theorem fn {a : Int} {l : List Int} {b c d : Int} {m : List Int} (h : ax a l b c d m = true) : l.length ≤ 10 ∧ m.length ≤ 6 := by
  unfold ax at h
  simp only [kx, decide_eq_true_eq] at h
  exact ⟨h.2.1.1, h.2.2.2.2.2.2⟩
theorem fy {x y : Int} (x0 : 0 ≤ x) (x1 : x < 256) (y0 : 0 ≤ y) (y1 : y < 256) (h : UInt8.ofNat x.toNat = UInt8.ofNat y.toNat) : x = y := by
  have := congrArg UInt8.toNat h
  simp at this
  omega
theorem fx : ∀ (l m : List Int), (∀ v, v ∈ l → 0 ≤ v ∧ v < 256) → (∀ v, v ∈ m → 0 ≤ v ∧ v < 256) → l.map (fun n => UInt8.ofNat n.toNat) = m.map (fun n => UInt8.ofNat n.toNat) → l = m
  | [], [], _, _, _ => rfl
  | [], _ :: _, _, _, h => by simp at h
  | _ :: _, [], _, _, h => by simp at h
  | a :: l, b :: m, hl, hm, h => by
    simp only [ks, List.cons.injEq] at h
    have ha := hl a (by simp)
    have hb := hm b (by simp)
    rw [fy ha.1 ha.2 hb.1 hb.2 h.1, fx l m (fun v hv => hl v (by simp [hv])) (fun v hv => hm v (by simp [hv])) h.2]
theorem d4 (x : Int) : ∀ (n : Nat) (v : Int), v ∈ hb x n → 0 ≤ v ∧ v < 256
  | 0, v, h => by simp [hb] at h
  | n + 1, v, h => by
    simp only [hb, kQ] at h
    rcases h with rfl | h
    · omega
    · exact d4 x n v h
theorem gn {n : Nat} (hn : n = 1 ∨ n = 2 ∨ n = 3 ∨ n = 4) {x y : Int} (x0 : 0 ≤ x) (x1 : x < 256 ^ n) (y0 : 0 ≤ y) (y1 : y < 256 ^ n) (h : hb x n = hb y n) : x = y := by
  have hx := a7 x
  have hy := a7 y
  rcases hn with rfl | rfl | rfl | rfl
  · rw [hx.2.2.2, hy.2.2.2] at h
    simp only [List.cons.injEq, and_true] at h
    omega
  · rw [hx.2.2.1, hy.2.2.1] at h
    simp only [List.cons.injEq, and_true] at h
    omega
  · rw [hx.2.1, hy.2.1] at h
    simp only [List.cons.injEq, and_true] at h
    omega
  · rw [hx.1, hy.1] at h
    simp only [List.cons.injEq, and_true] at h
    omega
def At (s : ByteArray) (i : Nat) (L : List UInt8) : Prop := seg s i L.length = L ∧ i + L.length ≤ s.size
theorem bs {s : ByteArray} {i : Nat} {L M : List UInt8} (h : At s i (L ++ M)) : At s i L ∧ At s (i + L.length) M := by
  obtain ⟨h1, h2⟩ := h
  rw [ky] at h1 h2
  rw [ak] at h1
  have hl := cw s i L.length (by omega)
  obtain ⟨h3, h4⟩ := List.append_inj h1 hl
  exact ⟨⟨h3, by omega⟩, ⟨h4, by omega⟩⟩
theorem bd (n : Nat) (x : Int) : (bW n x).data.toList.length = n := by rw [bi, List.length_map, d5]
theorem c6 {s : ByteArray} (hs : s.size ≤ 1000) {i n : Nat} (hn : n = 1 ∨ n = 2 ∨ n = 3 ∨ n = 4) {x : Int} (x0 : 0 ≤ x) (x1 : x < 256 ^ n) (h : At s i (bW n x).data.toList) (k : Nat) (hk : 10 ≤ k) :
    impl_input_number.f k s (i : Int) 0 (n : Int) = some (x, s, ((i + n : Nat) : Int), 0) := by
  obtain ⟨h1, h2⟩ := h
  rw [bd] at h1 h2
  have h3 := bh s n i (by omega) h2
  have hr := cr s n (i : Int) (by omega)
  rw [h1, bi, bi] at h3
  have h4 : ad s n (i : Int) 0 < 256 ^ n := by
    rcases hn with rfl | rfl | rfl | rfl
    · have g0 := bt_range s (i : Int)
      rw [aa s 0 _ 0 (by omega) (by omega), ad]; omega
    · have g0 := bt_range s (i : Int); have g1 := bt_range s ((i : Int) + 1)
      rw [aa s 1 _ 0 (by omega) (by omega), aa s 0 _ _ (by omega) (by omega), ad]; omega
    · have g0 := bt_range s (i : Int); have g1 := bt_range s ((i : Int) + 1); have g2 := bt_range s ((i : Int) + 1 + 1)
      rw [aa s 2 _ 0 (by omega) (by omega), aa s 1 _ _ (by omega) (by omega), aa s 0 _ _ (by omega) (by omega), ad]; omega
    · have := hr.2; omega
  have h5 := gn hn hr.1 h4 x0 x1 (fx _ _ (d4 _ n) (d4 _ n) h3)
  rw [ag s (by omega) n k i (by omega) (by omega) (by omega) (by omega), if_pos (by omega), h5]
  rfl
theorem gd {s s' : ByteArray} {i i' : Nat} (h : i < s.size) (h' : i' < s'.size) (e : seg s i 1 = seg s' i' 1) : bt s (i : Int) = bt s' (i' : Int) := by
  rw [au s i 0 h, au s' i' 0 h'] at e
  injection e with e _
  have a := bt_range s (i : Int)
  have b := bt_range s' (i' : Int)
  exact fy a.1 (by omega) b.1 (by omega) e
theorem ec {s s' : ByteArray} : ∀ (n i i' : Nat) (x : Int), i + n ≤ s.size → i' + n ≤ s'.size → seg s i n = seg s' i' n → ad s n (i : Int) x = ad s' n (i' : Int) x
  | 0, i, i', x, _, _, _ => rfl
  | n + 1, i, i', x, h, h', e => by
    rw [show n + 1 = 1 + n by omega, ak, ak] at e
    obtain ⟨e1, e2⟩ := List.append_inj e (by rw [cw s i 1 (by omega), cw s' i' 1 (by omega)])
    rw [ad, ad, gd (by omega) (by omega) e1]
    have := ec n (i + 1) (i' + 1) (Go.bits .or .i64 (wrap64 (x * 256)) (wrap64 (bt s' (i' : Int)))) (by omega) (by omega) e2
    rw [show ((i + 1 : Nat) : Int) = (i : Int) + 1 by omega, show ((i' + 1 : Nat) : Int) = (i' : Int) + 1 by omega] at this
    exact this
theorem go {s : ByteArray} {i : Nat} {a n : Int} (hg : good a n = true) (h : At s i (ae a n).data.toList) : bk s (i : Int) = some (a, n, ((i + (ae a n).data.toList.length : Nat) : Int)) := by
  obtain ⟨n0, n1, _⟩ := good_iff.1 hg
  obtain ⟨_, ho⟩ := bf n0 (by omega)
  have hz : (ae a n).data.toList.length = 1 + ab n := by rw [← al, bg (by omega)]
  have hb := e7 hg ⟨#[]⟩
  have hS : (ae a n ++ (⟨#[]⟩ : ByteArray)).size = 1 + ab n := by rw [kq, bg (by omega)]; rfl
  have hL : seg (ae a n ++ (⟨#[]⟩ : ByteArray)) 0 (1 + ab n) = (ae a n).data.toList := by
    unfold seg
    rw [kg, Array.toList_append, List.drop_zero, List.take_append_of_le_length (by omega), List.take_of_length_le (by omega)]
  generalize ae a n ++ (⟨#[]⟩ : ByteArray) = s' at hb hS hL
  obtain ⟨h1, h2⟩ := h
  rw [hz] at h1 h2
  rw [← hL] at h1
  have h1' := h1
  rw [ak, ak s' 0] at h1
  obtain ⟨e1, e2⟩ := List.append_inj h1 (by rw [cw s i 1 (by omega), cw s' 0 1 (by omega)])
  have e3 := gd (by omega) (by omega) e1
  unfold bk at hb ⊢
  rw [show ((0 : Nat) : Int) = 0 from rfl] at e3
  rw [if_pos (by omega)] at hb
  rw [if_pos (by omega), e3]
  by_cases c1 : bt s' 0 > 32
  · rw [if_pos c1] at hb; cases hb
  rw [if_neg c1] at hb ⊢
  by_cases c2 : (0 : Int) + 1 + ab (bt s' 0) ≤ s'.size
  · rw [if_pos c2] at hb
    simp only [Option.some.injEq, Prod.mk.injEq] at hb
    obtain ⟨b1, b2, b3⟩ := hb
    rw [b2] at b1 ⊢
    have e4 := ec (s := s) (s' := s') (ab n) (i + 1) (0 + 1) 0 (by omega) (by omega) e2
    rw [show ((i + 1 : Nat) : Int) = (i : Int) + 1 by omega, show ((0 + 1 : Nat) : Int) = 0 + 1 by omega] at e4
    rw [if_pos (by omega), e4, b1, hz]
    congr 3
    omega
  · rw [if_neg c2] at hb; cases hb
theorem fk {s : ByteArray} (hs : s.size ≤ 1000) : ∀ (l o : List S35) (i : Nat), (∀ p, p ∈ l → good p.f0 p.f1 = true) → At s i (l.flatMap (fun p => (ae p.f0 p.f1).data.toList)) → o.length + l.length ≤ 1000 → ∀ k, 101 + l.length ≤ k →
    impl_input_prefixes.l0 k o (l.length : Int) s (i : Int) 0 = some (o ++ l, s, ((i + (l.flatMap (fun p => (ae p.f0 p.f1).data.toList)).length : Nat) : Int), 0)
  | [], o, i, _, _, _, k, hk => by
    obtain ⟨k, rfl⟩ : ∃ q, k = q + 1 := ⟨k - 1, by omega⟩
    rw [impl_input_prefixes.l0, if_neg (by simp)]
    simp
  | p :: l, o, i, hg, h, ho, k, hk => by
    obtain ⟨k, rfl⟩ : ∃ q, k = q + 1 := ⟨k - 1, by omega⟩
    simp only [kj] at ho hk
    rw [ke] at h
    obtain ⟨h1, h2⟩ := bs h
    have hi : i ≤ s.size := by have := h1.2; omega
    obtain ⟨q, hq, ha, _⟩ := dy s (by omega) k (by omega) (i : Int) (by omega) (by omega)
    have ih := fk hs l (o ++ [p]) (i + (ae p.f0 p.f1).data.toList.length) (fun x hx => hg x (by simp [hx])) h2 (by simp; omega) k (by omega)
    rw [impl_input_prefixes.l0, if_pos (by simp), if_pos rfl, hq, kz, ha _ (go (hg p (by simp)) h1), if_pos (by omega)]
    dsimp only
    rw [show wrap64 (((p :: l).length : Int) - 1) = (l.length : Int) by rw [wrap_id (by simp only [kj]; omega) (by simp only [kj]; omega)]; simp, ih, ke, ky, kk, kZ]
    rfl
theorem dv (l : List S35) : (aw l).data.toList = (bW 1 l.length).data.toList ++ l.flatMap (fun p => (ae p.f0 p.f1).data.toList) := ew (fun p : S35 => ae p.f0 p.f1) l _
theorem dw (w : Nat) (l : List Int) : (bp w l).data.toList = (bW 1 l.length).data.toList ++ l.flatMap (fun x => (bW w x).data.toList) := ew (fun x : Int => bW w x) l _
theorem dq {s : ByteArray} (hs : s.size ≤ 1000) (l : List S35) (i : Nat) (hg : ∀ p, p ∈ l → good p.f0 p.f1 = true) (hl : l.length ≤ 200) (h : At s i (aw l).data.toList) (k : Nat) (hk : 400 ≤ k) :
    impl_input_prefixes.f k s (i : Int) 0 = some (l, s, ((i + (aw l).data.toList.length : Nat) : Int), 0) := by
  rw [dv] at h ⊢
  obtain ⟨h1, h2⟩ := bs h
  have e := c6 hs (n := 1) (.inl rfl) (x := (l.length : Int)) (by omega) (by omega) h1 k (by omega)
  rw [show ((1 : Nat) : Int) = 1 from rfl] at e
  rw [bd] at h2
  unfold impl_input_prefixes.f
  rw [e, kz]
  dsimp only
  rw [fk hs l [] (i + 1) hg h2 (by simp; omega) k (by omega), ky, bd, kZ]
  rfl
theorem fm {s : ByteArray} (hs : s.size ≤ 1000) {w : Nat} (hw : w = 1 ∨ w = 2 ∨ w = 3 ∨ w = 4) : ∀ (l o : List Int) (i : Nat), (∀ x, x ∈ l → 0 ≤ x ∧ x < 256 ^ w) → At s i (l.flatMap (fun x => (bW w x).data.toList)) → o.length + l.length ≤ 1000 → ∀ k, 101 + l.length ≤ k →
    impl_input_numbers.l0 k (w : Int) o (l.length : Int) s (i : Int) 0 = some (o ++ l, s, ((i + (l.flatMap (fun x => (bW w x).data.toList)).length : Nat) : Int), 0)
  | [], o, i, _, _, _, k, hk => by
    obtain ⟨k, rfl⟩ : ∃ q, k = q + 1 := ⟨k - 1, by omega⟩
    rw [impl_input_numbers.l0, if_neg (by simp)]
    simp
  | p :: l, o, i, hg, h, ho, k, hk => by
    obtain ⟨k, rfl⟩ : ∃ q, k = q + 1 := ⟨k - 1, by omega⟩
    simp only [kj] at ho hk
    rw [ke] at h
    obtain ⟨h1, h2⟩ := bs h
    have hp := hg p (by simp)
    have ih := fm hs hw l (o ++ [p]) (i + (bW w p).data.toList.length) (fun x hx => hg x (by simp [hx])) h2 (by simp; omega) k (by omega)
    rw [impl_input_numbers.l0, if_pos (by simp), if_pos rfl, c6 hs hw hp.1 hp.2 h1 k (by omega), kz, if_pos (by omega)]
    dsimp only
    rw [bd] at ih
    rw [show wrap64 (((p :: l).length : Int) - 1) = (l.length : Int) by rw [wrap_id (by simp only [kj]; omega) (by simp only [kj]; omega)]; simp, ih, ke, ky, bd, kk, kZ]
    rfl
theorem fl {s : ByteArray} (hs : s.size ≤ 1000) {w : Nat} (hw : w = 1 ∨ w = 2 ∨ w = 3 ∨ w = 4) (l : List Int) (i : Nat) (hg : ∀ x, x ∈ l → 0 ≤ x ∧ x < 256 ^ w) (hl : l.length ≤ 200) (h : At s i (bp w l).data.toList) (k : Nat) (hk : 400 ≤ k) :
    impl_input_numbers.f k s (i : Int) 0 (w : Int) = some (l, s, ((i + (bp w l).data.toList.length : Nat) : Int), 0) := by
  rw [dw] at h ⊢
  obtain ⟨h1, h2⟩ := bs h
  have e := c6 hs (n := 1) (.inl rfl) (x := (l.length : Int)) (by omega) (by omega) h1 k (by omega)
  rw [show ((1 : Nat) : Int) = 1 from rfl] at e
  rw [bd] at h2
  unfold impl_input_numbers.f
  rw [e, kz]
  dsimp only
  rw [fm hs hw l [] (i + 1) hg h2 (by simp; omega) k (by omega), ky, bd, kZ]
  rfl
theorem d6 : ∀ (m : List Int) (p : Int), bc p m = true → ∀ x, x ∈ m → 0 ≤ x ∧ x ≤ 1000000
  | [], p, _, x, hx => by simp at hx
  | a :: m, p, h, x, hx => by
    simp only [bc, kx, decide_eq_true_eq] at h
    rcases kQ.1 hx with rfl | hx
    · exact h.1
    · exact d6 m a h.2.2 x hx
theorem di {α : Type} (f : α → List UInt8) (c : Nat) : ∀ (l : List α), (∀ x, x ∈ l → (f x).length ≤ c) → (l.flatMap f).length ≤ c * l.length
  | [], _ => by simp
  | x :: l, h => by
    have h1 := di f c l (fun y hy => h y (by simp [hy]))
    have h2 := h x (by simp)
    rw [ke, ky, kj, Nat.mul_succ]
    omega
theorem ef (l : List S35) : (aw l).data.toList.length ≤ 1 + 5 * l.length := by
  rw [dv, ky, bd]
  have := di (fun p : S35 => (ae p.f0 p.f1).data.toList) 5 l (fun p _ => by have := cb p.f0 p.f1; rw [al] at this; exact this)
  omega
theorem eh (w : Nat) (l : List Int) : (bp w l).data.toList.length ≤ 1 + w * l.length := by
  rw [dw, ky, bd]
  have := di (fun x : Int => (bW w x).data.toList) w l (fun x _ => by rw [bd]; exact Nat.le_refl _)
  omega
theorem c4 {g : List S35} {a : Int} {l : List Int} {b c d : Int} {m : List Int} {e : List S35} (h : ao g a l b c d m e = true) : (a8 g a l b c d m e).size ≤ 300 := by
  obtain ⟨_, _, hg, he, hA⟩ := cl h
  obtain ⟨hl, hm⟩ := fn hA
  have h1 := ef g
  have h2 := ef e
  have h3 := eh 2 l
  have h4 := eh 3 m
  rw [al]
  by_cases h0 : e.length = 0
  · unfold a8; rw [if_pos h0]; omega
  · rw [dd _ _ _ _ _ _ _ _ h0]
    simp only [ky, bd]
    omega
theorem fv {g : List S35} {a : Int} {l : List Int} {b c d : Int} {m : List Int} {e : List S35} (h : ao g a l b c d m e = true) :
    (∃ K, ∀ k, K ≤ k → impl_ReadUpdate.f k (a8 g a l b c d m e) = some (g, a, l, b, c, d, m, e, 0, true)) ∧ (∃ q : Int, q ≠ 0 ∧ ∃ K, ∀ k, K ≤ k → impl_ReadUpdate.f k (a8 g a l b c d m e ++ (⟨#[120]⟩ : ByteArray)) = some (aj q)) := by
  obtain ⟨f1, f2, hg, he, hA⟩ := cl h
  obtain ⟨hl, hm⟩ := fn hA
  have hz := c4 h
  have g1 : ∀ p, p ∈ g → 0 ≤ p.f1 ∧ p.f1 ≤ 32 := fun p hp => by have := good_iff.1 (f1 p hp); exact ⟨this.1, this.2.1⟩
  have g2 : ∀ p, p ∈ e → 0 ≤ p.f1 ∧ p.f1 ≤ 32 := fun p hp => by have := good_iff.1 (f2 p hp); exact ⟨this.1, this.2.1⟩
  obtain ⟨K1, G1⟩ := ar g a l b c d m e (by omega) (by omega) (by omega) (by omega)
  replace G1 : ∀ k, K1 ≤ k → impl_GoodUpdate.f k g a l b c d m e = some (ao g a l b c d m e) := G1
  have U1 := fz g a l b c d m e (by omega) (by omega) (by omega) (by omega) g1 g2
  have fin : ∀ (k : Nat) (i : Int), K1 + 2000 ≤ k → ¬ i < ((a8 g a l b c d m e).size : Int) → impl_ReadUpdate.j1 (k + 1) (a8 g a l b c d m e) (a8 g a l b c d m e) i 0 g a l b c d m e = some (g, a, l, b, c, d, m, e, 0, true) := fun k i hk hi => by
    rw [impl_ReadUpdate.j1, if_pos rfl, if_neg hi, G1 k (by omega), kz, if_pos h, U1 k (by omega), kz, if_pos rfl]
  have at0 : At (a8 g a l b c d m e) 0 (a8 g a l b c d m e).data.toList := ⟨by rw [← al]; exact ej _, by rw [← al]; omega⟩
  have hx : (a8 g a l b c d m e ++ (⟨#[120]⟩ : ByteArray)).size = (a8 g a l b c d m e).size + 1 := by rw [kq]; rfl
  have at1 : At (a8 g a l b c d m e ++ (⟨#[120]⟩ : ByteArray)) 0 (a8 g a l b c d m e).data.toList := by
    refine ⟨?_, by rw [hx, ← al]; omega⟩
    unfold seg
    rw [kg, Array.toList_append, List.drop_zero, List.take_append_of_le_length (Nat.le_refl _), List.take_length]
  have hA' := hA
  unfold ax an at hA'
  simp only [kx, decide_eq_true_eq] at hA'
  obtain ⟨a1, ⟨_, a2⟩, a3, a4, a5, a6, _⟩ := hA'
  have rl : ∀ x, x ∈ l → 0 ≤ x ∧ x < 256 ^ 2 := fun x hx => by
    have := List.all_eq_true.1 a2 x hx
    simp at this
    omega
  have rm : ∀ x, x ∈ m → 0 ≤ x ∧ x < 256 ^ 3 := fun x hx => by
    have := d6 m (-1) a6 x hx
    omega
  by_cases h0 : e.length = 0
  · obtain rfl := kd h0
    have hu : a8 g a l b c d m [] = aw g := by unfold a8; rw [if_pos (show ([] : List S35).length = 0 from rfl)]
    have hzr : ck a l b c d m = true := by
      unfold ao at h
      simp only [kx, Bool.or_eq_true] at h
      rcases h.2.2.2.2 with h | h
      · simp at h
      · exact h
    unfold ck at hzr
    simp only [kx, beq_iff_eq, decide_eq_true_eq] at hzr
    obtain ⟨rfl, z1, rfl, rfl, rfl, z2⟩ := hzr
    obtain rfl := kd z1
    obtain rfl := kd z2
    rw [hu] at hz at0 at1 hx ⊢
    rw [hu] at fin
    constructor
    · refine ⟨K1 + 2002, fun k hk => ?_⟩
      have P := dq (by omega) g 0 f1 (by omega) at0 k (by omega)
      rw [kw, ← al, show ((0 : Nat) : Int) = 0 from rfl] at P
      obtain ⟨k, rfl⟩ : ∃ q, k = q + 1 + 1 := ⟨k - 2, by omega⟩
      unfold impl_ReadUpdate.f
      rw [if_neg (by omega), P, kz]
      dsimp only
      rw [if_pos rfl, decide_eq_false (by omega), impl_ReadUpdate.j0, if_neg (by simp)]
      exact fin k _ (by omega) (by omega)
    · refine ⟨1, by decide, 2002, fun k hk => ?_⟩
      have P := dq (by omega) g 0 f1 (by omega) at1 k (by omega)
      rw [kw, ← al, show ((0 : Nat) : Int) = 0 from rfl] at P
      obtain ⟨k, rfl⟩ : ∃ q, k = q + 1 + 1 := ⟨k - 2, by omega⟩
      have N1 := ag (aw g ++ (⟨#[120]⟩ : ByteArray)) (by omega) 1 (k + 1) ((aw g).size : Int) (by omega) (by omega) (by omega) (by omega)
      have N2 := ag (aw g ++ (⟨#[120]⟩ : ByteArray)) (by omega) 1 (k + 1) (((aw g).size : Int) + 1) (by omega) (by omega) (by omega) (by omega)
      rw [show ((1 : Nat) : Int) = 1 from rfl] at N1 N2
      rw [if_pos (by omega)] at N1
      rw [if_neg (by omega)] at N2
      have B : ∀ n : Int, impl_input_number.f (k + 1) (aw g ++ (⟨#[120]⟩ : ByteArray)) (((aw g).size : Int) + 1) 1 n = some (0, _, _, 1) := fun n => ch _ (k + 1) _ 1 n (by decide) (by omega)
      unfold impl_ReadUpdate.f
      rw [if_neg (by omega), P, kz]
      dsimp only
      rw [if_pos rfl, decide_eq_true (by omega), impl_ReadUpdate.j0, if_pos rfl, N1, kz]
      dsimp only
      unfold impl_input_numbers.f impl_input_prefixes.f
      rw [N2, kz]
      dsimp only
      rw [impl_input_numbers.l0, if_neg (by decide), kz]
      dsimp only
      rw [B, kz]
      dsimp only
      rw [B, kz]
      dsimp only
      rw [B, kz]
      dsimp only
      rw [B, kz]
      dsimp only
      rw [impl_input_numbers.l0, if_neg (by decide), kz]
      dsimp only
      rw [B, kz]
      dsimp only
      rw [impl_input_prefixes.l0, if_neg (by decide), kz]
      dsimp only
      rw [impl_ReadUpdate.j1, if_neg (by decide)]
      rfl
  · have walk : ∀ S : ByteArray, S.size ≤ 1000 → At S 0 (a8 g a l b c d m e).data.toList → ∀ k, K1 + 2000 ≤ k → impl_ReadUpdate.f (k + 1 + 1) S = impl_ReadUpdate.j1 (k + 1) S S ((a8 g a l b c d m e).size : Int) 0 g a l b c d m e := by
      intro S hS hat k hk
      have hsz := hat.2
      rw [al]
      rw [dd _ _ _ _ _ _ _ _ h0] at hat hsz ⊢
      obtain ⟨A1, hat⟩ := bs hat
      obtain ⟨A2, hat⟩ := bs hat
      obtain ⟨A3, hat⟩ := bs hat
      obtain ⟨A4, hat⟩ := bs hat
      obtain ⟨A5, hat⟩ := bs hat
      obtain ⟨A6, hat⟩ := bs hat
      obtain ⟨A7, A8⟩ := bs hat
      have P1 := dq hS g _ f1 (by omega) A1 (k + 1 + 1) (by omega)
      have P2 := c6 hS (n := 1) (.inl rfl) (x := a) (by omega) (by omega) A2 (k + 1) (by omega)
      have P3 := fl hS (w := 2) (.inr (.inl rfl)) l _ rl (by omega) A3 (k + 1) (by omega)
      have P4 := c6 hS (n := 4) (.inr (.inr (.inr rfl))) (x := b) (by omega) (by omega) A4 (k + 1) (by omega)
      have P5 := c6 hS (n := 3) (.inr (.inr (.inl rfl))) (x := c) (by omega) (by omega) A5 (k + 1) (by omega)
      have P6 := c6 hS (n := 3) (.inr (.inr (.inl rfl))) (x := d) (by omega) (by omega) A6 (k + 1) (by omega)
      have P7 := fl hS (w := 3) (.inr (.inr (.inl rfl))) m _ rm (by omega) A7 (k + 1) (by omega)
      have P8 := dq hS e _ f2 (by omega) A8 (k + 1) (by omega)
      simp only [bd] at P2 P3 P4 P5 P6 P7 P8 hsz ⊢
      rw [show ((1 : Nat) : Int) = 1 from rfl] at P2
      rw [show ((2 : Nat) : Int) = 2 from rfl] at P3
      rw [show ((3 : Nat) : Int) = 3 from rfl] at P5 P6 P7
      rw [show ((4 : Nat) : Int) = 4 from rfl] at P4
      rw [show ((0 : Nat) : Int) = 0 from rfl] at P1
      unfold impl_ReadUpdate.f
      rw [if_neg (by omega), P1, kz]
      dsimp only
      simp only [ky, bd] at hsz
      rw [if_pos rfl, decide_eq_true (by omega), impl_ReadUpdate.j0, if_pos rfl, P2, kz]
      dsimp only
      rw [P3, kz]
      dsimp only
      rw [P4, kz]
      dsimp only
      rw [P5, kz]
      dsimp only
      rw [P6, kz]
      dsimp only
      rw [P7, kz]
      dsimp only
      rw [P8, kz]
      dsimp only
      simp only [ky, bd]
      congr 1
      omega
    constructor
    · refine ⟨K1 + 2002, fun k hk => ?_⟩
      obtain ⟨k, rfl⟩ : ∃ q, k = q + 1 + 1 := ⟨k - 2, by omega⟩
      rw [walk _ (by omega) at0 k (by omega)]
      exact fin k _ (by omega) (by omega)
    · refine ⟨2, by decide, K1 + 2002, fun k hk => ?_⟩
      obtain ⟨k, rfl⟩ : ∃ q, k = q + 1 + 1 := ⟨k - 2, by omega⟩
      rw [walk _ (by omega) at1 k (by omega), impl_ReadUpdate.j1, if_pos rfl, if_pos (by omega)]
      rfl
theorem ev (l : List S35) (hl : l.length ≤ 1000) (a n : Int) : ∃ r : List S35, (∀ k, l.length + 10 ≤ k → spec_l4Put.f k l a n = some r) ∧ r.length ≤ l.length + 1 := by
  have key : ∀ (d : Nat) (i : Int), i + d = l.length → 0 ≤ i → ∃ r : List S35, (∀ k, d + 5 ≤ k → spec_l4Put.l0 k l i a n = some r) ∧ r.length ≤ l.length + 1 := by
    intro d
    induction d with
    | zero =>
      intro i hi h0
      refine ⟨l.take i.toNat ++ [⟨a, n⟩] ++ l.drop i.toNat, fun k hk => ?_, by simp; omega⟩
      obtain ⟨k, rfl⟩ : ∃ m, k = m + 1 := ⟨k - 1, by omega⟩
      rw [spec_l4Put.l0, if_neg (by omega), if_pos h0, if_pos (by omega)]
      simp only [kz, kh]
      rw [if_pos (by simp; omega), if_pos (by simp; omega), if_pos (by simp; omega)]
    | succ d ih =>
      intro i hi h0
      have hc := fun k => bw k (rd_T35 l i).f0 (rd_T35 l i).f1 a n
      by_cases h1 : cmpP (rd_T35 l i).f0 (rd_T35 l i).f1 a n < 0
      · obtain ⟨r, hr, hz⟩ := ih (i + 1) (by omega) (by omega)
        refine ⟨r, fun k hk => ?_, hz⟩
        obtain ⟨k, rfl⟩ : ∃ m, k = m + 1 + 1 := ⟨k - 2, by omega⟩
        rw [spec_l4Put.l0, if_pos (by omega), if_pos h0, hc, kz, if_pos h1, wrap_id (by omega) (by omega)]
        exact hr (k + 1) (by omega)
      · by_cases h2 : ((rd_T35 l i).f0 == a && ((rd_T35 l i).f1 == n)) = true
        · refine ⟨l, fun k hk => ?_, by omega⟩
          obtain ⟨k, rfl⟩ : ∃ m, k = m + 1 + 1 := ⟨k - 2, by omega⟩
          rw [spec_l4Put.l0, if_pos (by omega), if_pos h0, hc, kz, if_neg h1, if_pos h2]
        · refine ⟨l.take i.toNat ++ [⟨a, n⟩] ++ l.drop i.toNat, fun k hk => ?_, by simp; omega⟩
          obtain ⟨k, rfl⟩ : ∃ m, k = m + 1 + 1 := ⟨k - 2, by omega⟩
          rw [spec_l4Put.l0, if_pos (by omega), if_pos h0, hc, kz, if_neg h1, if_neg h2, if_pos (by omega)]
          simp only [kz, kh]
          rw [if_pos (by simp; omega), if_pos (by simp; omega), if_pos (by simp; omega)]
  obtain ⟨r, hr, hz⟩ := key l.length 0 (by omega) (by omega)
  exact ⟨r, fun k hk => hr k (by omega), hz⟩
abbrev UD := List S35 × Int × List Int × Int × Int × Int × List Int × List S35 × Int × Int
def ey (r : UD) : Prop := r.1.length ≤ 20 ∧ r.2.2.1.length ≤ 60 ∧ r.2.2.2.2.2.2.1.length ≤ 10 ∧ r.2.2.2.2.2.2.2.1.length ≤ 20 ∧ 0 ≤ r.2.2.2.2.2.2.2.2.1 ∧ r.2.2.2.2.2.2.2.2.1 ≤ 10000
theorem ea {c : List Int} (hc : Bts c) (g : List S35) (o : Int) (l : List Int) (nx md pf : Int) (m : List Int) (e : List S35) (i s : Int) (hg : g.length ≤ 10) (hl : l.length ≤ 60) (hm : m.length ≤ 10) (he : e.length ≤ 10) (h0 : 0 ≤ i) (hi : i ≤ 6000) :
    ∃ r : UD, (∀ k, spec_l1Cur_update.j3 (k + 1) c i s g o l nx md pf m e = some r) ∧ ey r := by
  obtain ⟨b, i1, s1, e1, a1, b1⟩ := el hc s (n := 30) h0 (by omega) (by omega)
  cases b with
  | true =>
    obtain ⟨a, n, i2, s2, e2, a2, b2⟩ := ed hc s1 (i := i1) (by omega) (by omega)
    refine ⟨(g ++ [⟨a, n⟩], o, l, nx, md, pf, m, e, i2, s2), fun k => ?_, by simp [ey]; omega⟩
    rw [spec_l1Cur_update.j3, e1, kz, if_pos rfl, e2, kz, if_pos (by omega)]
  | false =>
    refine ⟨(g, o, l, nx, md, pf, m, e, i1, s1), fun k => ?_, by simp [ey]; omega⟩
    rw [spec_l1Cur_update.j3, e1, kz, if_neg (by simp)]
theorem eb {c : List Int} (hc : Bts c) (b : Bool) (g : List S35) (o nx md pf : Int) (e : List S35) (i s : Int) (hg : g.length ≤ 10) (he : e.length ≤ 10) (h0 : 0 ≤ i) (hi : i ≤ 400) :
    ∃ r : UD, (∀ k, 150 ≤ k → spec_l1Cur_update.j2 k b c i s g o nx md pf e = some r) ∧ ey r := by
  cases b with
  | true =>
    obtain ⟨o', l', nx', md', pf', m', i1, s1, e1, g1, g2, g3, g4⟩ := fw hc i s h0 (by omega)
    obtain ⟨r, e2, hr⟩ := ea hc g o' l' nx' md' pf' m' e i1 s1 hg g1 g2 he g3 (by omega)
    refine ⟨r, fun k hk => ?_, hr⟩
    obtain ⟨k, rfl⟩ : ∃ m, k = m + 1 + 1 := ⟨k - 2, by omega⟩
    rw [spec_l1Cur_update.j2, if_pos rfl, e1 _ (by omega), kz]
    exact e2 k
  | false =>
    obtain ⟨r, e2, hr⟩ := ea hc g o [] nx md pf [] e i s hg (by simp) (by simp) he h0 (by omega)
    refine ⟨r, fun k hk => ?_, hr⟩
    obtain ⟨k, rfl⟩ : ∃ m, k = m + 1 + 1 := ⟨k - 2, by omega⟩
    rw [spec_l1Cur_update.j2, if_neg (by simp)]
    exact e2 k
theorem fo {c : List Int} (hc : Bts c) (g : List S35) (o nx md pf : Int) (hg : g.length ≤ 10) : ∀ (n : Nat) (e : List S35) (i s : Int), n ≤ 5 → e.length + n ≤ 10 → 0 ≤ i → i + 10 * n ≤ 300 →
    ∃ r : UD, (∀ k, 200 + n ≤ k → spec_l1Cur_update.l1 k (n : Int) c i s g o nx md pf e = some r) ∧ ey r := by
  intro n
  induction n with
  | zero =>
    intro e i s _ he h0 h1
    by_cases hz : (e.length : Int) > 0
    · obtain ⟨r, e2, hr⟩ := eb hc true g o nx md pf e i s hg (by omega) h0 (by omega)
      refine ⟨r, fun k hk => ?_, hr⟩
      obtain ⟨k, rfl⟩ : ∃ m, k = m + 1 := ⟨k - 1, by omega⟩
      rw [spec_l1Cur_update.l1, if_neg (by omega), if_pos hz]
      exact e2 k (by omega)
    · obtain ⟨b, i1, s1, e1, a1, b1⟩ := el hc s (n := 20) h0 (by omega) (by omega)
      obtain ⟨r, e2, hr⟩ := eb hc b g o nx md pf e i1 s1 hg (by omega) (by omega) (by omega)
      refine ⟨r, fun k hk => ?_, hr⟩
      obtain ⟨k, rfl⟩ : ∃ m, k = m + 1 := ⟨k - 1, by omega⟩
      rw [spec_l1Cur_update.l1, if_neg (by omega), if_neg hz, e1, kz]
      exact e2 k (by omega)
  | succ n ih =>
    intro e i s hn he h0 h1
    obtain ⟨a, m, i1, s1, e1, hgd, a1, b1⟩ := fj hc s h0 (by omega)
    have hw : wrap64 (((n + 1 : Nat) : Int) - 1) = (n : Int) := by rw [wrap_id (by omega) (by omega)]; omega
    have hin := fun k hk => c7 k g a m (by omega) hk
    by_cases hi : (g.any fun q => a == q.f0 && m == q.f1) = true
    · obtain ⟨r, e2, hr⟩ := ih e i1 s1 (by omega) (by omega) (by omega) (by omega)
      refine ⟨r, fun k hk => ?_, hr⟩
      obtain ⟨k, rfl⟩ : ∃ m, k = m + 1 := ⟨k - 1, by omega⟩
      rw [spec_l1Cur_update.l1, if_pos (by omega), e1, kz]
      dsimp only
      rw [hin k (by omega), kz, if_pos hi, hw]
      exact e2 k (by omega)
    · obtain ⟨p, hp, hz⟩ := ev e (by omega) a m
      obtain ⟨r, e2, hr⟩ := ih p i1 s1 (by omega) (by omega) (by omega) (by omega)
      refine ⟨r, fun k hk => ?_, hr⟩
      obtain ⟨k, rfl⟩ : ∃ m, k = m + 1 := ⟨k - 1, by omega⟩
      rw [spec_l1Cur_update.l1, if_pos (by omega), e1, kz]
      dsimp only
      rw [hin k (by omega), kz, if_neg hi, hp k (by omega), kz, hw]
      exact e2 k (by omega)
theorem fp {c : List Int} (hc : Bts c) (o nx md pf : Int) : ∀ (n : Nat) (g : List S35) (i s : Int), n ≤ 5 → g.length + n ≤ 10 → 0 ≤ i → i + 10 * n ≤ 100 →
    ∃ r : UD, (∀ k, 300 + n ≤ k → spec_l1Cur_update.l0 k (n : Int) c i s g o nx md pf = some r) ∧ ey r := by
  intro n
  induction n with
  | zero =>
    intro g i s _ hg h0 h1
    obtain ⟨b, i1, s1, e1, b0, b1, a1, c1⟩ := av hc s (n := 4) h0 (by omega) (by omega)
    obtain ⟨r, e2, hr⟩ := fo hc g o nx md pf (by omega) b.toNat [] i1 s1 (by omega) (by simp; omega) (by omega) (by omega)
    refine ⟨r, fun k hk => ?_, hr⟩
    obtain ⟨k, rfl⟩ : ∃ m, k = m + 1 := ⟨k - 1, by omega⟩
    rw [spec_l1Cur_update.l0, if_neg (by omega), e1, kz]
    dsimp only
    rw [show b = (b.toNat : Int) by omega]
    exact e2 k (by omega)
  | succ n ih =>
    intro g i s hn hg h0 h1
    obtain ⟨a, m, i1, s1, e1, hgd, a1, b1⟩ := fj hc s h0 (by omega)
    have hw : wrap64 (((n + 1 : Nat) : Int) - 1) = (n : Int) := by rw [wrap_id (by omega) (by omega)]; omega
    obtain ⟨p, hp, hz⟩ := ev g (by omega) a m
    obtain ⟨r, e2, hr⟩ := ih p i1 s1 (by omega) (by omega) (by omega) (by omega)
    refine ⟨r, fun k hk => ?_, hr⟩
    obtain ⟨k, rfl⟩ : ∃ m, k = m + 1 := ⟨k - 1, by omega⟩
    rw [spec_l1Cur_update.l0, if_pos (by omega), e1, kz]
    dsimp only
    rw [hp k (by omega), kz, hw]
    exact e2 k (by omega)
theorem d9 {c : List Int} (hc : Bts c) : ∃ r : UD, (∀ k, 400 ≤ k → spec_l1Cur_update.f k c 0 0 = some r) ∧ ey r := by
  obtain ⟨b, i1, s1, e1, b0, b1, a1, c1⟩ := av hc 0 (n := 4) (i := 0) (by omega) (by omega) (by omega)
  obtain ⟨r, e2, hr⟩ := fp hc 0 0 0 0 b.toNat [] i1 s1 (by omega) (by simp; omega) (by omega) (by omega)
  refine ⟨r, fun k hk => ?_, hr⟩
  unfold spec_l1Cur_update.f
  rw [e1, kz]
  dsimp only
  rw [show b = (b.toNat : Int) by omega]
  exact e2 k (by omega)
theorem bz (n : Nat) (x : Int) (hn : n ≤ 4) : bl n x = bW n x := by unfold bl bW; rw [fi x n hn]
theorem eo (a n : Int) : ct a n = ae a n := by unfold ct ae ab; rw [bz 1 n (by omega), fi a 4 (by omega)]
theorem de (g : List S35) (a : Int) (l : List Int) (b c d : Int) (m : List Int) (e : List S35) : fq g a l b c d m e = a8 g a l b c d m e := by
  have hp : ∀ l : List S35, ek l = aw l := fun l => by
    unfold ek aw er
    rw [bz 1 _ (by omega)]
    simp only [eo]
  have hn : ∀ (w : Nat) (l : List Int), w ≤ 4 → et w l = bp w l := fun w l hw => by
    unfold et bp eu
    rw [bz 1 _ (by omega)]
    simp only [bz w _ hw]
  unfold fq a8
  rw [hp, hp, hn 2 l (by omega), hn 3 m (by omega), bz 1 a (by omega), bz 4 b (by omega), bz 3 c (by omega), bz 3 d (by omega)]
theorem en (g : List S35) (a : Int) (l : List Int) (b c d : Int) (m : List Int) (e : List S35) : (bj g a l b c d m e).1.size ≤ 300 := by
  unfold bj
  by_cases h : ao g a l b c d m e = true
  · rw [if_pos h, de]; exact c4 h
  · rw [if_neg h]; simp [ku]
theorem dc {c : List Int} (hc : Bts c) : ∃ t, ∃ K, ∀ k, K ≤ k → spec_DrawReadUpdate.f k c = some t := by
  obtain ⟨⟨g, a, l, b, cc, d, m, e, i, s⟩, e1, h1, h2, h3, h4, h5, h6⟩ := d9 hc
  dsimp only at h1 h2 h3 h4 h5 h6
  obtain ⟨⟨K1, u1⟩, _⟩ := bv g a l b cc d m e (by omega) (by omega) (by omega) (by omega)
  replace u1 : ∀ k, K1 ≤ k → spec_UpdateBytes.f k g a l b cc d m e = _ := u1
  obtain ⟨w, i1, s1, e2, a1, b1⟩ := el hc s (n := 3) h5 (by omega) (by omega)
  have hz := en g a l b cc d m e
  cases w with
  | false =>
    refine ⟨(bj g a l b cc d m e).1, K1 + 400, fun k hk => ?_⟩
    unfold spec_DrawReadUpdate.f
    rw [e1 k (by omega), kz]
    dsimp only
    rw [u1 k (by omega), kz, e2, kz, if_neg (by simp)]
  | true =>
    obtain ⟨r, i2, s2, e3, _⟩ := fs hc (bj g a l b cc d m e).1 (⟨#[0, 1, 8, 33, 255]⟩ : ByteArray) (by omega) (by decide) (by decide) i1 s1 (by omega) (by omega)
    refine ⟨r, K1 + 400, fun k hk => ?_⟩
    unfold spec_DrawReadUpdate.f
    rw [e1 k (by omega), kz]
    dsimp only
    rw [u1 k (by omega), kz, e2, kz, if_pos rfl, e3 k (by omega), kz]
theorem da (l : List S35) (hl : l.length ≤ 1000000) (k : Nat) (hk : l.length < k) : laws_samePrefixes.f k l l = some true := by
  have key : ∀ (rest pre : List S35) (k : Nat), l = pre ++ rest → rest.length < k → laws_samePrefixes.l0 k l l (l.length : Int) (pre.length : Int) = some true := by
    intro rest
    induction rest with
    | nil =>
      intro pre k e hk
      obtain ⟨k, rfl⟩ : ∃ m, k = m + 1 := ⟨k - 1, by omega⟩
      rw [laws_samePrefixes.l0, if_neg (by rw [e]; simp)]
    | cons a rest ih =>
      intro pre k e hk
      obtain ⟨k, rfl⟩ : ∃ m, k = m + 1 := ⟨k - 1, by omega⟩
      have h1 : (pre.length : Int) < (l.length : Int) := by rw [e]; exact lt_mid _ _ _
      rw [laws_samePrefixes.l0, if_pos h1, if_pos (len_nn _), if_pos h1, if_pos h1, if_neg (by simp), wrap_mid (rest := rest) (a := a) (by rw [← e]; simp only [maxLen]; omega)]
      exact ih (pre ++ [a]) k (by rw [e]; simp) (by simp at hk; omega)
  unfold laws_samePrefixes.f
  rw [if_pos rfl]
  exact key l [] k rfl hk
theorem c9 (g : List S35) (a : Int) (l : List Int) (b c d : Int) (m : List Int) (e : List S35) (hg : g.length ≤ 1000) (hl : l.length ≤ 1000) (hm : m.length ≤ 1000) (he : e.length ≤ 1000) (k : Nat) (hk : 1001 ≤ k) : laws_sameUpdate.f k g a l b c d m e g a l b c d m e = some true := by
  unfold laws_sameUpdate.f laws_sameAttrs.f
  rw [da g (by omega) k (by omega), kz, if_pos rfl, da e (by omega) k (by omega), kz, if_pos rfl, if_pos rfl, if_pos rfl, if_pos rfl, if_pos rfl, cz l (by omega) k (by omega), kz, if_pos rfl, cz m (by omega) k (by omega)]
  rfl

end FnUpdatesUses
open Go.RowKit Go.Proofs.Ytlnfcobloolnnaa.PFnUpdates Go.Proofs.YtlnfcobloolnnaaW.PrintWords Go.Proofs.YtlnfcobloolnnaaW.PrintLast Go.Proofs.YtlnfcobloolnnaaW.PrintMore Go.Proofs.Ytlnfcobloolnnaa.Pfx Go.Proofs.Ytlnfcobloolnnaa.Loop Go.Proofs.Ytlnfcobloolnnaa.Tbl FnUpdatesUses
open Option renaming bind_some → kz
open _root_.ByteArray renaming size_append → kq, data_append → kg, size → ku, toList_eq → kt, append_assoc → kp, size_extract → kn
open List renaming length_append → ky, length_cons → kj, append_assoc → kk, length_singleton → kv, nil_append → kh, flatMap_cons → ke, eq_nil_of_length_eq_zero → kd, append_nil → kc, cons_append → ko, length_take → km, map_cons → ks, map_singleton → kr, map_append → kl, length_pos_iff → ki, mem_cons → kQ
open Bool renaming false_and → kf, true_and → kb, and_eq_true → kx
open Nat renaming zero_add → kw, add_assoc → kZ
open IntKind renaming signed → ka
set_option linter.unusedVariables false
theorem FnUpdates : laws_FnUpdates.Pure := by
  intro l0 l1 m0 w0 b0 m1 w1 b1
  have hbt : ∀ c : List Int, c.length * 1 ≤ 140737488351232 → (∀ x ∈ c, (Lit.int .u8 x).wf = true) → Bts c := fun c h1 h2 => ⟨by omega, fun x hx => by
    have := h2 x hx
    simp [Lit.wf, IntKind.min, IntKind.max, ka, IntKind.bits] at this
    omega⟩
  have hc0 := hbt l0 w0 b0
  have hc1 := hbt l1 w1 b1
  by_cases hsz : wrap64 ((l0.length : Int) + (l1.length : Int)) > 1048576
  · exact ⟨0, .inl hsz⟩
  obtain ⟨⟨g, a, l, b, c, d, m, e, i, s⟩, hD, hg, hl, hm, he, _, _⟩ := d9 hc0
  dsimp only at hg hl hm he
  obtain ⟨⟨K1, u1⟩, ⟨K2, u2⟩⟩ := bv g a l b c d m e (by omega) (by omega) (by omega) (by omega)
  obtain ⟨K3, u3⟩ := ar g a l b c d m e (by omega) (by omega) (by omega) (by omega)
  replace u1 : ∀ k, K1 ≤ k → spec_UpdateBytes.f k g a l b c d m e = some (bj g a l b c d m e) := u1
  replace u2 : ∀ k, K2 ≤ k → impl_UpdateBytes.f k g a l b c d m e = some (bj g a l b c d m e) := u2
  replace u3 : ∀ k, K3 ≤ k → impl_GoodUpdate.f k g a l b c d m e = some (ao g a l b c d m e) := u3
  obtain ⟨t, K4, hT⟩ := dc hc1
  obtain ⟨⟨g', a', l', b', c', d', m', e', cd, ok⟩, ⟨K5, r1⟩, ⟨K6, r2⟩, hg', hl', hm', he', hok⟩ := dn t
  dsimp only at hg' hl' hm' he'
  obtain ⟨_, ⟨K7, u7⟩⟩ := bv g' a' l' b' c' d' m' e' (by omega) (by omega) (by omega) (by omega)
  replace u7 : ∀ k, K7 ≤ k → impl_UpdateBytes.f k g' a' l' b' c' d' m' e' = some (bj g' a' l' b' c' d' m' e') := u7
  obtain ⟨K8, K9, q, hq, hB⟩ : ∃ K8 K9 : Nat, ∃ q : Int, q ≠ 0 ∧ (ao g a l b c d m e = true → (∀ k, K8 ≤ k → impl_ReadUpdate.f k (a8 g a l b c d m e) = some (g, a, l, b, c, d, m, e, 0, true)) ∧ ∀ k, K9 ≤ k → impl_ReadUpdate.f k (a8 g a l b c d m e ++ (⟨#[120]⟩ : ByteArray)) = some (aj q)) := by
    by_cases h : ao g a l b c d m e = true
    · obtain ⟨⟨K8, h8⟩, q, hq, K9, h9⟩ := fv h
      exact ⟨K8, K9, q, hq, fun _ => ⟨h8, h9⟩⟩
    · exact ⟨0, 0, 1, by decide, fun h' => absurd h' h⟩
  obtain ⟨K, hK⟩ : ∃ K : Nat, K1 + K2 + K3 + K4 + K5 + K6 + K7 + K8 + K9 + 3000 ≤ K := ⟨_, Nat.le_refl _⟩
  obtain ⟨s, hs, hW⟩ : ∃ s, bj g a l b c d m e = (s, ao g a l b c d m e) ∧ (ao g a l b c d m e = true → s = a8 g a l b c d m e) := by
    by_cases h : ao g a l b c d m e = true
    · exact ⟨a8 g a l b c d m e, by unfold bj; rw [if_pos h, de, h], fun _ => rfl⟩
    · exact ⟨⟨#[]⟩, by unfold bj; rw [if_neg h, Bool.eq_false_iff.mpr h], fun h' => absurd h' h⟩
  rw [hs] at u1 u2
  refine ⟨K, .inr ⟨hsz, ⟨g, e, l, m, a, b, c, d, s, ao g a l b c d m e, ?_, u2 K (by omega), u1 K (by omega), u3 K (by omega), fun h => ?_⟩, t, g', e', l', m', a', b', c', d', cd, ok, (bj g' a' l' b' c' d' m' e').1, (bj g' a' l' b' c' d' m' e').2, hT K (by omega), r2 K (by omega), r1 K (by omega), c9 g' a' l' b' c' d' m' e' (by omega) (by omega) (by omega) (by omega) K (by omega), u7 K (by omega), fun h => ?_⟩⟩
  · unfold spec_DrawUpdateBytes.f spec_DrawGoodUpdate.f
    rw [hD _ (by omega), kz, kz]
  · obtain ⟨B1, B2⟩ := hB h
    have hz := c4 h
    have B3 := B2 K (by omega)
    unfold aj at B3
    rw [hW h]
    exact ⟨by omega, B1 K (by omega), c9 g a l b c d m e (by omega) (by omega) (by omega) (by omega) K (by omega), _, _, _, _, _, _, _, _, q, hq, B3⟩
  · obtain ⟨h1, h2⟩ := hok h
    dsimp only at h1 h2
    unfold bj
    rw [if_pos h1]
    dsimp only
    rw [de, fh h2]
    simp
end Go.Proofs.Ytlnfcobloolnnaa.Pure
