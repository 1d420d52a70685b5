/- The pure statement of FnPrepend: what the printed functions tell is what the reference tells. No condition but the arguments' own bounds. -/
import Derived.Test.YtlnfcobloolnnaaYFnPrependx14
import Derived.Test.YtlnfcobloolnnaaQFnPrepend
namespace Go.Proofs.Ytlnfcobloolnnaa.Pure
namespace FnPrependUses
open Go.RowKit Go.Proofs.Ytlnfcobloolnnaa.PFnPrepend Go.Proofs.YtlnfcobloolnnaaW.PrintWords Go.Proofs.YtlnfcobloolnnaaW.PrintLast Go.Proofs.YtlnfcobloolnnaaW.PrintMore Go.Proofs.Ytlnfcobloolnnaa.Pfx Go.Proofs.Ytlnfcobloolnnaa.Loop Go.Proofs.Ytlnfcobloolnnaa.Tbl
open Option renaming bind_some → kz
open _root_.ByteArray renaming size_append → kq, size → kv, size_extract → kf
open List renaming replicate → ky, length_take → kh, append_assoc → kg, nil_append → kb, replicate_succ → kd, length_pos_iff → kc
open Bool renaming true_and → kj, false_and → kk, and_eq_true → ke
open IntKind renaming signed → ko
set_option linter.unusedVariables false
set_option linter.unusedSimpArgs false

theorem spec_l1In_is (a lo hi : Int) : spec_l1In.f a lo hi = some (decide (lo ≤ a ∧ a ≤ hi)) := by
  unfold spec_l1In.f
  by_cases h : lo ≤ a
  · rw [if_pos h]; simp [h]
  · rw [if_neg h]; simp [h]
theorem impl_within_is (a lo hi : Int) : impl_within.f a lo hi = some (decide (lo ≤ a ∧ a ≤ hi)) := by
  unfold impl_within.f
  by_cases h : lo ≤ a
  · rw [if_pos h]; simp [h]
  · rw [if_neg h]; simp [h]
theorem spec_l1Addr_is (a : Int) : spec_l1Addr.f a = some (decide (0 ≤ a ∧ a ≤ 4294967295)) := by
  unfold spec_l1Addr.f; rw [spec_l1In_is]; rfl
theorem impl_isAddr_is (a : Int) : impl_isAddr.f a = some (decide (0 ≤ a ∧ a ≤ 4294967295)) := by
  unfold impl_isAddr.f; rw [impl_within_is]; rfl
theorem impl_sizeOf_is {n : Int} (h0 : 0 ≤ n) (h1 : n ≤ 32) : impl_sizeOf.f n = some (sz n) := by
  unfold impl_sizeOf.f
  rw [shl_sz h0 h1, if_pos (by rw [wrap_id (by omega) (by omega)]; omega)]
theorem spec_l1Size_is (a : Int) {n : Int} (h0 : 0 ≤ n) (h1 : n ≤ 32) : spec_l1Size.f a n = some (sz n) := by
  unfold spec_l1Size.f
  have e : IntKind.u64.wrap (wrap64 (32 - n)) = wrap64 (32 - n) := by rw [wrap_id (by omega) (by omega), u64_id (by omega) (by omega)]
  rw [e, shl_sz h0 h1, if_pos (by rw [wrap_id (by omega) (by omega)]; omega)]
theorem impl_GoodPrefix_is (a n : Int) : impl_GoodPrefix.f a n = some (good a n) := by
  unfold impl_GoodPrefix.f
  rw [impl_within_is, kz]
  by_cases h : 0 ≤ n ∧ n ≤ 32
  · rw [if_pos (decide_eq_true h), impl_isAddr_is, kz]
    by_cases h' : 0 ≤ a ∧ a ≤ 4294967295
    · rw [if_pos (decide_eq_true h'), impl_sizeOf_is h.1 h.2, kz, if_neg (by have := sz_pos n; omega), Int.tmod_eq_emod_of_nonneg h'.1]
      simp [good, h.1, h.2, h'.1, h'.2, beq_dec]
    · rw [if_neg (by simpa using h')]
      have : good a n = false := by simp [good]; omega
      rw [this]
  · rw [if_neg (by simpa using h)]
    have : good a n = false := by simp [good]; omega
    rw [this]
theorem spec_GoodPrefix_is (a n : Int) : spec_GoodPrefix.f a n = some (good a n) := by
  unfold spec_GoodPrefix.f
  rw [spec_l1In_is, kz]
  by_cases h : 0 ≤ n ∧ n ≤ 32
  · rw [if_pos (decide_eq_true h), spec_l1Addr_is, kz]
    by_cases h' : 0 ≤ a ∧ a ≤ 4294967295
    · rw [if_pos (decide_eq_true h'), spec_l1Size_is a h.1 h.2, kz, if_neg (by have := sz_pos n; omega), Int.tmod_eq_emod_of_nonneg h'.1]
      simp [good, h.1, h.2, h'.1, h'.2, beq_dec]
    · rw [if_neg (by simpa using h')]
      have : good a n = false := by simp [good]; omega
      rw [this]
  · rw [if_neg (by simpa using h)]
    have : good a n = false := by simp [good]; omega
    rw [this]
def pathOk (l : List Int) : Bool := l.all fun a => decide (1 ≤ a ∧ a ≤ 65535)
theorem idx_Path (l : List Int) (hl : l.length ≤ maxLen) : ∀ (rest pre : List Int), l = pre ++ rest →
    ∃ r : Int, Ev (fun k => slices_IndexFunc_int_int.l0 k l (l.length : Int) (pre.length : Int)) r ∧ (decide (r ≥ 0) = !pathOk rest) := by
  intro rest
  induction rest with
  | nil =>
    intro pre e
    refine ⟨-1, Ev.step (f := fun _ => some (-1)) (fun k => ?_) (Ev.now _), by simp [pathOk]⟩
    simp only [slices_IndexFunc_int_int.l0]
    rw [if_neg (by rw [e]; simp)]
  | cons a rest ih =>
    intro pre e
    have hlt : (pre.length : Int) < (l.length : Int) := by rw [e]; exact lt_mid _ _ _
    have h1 : rd l (pre.length : Int) = a := by rw [e]; exact rd_mid _ _ _
    by_cases hm : 1 ≤ a ∧ a ≤ 65535
    · obtain ⟨r, hr, hb⟩ := ih (pre ++ [a]) (by rw [e]; simp)
      refine ⟨r, Ev.step (fun k => ?_) hr, by rw [hb]; simp [pathOk, hm]⟩
      simp only [slices_IndexFunc_int_int.l0, impl_isPath_1.f, impl_isAsn.f]
      rw [if_pos hlt, if_pos (len_nn _), if_pos hlt, h1, impl_within_is]
      simp only [kz]
      rw [if_neg (by simp [hm]), wrap_mid (rest := rest) (by rw [← e]; exact hl)]
    · refine ⟨(pre.length : Int), Ev.step (f := fun _ => some (pre.length : Int)) (fun k => ?_) (Ev.now _), ?_⟩
      · simp only [slices_IndexFunc_int_int.l0, impl_isPath_1.f, impl_isAsn.f]
        rw [if_pos hlt, if_pos (len_nn _), if_pos hlt, h1, impl_within_is]
        simp only [kz]
        rw [if_pos (by simp; omega)]
      · have : pathOk (a :: rest) = false := by
          unfold pathOk
          rw [List.all_cons, decide_eq_false hm, kk]
        rw [this]; simp
theorem impl_isPath_is (l : List Int) (hl : l.length ≤ maxLen) : Ev (fun k => impl_isPath.f k l) (decide (l.length ≤ 10) && pathOk l) := by
  by_cases h : (l.length : Int) ≤ 10
  · have h' : l.length ≤ 10 := by omega
    obtain ⟨r, hr, hb⟩ := idx_Path l hl l [] rfl
    refine Ev.congr (fun k => by unfold impl_isPath.f slices_ContainsFunc_int_int.f; rw [if_pos h]) (Ev.bind (f := fun _ b => some (!b)) (Ev.bind (g := fun k => slices_IndexFunc_int_int.f k l) (f := fun _ t => some (decide (t ≥ 0))) hr (Ev.now _)) ?_)
    rw [hb]
    simp only [h', decide_true, kj, Bool.not_not]
    exact Ev.now _
  · have h' : ¬ l.length ≤ 10 := by omega
    rw [show (decide (l.length ≤ 10) && pathOk l) = false by simp [h']]
    exact Ev.congr (fun k => by unfold impl_isPath.f; rw [if_neg h]) (Ev.now _)
def commOk : Int → List Int → Bool
  | _, [] => true
  | p, a :: t => decide (0 ≤ a ∧ a ≤ 1000000) && (decide (p < a) && commOk a t)
def prevOf (pre : List Int) : Int := if pre = [] then -1 else rd pre ((pre.length : Int) - 1)
theorem prevOf_snoc (pre : List Int) (a : Int) : prevOf (pre ++ [a]) = a := by
  unfold prevOf
  rw [if_neg (by simp)]
  rw [show (((pre ++ [a]).length : Int) - 1) = (pre.length : Int) by simp]
  exact rd_mid pre a []
theorem rd_prev {pre : List Int} (h : pre ≠ []) (rest : List Int) : rd (pre ++ rest) ((pre.length : Int) - 1) = prevOf pre := by
  obtain h2 | ⟨p, q, rfl⟩ := snoc_cases pre
  · exact absurd h2 h
  · rw [prevOf_snoc]
    rw [show (((p ++ [q]).length : Int) - 1) = (p.length : Int) by simp, kg]
    exact rd_mid p q rest
theorem impl_areComms_is (l : List Int) (hl : l.length ≤ 1048576) : Ev (fun k => impl_areComms.f k l) (commOk (-1) l && decide (l.length ≤ 6)) := by
  have key : ∀ (rest pre : List Int), l = pre ++ rest →
      Ev (fun k => impl_areComms.l0 k l l (l.length : Int) (pre.length : Int)) (commOk (prevOf pre) rest && decide (l.length ≤ 6)) := by
    intro rest
    induction rest with
    | nil =>
      intro pre e
      refine Ev.step (f := fun _ => some (decide (l.length ≤ 6))) (fun k => ?_) (by simp only [commOk, kj]; exact Ev.now _)
      simp only [impl_areComms.l0]
      rw [if_neg (by rw [e]; simp)]
      congr 1
      exact decide_eq_decide.mpr (by omega)
    | cons a rest ih =>
      intro pre e
      have hlt : (pre.length : Int) < (l.length : Int) := by rw [e]; exact lt_mid _ _ _
      have h1 : rd l (pre.length : Int) = a := by rw [e]; exact rd_mid _ _ _
      have hr := ih (pre ++ [a]) (by rw [e]; simp)
      rw [prevOf_snoc] at hr
      have hw := wrap_mid (pre := pre) (a := a) (rest := rest) (by rw [← e]; simp only [maxLen]; omega)
      simp only [commOk]
      by_cases hm : 0 ≤ a ∧ a ≤ 1000000
      · rw [decide_eq_true hm, kj]
        by_cases hp : pre = []
        · have hq : prevOf pre < a := by unfold prevOf; rw [if_pos hp]; omega
          rw [decide_eq_true hq, kj]
          refine Ev.step (fun k => ?_) hr
          simp only [impl_areComms.l0, impl_isValue.f]
          rw [if_pos hlt, if_pos (len_nn _), if_pos hlt, h1, impl_within_is]
          simp only [kz]
          rw [if_pos (decide_eq_true hm), if_neg (by rw [hp]; simp), hw]
        · have hn : 0 < pre.length := kc.mpr hp
          have hv : wrap64 ((pre.length : Int) - 1) = (pre.length : Int) - 1 := wrap_id (by omega) (by omega)
          have hr2 : rd l ((pre.length : Int) - 1) = prevOf pre := by rw [e]; exact rd_prev hp _
          by_cases hq : prevOf pre < a
          · rw [decide_eq_true hq, kj]
            refine Ev.step (fun k => ?_) hr
            simp only [impl_areComms.l0, impl_isValue.f]
            rw [if_pos hlt, if_pos (len_nn _), if_pos hlt, h1, impl_within_is]
            simp only [kz]
            rw [if_pos (decide_eq_true hm), if_pos (by omega), hv, if_pos (by omega), if_pos (by omega), hr2, if_neg (by omega), hw]
          · rw [decide_eq_false hq, kk]
            refine Ev.step (f := fun _ => some false) (fun k => ?_) (Ev.now _)
            simp only [impl_areComms.l0, impl_isValue.f]
            rw [if_pos hlt, if_pos (len_nn _), if_pos hlt, h1, impl_within_is]
            simp only [kz]
            rw [if_pos (decide_eq_true hm), if_pos (by omega), hv, if_pos (by omega), if_pos (by omega), hr2, if_pos (by omega)]
      · rw [decide_eq_false hm, kk, kk]
        refine Ev.step (f := fun _ => some false) (fun k => ?_) (Ev.now _)
        simp only [impl_areComms.l0, impl_isValue.f]
        rw [if_pos hlt, if_pos (len_nn _), if_pos hlt, h1, impl_within_is]
        simp only [kz]
        rw [if_neg (by rw [decide_eq_false hm]; simp)]
  exact key l [] rfl
def attrsOk (a : Int) (l : List Int) (b c d : Int) (m : List Int) : Bool :=
  decide (0 ≤ a ∧ a ≤ 2) && ((decide (l.length ≤ 10) && pathOk l) && (decide (0 ≤ b ∧ b ≤ 4294967295) && (decide (0 ≤ c ∧ c ≤ 1000000) && (decide (0 ≤ d ∧ d ≤ 1000000) && (commOk (-1) m && decide (m.length ≤ 6))))))
theorem Ev_and {x y : Bool} {g : Nat → Option Bool} (h : Ev g y) : Ev (fun k => if x = true then g k else some false) (x && y) := by
  cases x with
  | true => exact Ev.congr (fun k => if_pos rfl) h
  | false => exact Ev.congr (fun k => if_neg (by simp)) (Ev.now _)
theorem impl_GoodAttrs_is (a : Int) (l : List Int) (b c d : Int) (m : List Int) (hl : l.length ≤ 1048576) (hm : m.length ≤ 1048576) : Ev (fun k => impl_GoodAttrs.f k a l b c d m) (attrsOk a l b c d m) := by
  obtain ⟨K1, h1⟩ := impl_isPath_is l (by simp only [maxLen]; omega)
  obtain ⟨K2, h2⟩ := impl_areComms_is m hm
  replace h1 : ∀ k, K1 ≤ k → impl_isPath.f k l = _ := h1
  replace h2 : ∀ k, K2 ≤ k → impl_areComms.f k m = _ := h2
  refine ⟨K1 + K2, fun k hk => ?_⟩
  simp only [impl_GoodAttrs.f, impl_isAddr.f, impl_isValue.f, impl_within_is, kz]
  rw [h1 k (by omega), h2 k (by omega)]
  simp only [kz]
  unfold attrsOk
  generalize decide (0 ≤ a ∧ a ≤ 2) = x1
  generalize (decide (l.length ≤ 10) && pathOk l) = x2
  generalize decide (0 ≤ b ∧ b ≤ 4294967295) = x3
  generalize decide (0 ≤ c ∧ c ≤ 1000000) = x4
  generalize decide (0 ≤ d ∧ d ≤ 1000000) = x5
  generalize (commOk (-1) m && decide (m.length ≤ 6)) = x6
  cases x1 <;> cases x2 <;> cases x3 <;> cases x4 <;> cases x5 <;> cases x6 <;> rfl
theorem spec_GoodAttrs_is (a : Int) (l : List Int) (b c d : Int) (m : List Int) (hl : l.length ≤ 1048576) (hm : m.length ≤ 1048576) : Ev (fun k => spec_GoodAttrs.f k a l b c d m) (attrsOk a l b c d m) := by
  have k1 : ∀ (rest pre : List Int), m = pre ++ rest →
      Ev (fun k => spec_GoodAttrs.l1 k m (m.length : Int) (pre.length : Int) a l b c d m) (commOk (prevOf pre) rest && (decide (0 ≤ a ∧ a ≤ 2) && (decide (l.length ≤ 10) && (decide (0 ≤ b ∧ b ≤ 4294967295) && (decide (0 ≤ c ∧ c ≤ 1000000) && (decide (0 ≤ d ∧ d ≤ 1000000) && decide (m.length ≤ 6))))))) := by
    intro rest
    induction rest with
    | nil =>
      intro pre e
      simp only [commOk, kj]
      refine Ev.step (f := fun _ => _) (fun k => ?_) (Ev_and (Ev_and (Ev_and (Ev_and (Ev_and (Ev.now _))))))
      simp only [spec_GoodAttrs.l1]
      rw [if_neg (by rw [e]; simp), spec_l1In_is, kz]
      by_cases h1 : 0 ≤ a ∧ a ≤ 2
      · rw [if_pos (decide_eq_true h1), if_pos (decide_eq_true h1)]
        by_cases h2 : (l.length : Int) ≤ 10
        · have h2' : l.length ≤ 10 := by omega
          rw [if_pos h2, if_pos (decide_eq_true h2')]
          simp only [spec_l1Addr_is, spec_l1In_is, kz]
          have : decide ((m.length : Int) ≤ 6) = decide (m.length ≤ 6) := decide_eq_decide.mpr (by omega)
          rw [this]
        · have h2' : ¬ l.length ≤ 10 := by omega
          rw [if_neg h2, if_neg (by simpa using h2')]
      · rw [if_neg (by rw [decide_eq_false h1]; simp), if_neg (by rw [decide_eq_false h1]; simp)]
    | cons x rest ih =>
      intro pre e
      have hlt : (pre.length : Int) < (m.length : Int) := by rw [e]; exact lt_mid _ _ _
      have h1 : rd m (pre.length : Int) = x := by rw [e]; exact rd_mid _ _ _
      have hr := ih (pre ++ [x]) (by rw [e]; simp)
      rw [prevOf_snoc] at hr
      have hw := wrap_mid (pre := pre) (a := x) (rest := rest) (by rw [← e]; simp only [maxLen]; omega)
      simp only [commOk]
      by_cases hm : 0 ≤ x ∧ x ≤ 1000000
      · rw [decide_eq_true hm, kj]
        by_cases hp : pre = []
        · have hq : prevOf pre < x := by unfold prevOf; rw [if_pos hp]; omega
          rw [decide_eq_true hq, kj]
          refine Ev.step (fun k => ?_) hr
          simp only [spec_GoodAttrs.l1]
          rw [if_pos hlt, if_pos (len_nn _), if_pos hlt, h1, spec_l1In_is]
          simp only [kz]
          rw [if_pos (decide_eq_true hm), if_neg (by rw [hp]; simp), hw]
        · have hn : 0 < pre.length := kc.mpr hp
          have hv : wrap64 ((pre.length : Int) - 1) = (pre.length : Int) - 1 := wrap_id (by omega) (by omega)
          have hr2 : rd m ((pre.length : Int) - 1) = prevOf pre := by rw [e]; exact rd_prev hp _
          by_cases hq : prevOf pre < x
          · rw [decide_eq_true hq, kj]
            refine Ev.step (fun k => ?_) hr
            simp only [spec_GoodAttrs.l1]
            rw [if_pos hlt, if_pos (len_nn _), if_pos hlt, h1, spec_l1In_is]
            simp only [kz]
            rw [if_pos (decide_eq_true hm), if_pos (by omega), hv, if_pos (by omega), if_pos (by omega), hr2, if_neg (by omega), hw]
          · rw [decide_eq_false hq, kk]
            refine Ev.step (f := fun _ => some false) (fun k => ?_) (Ev.now _)
            simp only [spec_GoodAttrs.l1]
            rw [if_pos hlt, if_pos (len_nn _), if_pos hlt, h1, spec_l1In_is]
            simp only [kz]
            rw [if_pos (decide_eq_true hm), if_pos (by omega), hv, if_pos (by omega), if_pos (by omega), hr2, if_pos (by omega)]
      · rw [decide_eq_false hm, kk, kk]
        refine Ev.step (f := fun _ => some false) (fun k => ?_) (Ev.now _)
        simp only [spec_GoodAttrs.l1]
        rw [if_pos hlt, if_pos (len_nn _), if_pos hlt, h1, spec_l1In_is]
        simp only [kz]
        rw [if_neg (by rw [decide_eq_false hm]; simp)]
  have k0 : ∀ (rest pre : List Int) (r : Bool), Ev (fun k => spec_GoodAttrs.l1 k m (m.length : Int) 0 a l b c d m) r → l = pre ++ rest →
      Ev (fun k => spec_GoodAttrs.l0 k l (l.length : Int) (pre.length : Int) a l b c d m) (pathOk rest && r) := by
    intro rest
    induction rest with
    | nil =>
      intro pre r hr e
      rw [show (pathOk [] && r) = r by simp [pathOk]]
      refine Ev.step (fun k => ?_) hr
      simp only [spec_GoodAttrs.l0]
      rw [if_neg (by rw [e]; simp)]
    | cons x rest ih =>
      intro pre r hr e
      have hlt : (pre.length : Int) < (l.length : Int) := by rw [e]; exact lt_mid _ _ _
      have h1 : rd l (pre.length : Int) = x := by rw [e]; exact rd_mid _ _ _
      have hw := wrap_mid (pre := pre) (a := x) (rest := rest) (by rw [← e]; simp only [maxLen]; omega)
      have hi := ih (pre ++ [x]) r hr (by rw [e]; simp)
      by_cases hx : 1 ≤ x ∧ x ≤ 65535
      · rw [show pathOk (x :: rest) = pathOk rest by unfold pathOk; rw [List.all_cons, decide_eq_true hx, kj]]
        refine Ev.step (fun k => ?_) hi
        simp only [spec_GoodAttrs.l0]
        rw [if_pos hlt, if_pos (len_nn _), if_pos hlt, h1, spec_l1In_is]
        simp only [kz]
        rw [if_pos (decide_eq_true hx), hw]
      · rw [show pathOk (x :: rest) = false by unfold pathOk; rw [List.all_cons, decide_eq_false hx, kk], kk]
        refine Ev.step (f := fun _ => some false) (fun k => ?_) (Ev.now _)
        simp only [spec_GoodAttrs.l0]
        rw [if_pos hlt, if_pos (len_nn _), if_pos hlt, h1, spec_l1In_is]
        simp only [kz]
        rw [if_neg (by rw [decide_eq_false hx]; simp)]
  have := k0 l [] _ (k1 m [] rfl) rfl
  have e : attrsOk a l b c d m = (pathOk l && (commOk (prevOf []) m && (decide (0 ≤ a ∧ a ≤ 2) && (decide (l.length ≤ 10) && (decide (0 ≤ b ∧ b ≤ 4294967295) && (decide (0 ≤ c ∧ c ≤ 1000000) && (decide (0 ≤ d ∧ d ≤ 1000000) && decide (m.length ≤ 6)))))))) := by
    rw [show prevOf [] = -1 from rfl]
    unfold attrsOk
    generalize decide (0 ≤ a ∧ a ≤ 2) = x1
    generalize decide (l.length ≤ 10) = x2
    generalize decide (0 ≤ b ∧ b ≤ 4294967295) = x3
    generalize decide (0 ≤ c ∧ c ≤ 1000000) = x4
    generalize decide (0 ≤ d ∧ d ≤ 1000000) = x5
    generalize decide (m.length ≤ 6) = x6
    generalize pathOk l = x7
    generalize commOk (-1) m = x8
    cases x1 <;> cases x2 <;> cases x3 <;> cases x4 <;> cases x5 <;> cases x6 <;> cases x7 <;> cases x8 <;> rfl
  rw [e]; exact this
def readN (s : ByteArray) : Nat → Int → Int → Int
  | 0, _, x => x
  | n + 1, i, x => readN s n (i + 1) (Go.bits .or .i64 (wrap64 (x * 256)) (wrap64 (bt s i)))
theorem spec_number_l0 (s : ByteArray) (hs : s.size ≤ 1000000000) : ∀ (n k : Nat) (i x e : Int), n < k → 0 ≤ i → i + n ≤ s.size → spec_l4R_number.l0 k n x s i e = some (readN s n i x, s, i + n, e)
  | 0, k + 1, i, x, e, _, _, _ => by
    simp only [spec_l4R_number.l0]
    rw [if_neg (by omega)]
    simp [readN]
  | n + 1, k + 1, i, x, e, hk, h0, h1 => by
    simp only [spec_l4R_number.l0]
    rw [if_pos (by omega), if_pos h0, if_pos (by omega), wrap_id (x := ((n + 1 : Nat) : Int) - 1) (by omega) (by omega), wrap_id (x := i + 1) (by omega) (by omega)]
    rw [show ((n + 1 : Nat) : Int) - 1 = (n : Int) by omega, spec_number_l0 s hs n k (i + 1) _ e (by omega) (by omega) (by omega)]
    rw [show i + 1 + (n : Int) = i + ((n + 1 : Nat) : Int) by omega]
    rfl
theorem impl_number_l0 (s : ByteArray) (hs : s.size ≤ 1000000000) : ∀ (n k : Nat) (i x e j : Int), n < k → 0 ≤ i → i + n ≤ s.size → 0 ≤ j → j + n ≤ 1000000000 → impl_input_number.l0 k x (j + n) j s i e = some (readN s n i x, s, i + n, e)
  | 0, k + 1, i, x, e, j, _, _, _, _, _ => by
    simp only [impl_input_number.l0]
    rw [if_neg (by omega)]
    simp [readN]
  | n + 1, k + 1, i, x, e, j, hk, h0, h1, h2, h3 => by
    simp only [impl_input_number.l0]
    rw [if_pos (by omega), if_pos h0, if_pos (by omega), wrap_id (x := j + 1) (by omega) (by omega), wrap_id (x := i + 1) (by omega) (by omega)]
    rw [show j + ((n + 1 : Nat) : Int) = (j + 1) + (n : Int) by omega, impl_number_l0 s hs n k (i + 1) _ e (j + 1) (by omega) (by omega) (by omega) (by omega) (by omega)]
    rw [show i + 1 + (n : Int) = i + ((n + 1 : Nat) : Int) by omega]
    rfl
theorem spec_number_is (s : ByteArray) (hs : s.size ≤ 1000000000) (n k : Nat) (i : Int) (hk : n + 2 ≤ k) (hn : n ≤ 1000000) (h0 : 0 ≤ i) (h1 : i ≤ s.size) : spec_l4R_number.f k s i 0 n = some (if i + n ≤ s.size then (readN s n i 0, s, i + n, 0) else (0, s, i, 1)) := by
  obtain ⟨k, rfl⟩ : ∃ m, k = m + 1 := ⟨k - 1, by omega⟩
  unfold spec_l4R_number.f
  rw [if_pos rfl]
  simp only [spec_l4R_number.j0]
  rw [wrap_id (x := (s.size : Int) - i) (by omega) (by omega)]
  by_cases h : i + n ≤ s.size
  · rw [if_neg (by simp; omega), if_pos h, spec_number_l0 s hs n k i 0 0 (by omega) h0 h]
  · rw [if_pos (by simp; omega), if_neg h, if_pos trivial]
theorem impl_number_is (s : ByteArray) (hs : s.size ≤ 1000000000) (n k : Nat) (i : Int) (hk : n + 3 ≤ k) (hn : n ≤ 1000000) (h0 : 0 ≤ i) (h1 : i ≤ s.size) : impl_input_number.f k s i 0 n = some (if i + n ≤ s.size then (readN s n i 0, s, i + n, 0) else (0, s, i, 1)) := by
  obtain ⟨k, rfl⟩ : ∃ m, k = m + 2 := ⟨k - 2, by omega⟩
  unfold impl_input_number.f
  rw [if_pos rfl]
  simp only [impl_input_number.j0, impl_input_number.j1]
  rw [wrap_id (x := i + (n : Int)) (by omega) (by omega)]
  by_cases h : i + n ≤ s.size
  · have := impl_number_l0 s hs n k i 0 0 0 (by omega) h0 h (by omega) (by omega)
    rw [show (0 : Int) + (n : Int) = n by omega] at this
    rw [if_neg (by simp; omega), if_pos trivial, if_pos h, this]
  · rw [if_pos (by simp; omega), if_neg h, if_neg (by omega)]
theorem or_zero (n : Nat) (h : n < 256) : Go.bits .or .i64 0 (n : Int) = (n : Int) := by
  have e1 : (BitVec.ofInt 64 0 ||| BitVec.ofInt 64 (n : Int)).toNat = n := by
    rw [BitVec.toNat_or, BitVec.ofInt_natCast, BitVec.toNat_ofNat]
    have e0 : (BitVec.ofInt 64 0).toNat = 0 := rfl
    rw [e0, Nat.zero_or]
    exact Nat.mod_eq_of_lt (by omega)
  show IntKind.i64.wrap ((BitVec.ofInt 64 0 ||| BitVec.ofInt 64 (n : Int)).toNat : Int) = _
  rw [e1]
  have e : (n : Int) % 2 ^ 64 = n := Int.emod_eq_of_lt (by omega) (by omega)
  simp only [IntKind.wrap, IntKind.bits, ko, e]
  rw [if_neg]
  simp
  omega
theorem readN_one (s : ByteArray) (i : Int) : readN s 1 i 0 = bt s i := by
  have hb := bt_range s i
  simp only [readN]
  rw [show (0 : Int) * 256 = 0 by omega, show wrap64 0 = 0 from wrap_id (by omega) (by omega), wrap_id (x := bt s i) (by omega) (by omega)]
  obtain ⟨n, hn⟩ := Int.eq_ofNat_of_zero_le hb.1
  rw [hn]
  exact or_zero n (by omega)
def octets (L : Int) : Nat := ((L + 7) / 8).toNat
def takeP (s : ByteArray) (i : Int) : Option (Int × Int × Int) :=
  if i + 1 ≤ s.size then
    if bt s i > 32 then none else
    if i + 1 + octets (bt s i) ≤ s.size then some (shl .i64 (readN s (octets (bt s i)) (i + 1) 0) (32 - 8 * (octets (bt s i) : Int)), bt s i, i + 1 + octets (bt s i)) else none
  else none
theorem octets_is {L : Int} (h0 : 0 ≤ L) (h1 : L ≤ 255) : wrap64 (Int.tdiv (wrap64 (L + 7)) 8) = (octets L : Int) ∧ ((octets L : Nat) : Int) = (L + 7) / 8 := by
  unfold octets
  have e : Int.tdiv (L + 7) 8 = (L + 7) / 8 := Int.tdiv_eq_ediv_of_nonneg (by omega)
  rw [wrap_id (x := L + 7) (by omega) (by omega), e, wrap_id (by omega) (by omega)]
  omega
theorem spec_prefix_is (s : ByteArray) (hs : s.size ≤ 1000000000) (k : Nat) (hk : 100 ≤ k) (i : Int) (h0 : 0 ≤ i) (h1 : i ≤ s.size) : ∃ q, spec_l4R_prefix.f k s i 0 = some q ∧ (∀ t, takeP s i = some t → q = (t.1, t.2.1, s, t.2.2, 0)) ∧ (takeP s i = none → q.2.2.2.2 ≠ 0) := by
  obtain ⟨k, rfl⟩ : ∃ m, k = m + 1 := ⟨k - 1, by omega⟩
  have hn := spec_number_is s hs 1 (k + 1) i (by omega) (by omega) h0 h1
  unfold spec_l4R_prefix.f takeP
  rw [show ((1 : Nat) : Int) = 1 from rfl] at hn
  rw [hn, kz, readN_one]
  have hb := bt_range s i
  have ho := octets_is hb.1 hb.2
  by_cases h2 : i + 1 ≤ (s.size : Int)
  · rw [if_pos h2, if_pos h2]
    simp only [if_true, spec_l4R_prefix.j0]
    by_cases h3 : bt s i > 32
    · rw [if_pos (decide_eq_true h3), if_pos h3]
      have hz : ∀ n, spec_l4R_number.f k s (i + 1) 3 n = some (0, s, i + 1, 3) := by
        intro n
        obtain ⟨k, rfl⟩ : ∃ m, k = m + 1 := ⟨k - 1, by omega⟩
        unfold spec_l4R_number.f
        rw [if_neg (by omega)]
        simp only [spec_l4R_number.j0]
        simp
      rw [hz]
      simp only [kz]
      rw [if_neg (by omega)]
      exact ⟨_, rfl, fun t h => by simp at h, fun _ => by simp⟩
    · rw [if_neg (by simpa using h3), if_neg h3, ho.1, spec_number_is s hs (octets (bt s i)) k (i + 1) (by omega) (by omega) (by omega) h2]
      simp only [kz]
      by_cases h4 : i + 1 + (octets (bt s i) : Int) ≤ s.size
      · rw [if_pos h4, if_pos h4]
        simp only [if_true]
        rw [wrap_id (x := 8 * (octets (bt s i) : Int)) (by omega) (by omega), wrap_id (x := 32 - 8 * (octets (bt s i) : Int)) (by omega) (by omega), u64_id (by omega) (by omega), if_pos (by omega)]
        exact ⟨_, rfl, fun t h => by cases h; rfl, fun h => by simp at h⟩
      · rw [if_neg h4, if_neg h4]
        simp only []
        rw [if_neg (by omega)]
        exact ⟨_, rfl, fun t h => by simp at h, fun _ => by simp⟩
  · rw [if_neg h2, if_neg h2]
    simp only []
    rw [if_neg (by omega)]
    simp only [spec_l4R_prefix.j0]
    rw [if_neg (by simp)]
    have hz : spec_l4R_number.f k s i 1 (wrap64 (Int.tdiv (wrap64 (0 + 7)) 8)) = some (0, s, i, 1) := by
      obtain ⟨k, rfl⟩ : ∃ m, k = m + 1 := ⟨k - 1, by omega⟩
      unfold spec_l4R_number.f
      rw [if_neg (by omega)]
      simp only [spec_l4R_number.j0]
      simp
    rw [hz]
    simp only [kz]
    rw [if_neg (by omega)]
    exact ⟨_, rfl, fun t h => by simp at h, fun _ => by simp⟩
theorem impl_prefix_is (s : ByteArray) (hs : s.size ≤ 1000000000) (k : Nat) (hk : 100 ≤ k) (i : Int) (h0 : 0 ≤ i) (h1 : i ≤ s.size) : ∃ q, impl_input_prefix.f k s i 0 = some q ∧ (∀ t, takeP s i = some t → q = (t.1, t.2.1, s, t.2.2, 0)) ∧ (takeP s i = none → q.2.2.2.2 ≠ 0) := by
  obtain ⟨k, rfl⟩ : ∃ m, k = m + 1 := ⟨k - 1, by omega⟩
  have hn := impl_number_is s hs 1 (k + 1) i (by omega) (by omega) h0 h1
  unfold impl_input_prefix.f takeP
  rw [show ((1 : Nat) : Int) = 1 from rfl] at hn
  rw [hn, kz, readN_one]
  have hb := bt_range s i
  have ho := octets_is hb.1 hb.2
  by_cases h2 : i + 1 ≤ (s.size : Int)
  · rw [if_pos h2, if_pos h2]
    simp only [if_true, impl_input_prefix.j0]
    by_cases h3 : bt s i > 32
    · rw [if_pos (decide_eq_true h3), if_pos h3]
      exact ⟨_, rfl, fun t h => by simp at h, fun _ => by simp⟩
    · rw [if_neg (by simpa using h3), if_neg h3, ho.1, impl_number_is s hs (octets (bt s i)) k (i + 1) (by omega) (by omega) (by omega) h2]
      rw [kz]
      have w1 : wrap64 (8 * (octets (bt s i) : Int)) = 8 * (octets (bt s i) : Int) := wrap_id (by omega) (by omega)
      have w2 : wrap64 (32 - 8 * (octets (bt s i) : Int)) = 32 - 8 * (octets (bt s i) : Int) := wrap_id (by omega) (by omega)
      have w3 : 0 ≤ 32 - 8 * (octets (bt s i) : Int) := by omega
      by_cases h4 : i + 1 + (octets (bt s i) : Int) ≤ s.size
      · rw [if_pos h4, if_pos h4]
        rw [w1, w2, if_pos w3]
        dsimp only
        exact ⟨_, rfl, fun t h => by cases h; rfl, fun h => by simp at h⟩
      · rw [if_neg h4, if_neg h4]
        rw [w1, w2, if_pos w3]
        dsimp only
        exact ⟨_, rfl, fun t h => by simp at h, fun _ => by simp⟩
  · rw [if_neg h2, if_neg h2]
    simp only []
    rw [if_neg (by omega)]
    simp only [impl_input_prefix.j0]
    rw [if_neg (by simp), if_neg (by omega)]
    exact ⟨_, rfl, fun t h => by simp at h, fun _ => by simp⟩
theorem TakePrefix_is (s : ByteArray) (i : Int) : ∃ r, Ev (fun k => spec_TakePrefix.f k s i) r ∧ Ev (fun k => impl_TakePrefix.f k s i) r := by
  have fs : ∀ k, spec_TakePrefix.j0 (k + 1) s i true = some (0, 0, 0, false) := fun k => by simp only [spec_TakePrefix.j0]; rw [if_pos trivial]
  have fi : ∀ k, impl_TakePrefix.j0 (k + 1) s i true = some (0, 0, 0, false) := fun k => by simp only [impl_TakePrefix.j0]; rw [if_pos trivial]
  have gs : ∀ g : Nat → Option (Int × Int × Int × Bool), (∀ k, g k = spec_TakePrefix.j0 k s i true) → Ev g (0, 0, 0, false) := fun g hg => Ev.step (f := fun _ => some (0, 0, 0, false)) (fun k => by rw [hg, fs]) (Ev.now _)
  have gi : ∀ g : Nat → Option (Int × Int × Int × Bool), (∀ k, g k = impl_TakePrefix.j0 k s i true) → Ev g (0, 0, 0, false) := fun g hg => Ev.step (f := fun _ => some (0, 0, 0, false)) (fun k => by rw [hg, fi]) (Ev.now _)
  by_cases h1 : (s.size : Int) > 1000
  · exact ⟨_, gs _ (fun k => by unfold spec_TakePrefix.f; rw [if_pos h1]), gi _ (fun k => by unfold impl_TakePrefix.f; rw [if_pos h1])⟩
  · by_cases h2 : 0 ≤ i ∧ i ≤ s.size
    · have hs : Ev (fun k => spec_TakePrefix.j0 k s i false) (match takeP s i with | some t => if good t.1 t.2.1 = true then (t.1, t.2.1, t.2.2, true) else (0, 0, 0, false) | none => (0, 0, 0, false)) := by
        refine ⟨101, fun k hk => ?_⟩
        obtain ⟨k, rfl⟩ : ∃ m, k = m + 1 := ⟨k - 1, by omega⟩
        obtain ⟨q, hq, ha, hb⟩ := spec_prefix_is s (by omega) k (by omega) i h2.1 h2.2
        simp only [spec_TakePrefix.j0]
        rw [if_neg (by simp), hq, kz]
        cases ht : takeP s i with
        | none => rw [if_neg (hb ht)]
        | some t =>
          rw [ha t ht]
          simp only [if_true, spec_GoodPrefix_is, kz]
          by_cases hg : good t.1 t.2.1 = true
          · rw [if_pos hg, if_pos hg]
          · rw [if_neg hg, if_neg hg]
      have hi : Ev (fun k => impl_TakePrefix.j0 k s i false) (match takeP s i with | some t => if good t.1 t.2.1 = true then (t.1, t.2.1, t.2.2, true) else (0, 0, 0, false) | none => (0, 0, 0, false)) := by
        refine ⟨101, fun k hk => ?_⟩
        obtain ⟨k, rfl⟩ : ∃ m, k = m + 1 := ⟨k - 1, by omega⟩
        obtain ⟨q, hq, ha, hb⟩ := impl_prefix_is s (by omega) k (by omega) i h2.1 h2.2
        simp only [impl_TakePrefix.j0]
        rw [if_neg (by simp), hq, kz]
        cases ht : takeP s i with
        | none => rw [if_neg (hb ht)]
        | some t =>
          rw [ha t ht]
          simp only [if_true, impl_GoodPrefix_is, kz]
          by_cases hg : good t.1 t.2.1 = true
          · rw [if_pos hg, if_pos hg]
          · rw [if_neg hg, if_neg hg]
      by_cases h3 : i ≥ (s.size : Int)
      · have ht : takeP s i = none := by unfold takeP; rw [if_neg (by omega)]
        rw [ht] at hi
        refine ⟨_, gs _ (fun k => ?_), Ev.congr (fun k => ?_) hi⟩
        · unfold spec_TakePrefix.f
          rw [if_neg h1, if_neg (by omega), decide_eq_true h3]
        · unfold impl_TakePrefix.f
          rw [if_neg h1, impl_within_is, kz, decide_eq_true h2]
          rfl
      · refine ⟨_, Ev.congr (fun k => ?_) hs, Ev.congr (fun k => ?_) hi⟩
        · unfold spec_TakePrefix.f
          rw [if_neg h1, if_neg (by omega), decide_eq_false h3]
        · unfold impl_TakePrefix.f
          rw [if_neg h1, impl_within_is, kz, decide_eq_true h2]
          rfl
    · refine ⟨_, gs _ (fun k => ?_), gi _ (fun k => ?_)⟩
      · unfold spec_TakePrefix.f
        rw [if_neg h1]
        by_cases h3 : i < 0
        · rw [if_pos h3]
        · rw [if_neg h3, decide_eq_true (by omega)]
      · unfold impl_TakePrefix.f
        rw [if_neg h1, impl_within_is, kz, decide_eq_false h2]
        rfl
def be : Nat → Int → List Int
  | 0, _ => []
  | n + 1, x => be n (x / 256) ++ [x % 256]
theorem be_len (n : Nat) (x : Int) : (be n x).length = n := by
  induction n generalizing x with
  | zero => rfl
  | succ n ih => simp [be, ih]
theorem spec_l4Bytes_l0 : ∀ (n k : Nat) (x : Int) (tl : List Int), n < k → n + tl.length ≤ 1000000 → spec_l4Bytes.l0 k x (ky n 0 ++ tl) ((n : Int) - 1) = some (strOfNums (be n x ++ tl))
  | 0, k + 1, x, tl, _, _ => by
    simp only [spec_l4Bytes.l0]
    rw [if_neg (by omega)]
    simp [be]
  | n + 1, k + 1, x, tl, hk, hl => by
    simp only [spec_l4Bytes.l0]
    rw [show ((n + 1 : Nat) : Int) - 1 = (n : Int) by omega, if_pos (by omega), if_pos (by omega), if_pos (by simp; omega), wrap_id (by omega) (by omega)]
    have e : (ky (n + 1) (0 : Int) ++ tl).set ((n : Int)).toNat (x % 256) = ky n 0 ++ ([x % 256] ++ tl) := by
      rw [List.replicate_succ', kg]
      simp
    rw [e, spec_l4Bytes_l0 n k (x / 256) ([x % 256] ++ tl) (by omega) (by simp; omega)]
    simp [be]
theorem spec_l4Bytes_is (k n : Nat) (x : Int) (hk : n < k) (hn : n ≤ 100000) : spec_l4Bytes.f k x (n : Int) = some (strOfNums (be n x)) := by
  unfold spec_l4Bytes.f
  rw [if_pos (by omega), if_pos (by omega), wrap_id (by omega) (by omega)]
  have := spec_l4Bytes_l0 n k x [] hk (by simp; omega)
  simpa using this
def hb (x : Int) : Nat → List Int
  | 0 => []
  | n + 1 => (shr .i64 x (8 * (n : Int))) % 256 :: hb x n
theorem impl_bytesOf_l0 : ∀ (n k : Nat) (x : Int) (acc : List Int), n < k → n + acc.length ≤ 1000000 → impl_bytesOf.l0 k x acc ((n : Int) - 1) = some (strOfNums (acc ++ hb x n))
  | 0, k + 1, x, acc, _, _ => by
    simp only [impl_bytesOf.l0]
    rw [if_neg (by omega)]
    simp [hb]
  | n + 1, k + 1, x, acc, hk, hl => by
    simp only [impl_bytesOf.l0]
    rw [show ((n + 1 : Nat) : Int) - 1 = (n : Int) by omega, if_pos (by omega), wrap_id (x := 8 * (n : Int)) (by omega) (by omega), if_pos (by omega), if_pos (by omega), wrap_id (by omega) (by omega)]
    rw [impl_bytesOf_l0 n k x _ (by omega) (by simp; omega)]
    simp [hb]
theorem impl_bytesOf_is (k n : Nat) (x : Int) (hk : n < k) (hn : n ≤ 100000) : impl_bytesOf.f k x (n : Int) = some (strOfNums (hb x n)) := by
  unfold impl_bytesOf.f
  rw [wrap_id (by omega) (by omega)]
  have := impl_bytesOf_l0 n k x [] hk (by simp; omega)
  simpa using this
theorem strOfNums_take (xs : List Int) (m : Nat) : (strOfNums xs).extract 0 m = strOfNums (xs.take m) := by
  apply ByteArray.ext
  simp [strOfNums, ByteArray.data_extract, List.map_take]
theorem size_strOf (xs : List Int) : (strOfNums xs).size = xs.length := by simp [strOfNums, kv]
theorem shr_is (x : Int) (n : Nat) (h : n ≤ 64) : shr .i64 x (n : Int) = x / 2 ^ n := by
  unfold shr
  rw [show min (n : Int).toNat IntKind.i64.bits = n by show min (n : Int).toNat 64 = n; omega]
theorem octs_is {n : Int} (h0 : 0 ≤ n) (h1 : n ≤ 32) : ∃ m : Nat, wrap64 (Int.tdiv (wrap64 (n + 7)) 8) = (m : Int) ∧ m ≤ 4 := by
  have e : Int.tdiv (n + 7) 8 = (n + 7) / 8 := Int.tdiv_eq_ediv_of_nonneg (by omega)
  rw [wrap_id (x := n + 7) (by omega) (by omega), e, wrap_id (by omega) (by omega)]
  exact ⟨((n + 7) / 8).toNat, by omega, by omega⟩
theorem be_take (a : Int) (m : Nat) (hm : m ≤ 4) : be m (shr .i64 a (32 - 8 * (m : Int))) = (hb a 4).take m := by
  have e0 := shr_is a 0 (by omega)
  have e8 := shr_is a 8 (by omega)
  have e16 := shr_is a 16 (by omega)
  have e24 := shr_is a 24 (by omega)
  rw [show ((0 : Nat) : Int) = 0 from rfl] at e0
  rw [show ((8 : Nat) : Int) = 8 from rfl] at e8
  rw [show ((16 : Nat) : Int) = 16 from rfl] at e16
  rw [show ((24 : Nat) : Int) = 24 from rfl] at e24
  have hl : hb a 4 = [shr .i64 a 24 % 256, shr .i64 a 16 % 256, shr .i64 a 8 % 256, shr .i64 a 0 % 256] := rfl
  rw [hl, e0, e8, e16, e24]
  have hc : m = 0 ∨ m = 1 ∨ m = 2 ∨ m = 3 ∨ m = 4 := by omega
  rcases hc with rfl | rfl | rfl | rfl | rfl
  · rfl
  · rw [show (32 : Int) - 8 * ((1 : Nat) : Int) = 24 by omega, e24]; rfl
  · rw [show (32 : Int) - 8 * ((2 : Nat) : Int) = 16 by omega, e16]
    simp only [be, kb, List.take, List.cons_append, List.cons.injEq, and_true]
    omega
  · rw [show (32 : Int) - 8 * ((3 : Nat) : Int) = 8 by omega, e8]
    simp only [be, kb, List.take, List.cons_append, List.cons.injEq, and_true]
    omega
  · rw [show (32 : Int) - 8 * ((4 : Nat) : Int) = 0 by omega, e0]
    simp only [be, kb, List.take, List.cons_append, List.cons.injEq, and_true]
    omega
theorem prefB_same (k : Nat) (hk : 10 ≤ k) (a n : Int) (h0 : 0 ≤ n) (h1 : n ≤ 32) : ∃ r, spec_l4Prefix.f k a n = some r ∧ impl_prefixBytes.f k a n = some r := by
  obtain ⟨m, hm, hm4⟩ := octs_is h0 h1
  unfold spec_l4Prefix.f impl_prefixBytes.f
  have s1 := spec_l4Bytes_is k 1 n (by omega) (by omega)
  have i1 := impl_bytesOf_is k 1 n (by omega) (by omega)
  have i4 := impl_bytesOf_is k 4 a (by omega) (by omega)
  rw [show ((1 : Nat) : Int) = 1 from rfl] at s1 i1
  rw [show ((4 : Nat) : Int) = 4 from rfl] at i4
  have e1 : hb n 1 = be 1 n := by
    have e0 := shr_is n 0 (by omega)
    rw [show ((0 : Nat) : Int) = 0 from rfl] at e0
    show [shr .i64 n 0 % 256] = [n % 256]
    rw [e0]; simp
  rw [s1, i1, i4, hm, wrap_id (x := 8 * (m : Int)) (by omega) (by omega), wrap_id (x := 32 - 8 * (m : Int)) (by omega) (by omega), u64_id (by omega) (by omega)]
  simp only [kz]
  rw [if_pos (by omega), spec_l4Bytes_is k m _ (by omega) (by omega), be_take a m hm4, e1, kz]
  have hsz : (strOfNums (hb a 4)).size = 4 := by rw [size_strOf]; rfl
  rw [if_pos (by simp only [size_strOf, be_len, kh]; omega), if_pos (by omega), if_pos (by rw [hsz]; omega), show ((m : Int)).toNat = m by omega, strOfNums_take, if_pos (by simp only [size_strOf, be_len, kh]; omega)]
  exact ⟨_, rfl, rfl⟩
theorem good_len {a n : Int} (h : good a n = true) : 0 ≤ n ∧ n ≤ 32 := by
  unfold good at h
  simp only [ke, decide_eq_true_eq] at h
  omega
theorem PrefixBytes_same (k : Nat) (hk : 10 ≤ k) (a n : Int) : ∃ r, spec_PrefixBytes.f k a n = some r ∧ impl_PrefixBytes.f k a n = some r := by
  unfold spec_PrefixBytes.f impl_PrefixBytes.f
  rw [spec_GoodPrefix_is, impl_GoodPrefix_is]
  simp only [kz]
  by_cases h : good a n = true
  · obtain ⟨r, h1, h2⟩ := prefB_same k hk a n (good_len h).1 (good_len h).2
    rw [if_pos h, if_pos h, h1, h2]
    exact ⟨_, rfl, rfl⟩
  · rw [if_neg h, if_neg h]; exact ⟨_, rfl, rfl⟩
theorem slices_Repeat_one (a n : Int) (h0 : 0 ≤ n) (h1 : n ≤ 17592186044416) : slices_Repeat_int_int.f [a] n = some (ky n.toNat a) := by
  unfold slices_Repeat_int_int.f
  dsimp only
  rw [if_pos h0, if_pos h1]
def prepR (a : Int) (l : List Int) (b c d : Int) (m : List Int) (n many : Int) : Int × List Int × Int × Int × Int × List Int × Bool :=
  if attrsOk a l b c d m = true ∧ (1 ≤ n ∧ n ≤ 65535) ∧ (1 ≤ many ∧ many ≤ 10 - (l.length : Int)) then (a, ky many.toNat n ++ l, b, c, d, m, true) else (0, [], 0, 0, 0, [], false)
theorem impl_isAsn_is (n : Int) : impl_isAsn.f n = some (decide (1 ≤ n ∧ n ≤ 65535)) := by unfold impl_isAsn.f; rw [impl_within_is]; rfl
theorem attrsOk_len {a : Int} {l : List Int} {b c d : Int} {m : List Int} (h : attrsOk a l b c d m = true) : l.length ≤ 10 ∧ m.length ≤ 6 := by
  unfold attrsOk at h
  simp only [ke, decide_eq_true_eq] at h
  exact ⟨h.2.1.1, h.2.2.2.2.2.2⟩
theorem impl_PrependPath_is (a : Int) (l : List Int) (b c d : Int) (m : List Int) (n many : Int) (hl : l.length ≤ 1048576) (hm : m.length ≤ 1048576) : Ev (fun k => impl_PrependPath.f k a l b c d m n many) (prepR a l b c d m n many) := by
  obtain ⟨K, hK⟩ := impl_GoodAttrs_is a l b c d m hl hm
  replace hK : ∀ k, K ≤ k → impl_GoodAttrs.f k a l b c d m = _ := hK
  refine ⟨K + 1, fun k hk => ?_⟩
  obtain ⟨k, rfl⟩ : ∃ j, k = j + 1 := ⟨k - 1, by omega⟩
  show impl_PrependPath.f (k + 1) a l b c d m n many = _
  unfold impl_PrependPath.f prepR
  rw [hK _ (by omega), kz]
  have bad : impl_PrependPath.j0 (k + 1) n many true a l b c d m = some (0, [], 0, 0, 0, [], false) := by rw [impl_PrependPath.j0, if_pos rfl]
  by_cases h1 : attrsOk a l b c d m = true
  · have hlen := attrsOk_len h1
    rw [if_pos h1, impl_isAsn_is, kz]
    by_cases h2 : 1 ≤ n ∧ n ≤ 65535
    · rw [if_pos (decide_eq_true h2), impl_within_is, kz, wrap_id (by omega) (by omega)]
      by_cases h3 : 1 ≤ many ∧ many ≤ 10 - (l.length : Int)
      · rw [if_pos ⟨h1, h2, h3⟩, decide_eq_true h3, impl_PrependPath.j0, if_neg (by decide)]
        unfold impl_ownAttrs.f slices_Clone_int_int.f
        rw [if_pos (by omega), kz, if_pos (by omega), kz, kz]
        rw [slices_Repeat_one _ _ (by omega) (by omega), kz, if_pos (by simp; omega)]
      · rw [if_neg (fun h => h3 h.2.2), decide_eq_false h3]
        exact bad
    · rw [if_neg (by simpa using h2), if_neg (fun h => h2 h.2.1)]
      exact bad
  · rw [if_neg h1, if_neg (fun h => h1 h.1)]
    exact bad
theorem spec_Prepend_l0 (n a b c d : Int) (l m : List Int) : ∀ (j : Nat) (x : List Int) (k : Nat), j < k → x.length + j ≤ 1000 → ∃ k', k ≤ k' + j + 1 ∧ k' < k ∧ spec_PrependPath.l0 k n (j : Int) x a l b c d m = (spec_l4Own.f a l b c d m).bind fun bt157 => (if (x ++ ky j n).length + l.length < 17592186044416 then ((some ((x ++ ky j n) ++ l : List Int)).bind fun y168 => ((spec_GoodAttrs.f k' bt157.1 y168 bt157.2.2.1 bt157.2.2.2.1 bt157.2.2.2.2.1 bt157.2.2.2.2.2).bind fun t171 => (if t171 = true then (some (bt157.1, y168, bt157.2.2.1, bt157.2.2.2.1, bt157.2.2.2.2.1, bt157.2.2.2.2.2, true)) else (some (0, ([] : List Int), 0, 0, 0, ([] : List Int), false))))) else (none))
  | 0, x, k, hk, hx => by
    obtain ⟨k, rfl⟩ : ∃ j, k = j + 1 := ⟨k - 1, by omega⟩
    refine ⟨k, by omega, by omega, ?_⟩
    rw [spec_PrependPath.l0, if_neg (by omega)]
    simp only [List.replicate_zero, List.append_nil]
  | j + 1, x, k, hk, hx => by
    obtain ⟨k, rfl⟩ : ∃ j, k = j + 1 := ⟨k - 1, by omega⟩
    obtain ⟨k', h1, h2, h3⟩ := spec_Prepend_l0 n a b c d l m j (x ++ [n]) k (by omega) (by simp; omega)
    refine ⟨k', by omega, by omega, ?_⟩
    rw [spec_PrependPath.l0, if_pos (by omega), if_pos (by omega), wrap_id (by omega) (by omega), show ((j + 1 : Nat) : Int) - 1 = (j : Int) by omega, h3]
    simp only [kg, List.singleton_append, kd]
theorem pathOk_append (l m : List Int) : pathOk (l ++ m) = (pathOk l && pathOk m) := by unfold pathOk; rw [List.all_append]
theorem pathOk_rep {n : Int} (h : 1 ≤ n ∧ n ≤ 65535) (j : Nat) : pathOk (ky j n) = true := by unfold pathOk; simp [List.all_replicate, h]
theorem spec_PrependPath_is (a : Int) (l : List Int) (b c d : Int) (m : List Int) (n many : Int) (hl : l.length ≤ 1048576) (hm : m.length ≤ 1048576) : Ev (fun k => spec_PrependPath.f k a l b c d m n many) (prepR a l b c d m n many) := by
  obtain ⟨K, hK⟩ := spec_GoodAttrs_is a l b c d m hl hm
  replace hK : ∀ k, K ≤ k → spec_GoodAttrs.f k a l b c d m = _ := hK
  by_cases h1 : attrsOk a l b c d m = true
  · have hlen := attrsOk_len h1
    by_cases h2 : 1 ≤ n ∧ n ≤ 65535
    · by_cases h3 : 1 ≤ many ∧ many ≤ 10
      · obtain ⟨j, rfl⟩ := Int.eq_ofNat_of_zero_le (show 0 ≤ many by omega)
        obtain ⟨K2, hK2⟩ := spec_GoodAttrs_is a (ky j n ++ l) b c d m (by simp; omega) hm
        replace hK2 : ∀ k, K2 ≤ k → spec_GoodAttrs.f k a (ky j n ++ l) b c d m = _ := hK2
        refine ⟨K + K2 + j + 5, fun k hk => ?_⟩
        obtain ⟨k, rfl⟩ : ∃ j, k = j + 1 := ⟨k - 1, by omega⟩
        show spec_PrependPath.f (k + 1) a l b c d m n j = _
        unfold spec_PrependPath.f
        rw [hK _ (by omega), kz, if_pos h1, spec_l1In_is, kz, if_pos (decide_eq_true h2), spec_l1In_is, kz, decide_eq_true h3, spec_PrependPath.j0, if_neg (by decide)]
        obtain ⟨k', g1, g2, g3⟩ := spec_Prepend_l0 n a b c d l m j [] k (by omega) (by simp; omega)
        rw [g3]
        unfold spec_l4Own.f
        rw [kz, if_pos (by simp; omega), kz, if_pos (by simp; omega), kz]
        simp only [kb]
        rw [if_pos (by simp; omega), kz, hK2 k' (by omega), kz]
        have e : attrsOk a (ky j n ++ l) b c d m = decide ((j : Int) ≤ 10 - (l.length : Int)) := by
          unfold attrsOk at h1 ⊢
          simp only [ke] at h1
          rw [pathOk_append, pathOk_rep h2, h1.1, h1.2.1.2, h1.2.2.1, h1.2.2.2.1, h1.2.2.2.2.1, h1.2.2.2.2.2.1, h1.2.2.2.2.2.2]
          simp only [kj, Bool.and_true, List.length_append, List.length_replicate]
          exact decide_eq_decide.mpr (by omega)
        rw [e]
        unfold prepR
        by_cases h4 : (j : Int) ≤ 10 - (l.length : Int)
        · rw [if_pos (decide_eq_true h4), if_pos ⟨h1, h2, h3.1, h4⟩]; rfl
        · rw [if_neg (by simpa using h4), if_neg (fun h => h4 h.2.2.2)]
      · refine ⟨K + 1, fun k hk => ?_⟩
        obtain ⟨k, rfl⟩ : ∃ j, k = j + 1 := ⟨k - 1, by omega⟩
        show spec_PrependPath.f (k + 1) a l b c d m n many = _
        unfold spec_PrependPath.f prepR
        rw [hK _ (by omega), kz, if_pos h1, spec_l1In_is, kz, if_pos (decide_eq_true h2), spec_l1In_is, kz, decide_eq_false h3, spec_PrependPath.j0, if_pos (by rfl), if_neg (fun h => h3 ⟨h.2.2.1, by have := h.2.2.2; omega⟩)]
    · refine ⟨K + 1, fun k hk => ?_⟩
      obtain ⟨k, rfl⟩ : ∃ j, k = j + 1 := ⟨k - 1, by omega⟩
      show spec_PrependPath.f (k + 1) a l b c d m n many = _
      unfold spec_PrependPath.f prepR
      rw [hK _ (by omega), kz, if_pos h1, spec_l1In_is, kz, if_neg (by simpa using h2), spec_PrependPath.j0, if_pos rfl, if_neg (fun h => h2 h.2.1)]
  · refine ⟨K + 1, fun k hk => ?_⟩
    obtain ⟨k, rfl⟩ : ∃ j, k = j + 1 := ⟨k - 1, by omega⟩
    show spec_PrependPath.f (k + 1) a l b c d m n many = _
    unfold spec_PrependPath.f prepR
    rw [hK _ (by omega), kz, if_neg h1, spec_PrependPath.j0, if_pos rfl, if_neg (fun h => h1 h.1)]
def Bts (c : List Int) : Prop := c.length ≤ 140737488351232 ∧ ∀ x, x ∈ c → 0 ≤ x ∧ x ≤ 255
theorem Bts.at_ {c : List Int} (h : Bts c) {i : Int} (h0 : 0 ≤ i) (h1 : i < (c.length : Int)) : 0 ≤ rd c i ∧ rd c i ≤ 255 := by
  have : i.toNat < c.length := by omega
  unfold rd
  rw [List.getD_eq_getElem?_getD, List.getElem?_eq_getElem this]
  exact h.2 _ (List.getElem_mem this)
theorem u64_range (x : Int) : 0 ≤ IntKind.u64.wrap x ∧ IntKind.u64.wrap x < 18446744073709551616 := by
  simp only [IntKind.wrap, IntKind.bits, ko]
  constructor
  · simp; omega
  · simp; omega
theorem u64_and255 {x : Int} (h0 : 0 ≤ x) (h1 : x < 18446744073709551616) : Go.bits .and .u64 x 255 = x % 256 :=
  bits_mask .u64 64 (by decide) (fun n h2 h3 => by simp only [IntKind.wrap, IntKind.bits, ko]; simp; omega) 8 (by decide) x h0 h1
theorem next_ok {c : List Int} (hc : Bts c) {i : Int} (s : Int) (h0 : 0 ≤ i) (h1 : i ≤ 1000000000000000) : ∃ b s', spec_l1Cur_next.f c i s = some (b, i + 1, s') ∧ 0 ≤ b ∧ b ≤ 255 := by
  have hl := hc.1
  unfold spec_l1Cur_next.f
  rw [wrap_id (x := i + 1) (by omega) (by omega)]
  by_cases h : i < (c.length : Int)
  · have hb := hc.at_ h0 h
    rw [if_pos h, if_pos h0, if_pos (by omega)]
    exact ⟨_, _, rfl, by rw [wrap_id (by omega) (by omega)]; exact hb.1, by rw [wrap_id (by omega) (by omega)]; exact hb.2⟩
  · rw [if_neg h, if_neg (by omega)]
    refine ⟨_, _, rfl, ?_⟩
    have hr := u64_range (IntKind.u64.wrap (IntKind.u64.wrap (s * 6364136223846793005)) + 1442695040888963407)
    generalize IntKind.u64.wrap (IntKind.u64.wrap (IntKind.u64.wrap (s * 6364136223846793005)) + 1442695040888963407) = X at hr
    rw [u64_and255 (by omega) (by omega), wrap_id (by omega) (by omega)]
    omega
theorem pick_ok {c : List Int} (hc : Bts c) {i : Int} (s : Int) {n : Int} (h0 : 0 ≤ i) (h1 : i ≤ 100000000000000) (hn : n ≤ 1000000) : ∃ b i' s', spec_l1Cur_pick.f c i s n = some (b, i', s') ∧ 0 ≤ b ∧ (b < n ∨ b = 0) ∧ i ≤ i' ∧ i' ≤ i + 2 := by
  unfold spec_l1Cur_pick.f
  by_cases h : n ≤ 1
  · rw [if_pos h]
    exact ⟨_, _, _, rfl, by omega, .inr rfl, by omega, by omega⟩
  · rw [if_neg h]
    obtain ⟨b, s1, e1, b0, b1⟩ := next_ok hc s h0 (by omega)
    rw [e1, kz]
    have hmod : ∀ x : Int, 0 ≤ x → 0 ≤ Int.tmod x n ∧ Int.tmod x n < n := fun x hx => ⟨Int.tmod_nonneg _ hx, Int.tmod_lt_of_pos _ (by omega)⟩
    by_cases h2 : n > 200
    · rw [if_pos h2]
      dsimp only
      obtain ⟨d, s2, e2, d0, d1⟩ := next_ok hc (i := i + 1) s1 (by omega) (by omega)
      rw [e2, kz, if_neg (by omega)]
      dsimp only
      rw [wrap_id (x := b * 256) (by omega) (by omega), wrap_id (by omega) (by omega)]
      obtain ⟨m0, m1⟩ := hmod (b * 256 + d) (by omega)
      exact ⟨_, _, _, rfl, m0, .inl m1, by omega, by omega⟩
    · rw [if_neg h2, if_neg (by omega)]
      dsimp only
      obtain ⟨m0, m1⟩ := hmod b b0
      exact ⟨_, _, _, rfl, m0, .inl m1, by omega, by omega⟩
theorem one_ok {c : List Int} (hc : Bts c) {i : Int} (s : Int) {n : Int} (h0 : 0 ≤ i) (h1 : i ≤ 100000000000000) (hn : n ≤ 1000000) : ∃ b i' s', spec_l1Cur_one.f c i s n = some (b, i', s') ∧ i ≤ i' ∧ i' ≤ i + 2 := by
  unfold spec_l1Cur_one.f
  obtain ⟨b, i', s', e, _, _, h2, h3⟩ := pick_ok hc s h0 h1 hn
  rw [e, kz]
  exact ⟨_, _, _, rfl, h2, h3⟩
theorem among_ok {c : List Int} (hc : Bts c) {i : Int} (s : Int) (l : List Int) (h0 : 0 ≤ i) (h1 : i ≤ 100000000000000) (hl : l ≠ []) (hn : l.length ≤ 1000) : ∃ v i' s', spec_l1Cur_among.f c i s l = some (v, i', s') ∧ v ∈ l ∧ i ≤ i' ∧ i' ≤ i + 2 := by
  unfold spec_l1Cur_among.f
  have hpos : 0 < l.length := kc.2 hl
  obtain ⟨b, i', s', e, b0, b1, h2, h3⟩ := pick_ok hc s (n := (l.length : Int)) h0 h1 (by omega)
  have hb : b < (l.length : Int) := by omega
  rw [e, kz, if_pos b0, if_pos hb]
  refine ⟨_, _, _, rfl, ?_, h2, h3⟩
  have : b.toNat < l.length := by omega
  unfold rd
  rw [List.getD_eq_getElem?_getD, List.getElem?_eq_getElem this]
  exact List.getElem_mem this
theorem prefix_ok {c : List Int} (hc : Bts c) {i : Int} (s : Int) (h0 : 0 ≤ i) (h1 : i ≤ 10000000000000) : ∃ a n i' s', spec_l1Cur_prefix.f c i s = some (a, n, i', s') ∧ i ≤ i' ∧ i' ≤ i + 8 := by
  unfold spec_l1Cur_prefix.f
  obtain ⟨n, i1, s1, e1, m1, a1, b1⟩ := among_ok hc s [0, 1, 2, 3, 4, 8, 8, 16, 24, 31, 32] h0 (by omega) (by simp) (by simp)
  rw [e1, kz]
  dsimp only
  obtain ⟨a, i2, s2, e2, m2, a2, b2⟩ := among_ok hc s1 [0, 167772160, 167837696, 3232235520, 2147483648, 4294967295, 3758096384, 167772165] (i := i1) (by omega) (by omega) (by simp) (by simp)
  rw [e2, kz]
  have hn : 0 ≤ n ∧ n ≤ 32 := by
    simp only [List.mem_cons, List.not_mem_nil, or_false] at m1
    omega
  have hs := sz_pos n
  dsimp only
  rw [spec_l1Size_is _ hn.1 hn.2, kz, if_neg (by omega)]
  obtain ⟨b, i3, s3, e3, _, _, a3, b3⟩ := pick_ok hc s2 (n := 30) (i := i2) (by omega) (by omega) (by omega)
  rw [e3, kz]
  dsimp only
  by_cases hb : b = 0
  · rw [if_pos hb]; exact ⟨_, _, _, _, rfl, by omega, by omega⟩
  · rw [if_neg hb]
    by_cases hb2 : b = 1
    · rw [if_pos hb2]
      obtain ⟨v, i4, s4, e4, _, a4, b4⟩ := among_ok hc s3 [(-1), 33] (i := i3) (by omega) (by omega) (by simp) (by simp)
      rw [e4, kz]
      exact ⟨_, _, _, _, rfl, by dsimp only; omega, by dsimp only; omega⟩
    · rw [if_neg hb2]; exact ⟨_, _, _, _, rfl, by omega, by omega⟩
theorem fine_ok {c : List Int} (hc : Bts c) {i : Int} (s : Int) (h0 : 0 ≤ i) (h1 : i ≤ 10000000000000) : ∃ a n i' s', spec_l1Cur_fine.f c i s = some (a, n, i', s') ∧ good a n = true ∧ i ≤ i' ∧ i' ≤ i + 8 := by
  unfold spec_l1Cur_fine.f
  obtain ⟨a, n, i1, s1, e1, a1, b1⟩ := prefix_ok hc s h0 h1
  rw [e1, kz, spec_GoodPrefix_is, kz]
  dsimp only
  by_cases hg : good a n = true
  · rw [if_pos hg]; exact ⟨_, _, _, _, rfl, hg, a1, b1⟩
  · rw [if_neg hg]
    refine ⟨_, _, _, _, rfl, ?_, a1, b1⟩
    refine good_iff.2 ⟨by omega, by omega, by omega, by omega, ?_⟩
    have : sz 8 = 16777216 := by unfold sz; rfl
    rw [this]; rfl
theorem hb_len (x : Int) (n : Nat) : (hb x n).length = n := by
  induction n with
  | zero => rfl
  | succ n ih => simp [hb, ih]
def bW (n : Nat) (x : Int) : ByteArray := strOfNums (hb x n)
theorem bW_size (n : Nat) (x : Int) : (bW n x).size = n := by
  have : (strOfNums (hb x n)).size = (hb x n).length := by simp [strOfNums, kv]
  unfold bW; rw [this, hb_len]
theorem bW_val (k n : Nat) (x : Int) (hk : n < k) (hn : n ≤ 4) : impl_bytesOf.f k x (n : Int) = some (bW n x) := impl_bytesOf_is k n x hk (by omega)
theorem orB {x b : Int} (h0 : 0 ≤ x) (h1 : x ≤ 1099511627776) (b0 : 0 ≤ b) (b1 : b ≤ 255) : Go.bits .or .i64 (wrap64 (x * 256)) (wrap64 b) = x * 256 + b := by
  rw [wrap_id (x := x * 256) (by omega) (by omega), wrap_id (x := b) (by omega) (by omega)]
  exact bits_join .i64 62 (by decide) (fun n h2 h3 => by
    have h4 : n < 4611686018427387904 := by simpa using h3
    show IntKind.i64.wrap n = n
    rw [IntKind.wrap_i64]; omega) 8 (x * 256) b (by omega) (by show x * 256 % 256 = 0; omega) (by show x * 256 < 4611686018427387904; omega) b0 (by show b < 256; omega) (by show b < 4611686018427387904; omega)
theorem readN_step (s : ByteArray) (n : Nat) (i x : Int) (h0 : 0 ≤ x) (h1 : x ≤ 1099511627776) : readN s (n + 1) i x = readN s n (i + 1) (x * 256 + bt s i) := by
  have hb := bt_range s i
  rw [readN, orB h0 h1 hb.1 hb.2]
theorem shr_lit (x : Int) (n : Nat) (h : n ≤ 64) : shr .i64 x (n : Int) = x / 2 ^ n := by
  unfold shr
  rw [show min (n : Int).toNat IntKind.i64.bits = n by show min (n : Int).toNat 64 = n; omega]
theorem hb_four (x : Int) : hb x 4 = [x / 16777216 % 256, x / 65536 % 256, x / 256 % 256, x % 256] ∧ hb x 3 = [x / 65536 % 256, x / 256 % 256, x % 256] ∧ hb x 2 = [x / 256 % 256, x % 256] ∧ hb x 1 = [x % 256] := by
  have e0 : shr .i64 x (8 * ((0 : Nat) : Int)) = x := by have := shr_lit x 0 (by omega); simpa using this
  have e1 : shr .i64 x (8 * ((1 : Nat) : Int)) = x / 256 := by have := shr_lit x 8 (by omega); simpa using this
  have e2 : shr .i64 x (8 * ((2 : Nat) : Int)) = x / 65536 := by have := shr_lit x 16 (by omega); simpa using this
  have e3 : shr .i64 x (8 * ((3 : Nat) : Int)) = x / 16777216 := by have := shr_lit x 24 (by omega); simpa using this
  refine ⟨?_, ?_, ?_, ?_⟩ <;> simp only [hb, e0, e1, e2, e3]
theorem bW_list (n : Nat) (x : Int) : (bW n x).data.toList = (hb x n).map (fun n => UInt8.ofNat n.toNat) := by unfold bW strOfNums; simp
def prefW (a n : Int) : ByteArray := bW 1 n ++ strOfNums ((hb a 4).take (octets n))
theorem prefW_size (a n : Int) : (prefW a n).size ≤ 5 := by
  unfold prefW
  have : (strOfNums ((hb a 4).take (octets n))).size = ((hb a 4).take (octets n)).length := by simp [strOfNums, kv]
  rw [kq, bW_size, this, kh, hb_len]
  omega
theorem ru_pfx (k : Nat) (hk : 10 ≤ k) (a n : Int) (h0 : 0 ≤ n) (h1 : n ≤ 32) : impl_prefixBytes.f k a n = some (prefW a n) := by
  obtain ⟨hm, hm4⟩ := octets_is h0 (by omega)
  have hle : octets n ≤ 4 := by omega
  unfold prefW
  generalize octets n = m at hm hm4 hle ⊢
  have i1 := bW_val k 1 n (by omega) (by omega)
  have i4 := bW_val k 4 a (by omega) (by omega)
  rw [show ((1 : Nat) : Int) = 1 from rfl] at i1
  rw [show ((4 : Nat) : Int) = 4 from rfl] at i4
  unfold impl_prefixBytes.f
  rw [i1, i4, hm]
  simp only [kz]
  have hx : (bW 4 a).extract 0 m = strOfNums ((hb a 4).take m) := by
    unfold bW strOfNums; ext1; simp [ByteArray.data_extract]
  have hs : (strOfNums ((hb a 4).take m)).size = ((hb a 4).take m).length := by simp [strOfNums, kv]
  rw [if_pos (by omega), if_pos (by rw [bW_size]; omega), show ((m : Int)).toNat = m by omega, hx, if_pos (by rw [bW_size, hs, kh, hb_len]; omega)]
theorem size_listP (a : ByteArray) : a.size = a.data.toList.length := by rw [Array.length_toList]; rfl
theorem bt_of {s : ByteArray} {j : Nat} {x : Int} (h : s.data.toList[j]? = some (UInt8.ofNat x.toNat)) (h0 : 0 ≤ x) (h1 : x < 256) : bt s (j : Int) = x := by
  obtain ⟨hj, e⟩ := List.getElem?_eq_some_iff.1 h
  have hs : j < s.size := by rw [size_listP]; exact hj
  have : bt s (j : Int) = ((s[j]'hs).toNat : Int) := by unfold bt; rw [dif_pos (by simpa using hs)]; rfl
  rw [this]
  have e2 : s.data.toList[j] = s[j]'hs := by simp [ByteArray.getElem_eq_getElem_data]
  rw [← e2, e]
  simp
  omega
theorem prefW_is_size {a n : Int} (h1 : octets n ≤ 4) : (prefW a n).size = 1 + octets n := by
  unfold prefW
  have : (strOfNums ((hb a 4).take (octets n))).size = ((hb a 4).take (octets n)).length := by simp [strOfNums, kv]
  rw [kq, bW_size, this, kh, hb_len]
  omega
theorem takeP_back {a n : Int} (hg : good a n = true) (t : ByteArray) : takeP (prefW a n ++ t) 0 = some (a, n, ((prefW a n).size : Int)) := by
  obtain ⟨n0, n1, a0, a1, ha⟩ := good_iff.1 hg
  obtain ⟨_, ho⟩ := octets_is n0 (by omega)
  have h4 : octets n ≤ 4 := by omega
  have hsz : (prefW a n ++ t).size = 1 + octets n + t.size := by rw [kq, prefW_is_size h4]
  have hd : a % sz (8 * (octets n : Int)) = 0 := Int.emod_eq_zero_of_dvd (Int.dvd_trans (sz_dvd n0 (by omega) (by omega)) (Int.dvd_of_emod_eq_zero ha))
  have hL : (prefW a n ++ t).data.toList = UInt8.ofNat (n % 256).toNat :: (((hb a 4).take (octets n)).map (fun n => UInt8.ofNat n.toNat) ++ t.data.toList) := by
    unfold prefW
    rw [ByteArray.data_append, Array.toList_append, ByteArray.data_append, Array.toList_append, bW_list, (hb_four n).2.2.2]
    unfold strOfNums
    simp
  have hb0 : bt (prefW a n ++ t) 0 = n := by
    have := bt_of (s := prefW a n ++ t) (j := 0) (x := n % 256) (by rw [hL]; rfl) (by omega) (by omega)
    rw [show ((0 : Nat) : Int) = 0 from rfl] at this
    omega
  unfold takeP
  rw [if_pos (by rw [hsz]; omega), hb0, if_neg (by omega), if_pos (by rw [hsz]; omega)]
  have key : shl .i64 (readN (prefW a n ++ t) (octets n) (0 + 1) 0) (32 - 8 * (octets n : Int)) = a := by
    rw [(hb_four a).1] at hL
    generalize hs : prefW a n ++ t = s at hL hb0 ⊢
    have sh : ∀ (x : Int) (q : Nat), q ≤ 32 → 0 ≤ x → x * 2 ^ q ≤ 4294967295 → shl .i64 x (q : Int) = x * 2 ^ q := by
      intro x q hq hx hx1
      unfold shl
      have e : min (q : Int).toNat IntKind.i64.bits = q := by show min (q : Int).toNat 64 = _; omega
      have h0 : 0 ≤ x * 2 ^ q := Int.mul_nonneg hx (by exact_mod_cast Nat.zero_le _)
      rw [e, i64_w, wrap_id (by omega) (by omega)]
    have h5 : octets n = 0 ∨ octets n = 1 ∨ octets n = 2 ∨ octets n = 3 ∨ octets n = 4 := by omega
    have g0 := fun (x : Int) (h : s.data.toList[1]? = some (UInt8.ofNat x.toNat)) => bt_of (s := s) (j := 1) (x := x) h
    have g1 := fun (x : Int) (h : s.data.toList[2]? = some (UInt8.ofNat x.toNat)) => bt_of (s := s) (j := 2) (x := x) h
    have g2 := fun (x : Int) (h : s.data.toList[3]? = some (UInt8.ofNat x.toNat)) => bt_of (s := s) (j := 3) (x := x) h
    have g3 := fun (x : Int) (h : s.data.toList[4]? = some (UInt8.ofNat x.toNat)) => bt_of (s := s) (j := 4) (x := x) h
    rcases h5 with e | e | e | e | e <;> rw [e] at hL hd ⊢
    · rw [readN]
      have e0 : sz (8 * ((0 : Nat) : Int)) = 4294967296 := by unfold sz; rfl
      rw [e0] at hd
      have := sh 0 32 (by omega) (by omega) (by omega)
      rw [show (32 : Int) - 8 * ((0 : Nat) : Int) = ((32 : Nat) : Int) by omega, this]
      omega
    · have e0 : sz (8 * ((1 : Nat) : Int)) = 16777216 := by unfold sz; rfl
      rw [e0] at hd
      have b0 := g0 (a / 16777216 % 256) (by rw [hL]; rfl) (by omega) (by omega)
      rw [readN_step s 0 _ 0 (by omega) (by omega), readN, show (0 : Int) + 1 = ((1 : Nat) : Int) by omega, b0, show (32 : Int) - 8 * ((1 : Nat) : Int) = ((24 : Nat) : Int) by omega, sh _ 24 (by omega) (by omega) (by show _ * 16777216 ≤ _; omega)]
      show (0 * 256 + a / 16777216 % 256) * 16777216 = a
      omega
    · have e0 : sz (8 * ((2 : Nat) : Int)) = 65536 := by unfold sz; rfl
      rw [e0] at hd
      have b0 := g0 (a / 16777216 % 256) (by rw [hL]; rfl) (by omega) (by omega)
      have b1 := g1 (a / 65536 % 256) (by rw [hL]; rfl) (by omega) (by omega)
      have r0 := bt_range s ((1 : Nat) : Int)
      rw [readN_step s 1 _ 0 (by omega) (by omega), show (0 : Int) + 1 = ((1 : Nat) : Int) by omega, readN_step s 0 _ _ (by omega) (by omega), readN, show ((1 : Nat) : Int) + 1 = ((2 : Nat) : Int) by omega, b0, b1, show (32 : Int) - 8 * ((2 : Nat) : Int) = ((16 : Nat) : Int) by omega, sh _ 16 (by omega) (by omega) (by show _ * 65536 ≤ _; omega)]
      show ((0 * 256 + a / 16777216 % 256) * 256 + a / 65536 % 256) * 65536 = a
      omega
    · have e0 : sz (8 * ((3 : Nat) : Int)) = 256 := by unfold sz; rfl
      rw [e0] at hd
      have b0 := g0 (a / 16777216 % 256) (by rw [hL]; rfl) (by omega) (by omega)
      have b1 := g1 (a / 65536 % 256) (by rw [hL]; rfl) (by omega) (by omega)
      have b2 := g2 (a / 256 % 256) (by rw [hL]; rfl) (by omega) (by omega)
      have r0 := bt_range s ((1 : Nat) : Int)
      have r1 := bt_range s ((2 : Nat) : Int)
      rw [readN_step s 2 _ 0 (by omega) (by omega), show (0 : Int) + 1 = ((1 : Nat) : Int) by omega, readN_step s 1 _ _ (by omega) (by omega), show ((1 : Nat) : Int) + 1 = ((2 : Nat) : Int) by omega, readN_step s 0 _ _ (by omega) (by omega), readN, show ((2 : Nat) : Int) + 1 = ((3 : Nat) : Int) by omega, b0, b1, b2, show (32 : Int) - 8 * ((3 : Nat) : Int) = ((8 : Nat) : Int) by omega, sh _ 8 (by omega) (by omega) (by show _ * 256 ≤ _; omega)]
      show (((0 * 256 + a / 16777216 % 256) * 256 + a / 65536 % 256) * 256 + a / 256 % 256) * 256 = a
      omega
    · have b0 := g0 (a / 16777216 % 256) (by rw [hL]; rfl) (by omega) (by omega)
      have b1 := g1 (a / 65536 % 256) (by rw [hL]; rfl) (by omega) (by omega)
      have b2 := g2 (a / 256 % 256) (by rw [hL]; rfl) (by omega) (by omega)
      have b3 := g3 (a % 256) (by rw [hL]; rfl) (by omega) (by omega)
      have r0 := bt_range s ((1 : Nat) : Int)
      have r1 := bt_range s ((2 : Nat) : Int)
      have r2 := bt_range s ((3 : Nat) : Int)
      rw [readN_step s 3 _ 0 (by omega) (by omega), show (0 : Int) + 1 = ((1 : Nat) : Int) by omega, readN_step s 2 _ _ (by omega) (by omega), show ((1 : Nat) : Int) + 1 = ((2 : Nat) : Int) by omega, readN_step s 1 _ _ (by omega) (by omega), show ((2 : Nat) : Int) + 1 = ((3 : Nat) : Int) by omega, readN_step s 0 _ _ (by omega) (by omega), readN, show ((3 : Nat) : Int) + 1 = ((4 : Nat) : Int) by omega, b0, b1, b2, b3, show (32 : Int) - 8 * ((4 : Nat) : Int) = ((0 : Nat) : Int) by omega, sh _ 0 (by omega) (by omega) (by show _ * 1 ≤ _; omega)]
      show ((((0 * 256 + a / 16777216 % 256) * 256 + a / 65536 % 256) * 256 + a / 256 % 256) * 256 + a % 256) * 1 = a
      omega
  rw [key, prefW_is_size h4]
  congr 2
theorem PrefixBytes_val {a n : Int} (hg : good a n = true) (k : Nat) (hk : 10 ≤ k) : impl_PrefixBytes.f k a n = some (prefW a n, true) := by
  obtain ⟨n0, n1, _⟩ := good_iff.1 hg
  unfold impl_PrefixBytes.f
  rw [impl_GoodPrefix_is, kz, if_pos hg, ru_pfx k hk a n n0 n1, kz]
theorem TakePrefix_back {a n : Int} (hg : good a n = true) (t : ByteArray) (ht : t.size ≤ 100) (k : Nat) (hk : 102 ≤ k) : impl_TakePrefix.f k (prefW a n ++ t) 0 = some (a, n, ((prefW a n).size : Int), true) := by
  obtain ⟨k, rfl⟩ : ∃ m, k = m + 1 := ⟨k - 1, by omega⟩
  have hz := prefW_size a n
  have hsz : ((prefW a n ++ t).size : Int) ≤ 1000 := by rw [kq]; omega
  obtain ⟨q, hq, ha, _⟩ := impl_prefix_is (prefW a n ++ t) (by omega) k (by omega) 0 (by omega) (by omega)
  unfold impl_TakePrefix.f
  rw [if_neg (by omega), impl_within_is, kz, decide_eq_true (by omega), Bool.not_true, impl_TakePrefix.j0, if_neg (by simp), hq, kz, ha _ (takeP_back hg t)]
  dsimp only
  rw [if_pos rfl, impl_GoodPrefix_is, kz, if_pos hg]
theorem spoilt_l0 {c : List Int} (hc : Bts c) (x2 : ByteArray) (h2 : 0 < x2.size) (h3 : x2.size ≤ 100) : ∀ (m : Nat) (x1 : ByteArray) (i s : Int), m ≤ 5 → x1.size + m ≤ 5000 → 0 ≤ i → i + 6 * m ≤ 1000000 → ∃ r i' s', (∀ k, spec_l1Cur_spoilt.l0 (k + 2 * m + 2) x1 x2 (m : Int) c i s = some (r, i', s')) ∧ r.size ≤ x1.size + m ∧ 0 ≤ i' ∧ i' ≤ i + 6 * m := by
  intro m
  induction m with
  | zero =>
    intro x1 i s _ _ h0 _
    refine ⟨x1, i, s, fun k => ?_, by omega, h0, by omega⟩
    rw [show k + 2 * 0 + 2 = k + 1 + 1 by omega, spec_l1Cur_spoilt.l0, if_neg (by omega), spec_l1Cur_spoilt.j1, if_neg (by simp)]
  | succ m ih =>
    intro x1 i s hm hx h0 h1
    have hk : ∀ k : Nat, k + 2 * (m + 1) + 2 = (k + 2 * m + 2) + 1 + 1 := fun k => by omega
    by_cases hz : (x1.size : Int) > 0
    · obtain ⟨p, i1, s1, e1, p0, p1, a1, b1⟩ := pick_ok hc s (n := (x1.size : Int)) h0 (by omega) (by omega)
      obtain ⟨q, i2, s2, e2, q0, q1, a2, b2⟩ := pick_ok hc s1 (n := (x2.size : Int)) (i := i1) (by omega) (by omega) (by omega)
      obtain ⟨w, i3, s3, e3, w0, w1, a3, b3⟩ := pick_ok hc s2 (n := 3) (i := i2) (by omega) (by omega) (by omega)
      have hp : p < (x1.size : Int) := by omega
      have hq : q < (x2.size : Int) := by omega
      have hone : ∀ v : Int, (strOfNums [v]).size = 1 := fun v => by simp [strOfNums, kv]
      have hA : (x1.extract 0 p.toNat).size = p.toNat := by rw [kf]; omega
      have hB : (x1.extract p.toNat x1.size).size = x1.size - p.toNat := by rw [kf]; omega
      have hC : (x1.extract (p + 1).toNat x1.size).size = x1.size - (p + 1).toNat := by rw [kf]; omega
      have hw : wrap64 (((m + 1 : Nat) : Int) - 1) = (m : Int) := by rw [wrap_id (by omega) (by omega)]; omega
      have hp1 : wrap64 (p + 1) = p + 1 := wrap_id (by omega) (by omega)
      by_cases c0 : w = 0
      · obtain ⟨r, i4, s4, e4, h4, h5, h6⟩ := ih ((x1.extract 0 p.toNat ++ strOfNums [bt x2 q]) ++ x1.extract p.toNat x1.size) i3 s3 (by omega) (by rw [kq, kq, hone, hA, hB]; omega) (by omega) (by omega)
        rw [kq, kq, hone, hA, hB] at h4
        refine ⟨r, i4, s4, fun k => ?_, by omega, h5, by omega⟩
        rw [hk, spec_l1Cur_spoilt.l0, if_pos (by omega), decide_eq_true hz, spec_l1Cur_spoilt.j1, if_pos rfl, e1, kz]
        dsimp only
        rw [e2, kz]
        dsimp only
        rw [if_pos q0, if_pos hq, kz, e3, kz]
        dsimp only
        rw [if_pos c0, if_pos p0, if_pos (by omega), if_pos (by rw [hA, hone]; omega), if_pos (by rw [kq, hA, hone, hB]; omega), hw]
        exact e4 k
      · by_cases c1 : w = 1
        · obtain ⟨r, i4, s4, e4, h4, h5, h6⟩ := ih ((x1.extract 0 p.toNat ++ strOfNums [bt x2 q]) ++ x1.extract (p + 1).toNat x1.size) i3 s3 (by omega) (by rw [kq, kq, hone, hA, hC]; omega) (by omega) (by omega)
          rw [kq, kq, hone, hA, hC] at h4
          refine ⟨r, i4, s4, fun k => ?_, by omega, h5, by omega⟩
          rw [hk, spec_l1Cur_spoilt.l0, if_pos (by omega), decide_eq_true hz, spec_l1Cur_spoilt.j1, if_pos rfl, e1, kz]
          dsimp only
          rw [e2, kz]
          dsimp only
          rw [if_pos q0, if_pos hq, kz, e3, kz]
          dsimp only
          rw [if_neg c0, if_pos c1, if_pos p0, if_pos (by omega), if_pos (by rw [hA, hone]; omega), hp1, if_pos (by omega), if_pos (by omega), if_pos (by rw [kq, hA, hone, hC]; omega), hw]
          exact e4 k
        · obtain ⟨r, i4, s4, e4, h4, h5, h6⟩ := ih (x1.extract 0 p.toNat ++ x1.extract (p + 1).toNat x1.size) i3 s3 (by omega) (by rw [kq, hA, hC]; omega) (by omega) (by omega)
          rw [kq, hA, hC] at h4
          refine ⟨r, i4, s4, fun k => ?_, by omega, h5, by omega⟩
          rw [hk, spec_l1Cur_spoilt.l0, if_pos (by omega), decide_eq_true hz, spec_l1Cur_spoilt.j1, if_pos rfl, e1, kz]
          dsimp only
          rw [e2, kz]
          dsimp only
          rw [if_pos q0, if_pos hq, kz, e3, kz]
          dsimp only
          rw [if_neg c0, if_neg c1, if_pos p0, if_pos (by omega), hp1, if_pos (by omega), if_pos (by omega), if_pos (by rw [hA, hC]; omega), hw]
          exact e4 k
    · refine ⟨x1, i, s, fun k => ?_, by omega, h0, by omega⟩
      rw [hk, spec_l1Cur_spoilt.l0, if_pos (by omega), decide_eq_false hz, spec_l1Cur_spoilt.j1, if_neg (by simp)]
theorem spoilt_ok {c : List Int} (hc : Bts c) (x1 x2 : ByteArray) (h1 : x1.size ≤ 4000) (h2 : 0 < x2.size) (h3 : x2.size ≤ 100) (i s : Int) (h0 : 0 ≤ i) (hi : i ≤ 900000) : ∃ r i' s', (∀ k, 100 ≤ k → spec_l1Cur_spoilt.f k c i s x1 x2 = some (r, i', s')) ∧ r.size ≤ x1.size + 3 ∧ 0 ≤ i' ∧ i' ≤ i + 30 := by
  obtain ⟨n, i1, s1, e1, n0, n1, a1, b1⟩ := pick_ok hc s (n := 3) h0 (by omega) (by omega)
  obtain ⟨r, i2, s2, e2, g1, g2, g3⟩ := spoilt_l0 hc x2 h2 h3 n.toNat x1 i1 s1 (by omega) (by omega) (by omega) (by omega)
  refine ⟨r, i2, s2, fun k hk => ?_, by omega, g2, by omega⟩
  obtain ⟨k, rfl⟩ : ∃ k', k = k' + 2 * n.toNat + 2 := ⟨k - (2 * n.toNat + 2), by omega⟩
  unfold spec_l1Cur_spoilt.f
  rw [e1, kz]
  dsimp only
  rw [show n = (n.toNat : Int) by omega]
  exact e2 k
theorem DrawTake_l0 {c : List Int} (hc : Bts c) : ∀ (m : Nat) (x5 : ByteArray) (i s : Int), m ≤ 10 → x5.size + 10 * m ≤ 1000 → 0 ≤ i → i + 10 * m ≤ 1000 → ∃ u at_, (∃ K, ∀ k, K ≤ k → spec_DrawTakePrefix.l0 k x5 (m : Int) c i s = some (u, at_)) := by
  intro m
  induction m with
  | zero =>
    intro x5 i s _ hx h0 h1
    obtain ⟨b, i1, s1, e1, a1, b1⟩ := one_ok hc s (n := 4) h0 (by omega) (by omega)
    cases b with
    | true =>
      obtain ⟨r, i2, s2, e2, g1, g2, g3⟩ := spoilt_ok hc x5 ⟨#[0, 8, 33]⟩ (by omega) (by show 0 < 3; omega) (by show 3 ≤ 100; omega) i1 s1 (by omega) (by omega)
      obtain ⟨q, i3, s3, e3, _⟩ := pick_ok hc s2 (n := wrap64 ((r.size : Int) + 2)) (i := i2) (by omega) (by omega) (by rw [wrap_id (by omega) (by omega)]; omega)
      refine ⟨r, wrap64 (q - 1), 101, fun k hk => ?_⟩
      obtain ⟨k, rfl⟩ : ∃ k', k = k' + 1 := ⟨k - 1, by omega⟩
      rw [spec_DrawTakePrefix.l0, if_neg (by omega), e1, kz, if_pos rfl, e2 k (by omega), kz]
      dsimp only
      rw [e3, kz]
    | false =>
      obtain ⟨q, i3, s3, e3, _⟩ := pick_ok hc s1 (n := wrap64 ((x5.size : Int) + 2)) (i := i1) (by omega) (by omega) (by rw [wrap_id (by omega) (by omega)]; omega)
      refine ⟨x5, wrap64 (q - 1), 101, fun k hk => ?_⟩
      obtain ⟨k, rfl⟩ : ∃ k', k = k' + 1 := ⟨k - 1, by omega⟩
      rw [spec_DrawTakePrefix.l0, if_neg (by omega), e1, kz, if_neg (by simp)]
      dsimp only
      rw [e3, kz]
  | succ m ih =>
    intro x5 i s hm hx h0 h1
    obtain ⟨a, n, i1, s1, e1, hg, a1, b1⟩ := fine_ok hc s h0 (by omega)
    have hz := prefW_size a n
    have hsp : ∀ k, 10 ≤ k → spec_PrefixBytes.f k a n = some (prefW a n, true) := fun k hk => by
      obtain ⟨r, r1, r2⟩ := PrefixBytes_same k hk a n
      rw [PrefixBytes_val hg k hk] at r2
      rw [r1, ← r2]
    obtain ⟨u, at_, K, hK⟩ := ih (x5 ++ prefW a n) i1 s1 (by omega) (by rw [kq]; omega) (by omega) (by omega)
    have hw : wrap64 (((m + 1 : Nat) : Int) - 1) = (m : Int) := by rw [wrap_id (by omega) (by omega)]; omega
    refine ⟨u, at_, K + 20, fun k hk => ?_⟩
    obtain ⟨k, rfl⟩ : ∃ k', k = k' + 1 := ⟨k - 1, by omega⟩
    rw [spec_DrawTakePrefix.l0, if_pos (by omega), e1, kz]
    dsimp only
    rw [hsp k (by omega), kz]
    dsimp only
    rw [if_pos (by omega), hw]
    exact hK k (by omega)
theorem DrawTakePrefix_ok {c : List Int} (hc : Bts c) : ∃ u at_, (∃ K, ∀ k, K ≤ k → spec_DrawTakePrefix.f k c = some (u, at_)) := by
  obtain ⟨n, i1, s1, e1, n0, n1, a1, b1⟩ := pick_ok hc 0 (n := 4) (i := 0) (by omega) (by omega) (by omega)
  obtain ⟨u, at_, K, hK⟩ := DrawTake_l0 hc n.toNat ⟨#[]⟩ i1 s1 (by omega) (by show 0 + 10 * n.toNat ≤ 1000; omega) (by omega) (by omega)
  refine ⟨u, at_, K, fun k hk => ?_⟩
  unfold spec_DrawTakePrefix.f
  rw [e1, kz]
  dsimp only
  have := hK k hk
  rw [show n = (n.toNat : Int) by omega]
  exact this
theorem attrs_l1 {c : List Int} (hc : Bts c) (o : Int) (l : List Int) (nx md pf : Int) (hl : l.length ≤ 100) : ∀ (d : Nat) (x : Int) (m : List Int) (i s : Int), x + d = 5 → 0 ≤ x → m.length + d ≤ 10 → 0 ≤ i → i + 10 * d ≤ 10000 →
    ∃ o' l' pf' m' i' s', (∀ k, spec_l1Cur_attrs.l1 (k + d + 1) x c i s o l nx md pf m = some (o', l', nx, md, pf', m', i', s')) ∧ l'.length ≤ l.length + 1 ∧ m'.length ≤ 10 ∧ 0 ≤ i' ∧ i' ≤ i + 10 * d + 10 := by
  intro d
  induction d with
  | zero =>
    intro x m i s hx _ hm h0 h1
    obtain ⟨b, i1, s1, e1, b0, b1, a1, c1⟩ := pick_ok hc s (n := 60) h0 (by omega) (by omega)
    by_cases h2 : b = 0
    · refine ⟨3, l, pf, m, i1, s1, fun k => ?_, by omega, by omega, by omega, by omega⟩
      rw [spec_l1Cur_attrs.l1, if_neg (by omega), e1, kz]
      dsimp only
      rw [if_pos h2]
    · by_cases h3 : b = 1
      · obtain ⟨v, i2, s2, e2, _, a2, c2⟩ := among_ok hc s1 [0, 65535, 65536] (i := i1) (by omega) (by omega) (by simp) (by simp)
        refine ⟨o, l ++ [v], pf, m, i2, s2, fun k => ?_, by simp, by omega, by omega, by omega⟩
        rw [spec_l1Cur_attrs.l1, if_neg (by omega), e1, kz]
        dsimp only
        rw [if_neg h2, if_pos h3, e2, kz, if_pos (by omega)]
      · by_cases h4 : b = 2
        · obtain ⟨v, i2, s2, e2, _, a2, c2⟩ := among_ok hc s1 [(-1), 1000000, 1000001] (i := i1) (by omega) (by omega) (by simp) (by simp)
          refine ⟨o, l, v, m, i2, s2, fun k => ?_, by omega, by omega, by omega, by omega⟩
          rw [spec_l1Cur_attrs.l1, if_neg (by omega), e1, kz]
          dsimp only
          rw [if_neg h2, if_neg h3, if_pos h4, e2, kz]
        · refine ⟨o, l, pf, m, i1, s1, fun k => ?_, by omega, by omega, by omega, by omega⟩
          rw [spec_l1Cur_attrs.l1, if_neg (by omega), e1, kz]
          dsimp only
          rw [if_neg h2, if_neg h3, if_neg h4]
  | succ d ih =>
    intro x m i s hx h5 hm h0 h1
    have hw : wrap64 (x + 1) = x + 1 := wrap_id (by omega) (by omega)
    obtain ⟨b, i1, s1, e1, a1, b1⟩ := one_ok hc s (n := 4) h0 (by omega) (by omega)
    have hk : ∀ k : Nat, k + (d + 1) + 1 = (k + d + 1) + 1 := fun k => by omega
    cases b with
    | true =>
      obtain ⟨o', l', pf', m', i', s', e2, g1, g2, g3, g4⟩ := ih (x + 1) (m ++ [x]) i1 s1 (by omega) (by omega) (by simp; omega) (by omega) (by omega)
      refine ⟨o', l', pf', m', i', s', fun k => ?_, g1, g2, g3, by omega⟩
      rw [hk, spec_l1Cur_attrs.l1, if_pos (by omega), e1, kz, if_pos rfl, if_pos (by omega), hw]
      exact e2 k
    | false =>
      obtain ⟨o', l', pf', m', i', s', e2, g1, g2, g3, g4⟩ := ih (x + 1) m i1 s1 (by omega) (by omega) (by omega) (by omega) (by omega)
      refine ⟨o', l', pf', m', i', s', fun k => ?_, g1, g2, g3, by omega⟩
      rw [hk, spec_l1Cur_attrs.l1, if_pos (by omega), e1, kz, if_neg (by simp), hw]
      exact e2 k
theorem attrs_l0 {c : List Int} (hc : Bts c) (o nx md pf : Int) : ∀ (n : Nat) (l : List Int) (i s : Int), n ≤ 10 → l.length + n ≤ 50 → 0 ≤ i → i + 10 * n ≤ 1000 →
    ∃ o' l' pf' m' i' s', (∀ k, spec_l1Cur_attrs.l0 (k + n + 7) (n : Int) c i s o l nx md pf = some (o', l', nx, md, pf', m', i', s')) ∧ l'.length ≤ 60 ∧ m'.length ≤ 10 ∧ 0 ≤ i' ∧ i' ≤ 5000 := by
  intro n
  induction n with
  | zero =>
    intro l i s _ hl h0 h1
    obtain ⟨o', l', pf', m', i', s', e2, g1, g2, g3, g4⟩ := attrs_l1 hc o l nx md pf (by omega) 5 0 [] i s (by omega) (by omega) (by simp) h0 (by omega)
    refine ⟨o', l', pf', m', i', s', fun k => ?_, by omega, g2, g3, by omega⟩
    rw [show k + 0 + 7 = (k + 5 + 1) + 1 by omega, spec_l1Cur_attrs.l0, if_neg (by omega)]
    exact e2 k
  | succ n ih =>
    intro l i s hn hl h0 h1
    obtain ⟨b, i1, s1, e1, b0, b1, a1, c1⟩ := pick_ok hc s (n := 6) h0 (by omega) (by omega)
    have hw : wrap64 (((n + 1 : Nat) : Int) - 1) = (n : Int) := by rw [wrap_id (by omega) (by omega)]; omega
    obtain ⟨o', l', pf', m', i', s', e2, g⟩ := ih (l ++ [wrap64 (1 + b)]) i1 s1 (by omega) (by simp; omega) (by omega) (by omega)
    refine ⟨o', l', pf', m', i', s', fun k => ?_, g⟩
    rw [show k + (n + 1) + 7 = (k + n + 7) + 1 by omega, spec_l1Cur_attrs.l0, if_pos (by omega), e1, kz, if_pos (by omega), hw]
    exact e2 k
theorem attrs_ok {c : List Int} (hc : Bts c) (s : Int) : ∃ o l nx md pf m i' s', (∀ k, 100 ≤ k → spec_l1Cur_attrs.f k c 0 s = some (o, l, nx, md, pf, m, i', s')) ∧ l.length ≤ 60 ∧ m.length ≤ 10 ∧ 0 ≤ i' ∧ i' ≤ 5000 := by
  obtain ⟨o, i1, s1, e1, _, _, a1, b1⟩ := pick_ok hc s (n := 3) (i := 0) (by omega) (by omega) (by omega)
  obtain ⟨nx, i2, s2, e2, _, a2, b2⟩ := among_ok hc s1 [0, 1, 167772161] (i := i1) (by omega) (by omega) (by simp) (by simp)
  obtain ⟨md, i3, s3, e3, _, _, a3, b3⟩ := pick_ok hc s2 (n := 4) (i := i2) (by omega) (by omega) (by omega)
  obtain ⟨pf, i4, s4, e4, _, a4, b4⟩ := among_ok hc s3 [100, 100, 200, 50] (i := i3) (by omega) (by omega) (by simp) (by simp)
  obtain ⟨n, i5, s5, e5, n0, n1, a5, b5⟩ := pick_ok hc s4 (n := 5) (i := i4) (by omega) (by omega) (by omega)
  obtain ⟨o', l', pf', m', i', s', e6, g⟩ := attrs_l0 hc o nx md pf n.toNat [] i5 s5 (by omega) (by simp; omega) (by omega) (by omega)
  refine ⟨o', l', nx, md, pf', m', i', s', fun k hk => ?_, g⟩
  obtain ⟨k, rfl⟩ : ∃ k', k = k' + n.toNat + 7 := ⟨k - (n.toNat + 7), by omega⟩
  unfold spec_l1Cur_attrs.f
  rw [e1, kz]
  dsimp only
  rw [e2, kz]
  dsimp only
  rw [e3, kz]
  dsimp only
  rw [e4, kz]
  dsimp only
  rw [e5, kz]
  dsimp only
  rw [show n = (n.toNat : Int) by omega]
  exact e6 k
theorem DrawPrepend_ok {c : List Int} (hc : Bts c) : ∃ o l nx md pf m n many, (∀ k, 100 ≤ k → spec_DrawPrependPath.f k c = some (o, l, nx, md, pf, m, n, many)) ∧ l.length ≤ 60 ∧ m.length ≤ 10 := by
  obtain ⟨o, l, nx, md, pf, m, i, s, e, h1, h2, h3, h4⟩ := attrs_ok hc 0
  obtain ⟨n, i1, s1, e1, _, a1, b1⟩ := among_ok hc s [0, 1, 7, 65535, 65536] h3 (by omega) (by simp) (by simp)
  obtain ⟨many, i2, s2, e2, _, a2, b2⟩ := among_ok hc s1 [0, 1, 2, 3, 10, 11] (i := i1) (by omega) (by omega) (by simp) (by simp)
  refine ⟨o, l, nx, md, pf, m, n, many, fun k hk => ?_, h1, h2⟩
  unfold spec_DrawPrependPath.f
  rw [e k hk, kz]
  dsimp only
  rw [e1, kz]
  dsimp only
  rw [e2, kz]
theorem sameInts_self (l : List Int) (hl : l.length ≤ 1000000) (k : Nat) (hk : l.length < k) : laws_sameInts.f k l l = some true := by
  have key : ∀ (rest pre : List Int) (k : Nat), l = pre ++ rest → rest.length < k → laws_sameInts.l0 k l l (l.length : Int) (pre.length : Int) = some true := by
    intro rest
    induction rest with
    | nil =>
      intro pre k e hk
      obtain ⟨k, rfl⟩ : ∃ k', k = k' + 1 := ⟨k - 1, by omega⟩
      rw [laws_sameInts.l0, if_neg (by rw [e]; simp)]
    | cons a rest ih =>
      intro pre k e hk
      rw [List.length_cons] at hk
      obtain ⟨k, rfl⟩ : ∃ k', k = k' + 1 := ⟨k - 1, by omega⟩
      have hlen : pre.length < l.length := by rw [e]; simp
      have hw : wrap64 ((pre.length : Int) + 1) = ((pre ++ [a]).length : Int) := by rw [wrap_id (by omega) (by omega)]; simp
      rw [laws_sameInts.l0, if_pos (by omega), if_pos (by omega), if_pos (by omega), if_pos (by omega), if_pos rfl, hw]
      exact ih (pre ++ [a]) k (by rw [e]; simp) (by omega)
  unfold laws_sameInts.f
  rw [if_pos rfl]
  exact key l [] k rfl hk

end FnPrependUses
open Go.RowKit Go.Proofs.Ytlnfcobloolnnaa.PFnPrepend Go.Proofs.YtlnfcobloolnnaaW.PrintWords Go.Proofs.YtlnfcobloolnnaaW.PrintLast Go.Proofs.YtlnfcobloolnnaaW.PrintMore Go.Proofs.Ytlnfcobloolnnaa.Pfx Go.Proofs.Ytlnfcobloolnnaa.Loop Go.Proofs.Ytlnfcobloolnnaa.Tbl FnPrependUses
open Option renaming bind_some → kz
open _root_.ByteArray renaming size_append → kq, size → kv, size_extract → kf
open List renaming replicate → ky, length_take → kh, append_assoc → kg, nil_append → kb, replicate_succ → kd, length_pos_iff → kc
open Bool renaming true_and → kj, false_and → kk, and_eq_true → ke
open IntKind renaming signed → ko
set_option linter.unusedVariables false
theorem FnPrepend : laws_FnPrepend.Pure := by
  intro l0 l1 m0 w0 b0 m1 w1 b1
  have hbt : ∀ c : List Int, c.length * 1 ≤ 140737488351232 → (∀ x ∈ c, (Lit.int .u8 x).wf = true) → Bts c := fun c h1 h2 => ⟨by omega, fun x hx => by
    have := h2 x hx
    simp [Lit.wf, IntKind.min, IntKind.max, ko, IntKind.bits] at this
    omega⟩
  have hc0 := hbt l0 w0 b0
  have hc1 := hbt l1 w1 b1
  by_cases hsz : wrap64 ((l0.length : Int) + (l1.length : Int)) > 1048576
  · exact ⟨0, by unfold laws_FnPrepend.f; rw [if_pos hsz]⟩
  obtain ⟨o, l, nx, md, pf, m, n, many, hD, hl, hm⟩ := DrawPrepend_ok hc0
  obtain ⟨K1, r1⟩ := spec_PrependPath_is o l nx md pf m n many (by omega) (by omega)
  obtain ⟨K2, r2⟩ := impl_PrependPath_is o l nx md pf m n many (by omega) (by omega)
  obtain ⟨K3, g1⟩ := spec_GoodAttrs_is o l nx md pf m (by omega) (by omega)
  obtain ⟨K4, g2⟩ := impl_GoodAttrs_is o l nx md pf m (by omega) (by omega)
  obtain ⟨pa, pn, ⟨i, s, hP⟩⟩ : ∃ a n, ∃ i' s', spec_l1Cur_prefix.f l1 0 0 = some (a, n, i', s') := by
    obtain ⟨a, n, i', s', e, _⟩ := prefix_ok hc1 0 (i := 0) (by omega) (by omega)
    exact ⟨a, n, i', s', e⟩
  obtain ⟨u, at_, K5, hT⟩ := DrawTakePrefix_ok hc1
  obtain ⟨t, ⟨K6, t1⟩, ⟨K7, t2⟩⟩ := TakePrefix_is u at_
  replace r1 : ∀ k, K1 ≤ k → spec_PrependPath.f k o l nx md pf m n many = some (prepR o l nx md pf m n many) := r1
  replace r2 : ∀ k, K2 ≤ k → impl_PrependPath.f k o l nx md pf m n many = some (prepR o l nx md pf m n many) := r2
  replace g1 : ∀ k, K3 ≤ k → spec_GoodAttrs.f k o l nx md pf m = some (attrsOk o l nx md pf m) := g1
  replace g2 : ∀ k, K4 ≤ k → impl_GoodAttrs.f k o l nx md pf m = some (attrsOk o l nx md pf m) := g2
  replace t1 : ∀ k, K6 ≤ k → spec_TakePrefix.f k u at_ = some t := t1
  replace t2 : ∀ k, K7 ≤ k → impl_TakePrefix.f k u at_ = some t := t2
  obtain ⟨K9, g9⟩ : ∃ K9, (attrsOk o l nx md pf m = true ∧ (1 ≤ n ∧ n ≤ 65535) ∧ (1 ≤ many ∧ many ≤ 10 - (l.length : Int))) → ∀ k, K9 ≤ k → impl_GoodAttrs.f k o (ky many.toNat n ++ l) nx md pf m = some (attrsOk o (ky many.toNat n ++ l) nx md pf m) := by
    by_cases hp : attrsOk o l nx md pf m = true ∧ (1 ≤ n ∧ n ≤ 65535) ∧ (1 ≤ many ∧ many ≤ 10 - (l.length : Int))
    · obtain ⟨K9, g9⟩ := impl_GoodAttrs_is o (ky many.toNat n ++ l) nx md pf m (by simp; omega) (by omega)
      exact ⟨K9, fun _ => g9⟩
    · exact ⟨0, fun h => absurd h hp⟩
  obtain ⟨K, hK⟩ : ∃ K : Nat, K1 + K2 + K3 + K4 + K5 + K6 + K7 + K9 + 3000 ≤ K := ⟨_, Nat.le_refl _⟩
  have fin : ∀ k, K ≤ k → ((spec_DrawTakePrefix.f k l1).bind fun bt515 => ((impl_TakePrefix.f k bt515.1 bt515.2).bind fun bt517 => ((spec_TakePrefix.f k bt515.1 bt515.2).bind fun bt522 => (if (bt517.2.2.2 == bt522.2.2.2) = true then (if (bt517.1 == bt522.1 && (bt517.2.1 == bt522.2.1)) = true then (some (bt517.2.2.1 == bt522.2.2.1)) else (some false)) else (some false))))) = some true := fun k hk => by
    rw [hT k (by omega), kz]
    dsimp only
    rw [t2 k (by omega), kz, t1 k (by omega), kz, if_pos (by simp), if_pos (by simp)]
    simp
  have J5 : ∀ k, K < k → laws_FnPrepend.j5 k l1 false = some true := fun k hk => by
    obtain ⟨k, rfl⟩ : ∃ k', k = k' + 1 := ⟨k - 1, by omega⟩
    rw [laws_FnPrepend.j5, if_neg (by simp)]
    exact fin k (by omega)
  have J3 : ∀ k, K + 2 < k → laws_FnPrepend.j3 k l1 = some true := fun k hk => by
    obtain ⟨k, rfl⟩ : ∃ k', k = k' + 1 + 1 := ⟨k - 2, by omega⟩
    have hdp : spec_DrawPrefixBytes.f l1 = some (pa, pn) := by
      unfold spec_DrawPrefixBytes.f spec_DrawGoodPrefix.f
      rw [hP, kz, kz]
    rw [laws_FnPrepend.j3, hdp, kz]
    dsimp only
    by_cases hg : good pa pn = true
    · obtain ⟨r, q1, q2⟩ := PrefixBytes_same (k + 1) (by omega) pa pn
      rw [PrefixBytes_val hg (k + 1) (by omega)] at q2
      have hr := Option.some.inj q2
      have hz := prefW_size pa pn
      rw [q1, ← hr, PrefixBytes_val hg (k + 1) (by omega), kz, kz]
      dsimp only
      rw [if_neg (by simp), bne_self_eq_false, laws_FnPrepend.j4, if_neg (by simp), if_pos rfl, if_pos (by omega), TakePrefix_back hg _ (by show 1 ≤ 100; omega) k (by omega), kz]
      dsimp only
      rw [if_pos rfl, if_neg (by simp), bne_self_eq_false]
      exact J5 k (by omega)
    · have h1 : spec_PrefixBytes.f (k + 1) pa pn = some (⟨#[]⟩, false) := by unfold spec_PrefixBytes.f; rw [spec_GoodPrefix_is, kz, if_neg hg]
      have h2 : impl_PrefixBytes.f (k + 1) pa pn = some (⟨#[]⟩, false) := by unfold impl_PrefixBytes.f; rw [impl_GoodPrefix_is, kz, if_neg hg]
      rw [h1, h2, kz, kz]
      dsimp only
      rw [if_neg (by simp), bne_self_eq_false, laws_FnPrepend.j4, if_neg (by simp), if_neg (by simp)]
      exact fin k (by omega)
  have J0 : ∀ k, K + 20 < k → laws_FnPrepend.j0 k l1 n many (prepR o l nx md pf m n many).2.2.2.2.2.2 false o l nx md pf m (prepR o l nx md pf m n many).1 (prepR o l nx md pf m n many).2.1 (prepR o l nx md pf m n many).2.2.1 (prepR o l nx md pf m n many).2.2.2.1 (prepR o l nx md pf m n many).2.2.2.2.1 (prepR o l nx md pf m n many).2.2.2.2.2.1 = some true := fun k hk => by
    obtain ⟨k, rfl⟩ : ∃ k', k = k' + 1 + 1 := ⟨k - 2, by omega⟩
    by_cases hp : attrsOk o l nx md pf m = true ∧ (1 ≤ n ∧ n ≤ 65535) ∧ (1 ≤ many ∧ many ≤ 10 - (l.length : Int))
    · have e : prepR o l nx md pf m n many = (o, ky many.toNat n ++ l, nx, md, pf, m, true) := by unfold prepR; rw [if_pos hp]
      have hl10 := (attrsOk_len hp.1).1
      have hok : attrsOk o (ky many.toNat n ++ l) nx md pf m = true := by
        have h1 := hp.1
        unfold attrsOk at h1 ⊢
        simp only [ke] at h1
        rw [pathOk_append, pathOk_rep hp.2.1, h1.1, h1.2.1.2, h1.2.2.1, h1.2.2.2.1, h1.2.2.2.2.1, h1.2.2.2.2.2.1, h1.2.2.2.2.2.2]
        simp only [kj, Bool.and_true, List.length_append, List.length_replicate]
        exact decide_eq_true (by omega)
      have g9' : impl_GoodAttrs.f (k + 1) o (ky many.toNat n ++ l) nx md pf m = some true := by
        rw [g9 hp (k + 1) (by omega), hok]
      have loop : ∀ (j : Nat) (pre : List Int) (k : Nat), (∀ x, x ∈ pre → x = n) → pre.length + j ≤ 100 → K + 3 + j < k → laws_FnPrepend.l0 k l1 n (pre ++ ky j n) ((pre ++ ky j n).length : Int) (pre.length : Int) = some true := by
        intro j
        induction j with
        | zero =>
          intro pre k _ _ hk
          obtain ⟨k, rfl⟩ : ∃ k', k = k' + 1 := ⟨k - 1, by omega⟩
          rw [laws_FnPrepend.l0, if_neg (by simp)]
          exact J3 k (by omega)
        | succ j ih =>
          intro pre k hpre hlen hk
          obtain ⟨k, rfl⟩ : ∃ k', k = k' + 1 := ⟨k - 1, by omega⟩
          have h2 : rd (pre ++ ky (j + 1) n) (pre.length : Int) = n := by rw [kd]; exact rd_mid _ _ _
          have hw : wrap64 ((pre.length : Int) + 1) = ((pre ++ [n]).length : Int) := by rw [wrap_id (by omega) (by omega)]; simp
          have := ih (pre ++ [n]) k (fun x hx => by
            rcases List.mem_append.1 hx with h | h
            · exact hpre x h
            · exact List.mem_singleton.1 h) (by simp; omega) (by omega)
          rw [show pre ++ [n] ++ ky j n = pre ++ ky (j + 1) n by rw [kd, kg]; rfl] at this
          rw [laws_FnPrepend.l0, if_pos (by simp; omega), if_pos (by omega), if_pos (by simp; omega), h2, if_pos rfl, hw]
          exact this
      rw [e]
      dsimp only
      rw [laws_FnPrepend.j0, if_neg (by simp), if_pos rfl, g9', kz, if_pos rfl, if_pos (by rw [wrap_id (by omega) (by omega)]; simp; omega), if_pos (by omega), if_pos (by simp; omega), List.drop_left' (by simp), sameInts_self l (by omega) _ (by omega), kz, Bool.not_true, laws_FnPrepend.j1, if_neg (by simp), if_pos (by omega), if_pos (by simp; omega), kz, List.take_left' (by simp)]
      exact loop many.toNat [] k (by simp) (by simp; omega) (by omega)
    · have e : prepR o l nx md pf m n many = (0, [], 0, 0, 0, [], false) := by unfold prepR; rw [if_neg hp]
      rw [e]
      dsimp only
      rw [laws_FnPrepend.j0, if_neg (by simp), if_neg (by simp)]
      exact J3 (k + 1) (by omega)
  have hlen : (prepR o l nx md pf m n many).2.1.length ≤ 60 ∧ (prepR o l nx md pf m n many).2.2.2.2.2.1.length ≤ 10 := by
    unfold prepR
    by_cases h : attrsOk o l nx md pf m = true ∧ (1 ≤ n ∧ n ≤ 65535) ∧ (1 ≤ many ∧ many ≤ 10 - (l.length : Int))
    · rw [if_pos h]; simp; omega
    · rw [if_neg h]; simp
  have sA : laws_sameAttrs.f (K + 100) (prepR o l nx md pf m n many).1 (prepR o l nx md pf m n many).2.1 (prepR o l nx md pf m n many).2.2.1 (prepR o l nx md pf m n many).2.2.2.1 (prepR o l nx md pf m n many).2.2.2.2.1 (prepR o l nx md pf m n many).2.2.2.2.2.1 (prepR o l nx md pf m n many).1 (prepR o l nx md pf m n many).2.1 (prepR o l nx md pf m n many).2.2.1 (prepR o l nx md pf m n many).2.2.2.1 (prepR o l nx md pf m n many).2.2.2.2.1 (prepR o l nx md pf m n many).2.2.2.2.2.1 = some true := by
    unfold laws_sameAttrs.f
    rw [if_pos rfl, if_pos rfl, if_pos rfl, if_pos rfl, sameInts_self _ (by omega) _ (by omega), kz, if_pos rfl, sameInts_self _ (by omega) _ (by omega), kz]
  refine ⟨K + 100, ?_⟩
  unfold laws_FnPrepend.f
  rw [if_neg hsz, hD _ (by omega), kz]
  dsimp only
  rw [r2 _ (by omega), kz, r1 _ (by omega), kz, if_neg (by simp), sA, kz, if_pos rfl, g2 _ (by omega), kz, g1 _ (by omega), kz, bne_self_eq_false]
  exact J0 (K + 100) (by omega)
end Go.Proofs.Ytlnfcobloolnnaa.Pure
