/- The pure statement of FnExactTakeMsg: what the printed functions tell is what the reference tells. No condition but the arguments' own bounds. -/
import Derived.Test.YtkkchcalhomgcaaPFnExactTakeMsgx9
import Derived.Test.YtkkchcalhomgcaaPfx
import Derived.Test.YtkkchcalhomgcaaMsg
import Derived.Test.YtkkchcalhomgcaaLoop
namespace Go.Proofs.Ytkkchcalhomgcaa.Pure
namespace FnExactTakeMsgUses
open Go.RowKit Go.Proofs.Ytkkchcalhomgcaa.PFnExactTakeMsg Go.Proofs.YtkkchcalhomgcaaW.PrintWords Go.Proofs.YtkkchcalhomgcaaW.PrintLast Go.Proofs.YtkkchcalhomgcaaW.PrintMore Go.Proofs.Ytkkchcalhomgcaa.Pfx Go.Proofs.Ytkkchcalhomgcaa.Msg Go.Proofs.Ytkkchcalhomgcaa.Loop
set_option linter.unusedVariables false
set_option linter.unusedSimpArgs false

theorem spec_l1In_is (a lo hi : Int) : spec_l1In.f a lo hi = some (decide (lo ≤ a ∧ a ≤ hi)) := by
  unfold spec_l1In.f
  by_cases h : lo ≤ a
  · rw [if_pos h]; simp [h]
  · rw [if_neg h]; simp [h]
theorem impl_within_is (a lo hi : Int) : impl_within.f a lo hi = some (decide (lo ≤ a ∧ a ≤ hi)) := by
  unfold impl_within.f
  by_cases h : lo ≤ a
  · rw [if_pos h]; simp [h]
  · rw [if_neg h]; simp [h]
theorem spec_GoodMsg_is (a : Int) (b : ByteArray) : spec_GoodMsg.f a b = some (goodMsg a b) := by
  unfold spec_GoodMsg.f goodMsg
  rw [spec_l1In_is, Option.bind_some]
  by_cases h : 1 ≤ a ∧ a ≤ 4
  · rw [if_pos (decide_eq_true h), if_pos h]
    by_cases h2 : (b.size : Int) ≤ 60
    · rw [if_pos h2, if_pos h2]
      by_cases h3 : a = 4
      · rw [if_pos h3, if_pos h3]
      · rw [if_neg h3, if_neg h3]
    · rw [if_neg h2, if_neg h2]
  · rw [if_neg (by simpa using h), if_neg h]
theorem impl_GoodMsg_is (a : Int) (b : ByteArray) : impl_GoodMsg.f a b = some (goodMsg a b) := by
  unfold impl_GoodMsg.f goodMsg
  rw [impl_within_is, Option.bind_some]
  by_cases h : 1 ≤ a ∧ a ≤ 4
  · rw [if_pos (decide_eq_true h), if_pos h]
    by_cases h2 : (b.size : Int) ≤ 60
    · rw [if_pos h2, if_pos h2]
      by_cases h3 : a = 4
      · rw [if_pos h3, if_pos h3]
      · rw [if_neg h3, if_neg h3]
    · rw [if_neg h2, if_neg h2]
  · rw [if_neg (by simpa using h), if_neg h]
theorem laws_szMsg_is (a : Int) (b : ByteArray) (n : Int) : ∃ r, laws_szMsg.f a b n = some r := by
  unfold laws_szMsg.f
  by_cases h : wrap64 (n - (b.size : Int)) < 0
  · exact ⟨_, if_pos h⟩
  · exact ⟨_, if_neg h⟩
theorem rdm_Msg (pre : List S26) (a : S26) (rest : List S26) : rd_T26 (pre ++ a :: rest) (pre.length : Int) = a := by unfold rd_T26; simp
theorem rdm_LMsg (pre : List S23) (a : S23) (rest : List S23) : rd_T23 (pre ++ a :: rest) (pre.length : Int) = a := by unfold rd_T23; simp
theorem laws_eqMsg_refl (a : Int) (b : ByteArray) : laws_eqMsg.f a b a b = some true := by unfold laws_eqMsg.f; rw [if_pos rfl, if_pos rfl]
theorem laws_eqMsgS_refl (k : Nat) (l : List S26) (hl : l.length ≤ maxLen) (hk : l.length < k) : laws_eqMsgS.f k l l = some true := by
  unfold laws_eqMsgS.f
  rw [if_pos rfl]
  have key : ∀ (rest pre : List S26) (k : Nat), l = pre ++ rest → rest.length < k → laws_eqMsgS.l0 k l l (pre.length : Int) = some true := by
    intro rest
    induction rest with
    | nil =>
      intro pre k e hk
      obtain ⟨k, rfl⟩ : ∃ m, k = m + 1 := ⟨k - 1, by omega⟩
      simp only [laws_eqMsgS.l0]
      rw [if_neg (by rw [e]; simp)]
    | cons a rest ih =>
      intro pre k e hk
      obtain ⟨k, rfl⟩ : ∃ m, k = m + 1 := ⟨k - 1, by omega⟩
      simp only [laws_eqMsgS.l0]
      rw [if_pos (by rw [e]; exact lt_mid _ _ _), if_pos (len_nn _), if_pos (by rw [e]; exact lt_mid _ _ _), laws_eqMsg_refl]
      simp only [Option.bind_some, if_true]
      rw [wrap_mid (rest := rest) (by rw [← e]; exact hl)]
      exact ih (pre ++ [a]) k (by rw [e]; simp) (by simp at hk; omega)
  exact key l [] k rfl hk
theorem laws_markText_ex (x : Int) (hx : x ≤ 9000000000000000000) : ∃ r, Ev (fun k => laws_markText.f k x) r := by
  have key : ∀ (n : Nat) (x : Int) (s : ByteArray), x.toNat ≤ n → s.size + n ≤ 9000000000000000000 → ∃ r, Ev (fun k => laws_markText.l0 k x s) r := by
    intro n
    induction n with
    | zero =>
      intro x s h hs
      refine ⟨(⟨#[109]⟩ : ByteArray) ++ s, Ev.step (f := fun _ => some ((⟨#[109]⟩ : ByteArray) ++ s)) (fun k => ?_) (Ev.now _)⟩
      simp only [laws_markText.l0]
      rw [if_neg (by omega), if_pos (by omega)]
    | succ n ih =>
      intro x s h hs
      by_cases h0 : x > 0
      · have hd : Int.tdiv x 10 = x / 10 := Int.tdiv_eq_ediv_of_nonneg (by omega)
        have h1 : (strOfNums [(wrap64 (48 + (Int.tmod x 10))) % 256]).size = 1 := by rw [strOfNums_size]; rfl
        obtain ⟨r, hr⟩ := ih (wrap64 (Int.tdiv x 10)) (strOfNums [(wrap64 (48 + (Int.tmod x 10))) % 256] ++ s) (by rw [hd, wrap_id (by omega) (by omega)]; omega) (by rw [ByteArray.size_append, h1]; omega)
        refine ⟨r, Ev.step (fun k => ?_) hr⟩
        simp only [laws_markText.l0, Option.bind_some]
        rw [if_pos h0, if_pos (by rw [h1]; omega)]
      · refine ⟨(⟨#[109]⟩ : ByteArray) ++ s, Ev.step (f := fun _ => some ((⟨#[109]⟩ : ByteArray) ++ s)) (fun k => ?_) (Ev.now _)⟩
        simp only [laws_markText.l0]
        rw [if_neg h0, if_pos (by omega)]
  unfold laws_markText.f
  by_cases h : x ≤ 0
  · exact ⟨_, Ev.congr (fun k => if_pos h) (Ev.now _)⟩
  · obtain ⟨r, hr⟩ := key x.toNat x ⟨#[]⟩ (Nat.le_refl _) (by have : (ByteArray.mk #[]).size = 0 := rfl
                                                              omega)
    exact ⟨r, Ev.congr (fun k => if_neg h) hr⟩
noncomputable def mkText (x : Int) : ByteArray := open Classical in if h : ∃ r, Ev (fun k => laws_markText.f k x) r then h.choose else ⟨#[]⟩
theorem laws_markText_is (x : Int) (hx : x ≤ 9000000000000000000) : Ev (fun k => laws_markText.f k x) (mkText x) := by
  unfold mkText
  rw [dif_pos (laws_markText_ex x hx)]
  exact (laws_markText_ex x hx).choose_spec
noncomputable def mk_Msg : Int → Nat → List S26
  | _, 0 => []
  | q, n + 1 => ⟨q, mkText (q + 1)⟩ :: mk_Msg (q + 2) n
theorem mk_Msg_len (q : Int) (n : Nat) : (mk_Msg q n).length = n := by
  induction n generalizing q with
  | zero => rfl
  | succ n ih => simp [mk_Msg, ih]
theorem laws_markMsgS_is (l : List S26) (hl : l.length ≤ 1000000000) (q : Int) (hq : 0 ≤ q) (hq2 : q ≤ 1000000000000) : Ev (fun k => laws_markMsgS.f k l q) (q + 2 * l.length, mk_Msg q l.length) := by
  have key : ∀ (rest pre : List S26) (q : Int), 0 ≤ q → q + 2 * rest.length ≤ 4000000000000 → (pre ++ rest).length ≤ 1000000000 →
      Ev (fun k => laws_markMsgS.l0 k (pre ++ rest) q (pre.length : Int)) (q + 2 * rest.length, pre ++ mk_Msg q rest.length) := by
    intro rest
    induction rest with
    | nil =>
      intro pre q h0 h1 h2
      refine Ev.step (f := fun _ => some (q + 2 * (([] : List S26).length : Int), pre ++ mk_Msg q ([] : List S26).length)) (fun k => ?_) (Ev.now _)
      simp only [laws_markMsgS.l0]
      rw [if_neg (by simp)]
      simp [mk_Msg]
    | cons a rest ih =>
      intro pre q h0 h1 h2
      simp only [List.length_cons] at h1
      have hi := ih (pre ++ [⟨q, mkText (q + 1)⟩]) (q + 2) (by omega) (by omega) (by simp at h2 ⊢; omega)
      refine Ev.step (f := fun k => (laws_markText.f k (q + 1)).bind fun t => laws_markMsgS.l0 k (pre ++ (⟨q, t⟩ : S26) :: rest) (q + 2) ((pre ++ [a]).length : Int)) (fun k => ?_) (Ev.bind (laws_markText_is (q + 1) (by omega)) ?_)
      · simp only [laws_markMsgS.l0]
        rw [if_pos (lt_mid _ _ _), if_pos (len_nn _), rdm_Msg, set_mid, Option.bind_some, wrap_id (x := q + 1) (by omega) (by omega), wrap_id (x := q + 1 + 1) (by omega) (by omega), wrap_mid (a := a) (rest := rest) (by simp only [maxLen, List.length_append, List.length_cons] at h2 ⊢; omega)]
        rw [show q + 1 + 1 = q + 2 by omega]
        simp only [rdm_Msg, set_mid]
      · have e : (q + 2 + 2 * (rest.length : Int), pre ++ [(⟨q, mkText (q + 1)⟩ : S26)] ++ mk_Msg (q + 2) rest.length) = (q + 2 * ((a :: rest).length : Int), pre ++ mk_Msg q (a :: rest).length) := by
          simp [mk_Msg]; omega
        rw [← e, snoc_cons]
        have hl : ((pre ++ [a]).length : Int) = ((pre ++ [(⟨q, mkText (q + 1)⟩ : S26)]).length : Int) := by simp
        rw [hl]; exact hi
  unfold laws_markMsgS.f
  have := key l [] q hq (by omega) (by simpa using hl)
  simpa using this
theorem laws_heldMsgS_is (n : Nat) (hn : n ≤ 1000000000) (q : Int) (hq : 0 ≤ q) (hq2 : q ≤ 1000000000000) : Ev (fun k => laws_heldMsgS.f k (mk_Msg q n) q) (q + 2 * n) := by
  have key : ∀ (n : Nat) (pre : List S26) (q : Int), 0 ≤ q → q + 2 * n ≤ 4000000000000 → pre.length + n ≤ 1000000000 →
      Ev (fun k => laws_heldMsgS.l0 k (pre ++ mk_Msg q n) q (pre.length : Int)) (q + 2 * n) := by
    intro n
    induction n with
    | zero =>
      intro pre q h0 h1 h2
      rw [show mk_Msg q 0 = [] from rfl, List.append_nil]
      refine Ev.step (f := fun _ => some (q + 2 * ((0 : Nat) : Int))) (fun k => ?_) (Ev.now _)
      simp only [laws_heldMsgS.l0]
      rw [if_neg (by omega)]
      simp
    | succ n ih =>
      intro pre q h0 h1 h2
      rw [show mk_Msg q (n + 1) = ⟨q, mkText (q + 1)⟩ :: mk_Msg (q + 2) n from rfl]
      have hlen : (pre ++ (⟨q, mkText (q + 1)⟩ : S26) :: mk_Msg (q + 2) n).length ≤ maxLen := by
        simp only [maxLen, List.length_append, List.length_cons, mk_Msg_len]; omega
      refine Ev.step (f := fun k => (laws_markText.f k (q + 1)).bind fun t => if (mkText (q + 1)).toList = t.toList then laws_heldMsgS.l0 k (pre ++ (⟨q, mkText (q + 1)⟩ : S26) :: mk_Msg (q + 2) n) (q + 2) ((pre ++ [(⟨q, mkText (q + 1)⟩ : S26)]).length : Int) else some (-1)) (fun k => ?_) (Ev.bind (laws_markText_is (q + 1) (by omega)) ?_)
      · simp only [laws_heldMsgS.l0]
        rw [if_pos (lt_mid _ _ _), if_pos (len_nn _), rdm_Msg, if_pos rfl, wrap_id (x := q + 1) (by omega) (by omega), wrap_id (x := q + 1 + 1) (by omega) (by omega), wrap_mid hlen, show q + 1 + 1 = q + 2 by omega]
      · refine Ev.congr (fun k => if_pos rfl) ?_
        rw [snoc_cons]
        have := ih (pre ++ [⟨q, mkText (q + 1)⟩]) (q + 2) (by omega) (by omega) (by simp; omega)
        rw [show q + 2 * ((n + 1 : Nat) : Int) = q + 2 + 2 * (n : Int) by omega]
        exact this
  unfold laws_heldMsgS.f
  have := key n [] q hq (by omega) (by simpa using hn)
  simpa using this
def stepF (i b c : Int) : Int := if i < 2 ∧ b ≠ 255 then 1 else if (i = 2 ∧ ¬ (5 ≤ b ∧ b ≤ 65)) ∨ (i = 3 ∧ b ≠ 0) then 2 else if i = 4 ∧ ¬ (1 ≤ b ∧ b ≤ 4) then 3 else if i = 4 ∧ b = 4 ∧ c ≠ 5 then 4 else 0
def flt (s : ByteArray) : Nat → Int → Int
  | 0, _ => 0
  | n + 1, i => if stepF i (bt s i) (bt s 2) = 0 then flt s n (i + 1) else stepF i (bt s i) (bt s 2)
theorem flt_step {s : ByteArray} {n : Nat} {i : Int} (h : flt s (n + 1) i = 0) : stepF i (bt s i) (bt s 2) = 0 ∧ flt s n (i + 1) = 0 := by
  simp only [flt] at h
  by_cases h1 : stepF i (bt s i) (bt s 2) = 0
  · rw [if_pos h1] at h; exact ⟨h1, h⟩
  · rw [if_neg h1] at h; exact absurd h h1
def fault (s : ByteArray) : Int := flt s (min 5 s.size) 0
theorem fault_len {s : ByteArray} (h : fault s = 0) (h5 : 5 ≤ s.size) : 5 ≤ bt s 2 ∧ bt s 2 ≤ 65 := by
  unfold fault at h
  rw [show min 5 s.size = 5 by omega] at h
  have h2 := (flt_step (flt_step (flt_step h).2).2).1
  simp [stepF] at h2
  omega
theorem spec_l5Fault_step (s : ByteArray) (i : Int) (h0 : 0 ≤ i) (h1 : i < s.size) (h5 : i < 5) (k : Nat) :
    spec_l5Fault.l0 (k + 6) s i = if stepF i (bt s i) (bt s 2) = 0 then spec_l5Fault.l0 k s (i + 1) else some (stepF i (bt s i) (bt s 2)) := by
  have hb := bt_range s i
  have hc := bt_range s 2
  have hi : i = 0 ∨ i = 1 ∨ i = 2 ∨ i = 3 ∨ i = 4 := by omega
  simp only [spec_l5Fault.l0, spec_l5Fault.j1, spec_l5Fault.j2, spec_l5Fault.j3, spec_l5Fault.j4, spec_l5Fault.j5, spec_l1In_is, Option.bind_some]
  rw [if_pos h1, if_pos (decide_eq_true h5), if_pos h0, if_pos h1]
  rw [wrap_id (x := bt s i) (by omega) (by omega), wrap_id (x := i + 1) (by omega) (by omega)]
  unfold stepF
  rcases hi with rfl | rfl | rfl | rfl | rfl
  · by_cases hx : bt s 0 = 255 <;> simp [hx]
  · by_cases hx : bt s 1 = 255 <;> simp [hx]
  · by_cases hx : 5 ≤ bt s 2 ∧ bt s 2 ≤ 65
    · simp [hx]
    · simp [hx]
  · by_cases hx : bt s 3 = 0 <;> simp [hx]
  · have h2 : (2 : Int) < s.size := by omega
    by_cases hx : 1 ≤ bt s 4 ∧ bt s 4 ≤ 4
    · by_cases hy : bt s 4 = 4
      · by_cases hz : bt s 2 = 5 <;> simp [hy, hz, h2]
      · simp [hx, hy]
    · simp [hx]
theorem impl_headFault_step (s : ByteArray) (m i : Int) (h0 : 0 ≤ i) (hm : i < m) (h1 : i < s.size) (h5 : i < 5) (hv : i = 4 → 5 ≤ bt s 2) (k : Nat) :
    impl_headFault.l0 (k + 5) s m i = if stepF i (bt s i) (bt s 2) = 0 then impl_headFault.l0 k s m (i + 1) else some (stepF i (bt s i) (bt s 2)) := by
  have hb := bt_range s i
  have hc := bt_range s 2
  have hi : i = 0 ∨ i = 1 ∨ i = 2 ∨ i = 3 ∨ i = 4 := by omega
  simp only [impl_headFault.l0, impl_headFault.j1, impl_headFault.j2, impl_headFault.j3, impl_headFault.j4, impl_within_is, Option.bind_some]
  rw [if_pos hm, if_pos h0, if_pos h1]
  rw [wrap_id (x := bt s i) (by omega) (by omega), wrap_id (x := i + 1) (by omega) (by omega)]
  unfold stepF
  rcases hi with rfl | rfl | rfl | rfl | rfl
  · by_cases hx : bt s 0 = 255 <;> simp [hx]
  · by_cases hx : bt s 1 = 255 <;> simp [hx]
  · by_cases hx : 5 ≤ bt s 2 ∧ bt s 2 ≤ 65
    · simp [hx]
    · simp [hx]
  · by_cases hx : bt s 3 = 0 <;> simp [hx]
  · have h2 : (2 : Int) < s.size := by omega
    have hv := hv rfl
    by_cases hx : 1 ≤ bt s 4 ∧ bt s 4 ≤ 4
    · by_cases hy : bt s 4 = 4
      · by_cases hz : bt s 2 = 5
        · simp [hy, hz, h2]
        · have hz' : bt s 2 > 5 := by omega
          simp [hy, hz, hz', h2]
      · simp [hx, hy]
    · simp [hx]
theorem fault_is (s : ByteArray) : Ev (fun k => spec_l5Fault.f k s) (fault s) ∧ Ev (fun k => impl_headFault.f k s) (fault s) := by
  have hm : mn 5 (s.size : Int) = ((min 5 s.size : Nat) : Int) := by
    unfold mn
    by_cases h : (s.size : Int) < 5
    · rw [if_pos h]; omega
    · rw [if_neg h]; omega
  have key : ∀ (n : Nat) (i : Int), 0 ≤ i → i + n = ((min 5 s.size : Nat) : Int) → (3 ≤ i → 5 ≤ bt s 2) →
      Ev (fun k => spec_l5Fault.l0 k s i) (flt s n i) ∧ Ev (fun k => impl_headFault.l0 k s (mn 5 (s.size : Int)) i) (flt s n i) := by
    intro n
    induction n with
    | zero =>
      intro i h0 h1 hv
      constructor
      · refine ⟨2, fun k hk => ?_⟩
        obtain ⟨k, rfl⟩ : ∃ m, k = m + 2 := ⟨k - 2, by omega⟩
        simp only [spec_l5Fault.l0, spec_l5Fault.j1, flt]
        by_cases h : i < (s.size : Int)
        · rw [if_pos h, if_neg]
          simp; omega
        · rw [if_neg h]; rfl
      · refine ⟨1, fun k hk => ?_⟩
        obtain ⟨k, rfl⟩ : ∃ m, k = m + 1 := ⟨k - 1, by omega⟩
        simp only [impl_headFault.l0, flt]
        rw [if_neg (by omega)]
    | succ n ih =>
      intro i h0 h1 hv
      have hs : i < s.size := by omega
      have h5 : i < 5 := by omega
      have e1 := spec_l5Fault_step s i h0 hs h5
      have e2 := impl_headFault_step s (mn 5 (s.size : Int)) i h0 (by omega) hs h5 (fun h => hv (by omega))
      simp only [flt]
      by_cases hc : stepF i (bt s i) (bt s 2) = 0
      · obtain ⟨⟨K1, i1⟩, ⟨K2, i2⟩⟩ := ih (i + 1) (by omega) (by omega) (fun h => by
          by_cases h3 : 3 ≤ i
          · exact hv h3
          · have : i = 2 := by omega
            subst this
            simp [stepF] at hc
            omega)
        rw [if_pos hc]
        constructor
        · refine ⟨K1 + 6, fun k hk => ?_⟩
          obtain ⟨k, rfl⟩ : ∃ m, k = m + 6 := ⟨k - 6, by omega⟩
          show spec_l5Fault.l0 (k + 6) s i = _
          rw [e1, if_pos hc]; exact i1 k (by omega)
        · refine ⟨K2 + 5, fun k hk => ?_⟩
          obtain ⟨k, rfl⟩ : ∃ m, k = m + 5 := ⟨k - 5, by omega⟩
          show impl_headFault.l0 (k + 5) s _ i = _
          rw [e2, if_pos hc]; exact i2 k (by omega)
      · rw [if_neg hc]
        constructor
        · refine ⟨6, fun k hk => ?_⟩
          obtain ⟨k, rfl⟩ : ∃ m, k = m + 6 := ⟨k - 6, by omega⟩
          show spec_l5Fault.l0 (k + 6) s i = _
          rw [e1, if_neg hc]
        · refine ⟨5, fun k hk => ?_⟩
          obtain ⟨k, rfl⟩ : ∃ m, k = m + 5 := ⟨k - 5, by omega⟩
          show impl_headFault.l0 (k + 5) s _ i = _
          rw [e2, if_neg hc]
  exact key (min 5 s.size) 0 (Int.le_refl _) (by omega) (by omega)
theorem bytes_nil {s : ByteArray} (h : s.size = 0) : s = (⟨#[]⟩ : ByteArray) := by
  have e : s.data.size = 0 := h
  have e2 : s.data = #[] := Array.eq_empty_of_size_eq_zero e
  cases s
  simp only at e2
  rw [e2]
theorem toList_nil {s : ByteArray} : s.toList = ([] : List UInt8) ↔ s.size = 0 := by
  rw [ByteArray.toList_eq]
  constructor
  · intro h
    have : s.data.toList.length = 0 := by rw [h]; rfl
    simpa using this
  · intro h
    rw [bytes_nil h]
theorem cut_is : ∀ (n : Nat) (s : ByteArray) (acc : List S26), s.size ≤ n → acc.length + s.size ≤ 3000000 → ∃ r, Ev (fun k => spec_l5Cut.l0 k s acc) r ∧ Ev (fun k => impl_cutAll.l0 k s acc) r ∧ acc.length ≤ r.1.length ∧ r.1.length ≤ acc.length + s.size ∧ (65 < s.size → r.2.2 = 0 → acc.length < r.1.length) := by
  intro n
  induction n with
  | zero =>
    intro s acc hn hb
    have hnil : s = (⟨#[]⟩ : ByteArray) := bytes_nil (by omega)
    refine ⟨(acc, ⟨#[]⟩, 0), ⟨1, fun k hk => ?_⟩, ?_, by simp, by simp, by intro h; omega⟩
    · obtain ⟨k, rfl⟩ : ∃ m, k = m + 1 := ⟨k - 1, by omega⟩
      simp only [spec_l5Cut.l0]
      rw [if_pos (toList_nil.mpr (by omega))]
    · refine Ev.step (fun k => rfl) (Ev.bind (fault_is s).2 ?_)
      rw [show fault s = 0 by unfold fault; rw [show min 5 s.size = 0 by omega]; rfl]
      refine ⟨0, fun k hk => ?_⟩
      show (if (0 : Int) = 0 then _ else _) = _
      rw [if_pos rfl, if_pos (by omega), hnil]
  | succ n ih =>
    intro s acc hn hb
    by_cases hnil : s.toList = ([] : List UInt8)
    · have hz : s.size = 0 := toList_nil.mp hnil
      exact ih s acc (by omega) hb
    · have hs := (fault_is s).1
      have hi := (fault_is s).2
      by_cases hf : fault s = 0
      · by_cases h5 : (s.size : Int) < 5
        · refine ⟨(acc, s, 0), ?_, ?_, by simp, by simp, by intro h; omega⟩
          · refine Ev.step (f := fun k => (spec_l5Fault.f k s).bind fun t => if t = 0 then some (acc, s, 0) else some (acc, ⟨#[]⟩, t)) (fun k => ?_) (Ev.bind hs (Ev.congr (fun k => if_pos hf) (Ev.now _)))
            simp only [spec_l5Cut.l0]
            rw [if_neg hnil]; simp only [if_pos h5]
          · refine Ev.step (f := fun k => (impl_headFault.f k s).bind fun t => if t = 0 then some (acc, s, 0) else some (acc, ⟨#[]⟩, t)) (fun k => ?_) (Ev.bind hi (Ev.congr (fun k => if_pos hf) (Ev.now _)))
            simp only [impl_cutAll.l0]
            simp only [if_pos h5]
        · have hl := fault_len hf (by omega)
          have hw : wrap64 (bt s 2) = bt s 2 := wrap_id (by omega) (by omega)
          have h2 : (2 : Int) < s.size := by omega
          by_cases h6 : (s.size : Int) < bt s 2
          · refine ⟨(acc, s, 0), ?_, ?_, by simp, by simp, by intro h; omega⟩
            · refine Ev.step (f := fun k => (spec_l5Fault.f k s).bind fun t => if t = 0 then some (acc, s, 0) else some (acc, ⟨#[]⟩, t)) (fun k => ?_) (Ev.bind hs (Ev.congr (fun k => if_pos hf) (Ev.now _)))
              simp only [spec_l5Cut.l0]
              rw [if_neg hnil]; simp only [if_neg h5, hw, if_pos h2, if_pos h6]
            · refine Ev.step (f := fun k => (impl_headFault.f k s).bind fun t => if t = 0 then some (acc, s, 0) else some (acc, ⟨#[]⟩, t)) (fun k => ?_) (Ev.bind hi (Ev.congr (fun k => if_pos hf) (Ev.now _)))
              simp only [impl_cutAll.l0]
              simp only [if_neg h5, hw, if_pos h2, if_pos h6]
          · have hsz : (s.extract (bt s 2).toNat s.size).size = s.size - (bt s 2).toNat := by simp [ByteArray.size_extract]
            obtain ⟨r, r1, r2, r3, r4, r5⟩ := ih (s.extract (bt s 2).toNat s.size) (acc ++ [(⟨wrap64 (bt s 4), s.extract 5 (bt s 2).toNat⟩ : S26)]) (by rw [hsz]; omega) (by rw [hsz]; simp; omega)
            have h4 : (4 : Int) < s.size := by omega
            have h7 : bt s 2 ≤ s.size := by omega
            have h8 : acc.length < 5864062014805 := by omega
            have h9 : 0 ≤ bt s 2 := by omega
            simp only [List.length_append, List.length_singleton] at r3 r4
            refine ⟨r, ?_, ?_, by omega, by rw [hsz] at r4; omega, by intro _ _; omega⟩
            · refine Ev.step (f := fun k => (spec_l5Fault.f k s).bind fun t => if t = 0 then spec_l5Cut.l0 k (s.extract (bt s 2).toNat s.size) (acc ++ [(⟨wrap64 (bt s 4), s.extract 5 (bt s 2).toNat⟩ : S26)]) else some (acc, ⟨#[]⟩, t)) (fun k => ?_) (Ev.bind hs (Ev.congr (fun k => if_pos hf) r1))
              simp only [spec_l5Cut.l0]
              rw [if_neg hnil]; simp only [if_neg h5, hw, if_pos h2, if_neg h6, if_pos h4, if_pos hl.1, if_pos h7, if_pos h8, if_pos h9]
            · refine Ev.step (f := fun k => (impl_headFault.f k s).bind fun t => if t = 0 then impl_cutAll.l0 k (s.extract (bt s 2).toNat s.size) (acc ++ [(⟨wrap64 (bt s 4), s.extract 5 (bt s 2).toNat⟩ : S26)]) else some (acc, ⟨#[]⟩, t)) (fun k => ?_) (Ev.bind hi (Ev.congr (fun k => if_pos hf) r2))
              simp only [impl_cutAll.l0]
              simp only [if_neg h5, hw, if_pos h2, if_neg h6, if_pos h4, if_pos hl.1, if_pos h7, if_pos h8, if_pos h9]
      · refine ⟨(acc, ⟨#[]⟩, fault s), ?_, ?_, by simp, by simp, fun _ h => absurd h hf⟩
        · obtain ⟨K, hK⟩ := hs
          refine ⟨K + 1, fun k hk => ?_⟩
          obtain ⟨k, rfl⟩ : ∃ m, k = m + 1 := ⟨k - 1, by omega⟩
          have hk2 : spec_l5Fault.f k s = some (fault s) := hK k (by omega)
          simp only [spec_l5Cut.l0]
          rw [if_neg hnil, hk2, Option.bind_some, if_neg hf]
        · obtain ⟨K, hK⟩ := hi
          refine ⟨K + 1, fun k hk => ?_⟩
          obtain ⟨k, rfl⟩ : ∃ m, k = m + 1 := ⟨k - 1, by omega⟩
          have hk2 : impl_headFault.f k s = some (fault s) := hK k (by omega)
          simp only [impl_cutAll.l0]
          rw [hk2, Option.bind_some, if_neg hf]
theorem laws_toMsgS_is (k : Nat) (l : List S23) (hl : l.length ≤ 1048576) (hk : l.length < k) : laws_toMsgS.f k l = some (l.map fun p => (⟨p.f0, p.f1⟩ : S26)) := by
  unfold laws_toMsgS.f
  rw [if_pos (len_nn _), if_pos (by simp; omega)]
  have key : ∀ (rest pre : List S23) (k : Nat), l = pre ++ rest → rest.length < k →
      laws_toMsgS.l0 k l ((pre.map fun p => (⟨p.f0, p.f1⟩ : S26)) ++ List.replicate rest.length z26) (pre.length : Int) = some (l.map fun p => (⟨p.f0, p.f1⟩ : S26)) := by
    intro rest
    induction rest with
    | nil =>
      intro pre k e hk
      obtain ⟨k, rfl⟩ : ∃ m, k = m + 1 := ⟨k - 1, by omega⟩
      simp only [laws_toMsgS.l0]
      rw [if_neg (by rw [e]; simp)]
      simp [e]
    | cons a rest ih =>
      intro pre k e hk
      obtain ⟨k, rfl⟩ : ∃ m, k = m + 1 := ⟨k - 1, by omega⟩
      simp only [laws_toMsgS.l0, laws_toMsg.f, Option.bind_some]
      rw [if_pos (by rw [e]; exact lt_mid _ _ _), if_pos (len_nn _), if_pos (by simp; omega), wrap_mid (rest := rest) (by rw [← e]; simp only [maxLen]; omega)]
      have h1 : rd_T23 l (pre.length : Int) = a := by rw [e]; exact rdm_LMsg _ _ _
      rw [h1, List.length_cons, List.replicate_succ]
      have h2 := ih (pre ++ [a]) k (by rw [e]; simp) (by simp at hk; omega)
      have h3 : ((pre.map fun p => (⟨p.f0, p.f1⟩ : S26)) ++ z26 :: List.replicate rest.length z26).set ((pre.length : Int)).toNat (⟨a.f0, a.f1⟩ : S26) = ((pre ++ [a]).map fun p => (⟨p.f0, p.f1⟩ : S26)) ++ List.replicate rest.length z26 := by
        have := set_mid (pre.map fun p => (⟨p.f0, p.f1⟩ : S26)) z26 ⟨a.f0, a.f1⟩ (List.replicate rest.length z26)
        rw [List.length_map] at this
        rw [this]; simp
      rw [h3]; exact h2
  have := key l [] k rfl hk
  simpa using this
theorem laws_szMsgS_ex (l : List S23) (hl : l.length ≤ maxLen) (n : Int) : ∃ r, Ev (fun k => laws_szMsgS.f k l n) r ∧ (¬ r < 0 → ¬ wrap64 (n - (l.length : Int)) < 0) := by
  by_cases h : wrap64 (n - (l.length : Int)) < 0
  · exact ⟨-1, Ev.congr (fun k => by unfold laws_szMsgS.f; rw [if_pos h]) (Ev.now _), fun h' => absurd (by omega) h'⟩
  · have key : ∀ (rest pre : List S23) (n : Int), l = pre ++ rest → ∃ r, Ev (fun k => laws_szMsgS.l0 k l n (pre.length : Int)) r := by
      intro rest
      induction rest with
      | nil =>
        intro pre n e
        refine ⟨n, Ev.step (f := fun _ => some n) (fun k => ?_) (Ev.now _)⟩
        simp only [laws_szMsgS.l0]
        rw [if_neg (by rw [e]; simp)]
      | cons a rest ih =>
        intro pre n e
        obtain ⟨t, ht⟩ := laws_szMsg_is a.f0 a.f1 n
        obtain ⟨r, hr⟩ := ih (pre ++ [a]) t (by rw [e]; simp)
        have h1 : rd_T23 l (pre.length : Int) = a := by rw [e]; exact rdm_LMsg _ _ _
        by_cases h2 : t < 0
        · refine ⟨-1, Ev.step (f := fun _ => some (-1)) (fun k => ?_) (Ev.now _)⟩
          simp only [laws_szMsgS.l0]
          rw [if_pos (by rw [e]; exact lt_mid _ _ _), if_pos (len_nn _), h1, ht, Option.bind_some, if_pos h2]
        · refine ⟨r, Ev.step (fun k => ?_) hr⟩
          simp only [laws_szMsgS.l0]
          rw [if_pos (by rw [e]; exact lt_mid _ _ _), if_pos (len_nn _), h1, ht, Option.bind_some, if_neg h2, wrap_mid (rest := rest) (by rw [← e]; exact hl)]
    obtain ⟨r, hr⟩ := key l [] (wrap64 (n - (l.length : Int))) rfl
    exact ⟨r, Ev.congr (fun k => by unfold laws_szMsgS.f; rw [if_neg h]; rfl) hr, fun _ => h⟩
theorem laws_szReader_is (s : ByteArray) (l : List S23) (n : Int) (hs : s.size ≤ maxLen) (hl : l.length ≤ maxLen) : ∃ r, Ev (fun k => laws_szReader.f k s l n 1048576) r ∧ (¬ r < 0 → s.size ≤ 1048576 ∧ l.length ≤ 1048576) := by
  have h2 : maxLen = 9223372036854775807 := rfl
  rw [h2] at hs
  have hw : wrap64 (1048576 - (s.size : Int)) = 1048576 - (s.size : Int) := wrap_id (by omega) (by omega)
  by_cases h : wrap64 (1048576 - (s.size : Int)) < 0
  · exact ⟨-1, Ev.congr (fun k => by unfold laws_szReader.f; rw [if_pos h]) (Ev.now _), fun h' => absurd (by omega) h'⟩
  · obtain ⟨r, hr, hb⟩ := laws_szMsgS_ex l hl (wrap64 (1048576 - (s.size : Int)))
    by_cases h3 : r < 0
    · exact ⟨-1, Ev.congr (fun k => by unfold laws_szReader.f; rw [if_neg h]) (Ev.bind hr (Ev.congr (fun _ => if_pos h3) (Ev.now _))), fun h' => absurd (by omega) h'⟩
    · refine ⟨r, Ev.congr (fun k => by unfold laws_szReader.f; rw [if_neg h]) (Ev.bind hr (Ev.congr (fun _ => if_neg h3) (Ev.now _))), fun _ => ?_⟩
      have h4 := hb h3
      rw [h2] at hl
      rw [hw] at h4 h
      rw [wrap_id (by omega) (by omega)] at h4
      omega
def allMsgs (l : List S26) : Bool := l.all fun m => goodMsg m.f0 m.f1
theorem idx_Msg (l : List S26) (hl : l.length ≤ maxLen) : ∀ (rest pre : List S26), l = pre ++ rest →
    ∃ r, Ev (fun k => slices_IndexFunc_impl_Msg_impl_Msg.l0 k l (l.length : Int) (pre.length : Int)) r ∧ (decide (r ≥ 0) = !allMsgs rest) := by
  intro rest
  induction rest with
  | nil =>
    intro pre e
    refine ⟨-1, Ev.step (f := fun _ => some (-1)) (fun k => ?_) (Ev.now _), by simp [allMsgs]⟩
    simp only [slices_IndexFunc_impl_Msg_impl_Msg.l0]
    rw [if_neg (by rw [e]; simp)]
  | cons a rest ih =>
    intro pre e
    have hlt : (pre.length : Int) < (l.length : Int) := by rw [e]; exact lt_mid _ _ _
    have h1 : rd_T26 l (pre.length : Int) = a := by rw [e]; exact rdm_Msg _ _ _
    by_cases hm : goodMsg a.f0 a.f1 = true
    · obtain ⟨r, hr, hb⟩ := ih (pre ++ [a]) (by rw [e]; simp)
      refine ⟨r, Ev.step (fun k => ?_) hr, by rw [hb]; simp [allMsgs, hm]⟩
      simp only [slices_IndexFunc_impl_Msg_impl_Msg.l0, impl_GoodReader_1.f]
      rw [if_pos hlt, if_pos (len_nn _), if_pos hlt, h1, impl_GoodMsg_is, hm]
      simp only [Option.bind_some]
      rw [if_neg (by simp), wrap_mid (rest := rest) (by rw [← e]; exact hl)]
    · refine ⟨(pre.length : Int), Ev.step (f := fun _ => some (pre.length : Int)) (fun k => ?_) (Ev.now _), by simp [allMsgs, hm]⟩
      simp only [slices_IndexFunc_impl_Msg_impl_Msg.l0, impl_GoodReader_1.f]
      rw [if_pos hlt, if_pos (len_nn _), if_pos hlt, h1, impl_GoodMsg_is]
      simp only [Option.bind_some]
      rw [if_pos (by simpa using hm)]
theorem cont_Msg (l : List S26) (hl : l.length ≤ maxLen) : Ev (fun k => slices_ContainsFunc_impl_Msg_impl_Msg.f k l) (!allMsgs l) := by
  obtain ⟨r, hr, hb⟩ := idx_Msg l hl l [] rfl
  rw [← hb]
  exact Ev.bind (g := fun k => slices_IndexFunc_impl_Msg_impl_Msg.f k l) hr (Ev.now _)
theorem loop_Msg (l : List S26) (hl : l.length ≤ maxLen) (s : ByteArray) (b : Int) (r : Bool) (tl : Nat → Option Bool)
    (htl : ∀ k, spec_GoodReader.l0 (k + 1) l (l.length : Int) (l.length : Int) s l b = tl k) (ht : Ev tl r) : ∀ (rest pre : List S26), l = pre ++ rest →
    Ev (fun k => spec_GoodReader.l0 k l (l.length : Int) (pre.length : Int) s l b) (allMsgs rest && r) := by
  intro rest
  induction rest with
  | nil =>
    intro pre e
    have e2 : pre = l := by simpa using e.symm
    rw [e2, show (allMsgs [] && r) = r by simp [allMsgs]]
    exact Ev.step htl ht
  | cons a rest ih =>
    intro pre e
    have hlt : (pre.length : Int) < (l.length : Int) := by rw [e]; exact lt_mid _ _ _
    have h1 : rd_T26 l (pre.length : Int) = a := by rw [e]; exact rdm_Msg _ _ _
    by_cases hm : goodMsg a.f0 a.f1 = true
    · have hr := ih (pre ++ [a]) (by rw [e]; simp)
      rw [show allMsgs (a :: rest) = allMsgs rest by simp [allMsgs, hm]]
      refine Ev.step (fun k => ?_) hr
      simp only [spec_GoodReader.l0]
      rw [if_pos hlt, if_pos (len_nn _), if_pos hlt, h1, spec_GoodMsg_is, hm]
      simp only [Option.bind_some]
      rw [if_pos trivial, wrap_mid (rest := rest) (by rw [← e]; exact hl)]
    · rw [show (allMsgs (a :: rest) && r) = false by simp [allMsgs, hm]]
      refine Ev.step (f := fun _ => some false) (fun k => ?_) (Ev.now _)
      simp only [spec_GoodReader.l0]
      rw [if_pos hlt, if_pos (len_nn _), if_pos hlt, h1, spec_GoodMsg_is]
      simp only [Option.bind_some]
      rw [if_neg hm]
def cutOk (s : ByteArray) (r : List S26 × ByteArray × Int) (b : Int) : Bool := if (r.1.length : Int) = 0 then (if r.2.1.toList = s.toList then (if r.2.2 = 0 then (if 0 ≤ b ∧ b ≤ 4 then (if b = 0 then true else (s.toList == ([] : List UInt8))) else false) else false) else false) else false
theorem GoodReader_is (s : ByteArray) (l : List S26) (b : Int) (hs : s.size ≤ 1048576) (hl : l.length ≤ 1048576) :
    ∃ r, Ev (fun k => spec_GoodReader.f k s l b) r ∧ Ev (fun k => impl_GoodReader.f k s l b) r := by
  obtain ⟨c, c1, c2, c3, c4, c5⟩ := cut_is s.size s [] (Nat.le_refl _) (by simp; omega)
  replace c1 : Ev (fun k => spec_l5Cut.f k s) c := c1
  replace c2 : Ev (fun k => impl_cutAll.f k s) c := c2
  refine ⟨allMsgs l && (decide (l.length ≤ 40) && cutOk s c b), ?_, ?_⟩
  · refine loop_Msg l (by simp only [maxLen]; omega) s b _ _ (fun k => ?_) (Ev.bind (f := fun k c => some (decide (l.length ≤ 40) && cutOk s c b)) c1 (Ev.now _)) l [] rfl
    simp only [spec_GoodReader.l0]
    rw [if_neg (by omega)]
    congr 1
    funext c
    by_cases h1 : (l.length : Int) ≤ 40
    · have h1' : l.length ≤ 40 := by omega
      rw [if_pos h1]
      simp only [h1', decide_true, Bool.true_and]
      unfold cutOk
      by_cases h2 : (c.1.length : Int) = 0
      · rw [if_pos h2, if_pos h2]
        by_cases h3 : c.2.1.toList = s.toList
        · rw [if_pos h3, if_pos h3]
          by_cases h4 : c.2.2 = 0
          · rw [if_pos h4, if_pos h4, spec_l1In_is]
            simp only [Option.bind_some]
            by_cases h5 : 0 ≤ b ∧ b ≤ 4
            · rw [if_pos (decide_eq_true h5), if_pos h5]
              by_cases h6 : b = 0
              · rw [if_pos h6, if_pos h6]
              · rw [if_neg h6, if_neg h6]
            · rw [if_neg (by simpa using h5), if_neg h5]
          · rw [if_neg h4, if_neg h4]
        · rw [if_neg h3, if_neg h3]
      · rw [if_neg h2, if_neg h2]
    · rw [if_neg h1]
      have h1' : ¬ l.length ≤ 40 := by omega
      simp [h1']
  · by_cases h1 : (l.length : Int) > 40
    · have h1' : ¬ l.length ≤ 40 := by omega
      rw [show (allMsgs l && (decide (l.length ≤ 40) && cutOk s c b)) = false by simp [h1']]
      exact Ev.congr (fun k => by unfold impl_GoodReader.f; rw [if_pos h1]) (Ev.now _)
    · have h1' : l.length ≤ 40 := by omega
      refine Ev.congr (fun k => by unfold impl_GoodReader.f; rw [if_neg h1]) (Ev.bind (cont_Msg l (by simp only [maxLen]; omega)) ?_)
      by_cases hm : allMsgs l = true
      · rw [hm]
        refine Ev.congr (fun k => if_neg (by simp)) ?_
        refine Ev.congr (fun k => by rw [impl_within_is, Option.bind_some]) ?_
        simp only [h1', decide_true, Bool.true_and]
        by_cases h5 : 0 ≤ b ∧ b ≤ 4
        · refine Ev.congr (fun k => if_pos (decide_eq_true h5)) ?_
          by_cases h7 : (s.size : Int) > 300
          · refine Ev.congr (fun k => if_pos h7) ?_
            have : cutOk s c b = false := by
              unfold cutOk
              by_cases h2 : (c.1.length : Int) = 0
              · rw [if_pos h2]
                by_cases h3 : c.2.1.toList = s.toList
                · rw [if_pos h3]
                  by_cases h4 : c.2.2 = 0
                  · have := c5 (by omega) h4
                    simp only [List.length_nil] at this
                    omega
                  · rw [if_neg h4]
                · rw [if_neg h3]
              · rw [if_neg h2]
            rw [this]; exact Ev.now _
          · refine Ev.congr (fun k => if_neg h7) (Ev.bind c2 ?_)
            refine ⟨0, fun k _ => ?_⟩
            unfold cutOk
            by_cases h2 : (c.1.length : Int) = 0
            · rw [if_pos h2, if_pos h2]
              by_cases h3 : c.2.1.toList = s.toList
              · rw [if_pos h3, if_pos h3]
                by_cases h4 : c.2.2 = 0
                · rw [if_pos h4, if_pos h4, if_pos h5]
                  by_cases h6 : b = 0
                  · rw [if_pos h6, if_pos h6]
                  · rw [if_neg h6, if_neg h6]
                · rw [if_neg h4, if_neg h4]
              · rw [if_neg h3, if_neg h3]
            · rw [if_neg h2, if_neg h2]
        · refine Ev.congr (fun k => if_neg (by simpa using h5)) ?_
          have : cutOk s c b = false := by
            unfold cutOk
            by_cases h2 : (c.1.length : Int) = 0
            · rw [if_pos h2]
              by_cases h3 : c.2.1.toList = s.toList
              · rw [if_pos h3]
                by_cases h4 : c.2.2 = 0
                · rw [if_pos h4, if_neg h5]
                · rw [if_neg h4]
              · rw [if_neg h3]
            · rw [if_neg h2]
          rw [this]; exact Ev.now _
      · have hm' : allMsgs l = false := by simpa using hm
        rw [hm']
        exact Ev.congr (fun k => if_pos rfl) (Ev.now _)
theorem laws_markReader_is (s : ByteArray) (l : List S26) (b : Int) (hl : l.length ≤ 100000000) : ∃ K, ∀ k, K ≤ k → laws_markReader.f k s l b 1 = some (1 + 2 * (l.length : Int), mk_Msg 1 l.length) := by
  obtain ⟨K, h⟩ := laws_markMsgS_is l (by omega) 1 (by omega) (by omega)
  replace h : ∀ k, K ≤ k → laws_markMsgS.f k l 1 = _ := h
  refine ⟨K, fun k hk => ?_⟩
  unfold laws_markReader.f
  rw [h k hk]; rfl
theorem laws_heldReader_is (s : ByteArray) (n : Nat) (b : Int) (hl : n ≤ 100000000) : ∃ K, ∀ k, K ≤ k → laws_heldReader.f k s (mk_Msg 1 n) b 1 = some (1 + 2 * (n : Int)) := by
  obtain ⟨K, h⟩ := laws_heldMsgS_is n (by omega) 1 (by omega) (by omega)
  replace h : ∀ k, K ≤ k → laws_heldMsgS.f k (mk_Msg 1 n) 1 = _ := h
  refine ⟨K, fun k hk => ?_⟩
  unfold laws_heldReader.f
  rw [h k hk, Option.bind_some, if_neg (by omega)]
theorem laws_eqReader_refl (k : Nat) (s : ByteArray) (l : List S26) (b : Int) (hl : l.length ≤ 100000000) (hk : l.length < k) : laws_eqReader.f k s l b s l b = some true := by
  unfold laws_eqReader.f
  rw [if_pos rfl, laws_eqMsgS_refl _ _ (by simp only [maxLen]; omega) hk, Option.bind_some, if_pos rfl, if_pos rfl]
theorem laws_toReader_is (k : Nat) (s : ByteArray) (l : List S23) (b : Int) (hl : l.length ≤ 1048576) (hk : l.length < k) : laws_toReader.f k s l b = some (s, l.map (fun p => (⟨p.f0, p.f1⟩ : S26)), b) := by
  unfold laws_toReader.f
  rw [laws_toMsgS_is _ l hl hk]; rfl
theorem TakeMsg_is (s : ByteArray) (l : List S26) (b : Int) (hs : s.size ≤ 1048576) (hl : l.length ≤ 1048576) :
    ∃ r, Ev (fun k => spec_TakeMsg.f k s l b) r ∧ Ev (fun k => impl_TakeMsg.f k s l b) r ∧ r.2.1.length ≤ 1048576 := by
  obtain ⟨q, h1, h2⟩ := GoodReader_is s l b hs hl
  cases q with
  | false => exact ⟨((⟨#[]⟩ : ByteArray), ([] : List S26), 0, 0, (⟨#[]⟩ : ByteArray), false), Ev.bind h1 (Ev.congr (fun k => if_neg (by simp)) (Ev.now _)), Ev.bind h2 (Ev.congr (fun k => if_neg (by simp)) (Ev.now _)), by simp⟩
  | true =>
    by_cases h0 : (l.length : Int) = 0
    · exact ⟨((⟨#[]⟩ : ByteArray), ([] : List S26), 0, 0, (⟨#[]⟩ : ByteArray), false), Ev.bind h1 (Ev.congr (fun k => (if_pos rfl).trans (if_pos h0)) (Ev.now _)), Ev.bind h2 (Ev.congr (fun k => (if_pos rfl).trans (if_pos h0)) (Ev.now _)), by simp⟩
    · refine ⟨(s, l.drop 1, b, (rd_T26 l 0).f0, (rd_T26 l 0).f1, true), Ev.bind h1 (Ev.congr (fun k => (if_pos rfl).trans ((if_neg h0).trans ?_)) (Ev.now _)), Ev.bind h2 (Ev.congr (fun k => (if_pos rfl).trans ((if_neg h0).trans ?_)) (Ev.now _)), by simp; omega⟩
      · simp only [Option.bind_some]
        rw [if_pos (by omega), if_pos (by simp; omega), if_pos (by omega)]
        simp
      · unfold slices_Clone_impl_Msg_impl_Msg.f
        rw [if_pos (by omega), if_pos (by omega), if_pos (by simp; omega)]
        simp

end FnExactTakeMsgUses
open Go.RowKit Go.Proofs.Ytkkchcalhomgcaa.PFnExactTakeMsg Go.Proofs.YtkkchcalhomgcaaW.PrintWords Go.Proofs.YtkkchcalhomgcaaW.PrintLast Go.Proofs.YtkkchcalhomgcaaW.PrintMore Go.Proofs.Ytkkchcalhomgcaa.Pfx Go.Proofs.Ytkkchcalhomgcaa.Msg Go.Proofs.Ytkkchcalhomgcaa.Loop FnExactTakeMsgUses
set_option linter.unusedVariables false
theorem FnExactTakeMsg (a0_0 : ByteArray) (l0_1 : List S23) (a0_2 : Int) (w0_0 : a0_0.size ≤ maxLen) (m0_1 : l0_1.length ≤ maxLen) (w0_1 : ∀ a, a ∈ l0_1 → ((Lit.int .i64 a.f0).wf = true ∧ a.f1.size ≤ maxLen)) (w0_2 : (Lit.int .i64 a0_2).wf = true) : ∃ k, laws_FnExactTakeMsg.f k a0_0 l0_1 a0_2 = some true := by
  obtain ⟨r, hr, hb⟩ := laws_szReader_is a0_0 l0_1 a0_2 w0_0 m0_1
  obtain ⟨K1, h1⟩ := hr
  replace h1 : ∀ k, K1 ≤ k → laws_szReader.f k a0_0 l0_1 a0_2 1048576 = _ := h1
  by_cases h : r < 0
  · exact ⟨K1, by unfold laws_FnExactTakeMsg.f; rw [h1 _ (Nat.le_refl _), Option.bind_some, if_pos h]⟩
  · have hl := hb h
    obtain ⟨q, ⟨K2, h2⟩, ⟨K3, h3⟩, hq⟩ := TakeMsg_is a0_0 (l0_1.map fun p => (⟨p.f0, p.f1⟩ : S26)) a0_2 (by omega) (by simp; omega)
    replace h2 : ∀ k, K2 ≤ k → spec_TakeMsg.f k _ _ _ = _ := h2
    replace h3 : ∀ k, K3 ≤ k → impl_TakeMsg.f k _ _ _ = _ := h3
    obtain ⟨K4, h4⟩ := laws_markReader_is a0_0 (l0_1.map fun p => (⟨p.f0, p.f1⟩ : S26)) a0_2 (by simp; omega)
    obtain ⟨K5, h5⟩ := laws_markReader_is q.1 q.2.1 q.2.2.1 (by omega)
    obtain ⟨K6, h6⟩ := laws_heldReader_is q.1 q.2.1.length q.2.2.1 (by omega)
    have ht := fun k (hk : l0_1.length < k) => laws_toReader_is k a0_0 l0_1 a0_2 hl.2 hk
    refine ⟨K1 + K2 + K3 + K4 + K5 + K6 + l0_1.length + q.2.1.length + 10, ?_⟩
    have g : ∀ k, K1 + K2 + K3 + K4 + K5 + K6 + l0_1.length + q.2.1.length + 1 ≤ k → (K1 ≤ k ∧ K2 ≤ k ∧ K3 ≤ k ∧ K4 ≤ k ∧ K5 ≤ k ∧ K6 ≤ k) ∧ l0_1.length < k ∧ q.2.1.length < k := fun k hk => by omega
    unfold laws_FnExactTakeMsg.f
    rw [h1 _ (by omega), Option.bind_some, if_neg h, ht _ (by omega)]
    simp only [Option.bind_some]
    rw [h2 _ (by omega), h3 _ (by omega)]
    simp only [Option.bind_some]
    rw [laws_eqReader_refl _ _ _ _ (by omega) (by omega), Option.bind_some, if_pos rfl, laws_eqMsg_refl, Option.bind_some, if_pos rfl, bne_self_eq_false]
    rw [laws_FnExactTakeMsg.j0, if_neg (by simp), ht _ (by omega)]
    simp only [Option.bind_some]
    rw [laws_eqReader_refl _ _ _ _ (by simp; omega) (by simp; omega), Option.bind_some, if_pos rfl, h4 _ (by omega)]
    simp only [Option.bind_some]
    rw [if_neg (by omega), laws_eqReader_refl _ _ _ _ (by omega) (by omega), Option.bind_some, if_pos rfl, laws_eqMsg_refl, Option.bind_some, if_pos rfl, bne_self_eq_false]
    rw [laws_FnExactTakeMsg.j1, if_neg (by simp), h5 _ (by omega)]
    simp only [Option.bind_some]
    rw [h6 _ (by omega), Option.bind_some, if_neg (by omega), if_pos rfl, ht _ (by omega)]
    simp only [Option.bind_some]
    rw [h3 _ (by omega)]
    simp only [Option.bind_some]
    rw [laws_eqReader_refl _ _ _ _ (by omega) (by omega), Option.bind_some, if_pos rfl, laws_eqMsg_refl, Option.bind_some, if_pos rfl, bne_self_eq_false]
    rw [laws_FnExactTakeMsg.j2, if_neg (by simp), h6 _ (by omega), Option.bind_some, if_neg (by omega), if_pos rfl]
end Go.Proofs.Ytkkchcalhomgcaa.Pure
