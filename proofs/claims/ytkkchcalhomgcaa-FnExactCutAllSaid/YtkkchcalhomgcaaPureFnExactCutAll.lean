/- The pure statement of FnExactCutAll: what the printed functions tell is what the reference tells. No condition but the arguments' own bounds. -/
import Derived.Test.YtkkchcalhomgcaaPFnExactCutAllx6
import Derived.Test.YtkkchcalhomgcaaPfx
import Derived.Test.YtkkchcalhomgcaaMsg
import Derived.Test.YtkkchcalhomgcaaLoop
namespace Go.Proofs.Ytkkchcalhomgcaa.Pure
namespace FnExactCutAllUses
open Go.RowKit Go.Proofs.Ytkkchcalhomgcaa.PFnExactCutAll Go.Proofs.YtkkchcalhomgcaaW.PrintWords Go.Proofs.YtkkchcalhomgcaaW.PrintLast Go.Proofs.YtkkchcalhomgcaaW.PrintMore Go.Proofs.Ytkkchcalhomgcaa.Pfx Go.Proofs.Ytkkchcalhomgcaa.Msg Go.Proofs.Ytkkchcalhomgcaa.Loop
set_option linter.unusedVariables false
set_option linter.unusedSimpArgs false

theorem spec_l1In_is (a lo hi : Int) : spec_l1In.f a lo hi = some (decide (lo ≤ a ∧ a ≤ hi)) := by
  unfold spec_l1In.f
  by_cases h : lo ≤ a
  · rw [if_pos h]; simp [h]
  · rw [if_neg h]; simp [h]
theorem impl_within_is (a lo hi : Int) : impl_within.f a lo hi = some (decide (lo ≤ a ∧ a ≤ hi)) := by
  unfold impl_within.f
  by_cases h : lo ≤ a
  · rw [if_pos h]; simp [h]
  · rw [if_neg h]; simp [h]
theorem rdm_Msg (pre : List S26) (a : S26) (rest : List S26) : rd_T26 (pre ++ a :: rest) (pre.length : Int) = a := by unfold rd_T26; simp
theorem laws_eqMsg_refl (a : Int) (b : ByteArray) : laws_eqMsg.f a b a b = some true := by unfold laws_eqMsg.f; rw [if_pos rfl, if_pos rfl]
theorem laws_eqMsgS_refl (k : Nat) (l : List S26) (hl : l.length ≤ maxLen) (hk : l.length < k) : laws_eqMsgS.f k l l = some true := by
  unfold laws_eqMsgS.f
  rw [if_pos rfl]
  have key : ∀ (rest pre : List S26) (k : Nat), l = pre ++ rest → rest.length < k → laws_eqMsgS.l0 k l l (pre.length : Int) = some true := by
    intro rest
    induction rest with
    | nil =>
      intro pre k e hk
      obtain ⟨k, rfl⟩ : ∃ m, k = m + 1 := ⟨k - 1, by omega⟩
      simp only [laws_eqMsgS.l0]
      rw [if_neg (by rw [e]; simp)]
    | cons a rest ih =>
      intro pre k e hk
      obtain ⟨k, rfl⟩ : ∃ m, k = m + 1 := ⟨k - 1, by omega⟩
      simp only [laws_eqMsgS.l0]
      rw [if_pos (by rw [e]; exact lt_mid _ _ _), if_pos (len_nn _), if_pos (by rw [e]; exact lt_mid _ _ _), laws_eqMsg_refl]
      simp only [Option.bind_some, if_true]
      rw [wrap_mid (rest := rest) (by rw [← e]; exact hl)]
      exact ih (pre ++ [a]) k (by rw [e]; simp) (by simp at hk; omega)
  exact key l [] k rfl hk
theorem laws_markText_ex (x : Int) (hx : x ≤ 9000000000000000000) : ∃ r, Ev (fun k => laws_markText.f k x) r := by
  have key : ∀ (n : Nat) (x : Int) (s : ByteArray), x.toNat ≤ n → s.size + n ≤ 9000000000000000000 → ∃ r, Ev (fun k => laws_markText.l0 k x s) r := by
    intro n
    induction n with
    | zero =>
      intro x s h hs
      refine ⟨(⟨#[109]⟩ : ByteArray) ++ s, Ev.step (f := fun _ => some ((⟨#[109]⟩ : ByteArray) ++ s)) (fun k => ?_) (Ev.now _)⟩
      simp only [laws_markText.l0]
      rw [if_neg (by omega), if_pos (by omega)]
    | succ n ih =>
      intro x s h hs
      by_cases h0 : x > 0
      · have hd : Int.tdiv x 10 = x / 10 := Int.tdiv_eq_ediv_of_nonneg (by omega)
        have h1 : (strOfNums [(wrap64 (48 + (Int.tmod x 10))) % 256]).size = 1 := by rw [strOfNums_size]; rfl
        obtain ⟨r, hr⟩ := ih (wrap64 (Int.tdiv x 10)) (strOfNums [(wrap64 (48 + (Int.tmod x 10))) % 256] ++ s) (by rw [hd, wrap_id (by omega) (by omega)]; omega) (by rw [ByteArray.size_append, h1]; omega)
        refine ⟨r, Ev.step (fun k => ?_) hr⟩
        simp only [laws_markText.l0, Option.bind_some]
        rw [if_pos h0, if_pos (by rw [h1]; omega)]
      · refine ⟨(⟨#[109]⟩ : ByteArray) ++ s, Ev.step (f := fun _ => some ((⟨#[109]⟩ : ByteArray) ++ s)) (fun k => ?_) (Ev.now _)⟩
        simp only [laws_markText.l0]
        rw [if_neg h0, if_pos (by omega)]
  unfold laws_markText.f
  by_cases h : x ≤ 0
  · exact ⟨_, Ev.congr (fun k => if_pos h) (Ev.now _)⟩
  · obtain ⟨r, hr⟩ := key x.toNat x ⟨#[]⟩ (Nat.le_refl _) (by have : (ByteArray.mk #[]).size = 0 := rfl
                                                              omega)
    exact ⟨r, Ev.congr (fun k => if_neg h) hr⟩
noncomputable def mkText (x : Int) : ByteArray := open Classical in if h : ∃ r, Ev (fun k => laws_markText.f k x) r then h.choose else ⟨#[]⟩
theorem laws_markText_is (x : Int) (hx : x ≤ 9000000000000000000) : Ev (fun k => laws_markText.f k x) (mkText x) := by
  unfold mkText
  rw [dif_pos (laws_markText_ex x hx)]
  exact (laws_markText_ex x hx).choose_spec
noncomputable def mk_Msg : Int → Nat → List S26
  | _, 0 => []
  | q, n + 1 => ⟨q, mkText (q + 1)⟩ :: mk_Msg (q + 2) n
theorem mk_Msg_len (q : Int) (n : Nat) : (mk_Msg q n).length = n := by
  induction n generalizing q with
  | zero => rfl
  | succ n ih => simp [mk_Msg, ih]
theorem laws_markMsgS_is (l : List S26) (hl : l.length ≤ 1000000000) (q : Int) (hq : 0 ≤ q) (hq2 : q ≤ 1000000000000) : Ev (fun k => laws_markMsgS.f k l q) (q + 2 * l.length, mk_Msg q l.length) := by
  have key : ∀ (rest pre : List S26) (q : Int), 0 ≤ q → q + 2 * rest.length ≤ 4000000000000 → (pre ++ rest).length ≤ 1000000000 →
      Ev (fun k => laws_markMsgS.l0 k (pre ++ rest) q (pre.length : Int)) (q + 2 * rest.length, pre ++ mk_Msg q rest.length) := by
    intro rest
    induction rest with
    | nil =>
      intro pre q h0 h1 h2
      refine Ev.step (f := fun _ => some (q + 2 * (([] : List S26).length : Int), pre ++ mk_Msg q ([] : List S26).length)) (fun k => ?_) (Ev.now _)
      simp only [laws_markMsgS.l0]
      rw [if_neg (by simp)]
      simp [mk_Msg]
    | cons a rest ih =>
      intro pre q h0 h1 h2
      simp only [List.length_cons] at h1
      have hi := ih (pre ++ [⟨q, mkText (q + 1)⟩]) (q + 2) (by omega) (by omega) (by simp at h2 ⊢; omega)
      refine Ev.step (f := fun k => (laws_markText.f k (q + 1)).bind fun t => laws_markMsgS.l0 k (pre ++ (⟨q, t⟩ : S26) :: rest) (q + 2) ((pre ++ [a]).length : Int)) (fun k => ?_) (Ev.bind (laws_markText_is (q + 1) (by omega)) ?_)
      · simp only [laws_markMsgS.l0]
        rw [if_pos (lt_mid _ _ _), if_pos (len_nn _), rdm_Msg, set_mid, Option.bind_some, wrap_id (x := q + 1) (by omega) (by omega), wrap_id (x := q + 1 + 1) (by omega) (by omega), wrap_mid (a := a) (rest := rest) (by simp only [maxLen, List.length_append, List.length_cons] at h2 ⊢; omega)]
        rw [show q + 1 + 1 = q + 2 by omega]
        simp only [rdm_Msg, set_mid]
      · have e : (q + 2 + 2 * (rest.length : Int), pre ++ [(⟨q, mkText (q + 1)⟩ : S26)] ++ mk_Msg (q + 2) rest.length) = (q + 2 * ((a :: rest).length : Int), pre ++ mk_Msg q (a :: rest).length) := by
          simp [mk_Msg]; omega
        rw [← e, snoc_cons]
        have hl : ((pre ++ [a]).length : Int) = ((pre ++ [(⟨q, mkText (q + 1)⟩ : S26)]).length : Int) := by simp
        rw [hl]; exact hi
  unfold laws_markMsgS.f
  have := key l [] q hq (by omega) (by simpa using hl)
  simpa using this
theorem laws_heldMsgS_is (n : Nat) (hn : n ≤ 1000000000) (q : Int) (hq : 0 ≤ q) (hq2 : q ≤ 1000000000000) : Ev (fun k => laws_heldMsgS.f k (mk_Msg q n) q) (q + 2 * n) := by
  have key : ∀ (n : Nat) (pre : List S26) (q : Int), 0 ≤ q → q + 2 * n ≤ 4000000000000 → pre.length + n ≤ 1000000000 →
      Ev (fun k => laws_heldMsgS.l0 k (pre ++ mk_Msg q n) q (pre.length : Int)) (q + 2 * n) := by
    intro n
    induction n with
    | zero =>
      intro pre q h0 h1 h2
      rw [show mk_Msg q 0 = [] from rfl, List.append_nil]
      refine Ev.step (f := fun _ => some (q + 2 * ((0 : Nat) : Int))) (fun k => ?_) (Ev.now _)
      simp only [laws_heldMsgS.l0]
      rw [if_neg (by omega)]
      simp
    | succ n ih =>
      intro pre q h0 h1 h2
      rw [show mk_Msg q (n + 1) = ⟨q, mkText (q + 1)⟩ :: mk_Msg (q + 2) n from rfl]
      have hlen : (pre ++ (⟨q, mkText (q + 1)⟩ : S26) :: mk_Msg (q + 2) n).length ≤ maxLen := by
        simp only [maxLen, List.length_append, List.length_cons, mk_Msg_len]; omega
      refine Ev.step (f := fun k => (laws_markText.f k (q + 1)).bind fun t => if (mkText (q + 1)).toList = t.toList then laws_heldMsgS.l0 k (pre ++ (⟨q, mkText (q + 1)⟩ : S26) :: mk_Msg (q + 2) n) (q + 2) ((pre ++ [(⟨q, mkText (q + 1)⟩ : S26)]).length : Int) else some (-1)) (fun k => ?_) (Ev.bind (laws_markText_is (q + 1) (by omega)) ?_)
      · simp only [laws_heldMsgS.l0]
        rw [if_pos (lt_mid _ _ _), if_pos (len_nn _), rdm_Msg, if_pos rfl, wrap_id (x := q + 1) (by omega) (by omega), wrap_id (x := q + 1 + 1) (by omega) (by omega), wrap_mid hlen, show q + 1 + 1 = q + 2 by omega]
      · refine Ev.congr (fun k => if_pos rfl) ?_
        rw [snoc_cons]
        have := ih (pre ++ [⟨q, mkText (q + 1)⟩]) (q + 2) (by omega) (by omega) (by simp; omega)
        rw [show q + 2 * ((n + 1 : Nat) : Int) = q + 2 + 2 * (n : Int) by omega]
        exact this
  unfold laws_heldMsgS.f
  have := key n [] q hq (by omega) (by simpa using hn)
  simpa using this
def stepF (i b c : Int) : Int := if i < 2 ∧ b ≠ 255 then 1 else if (i = 2 ∧ ¬ (5 ≤ b ∧ b ≤ 65)) ∨ (i = 3 ∧ b ≠ 0) then 2 else if i = 4 ∧ ¬ (1 ≤ b ∧ b ≤ 4) then 3 else if i = 4 ∧ b = 4 ∧ c ≠ 5 then 4 else 0
def flt (s : ByteArray) : Nat → Int → Int
  | 0, _ => 0
  | n + 1, i => if stepF i (bt s i) (bt s 2) = 0 then flt s n (i + 1) else stepF i (bt s i) (bt s 2)
theorem flt_step {s : ByteArray} {n : Nat} {i : Int} (h : flt s (n + 1) i = 0) : stepF i (bt s i) (bt s 2) = 0 ∧ flt s n (i + 1) = 0 := by
  simp only [flt] at h
  by_cases h1 : stepF i (bt s i) (bt s 2) = 0
  · rw [if_pos h1] at h; exact ⟨h1, h⟩
  · rw [if_neg h1] at h; exact absurd h h1
def fault (s : ByteArray) : Int := flt s (min 5 s.size) 0
theorem fault_len {s : ByteArray} (h : fault s = 0) (h5 : 5 ≤ s.size) : 5 ≤ bt s 2 ∧ bt s 2 ≤ 65 := by
  unfold fault at h
  rw [show min 5 s.size = 5 by omega] at h
  have h2 := (flt_step (flt_step (flt_step h).2).2).1
  simp [stepF] at h2
  omega
theorem spec_l5Fault_step (s : ByteArray) (i : Int) (h0 : 0 ≤ i) (h1 : i < s.size) (h5 : i < 5) (k : Nat) :
    spec_l5Fault.l0 (k + 6) s i = if stepF i (bt s i) (bt s 2) = 0 then spec_l5Fault.l0 k s (i + 1) else some (stepF i (bt s i) (bt s 2)) := by
  have hb := bt_range s i
  have hc := bt_range s 2
  have hi : i = 0 ∨ i = 1 ∨ i = 2 ∨ i = 3 ∨ i = 4 := by omega
  simp only [spec_l5Fault.l0, spec_l5Fault.j1, spec_l5Fault.j2, spec_l5Fault.j3, spec_l5Fault.j4, spec_l5Fault.j5, spec_l1In_is, Option.bind_some]
  rw [if_pos h1, if_pos (decide_eq_true h5), if_pos h0, if_pos h1]
  rw [wrap_id (x := bt s i) (by omega) (by omega), wrap_id (x := i + 1) (by omega) (by omega)]
  unfold stepF
  rcases hi with rfl | rfl | rfl | rfl | rfl
  · by_cases hx : bt s 0 = 255 <;> simp [hx]
  · by_cases hx : bt s 1 = 255 <;> simp [hx]
  · by_cases hx : 5 ≤ bt s 2 ∧ bt s 2 ≤ 65
    · simp [hx]
    · simp [hx]
  · by_cases hx : bt s 3 = 0 <;> simp [hx]
  · have h2 : (2 : Int) < s.size := by omega
    by_cases hx : 1 ≤ bt s 4 ∧ bt s 4 ≤ 4
    · by_cases hy : bt s 4 = 4
      · by_cases hz : bt s 2 = 5 <;> simp [hy, hz, h2]
      · simp [hx, hy]
    · simp [hx]
theorem impl_headFault_step (s : ByteArray) (m i : Int) (h0 : 0 ≤ i) (hm : i < m) (h1 : i < s.size) (h5 : i < 5) (hv : i = 4 → 5 ≤ bt s 2) (k : Nat) :
    impl_headFault.l0 (k + 5) s m i = if stepF i (bt s i) (bt s 2) = 0 then impl_headFault.l0 k s m (i + 1) else some (stepF i (bt s i) (bt s 2)) := by
  have hb := bt_range s i
  have hc := bt_range s 2
  have hi : i = 0 ∨ i = 1 ∨ i = 2 ∨ i = 3 ∨ i = 4 := by omega
  simp only [impl_headFault.l0, impl_headFault.j1, impl_headFault.j2, impl_headFault.j3, impl_headFault.j4, impl_within_is, Option.bind_some]
  rw [if_pos hm, if_pos h0, if_pos h1]
  rw [wrap_id (x := bt s i) (by omega) (by omega), wrap_id (x := i + 1) (by omega) (by omega)]
  unfold stepF
  rcases hi with rfl | rfl | rfl | rfl | rfl
  · by_cases hx : bt s 0 = 255 <;> simp [hx]
  · by_cases hx : bt s 1 = 255 <;> simp [hx]
  · by_cases hx : 5 ≤ bt s 2 ∧ bt s 2 ≤ 65
    · simp [hx]
    · simp [hx]
  · by_cases hx : bt s 3 = 0 <;> simp [hx]
  · have h2 : (2 : Int) < s.size := by omega
    have hv := hv rfl
    by_cases hx : 1 ≤ bt s 4 ∧ bt s 4 ≤ 4
    · by_cases hy : bt s 4 = 4
      · by_cases hz : bt s 2 = 5
        · simp [hy, hz, h2]
        · have hz' : bt s 2 > 5 := by omega
          simp [hy, hz, hz', h2]
      · simp [hx, hy]
    · simp [hx]
theorem fault_is (s : ByteArray) : Ev (fun k => spec_l5Fault.f k s) (fault s) ∧ Ev (fun k => impl_headFault.f k s) (fault s) := by
  have hm : mn 5 (s.size : Int) = ((min 5 s.size : Nat) : Int) := by
    unfold mn
    by_cases h : (s.size : Int) < 5
    · rw [if_pos h]; omega
    · rw [if_neg h]; omega
  have key : ∀ (n : Nat) (i : Int), 0 ≤ i → i + n = ((min 5 s.size : Nat) : Int) → (3 ≤ i → 5 ≤ bt s 2) →
      Ev (fun k => spec_l5Fault.l0 k s i) (flt s n i) ∧ Ev (fun k => impl_headFault.l0 k s (mn 5 (s.size : Int)) i) (flt s n i) := by
    intro n
    induction n with
    | zero =>
      intro i h0 h1 hv
      constructor
      · refine ⟨2, fun k hk => ?_⟩
        obtain ⟨k, rfl⟩ : ∃ m, k = m + 2 := ⟨k - 2, by omega⟩
        simp only [spec_l5Fault.l0, spec_l5Fault.j1, flt]
        by_cases h : i < (s.size : Int)
        · rw [if_pos h, if_neg]
          simp; omega
        · rw [if_neg h]; rfl
      · refine ⟨1, fun k hk => ?_⟩
        obtain ⟨k, rfl⟩ : ∃ m, k = m + 1 := ⟨k - 1, by omega⟩
        simp only [impl_headFault.l0, flt]
        rw [if_neg (by omega)]
    | succ n ih =>
      intro i h0 h1 hv
      have hs : i < s.size := by omega
      have h5 : i < 5 := by omega
      have e1 := spec_l5Fault_step s i h0 hs h5
      have e2 := impl_headFault_step s (mn 5 (s.size : Int)) i h0 (by omega) hs h5 (fun h => hv (by omega))
      simp only [flt]
      by_cases hc : stepF i (bt s i) (bt s 2) = 0
      · obtain ⟨⟨K1, i1⟩, ⟨K2, i2⟩⟩ := ih (i + 1) (by omega) (by omega) (fun h => by
          by_cases h3 : 3 ≤ i
          · exact hv h3
          · have : i = 2 := by omega
            subst this
            simp [stepF] at hc
            omega)
        rw [if_pos hc]
        constructor
        · refine ⟨K1 + 6, fun k hk => ?_⟩
          obtain ⟨k, rfl⟩ : ∃ m, k = m + 6 := ⟨k - 6, by omega⟩
          show spec_l5Fault.l0 (k + 6) s i = _
          rw [e1, if_pos hc]; exact i1 k (by omega)
        · refine ⟨K2 + 5, fun k hk => ?_⟩
          obtain ⟨k, rfl⟩ : ∃ m, k = m + 5 := ⟨k - 5, by omega⟩
          show impl_headFault.l0 (k + 5) s _ i = _
          rw [e2, if_pos hc]; exact i2 k (by omega)
      · rw [if_neg hc]
        constructor
        · refine ⟨6, fun k hk => ?_⟩
          obtain ⟨k, rfl⟩ : ∃ m, k = m + 6 := ⟨k - 6, by omega⟩
          show spec_l5Fault.l0 (k + 6) s i = _
          rw [e1, if_neg hc]
        · refine ⟨5, fun k hk => ?_⟩
          obtain ⟨k, rfl⟩ : ∃ m, k = m + 5 := ⟨k - 5, by omega⟩
          show impl_headFault.l0 (k + 5) s _ i = _
          rw [e2, if_neg hc]
  exact key (min 5 s.size) 0 (Int.le_refl _) (by omega) (by omega)
theorem bytes_nil {s : ByteArray} (h : s.size = 0) : s = (⟨#[]⟩ : ByteArray) := by
  have e : s.data.size = 0 := h
  have e2 : s.data = #[] := Array.eq_empty_of_size_eq_zero e
  cases s
  simp only at e2
  rw [e2]
theorem toList_nil {s : ByteArray} : s.toList = ([] : List UInt8) ↔ s.size = 0 := by
  rw [ByteArray.toList_eq]
  constructor
  · intro h
    have : s.data.toList.length = 0 := by rw [h]; rfl
    simpa using this
  · intro h
    rw [bytes_nil h]
theorem cut_is : ∀ (n : Nat) (s : ByteArray) (acc : List S26), s.size ≤ n → acc.length + s.size ≤ 3000000 → ∃ r, Ev (fun k => spec_l5Cut.l0 k s acc) r ∧ Ev (fun k => impl_cutAll.l0 k s acc) r ∧ acc.length ≤ r.1.length ∧ r.1.length ≤ acc.length + s.size ∧ (65 < s.size → r.2.2 = 0 → acc.length < r.1.length) := by
  intro n
  induction n with
  | zero =>
    intro s acc hn hb
    have hnil : s = (⟨#[]⟩ : ByteArray) := bytes_nil (by omega)
    refine ⟨(acc, ⟨#[]⟩, 0), ⟨1, fun k hk => ?_⟩, ?_, by simp, by simp, by intro h; omega⟩
    · obtain ⟨k, rfl⟩ : ∃ m, k = m + 1 := ⟨k - 1, by omega⟩
      simp only [spec_l5Cut.l0]
      rw [if_pos (toList_nil.mpr (by omega))]
    · refine Ev.step (fun k => rfl) (Ev.bind (fault_is s).2 ?_)
      rw [show fault s = 0 by unfold fault; rw [show min 5 s.size = 0 by omega]; rfl]
      refine ⟨0, fun k hk => ?_⟩
      show (if (0 : Int) = 0 then _ else _) = _
      rw [if_pos rfl, if_pos (by omega), hnil]
  | succ n ih =>
    intro s acc hn hb
    by_cases hnil : s.toList = ([] : List UInt8)
    · have hz : s.size = 0 := toList_nil.mp hnil
      exact ih s acc (by omega) hb
    · have hs := (fault_is s).1
      have hi := (fault_is s).2
      by_cases hf : fault s = 0
      · by_cases h5 : (s.size : Int) < 5
        · refine ⟨(acc, s, 0), ?_, ?_, by simp, by simp, by intro h; omega⟩
          · refine Ev.step (f := fun k => (spec_l5Fault.f k s).bind fun t => if t = 0 then some (acc, s, 0) else some (acc, ⟨#[]⟩, t)) (fun k => ?_) (Ev.bind hs (Ev.congr (fun k => if_pos hf) (Ev.now _)))
            simp only [spec_l5Cut.l0]
            rw [if_neg hnil]; simp only [if_pos h5]
          · refine Ev.step (f := fun k => (impl_headFault.f k s).bind fun t => if t = 0 then some (acc, s, 0) else some (acc, ⟨#[]⟩, t)) (fun k => ?_) (Ev.bind hi (Ev.congr (fun k => if_pos hf) (Ev.now _)))
            simp only [impl_cutAll.l0]
            simp only [if_pos h5]
        · have hl := fault_len hf (by omega)
          have hw : wrap64 (bt s 2) = bt s 2 := wrap_id (by omega) (by omega)
          have h2 : (2 : Int) < s.size := by omega
          by_cases h6 : (s.size : Int) < bt s 2
          · refine ⟨(acc, s, 0), ?_, ?_, by simp, by simp, by intro h; omega⟩
            · refine Ev.step (f := fun k => (spec_l5Fault.f k s).bind fun t => if t = 0 then some (acc, s, 0) else some (acc, ⟨#[]⟩, t)) (fun k => ?_) (Ev.bind hs (Ev.congr (fun k => if_pos hf) (Ev.now _)))
              simp only [spec_l5Cut.l0]
              rw [if_neg hnil]; simp only [if_neg h5, hw, if_pos h2, if_pos h6]
            · refine Ev.step (f := fun k => (impl_headFault.f k s).bind fun t => if t = 0 then some (acc, s, 0) else some (acc, ⟨#[]⟩, t)) (fun k => ?_) (Ev.bind hi (Ev.congr (fun k => if_pos hf) (Ev.now _)))
              simp only [impl_cutAll.l0]
              simp only [if_neg h5, hw, if_pos h2, if_pos h6]
          · have hsz : (s.extract (bt s 2).toNat s.size).size = s.size - (bt s 2).toNat := by simp [ByteArray.size_extract]
            obtain ⟨r, r1, r2, r3, r4, r5⟩ := ih (s.extract (bt s 2).toNat s.size) (acc ++ [(⟨wrap64 (bt s 4), s.extract 5 (bt s 2).toNat⟩ : S26)]) (by rw [hsz]; omega) (by rw [hsz]; simp; omega)
            have h4 : (4 : Int) < s.size := by omega
            have h7 : bt s 2 ≤ s.size := by omega
            have h8 : acc.length < 5864062014805 := by omega
            have h9 : 0 ≤ bt s 2 := by omega
            simp only [List.length_append, List.length_singleton] at r3 r4
            refine ⟨r, ?_, ?_, by omega, by rw [hsz] at r4; omega, by intro _ _; omega⟩
            · refine Ev.step (f := fun k => (spec_l5Fault.f k s).bind fun t => if t = 0 then spec_l5Cut.l0 k (s.extract (bt s 2).toNat s.size) (acc ++ [(⟨wrap64 (bt s 4), s.extract 5 (bt s 2).toNat⟩ : S26)]) else some (acc, ⟨#[]⟩, t)) (fun k => ?_) (Ev.bind hs (Ev.congr (fun k => if_pos hf) r1))
              simp only [spec_l5Cut.l0]
              rw [if_neg hnil]; simp only [if_neg h5, hw, if_pos h2, if_neg h6, if_pos h4, if_pos hl.1, if_pos h7, if_pos h8, if_pos h9]
            · refine Ev.step (f := fun k => (impl_headFault.f k s).bind fun t => if t = 0 then impl_cutAll.l0 k (s.extract (bt s 2).toNat s.size) (acc ++ [(⟨wrap64 (bt s 4), s.extract 5 (bt s 2).toNat⟩ : S26)]) else some (acc, ⟨#[]⟩, t)) (fun k => ?_) (Ev.bind hi (Ev.congr (fun k => if_pos hf) r2))
              simp only [impl_cutAll.l0]
              simp only [if_neg h5, hw, if_pos h2, if_neg h6, if_pos h4, if_pos hl.1, if_pos h7, if_pos h8, if_pos h9]
      · refine ⟨(acc, ⟨#[]⟩, fault s), ?_, ?_, by simp, by simp, fun _ h => absurd h hf⟩
        · obtain ⟨K, hK⟩ := hs
          refine ⟨K + 1, fun k hk => ?_⟩
          obtain ⟨k, rfl⟩ : ∃ m, k = m + 1 := ⟨k - 1, by omega⟩
          have hk2 : spec_l5Fault.f k s = some (fault s) := hK k (by omega)
          simp only [spec_l5Cut.l0]
          rw [if_neg hnil, hk2, Option.bind_some, if_neg hf]
        · obtain ⟨K, hK⟩ := hi
          refine ⟨K + 1, fun k hk => ?_⟩
          obtain ⟨k, rfl⟩ : ∃ m, k = m + 1 := ⟨k - 1, by omega⟩
          have hk2 : impl_headFault.f k s = some (fault s) := hK k (by omega)
          simp only [impl_cutAll.l0]
          rw [hk2, Option.bind_some, if_neg hf]
theorem CutAll_is (s : ByteArray) : ∃ r, Ev (fun k => spec_CutAll.f k s) r ∧ Ev (fun k => impl_CutAll.f k s) r ∧ r.1.length ≤ 300 := by
  by_cases h : (s.size : Int) > 300
  · refine ⟨(([] : List S26), (⟨#[]⟩ : ByteArray), 0, false), ?_, ?_, by simp⟩
    · exact Ev.congr (fun k => by unfold spec_CutAll.f; rw [if_pos h]) (Ev.now _)
    · exact Ev.congr (fun k => by unfold impl_CutAll.f; rw [if_pos h]) (Ev.now _)
  · obtain ⟨r, r1, r2, _, r4, _⟩ := cut_is s.size s [] (Nat.le_refl _) (by simp; omega)
    refine ⟨(r.1, r.2.1, r.2.2, true), ?_, ?_, by simp only [List.length_nil] at r4; show r.1.length ≤ 300; omega⟩
    · refine Ev.congr (fun k => by unfold spec_CutAll.f; rw [if_neg h]) (Ev.bind (g := fun k => spec_l5Cut.f k s) r1 (Ev.now _))
    · refine Ev.congr (fun k => by unfold impl_CutAll.f; rw [if_neg h]) (Ev.bind (g := fun k => impl_cutAll.f k s) r2 (Ev.now _))

end FnExactCutAllUses
open Go.RowKit Go.Proofs.Ytkkchcalhomgcaa.PFnExactCutAll Go.Proofs.YtkkchcalhomgcaaW.PrintWords Go.Proofs.YtkkchcalhomgcaaW.PrintLast Go.Proofs.YtkkchcalhomgcaaW.PrintMore Go.Proofs.Ytkkchcalhomgcaa.Pfx Go.Proofs.Ytkkchcalhomgcaa.Msg Go.Proofs.Ytkkchcalhomgcaa.Loop FnExactCutAllUses
set_option linter.unusedVariables false
theorem FnExactCutAll : laws_FnExactCutAll.Pure := by
  intro a0 w0
  by_cases h : (a0.size : Int) > 1048576
  · exact ⟨0, by unfold laws_FnExactCutAll.f; rw [if_pos h]⟩
  · obtain ⟨r, ⟨K1, h1⟩, ⟨K2, h2⟩, hl⟩ := CutAll_is a0
    obtain ⟨K3, h3⟩ := laws_markMsgS_is r.1 (by omega) 1 (by omega) (by omega)
    obtain ⟨K4, h4⟩ := laws_heldMsgS_is r.1.length (by omega) 1 (by omega) (by omega)
    replace h1 : ∀ k, K1 ≤ k → spec_CutAll.f k a0 = _ := h1
    replace h2 : ∀ k, K2 ≤ k → impl_CutAll.f k a0 = _ := h2
    replace h3 : ∀ k, K3 ≤ k → laws_markMsgS.f k r.1 1 = _ := h3
    replace h4 : ∀ k, K4 ≤ k → laws_heldMsgS.f k (mk_Msg 1 r.1.length) 1 = _ := h4
    refine ⟨K1 + K2 + K3 + K4 + 1000, ?_⟩
    unfold laws_FnExactCutAll.f
    rw [if_neg h, h1 _ (by omega), Option.bind_some, h2 _ (by omega), Option.bind_some, laws_eqMsgS_refl _ _ (by simp only [maxLen]; omega) (by omega), Option.bind_some, if_pos rfl, if_pos rfl, if_pos rfl]
    simp only [laws_FnExactCutAll.j0, bne_self_eq_false]
    rw [if_neg (by simp), h3 _ (by omega), Option.bind_some, h4 _ (by omega), Option.bind_some, if_neg (by omega), if_pos rfl, h2 _ (by omega), Option.bind_some, laws_eqMsgS_refl _ _ (by simp only [maxLen]; omega) (by omega), Option.bind_some, if_pos rfl, if_pos rfl, if_pos rfl]
    simp only [laws_FnExactCutAll.j1, bne_self_eq_false]
    rw [if_neg (by simp), h4 _ (by omega), Option.bind_some, if_neg (by omega), if_pos rfl]
end Go.Proofs.Ytkkchcalhomgcaa.Pure
