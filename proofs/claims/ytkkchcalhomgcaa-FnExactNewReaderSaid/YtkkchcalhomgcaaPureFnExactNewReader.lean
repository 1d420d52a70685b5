/- The pure statement of FnExactNewReader: what the printed functions tell is what the reference tells. No condition but the arguments' own bounds. -/
import Derived.Test.YtkkchcalhomgcaaPFnExactNewReaderx2
import Derived.Test.YtkkchcalhomgcaaPfx
import Derived.Test.YtkkchcalhomgcaaMsg
import Derived.Test.YtkkchcalhomgcaaLoop
namespace Go.Proofs.Ytkkchcalhomgcaa.Pure
namespace FnExactNewReaderUses
open Go.RowKit Go.Proofs.Ytkkchcalhomgcaa.PFnExactNewReader Go.Proofs.YtkkchcalhomgcaaW.PrintWords Go.Proofs.YtkkchcalhomgcaaW.PrintLast Go.Proofs.YtkkchcalhomgcaaW.PrintMore Go.Proofs.Ytkkchcalhomgcaa.Pfx Go.Proofs.Ytkkchcalhomgcaa.Msg Go.Proofs.Ytkkchcalhomgcaa.Loop
set_option linter.unusedVariables false
set_option linter.unusedSimpArgs false

theorem rdm_Msg (pre : List S26) (a : S26) (rest : List S26) : rd_T26 (pre ++ a :: rest) (pre.length : Int) = a := by unfold rd_T26; simp
theorem laws_eqMsg_refl (a : Int) (b : ByteArray) : laws_eqMsg.f a b a b = some true := by unfold laws_eqMsg.f; rw [if_pos rfl, if_pos rfl]
theorem laws_eqMsgS_refl (k : Nat) (l : List S26) (hl : l.length ≤ maxLen) (hk : l.length < k) : laws_eqMsgS.f k l l = some true := by
  unfold laws_eqMsgS.f
  rw [if_pos rfl]
  have key : ∀ (rest pre : List S26) (k : Nat), l = pre ++ rest → rest.length < k → laws_eqMsgS.l0 k l l (pre.length : Int) = some true := by
    intro rest
    induction rest with
    | nil =>
      intro pre k e hk
      obtain ⟨k, rfl⟩ : ∃ m, k = m + 1 := ⟨k - 1, by omega⟩
      simp only [laws_eqMsgS.l0]
      rw [if_neg (by rw [e]; simp)]
    | cons a rest ih =>
      intro pre k e hk
      obtain ⟨k, rfl⟩ : ∃ m, k = m + 1 := ⟨k - 1, by omega⟩
      simp only [laws_eqMsgS.l0]
      rw [if_pos (by rw [e]; exact lt_mid _ _ _), if_pos (len_nn _), if_pos (by rw [e]; exact lt_mid _ _ _), laws_eqMsg_refl]
      simp only [Option.bind_some, if_true]
      rw [wrap_mid (rest := rest) (by rw [← e]; exact hl)]
      exact ih (pre ++ [a]) k (by rw [e]; simp) (by simp at hk; omega)
  exact key l [] k rfl hk
theorem laws_markText_ex (x : Int) (hx : x ≤ 9000000000000000000) : ∃ r, Ev (fun k => laws_markText.f k x) r := by
  have key : ∀ (n : Nat) (x : Int) (s : ByteArray), x.toNat ≤ n → s.size + n ≤ 9000000000000000000 → ∃ r, Ev (fun k => laws_markText.l0 k x s) r := by
    intro n
    induction n with
    | zero =>
      intro x s h hs
      refine ⟨(⟨#[109]⟩ : ByteArray) ++ s, Ev.step (f := fun _ => some ((⟨#[109]⟩ : ByteArray) ++ s)) (fun k => ?_) (Ev.now _)⟩
      simp only [laws_markText.l0]
      rw [if_neg (by omega), if_pos (by omega)]
    | succ n ih =>
      intro x s h hs
      by_cases h0 : x > 0
      · have hd : Int.tdiv x 10 = x / 10 := Int.tdiv_eq_ediv_of_nonneg (by omega)
        have h1 : (strOfNums [(wrap64 (48 + (Int.tmod x 10))) % 256]).size = 1 := by rw [strOfNums_size]; rfl
        obtain ⟨r, hr⟩ := ih (wrap64 (Int.tdiv x 10)) (strOfNums [(wrap64 (48 + (Int.tmod x 10))) % 256] ++ s) (by rw [hd, wrap_id (by omega) (by omega)]; omega) (by rw [ByteArray.size_append, h1]; omega)
        refine ⟨r, Ev.step (fun k => ?_) hr⟩
        simp only [laws_markText.l0, Option.bind_some]
        rw [if_pos h0, if_pos (by rw [h1]; omega)]
      · refine ⟨(⟨#[109]⟩ : ByteArray) ++ s, Ev.step (f := fun _ => some ((⟨#[109]⟩ : ByteArray) ++ s)) (fun k => ?_) (Ev.now _)⟩
        simp only [laws_markText.l0]
        rw [if_neg h0, if_pos (by omega)]
  unfold laws_markText.f
  by_cases h : x ≤ 0
  · exact ⟨_, Ev.congr (fun k => if_pos h) (Ev.now _)⟩
  · obtain ⟨r, hr⟩ := key x.toNat x ⟨#[]⟩ (Nat.le_refl _) (by have : (ByteArray.mk #[]).size = 0 := rfl
                                                              omega)
    exact ⟨r, Ev.congr (fun k => if_neg h) hr⟩
noncomputable def mkText (x : Int) : ByteArray := open Classical in if h : ∃ r, Ev (fun k => laws_markText.f k x) r then h.choose else ⟨#[]⟩
theorem laws_markText_is (x : Int) (hx : x ≤ 9000000000000000000) : Ev (fun k => laws_markText.f k x) (mkText x) := by
  unfold mkText
  rw [dif_pos (laws_markText_ex x hx)]
  exact (laws_markText_ex x hx).choose_spec
noncomputable def mk_Msg : Int → Nat → List S26
  | _, 0 => []
  | q, n + 1 => ⟨q, mkText (q + 1)⟩ :: mk_Msg (q + 2) n
theorem mk_Msg_len (q : Int) (n : Nat) : (mk_Msg q n).length = n := by
  induction n generalizing q with
  | zero => rfl
  | succ n ih => simp [mk_Msg, ih]
theorem laws_markMsgS_is (l : List S26) (hl : l.length ≤ 1000000000) (q : Int) (hq : 0 ≤ q) (hq2 : q ≤ 1000000000000) : Ev (fun k => laws_markMsgS.f k l q) (q + 2 * l.length, mk_Msg q l.length) := by
  have key : ∀ (rest pre : List S26) (q : Int), 0 ≤ q → q + 2 * rest.length ≤ 4000000000000 → (pre ++ rest).length ≤ 1000000000 →
      Ev (fun k => laws_markMsgS.l0 k (pre ++ rest) q (pre.length : Int)) (q + 2 * rest.length, pre ++ mk_Msg q rest.length) := by
    intro rest
    induction rest with
    | nil =>
      intro pre q h0 h1 h2
      refine Ev.step (f := fun _ => some (q + 2 * (([] : List S26).length : Int), pre ++ mk_Msg q ([] : List S26).length)) (fun k => ?_) (Ev.now _)
      simp only [laws_markMsgS.l0]
      rw [if_neg (by simp)]
      simp [mk_Msg]
    | cons a rest ih =>
      intro pre q h0 h1 h2
      simp only [List.length_cons] at h1
      have hi := ih (pre ++ [⟨q, mkText (q + 1)⟩]) (q + 2) (by omega) (by omega) (by simp at h2 ⊢; omega)
      refine Ev.step (f := fun k => (laws_markText.f k (q + 1)).bind fun t => laws_markMsgS.l0 k (pre ++ (⟨q, t⟩ : S26) :: rest) (q + 2) ((pre ++ [a]).length : Int)) (fun k => ?_) (Ev.bind (laws_markText_is (q + 1) (by omega)) ?_)
      · simp only [laws_markMsgS.l0]
        rw [if_pos (lt_mid _ _ _), if_pos (len_nn _), rdm_Msg, set_mid, Option.bind_some, wrap_id (x := q + 1) (by omega) (by omega), wrap_id (x := q + 1 + 1) (by omega) (by omega), wrap_mid (a := a) (rest := rest) (by simp only [maxLen, List.length_append, List.length_cons] at h2 ⊢; omega)]
        rw [show q + 1 + 1 = q + 2 by omega]
        simp only [rdm_Msg, set_mid]
      · have e : (q + 2 + 2 * (rest.length : Int), pre ++ [(⟨q, mkText (q + 1)⟩ : S26)] ++ mk_Msg (q + 2) rest.length) = (q + 2 * ((a :: rest).length : Int), pre ++ mk_Msg q (a :: rest).length) := by
          simp [mk_Msg]; omega
        rw [← e, snoc_cons]
        have hl : ((pre ++ [a]).length : Int) = ((pre ++ [(⟨q, mkText (q + 1)⟩ : S26)]).length : Int) := by simp
        rw [hl]; exact hi
  unfold laws_markMsgS.f
  have := key l [] q hq (by omega) (by simpa using hl)
  simpa using this
theorem laws_heldMsgS_is (n : Nat) (hn : n ≤ 1000000000) (q : Int) (hq : 0 ≤ q) (hq2 : q ≤ 1000000000000) : Ev (fun k => laws_heldMsgS.f k (mk_Msg q n) q) (q + 2 * n) := by
  have key : ∀ (n : Nat) (pre : List S26) (q : Int), 0 ≤ q → q + 2 * n ≤ 4000000000000 → pre.length + n ≤ 1000000000 →
      Ev (fun k => laws_heldMsgS.l0 k (pre ++ mk_Msg q n) q (pre.length : Int)) (q + 2 * n) := by
    intro n
    induction n with
    | zero =>
      intro pre q h0 h1 h2
      rw [show mk_Msg q 0 = [] from rfl, List.append_nil]
      refine Ev.step (f := fun _ => some (q + 2 * ((0 : Nat) : Int))) (fun k => ?_) (Ev.now _)
      simp only [laws_heldMsgS.l0]
      rw [if_neg (by omega)]
      simp
    | succ n ih =>
      intro pre q h0 h1 h2
      rw [show mk_Msg q (n + 1) = ⟨q, mkText (q + 1)⟩ :: mk_Msg (q + 2) n from rfl]
      have hlen : (pre ++ (⟨q, mkText (q + 1)⟩ : S26) :: mk_Msg (q + 2) n).length ≤ maxLen := by
        simp only [maxLen, List.length_append, List.length_cons, mk_Msg_len]; omega
      refine Ev.step (f := fun k => (laws_markText.f k (q + 1)).bind fun t => if (mkText (q + 1)).toList = t.toList then laws_heldMsgS.l0 k (pre ++ (⟨q, mkText (q + 1)⟩ : S26) :: mk_Msg (q + 2) n) (q + 2) ((pre ++ [(⟨q, mkText (q + 1)⟩ : S26)]).length : Int) else some (-1)) (fun k => ?_) (Ev.bind (laws_markText_is (q + 1) (by omega)) ?_)
      · simp only [laws_heldMsgS.l0]
        rw [if_pos (lt_mid _ _ _), if_pos (len_nn _), rdm_Msg, if_pos rfl, wrap_id (x := q + 1) (by omega) (by omega), wrap_id (x := q + 1 + 1) (by omega) (by omega), wrap_mid hlen, show q + 1 + 1 = q + 2 by omega]
      · refine Ev.congr (fun k => if_pos rfl) ?_
        rw [snoc_cons]
        have := ih (pre ++ [⟨q, mkText (q + 1)⟩]) (q + 2) (by omega) (by omega) (by simp; omega)
        rw [show q + 2 * ((n + 1 : Nat) : Int) = q + 2 + 2 * (n : Int) by omega]
        exact this
  unfold laws_heldMsgS.f
  have := key n [] q hq (by omega) (by simpa using hn)
  simpa using this

end FnExactNewReaderUses
open Go.RowKit Go.Proofs.Ytkkchcalhomgcaa.PFnExactNewReader Go.Proofs.YtkkchcalhomgcaaW.PrintWords Go.Proofs.YtkkchcalhomgcaaW.PrintLast Go.Proofs.YtkkchcalhomgcaaW.PrintMore Go.Proofs.Ytkkchcalhomgcaa.Pfx Go.Proofs.Ytkkchcalhomgcaa.Msg Go.Proofs.Ytkkchcalhomgcaa.Loop FnExactNewReaderUses
set_option linter.unusedVariables false
theorem FnExactNewReader : laws_FnExactNewReader.Pure := by
  obtain ⟨K3, h3⟩ := laws_markMsgS_is [(⟨4, (⟨#[]⟩ : ByteArray)⟩ : S26)] (by simp) 1 (by omega) (by omega)
  obtain ⟨K4, h4⟩ := laws_heldMsgS_is 1 (by omega) 1 (by omega) (by omega)
  replace h3 : ∀ k, K3 ≤ k → laws_markMsgS.f k _ 1 = _ := h3
  replace h4 : ∀ k, K4 ≤ k → laws_heldMsgS.f k (mk_Msg 1 1) 1 = _ := h4
  have hh : ∀ k, K4 ≤ k → ∀ (a : ByteArray) (b : Int), laws_heldReader.f k a (mk_Msg 1 1) b 1 = some 3 := by
    intro k hk a b
    unfold laws_heldReader.f
    rw [h4 _ hk, Option.bind_some, if_neg (by omega)]
    rfl
  have hm : ∀ k, K3 ≤ k → ∀ (a : ByteArray) (b : Int), laws_markReader.f k a [(⟨4, (⟨#[]⟩ : ByteArray)⟩ : S26)] b 1 = some (3, mk_Msg 1 1) := by
    intro k hk a b
    unfold laws_markReader.f
    rw [h3 _ hk]
    rfl
  have he : ∀ k, 2 ≤ k → ∀ (a : ByteArray) (b : Int), laws_eqReader.f k a [(⟨4, (⟨#[]⟩ : ByteArray)⟩ : S26)] b a [(⟨4, (⟨#[]⟩ : ByteArray)⟩ : S26)] b = some true := by
    intro k hk a b
    unfold laws_eqReader.f
    rw [if_pos rfl, laws_eqMsgS_refl _ _ (by simp [maxLen]) (by simp; omega), Option.bind_some, if_pos rfl, if_pos rfl]
  refine ⟨K3 + K4 + 2, ?_⟩
  unfold laws_FnExactNewReader.f spec_NewReader.f impl_NewReader.f
  simp only [Option.bind_some]
  rw [he _ (by omega)]
  simp only [Option.bind_some]
  rw [if_pos trivial, hm _ (by omega)]
  simp only [Option.bind_some]
  rw [hh _ (by omega)]
  simp only [Option.bind_some]
  simp
end Go.Proofs.Ytkkchcalhomgcaa.Pure
