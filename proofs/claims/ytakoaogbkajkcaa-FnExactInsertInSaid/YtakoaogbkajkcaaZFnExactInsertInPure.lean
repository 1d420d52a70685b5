/- The pure statement of FnExactInsertIn: what the printed functions tell is what the reference tells. No condition but the arguments' own bounds. -/
import Derived.Test.YtakoaogbkajkcaaYFnExactInsertInx8
import Derived.Test.YtakoaogbkajkcaaQFnExactInsertIn
namespace Go.Proofs.Ytakoaogbkajkcaa.Pure
namespace FnExactInsertInUses
open Go.RowKit Go.Proofs.Ytakoaogbkajkcaa.PFnExactInsertIn Go.Proofs.YtakoaogbkajkcaaW.PrintWords Go.Proofs.YtakoaogbkajkcaaW.PrintLast Go.Proofs.YtakoaogbkajkcaaW.PrintMore Go.Proofs.Ytakoaogbkajkcaa.Pfx Go.Proofs.Ytakoaogbkajkcaa.Loop Go.Proofs.Ytakoaogbkajkcaa.Tbl
set_option linter.unusedVariables false
set_option linter.unusedSimpArgs false

theorem spec_l1In_is (a lo hi : Int) : spec_l1In.f a lo hi = some (decide (lo ≤ a ∧ a ≤ hi)) := by
  unfold spec_l1In.f
  by_cases h : lo ≤ a
  · rw [if_pos h]; simp [h]
  · rw [if_neg h]; simp [h]
theorem impl_within_is (a lo hi : Int) : impl_within.f a lo hi = some (decide (lo ≤ a ∧ a ≤ hi)) := by
  unfold impl_within.f
  by_cases h : lo ≤ a
  · rw [if_pos h]; simp [h]
  · rw [if_neg h]; simp [h]
theorem spec_l1Addr_is (a : Int) : spec_l1Addr.f a = some (decide (0 ≤ a ∧ a ≤ 4294967295)) := by
  unfold spec_l1Addr.f; rw [spec_l1In_is]; rfl
theorem impl_isAddr_is (a : Int) : impl_isAddr.f a = some (decide (0 ≤ a ∧ a ≤ 4294967295)) := by
  unfold impl_isAddr.f; rw [impl_within_is]; rfl
theorem impl_sizeOf_is {n : Int} (h0 : 0 ≤ n) (h1 : n ≤ 32) : impl_sizeOf.f n = some (sz n) := by
  unfold impl_sizeOf.f
  rw [shl_sz h0 h1, if_pos (by rw [wrap_id (by omega) (by omega)]; omega)]
theorem spec_l1Size_is (a : Int) {n : Int} (h0 : 0 ≤ n) (h1 : n ≤ 32) : spec_l1Size.f a n = some (sz n) := by
  unfold spec_l1Size.f
  have e : IntKind.u64.wrap (wrap64 (32 - n)) = wrap64 (32 - n) := by rw [wrap_id (by omega) (by omega), u64_id (by omega) (by omega)]
  rw [e, shl_sz h0 h1, if_pos (by rw [wrap_id (by omega) (by omega)]; omega)]
theorem impl_GoodPrefix_is (a n : Int) : impl_GoodPrefix.f a n = some (good a n) := by
  unfold impl_GoodPrefix.f
  rw [impl_within_is, Option.bind_some]
  by_cases h : 0 ≤ n ∧ n ≤ 32
  · rw [if_pos (decide_eq_true h), impl_isAddr_is, Option.bind_some]
    by_cases h' : 0 ≤ a ∧ a ≤ 4294967295
    · rw [if_pos (decide_eq_true h'), impl_sizeOf_is h.1 h.2, Option.bind_some, if_neg (by have := sz_pos n; omega), Int.tmod_eq_emod_of_nonneg h'.1]
      simp [good, h.1, h.2, h'.1, h'.2, beq_dec]
    · rw [if_neg (by simpa using h')]
      have : good a n = false := by simp [good]; omega
      rw [this]
  · rw [if_neg (by simpa using h)]
    have : good a n = false := by simp [good]; omega
    rw [this]
theorem spec_GoodPrefix_is (a n : Int) : spec_GoodPrefix.f a n = some (good a n) := by
  unfold spec_GoodPrefix.f
  rw [spec_l1In_is, Option.bind_some]
  by_cases h : 0 ≤ n ∧ n ≤ 32
  · rw [if_pos (decide_eq_true h), spec_l1Addr_is, Option.bind_some]
    by_cases h' : 0 ≤ a ∧ a ≤ 4294967295
    · rw [if_pos (decide_eq_true h'), spec_l1Size_is a h.1 h.2, Option.bind_some, if_neg (by have := sz_pos n; omega), Int.tmod_eq_emod_of_nonneg h'.1]
      simp [good, h.1, h.2, h'.1, h'.2, beq_dec]
    · rw [if_neg (by simpa using h')]
      have : good a n = false := by simp [good]; omega
      rw [this]
  · rw [if_neg (by simpa using h)]
    have : good a n = false := by simp [good]; omega
    rw [this]
theorem impl_isValue_is (a : Int) : impl_isValue.f a = some (isVal a) := by
  unfold impl_isValue.f; rw [impl_within_is]; rfl
theorem spec_l2Value_is (a : Int) : spec_l2Value.f a = some (isVal a) := by
  unfold spec_l2Value.f; rw [spec_l1In_is]; rfl
theorem slices_Repeat_one (a n : Int) (h0 : 0 ≤ n) (h1 : n ≤ 17592186044416) : slices_Repeat_int_int.f [a] n = some (List.replicate n.toNat a) := by
  unfold slices_Repeat_int_int.f
  dsimp only
  rw [if_pos h0, if_pos h1]
theorem rdm_Node (pre : List S86) (a : S86) (rest : List S86) : rd_T86 (pre ++ a :: rest) (pre.length : Int) = a := by unfold rd_T86; simp
/-- A half's number is put down with its depth, if it may stand there. -/
def tput (n i : Int) (D : List Int) (x : Int) : Option (List Int) := if x = 0 then some D else if i + 1 ≤ x ∧ x ≤ n - 1 ∧ rd D x < 0 then some (D.set x.toNat (rd D i + 1)) else none
def nodeOk (i : Int) (a : S86) : Bool := isVal a.f3 && (a.f2 || (a.f3 == 0 && !(decide (0 < i) && (a.f0 == 0 && a.f1 == 0))))
def trieOk (n : Int) : List S86 → Int → List Int → Int → Bool
  | [], _, _, c => decide (c ≤ 30)
  | a :: t, i, D, c => if rd D i < 0 ∨ rd D i > 32 then false else if nodeOk i a = true then
      (match (tput n i D a.f0).bind (fun D => tput n i D a.f1) with
      | none => false
      | some D' => trieOk n t (i + 1) D' (if a.f2 = true then c + 1 else c)) else false
def goodTrie (l : List S86) : Bool := if 1 ≤ (l.length : Int) ∧ (l.length : Int) ≤ 2000 then trieOk l.length l 0 ((List.replicate l.length (-1 : Int)).set 0 0) 0 else false
theorem rd_set_ne {D : List Int} {x y : Int} {v : Int} (hx : 0 ≤ x) (hy : 0 ≤ y) (h : x ≠ y) : rd (D.set x.toNat v) y = rd D y := by
  unfold rd
  have : x.toNat ≠ y.toNat := by omega
  simp only [List.getD_eq_getElem?_getD, List.getElem?_set_ne this]
theorem rd_set_eq {D : List Int} {x : Int} {v : Int} (hx : 0 ≤ x) (h : x < (D.length : Int)) : rd (D.set x.toNat v) x = v := by
  unfold rd
  have : x.toNat < D.length := by omega
  simp [List.getD_eq_getElem?_getD, List.getElem?_set, this]
/-- Depths are from -1 to 33. -/
def DepB (D : List Int) : Prop := ∀ j : Int, 0 ≤ j → -1 ≤ rd D j ∧ rd D j ≤ 33
theorem tput_ok {n i : Int} {D D' : List Int} {x : Int} (h : tput n i D x = some D') (hi : 0 ≤ i) (hb : DepB D) (hd : rd D i ≤ 32) (hn : (D.length : Int) = n) : D'.length = D.length ∧ DepB D' ∧ rd D' i = rd D i ∧ (∀ j, 0 ≤ j → 0 ≤ rd D j → rd D' j = rd D j) := by
  unfold tput at h
  by_cases h0 : x = 0
  · rw [if_pos h0] at h; cases h; exact ⟨rfl, hb, rfl, fun _ _ _ => rfl⟩
  · rw [if_neg h0] at h
    by_cases h1 : i + 1 ≤ x ∧ x ≤ n - 1 ∧ rd D x < 0
    · rw [if_pos h1] at h
      cases h
      refine ⟨List.length_set .., fun j hj => ?_, rd_set_ne (by omega) hi (by omega), fun j hj hd2 => rd_set_ne (by omega) hj (fun e => by subst e; omega)⟩
      by_cases e : x = j
      · subst e
        rw [rd_set_eq hj (by omega)]
        have := hb i hi
        omega
      · rw [rd_set_ne (by omega) hj e]; exact hb j hj
    · rw [if_neg h1] at h; cases h
theorem impl_trie_child {l : List S86} {D L : List Int} {c i : Int} {r : Bool} (hn : (l.length : Int) ≤ 2000) (hD : D.length = l.length) (hb : DepB D) (hi : 0 ≤ i) (hi2 : i < (l.length : Int)) (hd : 0 ≤ rd D i ∧ rd D i ≤ 32)
    (q : Nat) (hL : L.length = 2) (hq : q < 2)
    (h : match tput (l.length : Int) i D (rd L q) with | none => r = false | some D' => Ev (fun k => impl_GoodTrie.l1 k l D' c i l (l.length : Int) i L 2 ((q + 1 : Nat) : Int)) r) :
    Ev (fun k => impl_GoodTrie.l1 k l D c i l (l.length : Int) i L 2 (q : Int)) r := by
  have hw : wrap64 ((q : Int) + 1) = ((q + 1 : Nat) : Int) := by rw [wrap_id (by omega) (by omega)]; omega
  have hw1 : wrap64 (i + 1) = i + 1 := wrap_id (by omega) (by omega)
  have hw2 : wrap64 ((l.length : Int) - 1) = (l.length : Int) - 1 := wrap_id (by omega) (by omega)
  have hw3 : wrap64 (rd D i + 1) = rd D i + 1 := wrap_id (by omega) (by omega)
  unfold tput at h
  by_cases h0 : rd L q = 0
  · rw [if_pos h0] at h
    refine Ev.step (fun k => ?_) h
    rw [impl_GoodTrie.l1, if_pos (by omega), if_pos (by omega), if_pos (by rw [hL]; omega), if_pos h0, hw]
  · rw [if_neg h0] at h
    by_cases h1 : i + 1 ≤ rd L q ∧ rd L q ≤ (l.length : Int) - 1
    · by_cases h2 : rd D (rd L q) < 0
      · rw [if_pos ⟨h1.1, h1.2, h2⟩] at h
        refine Ev.step (fun k => ?_) h
        rw [impl_GoodTrie.l1, if_pos (by omega), if_pos (by omega), if_pos (by rw [hL]; omega), if_neg h0, impl_within_is, Option.bind_some, hw1, hw2, if_pos (decide_eq_true h1), if_pos (by omega), if_pos (by rw [hD]; omega), if_neg (by omega), if_pos hi, if_pos (by rw [hD]; omega), hw, hw3]
      · rw [if_neg (fun h' => h2 h'.2.2)] at h
        subst h
        refine Ev.step (fun k => ?_) (Ev.now _)
        rw [impl_GoodTrie.l1, if_pos (by omega), if_pos (by omega), if_pos (by rw [hL]; omega), if_neg h0, impl_within_is, Option.bind_some, hw1, hw2, if_pos (decide_eq_true h1), if_pos (by omega), if_pos (by rw [hD]; omega), if_pos (by omega)]
    · rw [if_neg (fun h' => h1 ⟨h'.1, h'.2.1⟩)] at h
      subst h
      refine Ev.step (fun k => ?_) (Ev.now _)
      rw [impl_GoodTrie.l1, if_pos (by omega), if_pos (by omega), if_pos (by rw [hL]; omega), if_neg h0, impl_within_is, Option.bind_some, hw1, hw2, if_neg (by simpa using h1)]
theorem impl_trie_l0 {l : List S86} (hn : (l.length : Int) ≤ 2000) : ∀ (rest pre : List S86) (D : List Int) (c : Int), l = pre ++ rest → D.length = l.length → DepB D → 0 ≤ c → c ≤ pre.length →
    Ev (fun k => impl_GoodTrie.l0 k l D c l (l.length : Int) (pre.length : Int)) (trieOk l.length rest pre.length D c)
  | [], pre, D, c, e, hD, hb, c0, c1 => by
    refine Ev.step (fun k => ?_) (Ev.now _)
    rw [impl_GoodTrie.l0, if_neg (by rw [e]; simp), trieOk]
  | a :: rest, pre, D, c, e, hD, hb, c0, c1 => by
    have hlen : (l.length : Int) = pre.length + (rest.length + 1) := by rw [e]; simp
    have h1 : rd_T86 l (pre.length : Int) = a := by rw [e]; exact rdm_Node _ _ _
    have hbi := hb (pre.length : Int) (by omega)
    have step : ∀ bad : Bool, (bad = (decide (rd D (pre.length : Int) < 0 ∨ rd D (pre.length : Int) > 32) || !nodeOk (pre.length : Int) a)) → ∀ k, impl_GoodTrie.l0 (k + 1) l D c l (l.length : Int) (pre.length : Int) = impl_GoodTrie.j1 k l D c (pre.length : Int) l (l.length : Int) (pre.length : Int) bad a.f0 a.f1 a.f2 a.f3 := by
      intro bad hbad k
      rw [impl_GoodTrie.l0, if_pos (by omega), if_pos (by omega), if_pos (by omega), if_pos (by rw [hD]; omega), h1]
      subst hbad
      by_cases b1 : rd D (pre.length : Int) < 0
      · rw [if_pos b1]; simp [b1]
      · rw [if_neg b1]
        by_cases b2 : rd D (pre.length : Int) > 32
        · rw [if_pos b2]; simp [b2]
        · rw [if_neg b2, impl_isValue_is, Option.bind_some]
          have b3 : (decide (rd D (pre.length : Int) < 0 ∨ rd D (pre.length : Int) > 32)) = false := decide_eq_false (fun h => h.elim b1 b2)
          rw [b3, Bool.false_or]
          unfold nodeOk
          cases hv : isVal a.f3
          · rfl
          · rw [if_pos rfl]
            cases hh : a.f2
            · rw [if_neg (by simp)]
              by_cases b4 : a.f3 = 0
              · rw [if_pos b4]
                by_cases b5 : (pre.length : Int) > 0
                · rw [if_pos b5]
                  by_cases b6 : a.f0 = 0
                  · rw [if_pos b6]
                    have b5' : decide (0 < (pre.length : Int)) = true := decide_eq_true b5
                    simp only [b4, b5', b6, beq_self_eq_true, Bool.true_and, Bool.false_or, Bool.not_not]
                  · rw [if_neg b6]
                    have b6' : (a.f0 == 0) = false := by simpa using b6
                    simp [b4, b6']
                · rw [if_neg b5]
                  have b5' : decide (0 < (pre.length : Int)) = false := decide_eq_false b5
                  simp only [b4, b5', beq_self_eq_true, Bool.true_and, Bool.false_and, Bool.not_false, Bool.or_true, Bool.not_true]
              · rw [if_neg b4]
                have b4' : (a.f3 == 0) = false := by simpa using b4
                simp [b4']
            · rw [if_pos rfl]
              by_cases b5 : (pre.length : Int) > 0
              · rw [if_pos b5]; simp
              · rw [if_neg b5]; simp
    refine Ev.step (step _ rfl) ?_
    rw [trieOk]
    by_cases hd : rd D (pre.length : Int) < 0 ∨ rd D (pre.length : Int) > 32
    · rw [if_pos hd, decide_eq_true hd]
      refine Ev.step (fun k => ?_) (Ev.now _)
      rw [impl_GoodTrie.j1, if_pos (by rfl)]
    · rw [if_neg hd, decide_eq_false hd, Bool.false_or]
      cases hok : nodeOk (pre.length : Int) a
      · rw [if_neg (by simp)]
        refine Ev.step (fun k => ?_) (Ev.now _)
        rw [impl_GoodTrie.j1, if_pos (by rfl)]
      · rw [if_pos rfl]
        have hd2 : 0 ≤ rd D (pre.length : Int) ∧ rd D (pre.length : Int) ≤ 32 := by omega
        have hwc : wrap64 (c + 1) = c + 1 := wrap_id (by omega) (by omega)
        have hcc : (0 ≤ if a.f2 = true then c + 1 else c) ∧ (if a.f2 = true then c + 1 else c) ≤ (pre.length : Int) + 1 := by by_cases h : a.f2 = true <;> simp only [h, if_true, if_false, Bool.false_eq_true] <;> omega
        have key : ∀ c', 0 ≤ c' → c' ≤ (pre.length : Int) + 1 → Ev (fun k => impl_GoodTrie.j2 k l D c' (pre.length : Int) l (l.length : Int) (pre.length : Int) a.f0 a.f1 a.f2 a.f3) (match (tput (l.length : Int) (pre.length : Int) D a.f0).bind (fun D => tput (l.length : Int) (pre.length : Int) D a.f1) with | none => false | some D' => trieOk (l.length : Int) rest ((pre.length : Int) + 1) D' c') := by
          intro c' g0 g1
          refine Ev.step (f := fun k => impl_GoodTrie.l1 k l D c' (pre.length : Int) l (l.length : Int) (pre.length : Int) [a.f0, a.f1] 2 ((0 : Nat) : Int)) (fun k => ?_) ?_
          · rw [impl_GoodTrie.j2, Option.bind_some]; rfl
          · refine impl_trie_child hn hD hb (by omega) (by omega) hd2 0 rfl (by omega) ?_
            rw [show rd [a.f0, a.f1] ((0 : Nat) : Int) = a.f0 from rfl]
            cases hp : tput (l.length : Int) (pre.length : Int) D a.f0 with
            | none => rfl
            | some D1 =>
              obtain ⟨g2, g3, g4, _⟩ := tput_ok hp (by omega) hb hd2.2 (by rw [hD])
              refine impl_trie_child hn (by omega) g3 (by omega) (by omega) (by omega) 1 rfl (by omega) ?_
              rw [show rd [a.f0, a.f1] ((1 : Nat) : Int) = a.f1 from rfl, Option.bind_some]
              cases hp2 : tput (l.length : Int) (pre.length : Int) D1 a.f1 with
              | none => rfl
              | some D2 =>
                obtain ⟨g5, g6, g7, _⟩ := tput_ok hp2 (by omega) g3 (by omega) (by rw [g2, hD])
                refine Ev.step (f := fun k => impl_GoodTrie.l0 k l D2 c' l (l.length : Int) ((pre ++ [a]).length : Int)) (fun k => ?_) ?_
                · rw [impl_GoodTrie.l1, if_neg (by decide), wrap_mid (rest := rest) (by rw [← e]; simp only [maxLen]; omega)]
                · have := impl_trie_l0 hn rest (pre ++ [a]) D2 c' (by rw [e]; simp) (by omega) g6 g0 (by simp; omega)
                  rwa [show ((pre ++ [a]).length : Int) = (pre.length : Int) + 1 by simp] at this ⊢
        refine Ev.step (f := fun k => impl_GoodTrie.j2 k l D (if a.f2 = true then c + 1 else c) (pre.length : Int) l (l.length : Int) (pre.length : Int) a.f0 a.f1 a.f2 a.f3) (fun k => ?_) (key _ hcc.1 hcc.2)
        rw [impl_GoodTrie.j1, if_neg (by decide), hwc]
        by_cases h : a.f2 = true
        · rw [if_pos h, if_pos h]
        · rw [if_neg h, if_neg h]
theorem depB_first (n : Nat) : DepB ((List.replicate n (-1 : Int)).set 0 0) := by
  intro j hj
  unfold rd
  rw [List.getD_eq_getElem?_getD, List.getElem?_set]
  by_cases h : 0 = j.toNat
  · rw [if_pos h]
    by_cases h2 : 0 < (List.replicate n (-1 : Int)).length
    · rw [if_pos h2]; simp
    · rw [if_neg h2]; simp
  · rw [if_neg h, List.getElem?_replicate]
    by_cases h2 : j.toNat < n
    · rw [if_pos h2]; simp
    · rw [if_neg h2]; simp
theorem impl_GoodTrie_is (l : List S86) : Ev (fun k => impl_GoodTrie.f k l) (goodTrie l) := by
  unfold goodTrie
  by_cases h : 1 ≤ (l.length : Int) ∧ (l.length : Int) ≤ 2000
  · rw [if_pos h]
    refine Ev.congr (f := fun k => impl_GoodTrie.l0 k l ((List.replicate l.length (-1 : Int)).set 0 0) 0 l (l.length : Int) (([] : List S86).length : Int)) (fun k => ?_) (impl_trie_l0 h.2 l [] _ 0 rfl (by simp) (depB_first _) (by omega) (by simp))
    unfold impl_GoodTrie.f
    rw [impl_within_is, Option.bind_some, if_pos (decide_eq_true h)]
    rw [slices_Repeat_one _ _ (by omega) (by omega), Option.bind_some, if_pos (by rw [List.length_replicate]; omega)]
    simp
  · rw [if_neg h]
    refine Ev.congr (fun k => ?_) (Ev.now false)
    unfold impl_GoodTrie.f
    rw [impl_within_is, Option.bind_some, if_neg (by simpa using h)]
/-- The reference's two rows, and the one row of depths. -/
structure TRel (D U E : List Int) : Prop where
  lu : U.length = D.length
  le : E.length = D.length
  zero : rd U 0 = 0 ∧ rd D 0 = 0 ∧ rd E 0 = 0
  other : ∀ j : Int, 0 < j → j < (D.length : Int) → (rd D j < 0 ∧ rd U j = 0) ∨ (0 ≤ rd D j ∧ rd U j = 1 ∧ rd E j = rd D j)
theorem TRel.deep {D U E : List Int} (h : TRel D U E) {j : Int} (h0 : 0 ≤ j) (h1 : j < (D.length : Int)) (h2 : 0 ≤ rd D j) : rd E j = rd D j := by
  by_cases e : j = 0
  · subst e; rw [h.zero.2.1, h.zero.2.2]
  · rcases h.other j (by omega) h1 with h3 | h3
    · omega
    · exact h3.2.2
theorem TRel.put {D U E : List Int} (h : TRel D U E) {x v : Int} (h0 : 0 < x) (h1 : x < (D.length : Int)) (hv : 0 ≤ v) : TRel (D.set x.toNat v) (U.set x.toNat 1) (E.set x.toNat v) := by
  refine ⟨by simp [h.lu], by simp [h.le], ⟨?_, ?_, ?_⟩, fun j h2 h3 => ?_⟩
  · rw [rd_set_ne (by omega) (by omega) (by omega)]; exact h.zero.1
  · rw [rd_set_ne (by omega) (by omega) (by omega)]; exact h.zero.2.1
  · rw [rd_set_ne (by omega) (by omega) (by omega)]; exact h.zero.2.2
  · have h3' : j < (D.length : Int) := by simpa using h3
    by_cases e : x = j
    · subst e
      rw [rd_set_eq (by omega) h1, rd_set_eq (by omega) (by rw [h.lu]; exact h1), rd_set_eq (by omega) (by rw [h.le]; exact h1)]
      exact .inr ⟨hv, rfl, rfl⟩
    · rw [rd_set_ne (by omega) (by omega) e, rd_set_ne (by omega) (by omega) e, rd_set_ne (by omega) (by omega) e]
      exact h.other j h2 h3'
theorem spec_trie_child {l : List S86} {D U E L : List Int} {c i z o v : Int} {hs : Bool} {r : Bool} (hn : (l.length : Int) ≤ 2000) (hD : D.length = l.length) (hb : DepB D) (hR : TRel D U E) (hi : 0 ≤ i) (hi2 : i < (l.length : Int)) (hd : 0 ≤ rd D i ∧ rd D i ≤ 32)
    (q : Nat) (hL : L.length = 2) (hq : q < 2)
    (h : match tput (l.length : Int) i D (rd L q) with | none => r = false | some D' => ∀ U' E', TRel D' U' E' → Ev (fun k => spec_GoodTrie.l1 k l U' E' c i l (l.length : Int) i L 2 ((q + 1 : Nat) : Int) z o hs v) r) :
    Ev (fun k => spec_GoodTrie.l1 k l U E c i l (l.length : Int) i L 2 (q : Int) z o hs v) r := by
  have hw : wrap64 ((q : Int) + 1) = ((q + 1 : Nat) : Int) := by rw [wrap_id (by omega) (by omega)]; omega
  have hE : rd E i = rd D i := hR.deep hi (by omega) hd.1
  have hw3 : wrap64 (rd E i + 1) = rd D i + 1 := by rw [hE]; exact wrap_id (by omega) (by omega)
  have lu := hR.lu
  have le := hR.le
  unfold tput at h
  by_cases h0 : rd L q = 0
  · rw [if_pos h0] at h
    refine Ev.step (fun k => ?_) (h U E hR)
    rw [spec_GoodTrie.l1, if_pos (by omega), if_pos (by omega), if_pos (by rw [hL]; omega), if_pos h0, hw]
  · rw [if_neg h0] at h
    by_cases h1 : i + 1 ≤ rd L q ∧ rd L q ≤ (l.length : Int) - 1
    · rcases hR.other (rd L q) (by omega) (by omega) with h3 | h3
      · rw [if_pos ⟨h1.1, h1.2, h3.1⟩] at h
        refine Ev.step (fun k => ?_) (h _ _ (hR.put (x := rd L q) (v := rd D i + 1) (by omega) (by omega) (by omega)))
        rw [spec_GoodTrie.l1, if_pos (by omega), if_pos (by omega), if_pos (by rw [hL]; omega), if_neg h0, if_neg (by omega), if_neg (by omega), if_pos (by omega), if_pos (by omega), if_pos h3.2, if_pos hi, if_pos (by omega), if_pos (by omega), hw, hw3]
      · rw [if_neg (fun h' => by omega)] at h
        subst h
        refine Ev.step (fun k => ?_) (Ev.now _)
        rw [spec_GoodTrie.l1, if_pos (by omega), if_pos (by omega), if_pos (by rw [hL]; omega), if_neg h0, if_neg (by omega), if_neg (by omega), if_pos (by omega), if_pos (by omega), if_neg (by omega)]
    · rw [if_neg (fun h' => h1 ⟨h'.1, h'.2.1⟩)] at h
      subst h
      refine Ev.step (fun k => ?_) (Ev.now _)
      by_cases h4 : rd L q ≤ i
      · rw [spec_GoodTrie.l1, if_pos (by omega), if_pos (by omega), if_pos (by rw [hL]; omega), if_neg h0, if_pos h4]
      · rw [spec_GoodTrie.l1, if_pos (by omega), if_pos (by omega), if_pos (by rw [hL]; omega), if_neg h0, if_neg h4, if_pos (by omega)]
theorem spec_trie_end (l : List S86) (U E : List Int) (c i : Int) (a : S86) (L : List Int) (r : Bool) (hi : 0 ≤ i)
    (h : nodeOk i a = true → Ev (fun k => spec_GoodTrie.l0 k l U E (if a.f2 = true then wrap64 (c + 1) else c) l (l.length : Int) (wrap64 (i + 1))) r) (h' : nodeOk i a = false → r = false) :
    Ev (fun k => spec_GoodTrie.l1 k l U E c i l (l.length : Int) i L 2 ((2 : Nat) : Int) a.f0 a.f1 a.f2 a.f3) r := by
  have st : ∀ k, spec_GoodTrie.l1 (k + 1) l U E c i l (l.length : Int) i L 2 ((2 : Nat) : Int) a.f0 a.f1 a.f2 a.f3 = if nodeOk i a = true then spec_GoodTrie.l0 k l U E (if a.f2 = true then wrap64 (c + 1) else c) l (l.length : Int) (wrap64 (i + 1)) else some false := by
    intro k
    rw [spec_GoodTrie.l1, if_neg (by decide), spec_l2Value_is]
    simp only [Option.bind_some]
    unfold nodeOk
    cases hv : isVal a.f3
    · cases hh : a.f2
      · by_cases b4 : a.f3 = 0
        · simp [b4]
        · simp [b4]
      · simp
    · cases hh : a.f2
      · by_cases b4 : a.f3 = 0
        · by_cases b5 : i > 0
          · by_cases b6 : a.f0 = 0
            · by_cases b7 : a.f1 = 0
              · simp [b4, b5, b6, b7]
              · simp [b4, b5, b6, b7]
            · simp [b4, b5, b6]
          · simp [b4, b5]
        · simp [b4]
      · by_cases b5 : i > 0
        · by_cases b6 : a.f0 = 0
          · by_cases b7 : a.f1 = 0
            · simp [b5, b6, b7]
            · simp [b5, b6, b7]
          · simp [b5, b6]
        · simp [b5]
  cases hok : nodeOk i a
  · rw [h' hok]
    refine Ev.step (fun k => ?_) (Ev.now _)
    rw [st, if_neg (by rw [hok]; decide)]
  · refine Ev.step (fun k => ?_) (h hok)
    rw [st, if_pos hok]
theorem spec_trie_l0 {l : List S86} (hn : (l.length : Int) ≤ 2000) : ∀ (rest pre : List S86) (D U E : List Int) (c : Int), l = pre ++ rest → D.length = l.length → DepB D → TRel D U E → 0 ≤ c → c ≤ pre.length →
    Ev (fun k => spec_GoodTrie.l0 k l U E c l (l.length : Int) (pre.length : Int)) (trieOk l.length rest pre.length D c)
  | [], pre, D, U, E, c, e, hD, hb, hR, c0, c1 => by
    refine Ev.step (fun k => ?_) (Ev.now _)
    rw [spec_GoodTrie.l0, if_neg (by rw [e]; simp), trieOk]
  | a :: rest, pre, D, U, E, c, e, hD, hb, hR, c0, c1 => by
    have hlen : (l.length : Int) = pre.length + (rest.length + 1) := by rw [e]; simp
    have h1 : rd_T86 l (pre.length : Int) = a := by rw [e]; exact rdm_Node _ _ _
    have lu := hR.lu
    have le := hR.le
    have step : ∀ k, spec_GoodTrie.l0 (k + 1) l U E c l (l.length : Int) (pre.length : Int) = spec_GoodTrie.j1 k l U E c (pre.length : Int) l (l.length : Int) (pre.length : Int) (decide (rd D (pre.length : Int) < 0 ∨ rd D (pre.length : Int) > 32)) a.f0 a.f1 a.f2 a.f3 := by
      intro k
      rw [spec_GoodTrie.l0, if_pos (by omega), if_pos (by omega), if_pos (by omega), h1]
      by_cases b5 : (pre.length : Int) > 0
      · rw [if_pos b5, if_pos (by omega)]
        rcases hR.other (pre.length : Int) (by omega) (by omega) with h3 | h3
        · rw [if_pos h3.2, decide_eq_true (Or.inl h3.1)]
        · have h4 : ¬ rd D (pre.length : Int) < 0 := by omega
          rw [if_neg (by omega), if_pos (by omega), h3.2.2]
          simp [h4]
      · have e0 : (pre.length : Int) = 0 := by omega
        rw [if_neg b5, if_pos (by omega), e0, hR.zero.2.1, hR.zero.2.2]
        simp
    refine Ev.step step ?_
    rw [trieOk]
    by_cases hd : rd D (pre.length : Int) < 0 ∨ rd D (pre.length : Int) > 32
    · rw [if_pos hd, decide_eq_true hd]
      refine Ev.step (fun k => ?_) (Ev.now _)
      rw [spec_GoodTrie.j1, if_pos rfl]
    · rw [if_neg hd, decide_eq_false hd]
      have hd2 : 0 ≤ rd D (pre.length : Int) ∧ rd D (pre.length : Int) ≤ 32 := by omega
      refine Ev.step (f := fun k => spec_GoodTrie.l1 k l U E c (pre.length : Int) l (l.length : Int) (pre.length : Int) [a.f0, a.f1] 2 ((0 : Nat) : Int) a.f0 a.f1 a.f2 a.f3) (fun k => ?_) ?_
      · rw [spec_GoodTrie.j1, if_neg (by decide), Option.bind_some]; rfl
      · have hfin : ∀ r : Bool, nodeOk (pre.length : Int) a = false → (if nodeOk (pre.length : Int) a = true then r else false) = false := fun r h => by rw [if_neg (by rw [h]; decide)]
        refine spec_trie_child hn hD hb hR (by omega) (by omega) hd2 0 rfl (by omega) ?_
        rw [show rd [a.f0, a.f1] ((0 : Nat) : Int) = a.f0 from rfl]
        cases hp : tput (l.length : Int) (pre.length : Int) D a.f0 with
        | none => by_cases hok : nodeOk (pre.length : Int) a = true <;> simp [hok]
        | some D1 =>
          intro U1 E1 hR1
          obtain ⟨g2, g3, g4, _⟩ := tput_ok hp (by omega) hb hd2.2 (by rw [hD])
          refine spec_trie_child hn (by omega) g3 hR1 (by omega) (by omega) (by omega) 1 rfl (by omega) ?_
          rw [show rd [a.f0, a.f1] ((1 : Nat) : Int) = a.f1 from rfl, Option.bind_some]
          cases hp2 : tput (l.length : Int) (pre.length : Int) D1 a.f1 with
          | none => by_cases hok : nodeOk (pre.length : Int) a = true <;> simp [hok]
          | some D2 =>
            intro U2 E2 hR2
            obtain ⟨g5, g6, g7, _⟩ := tput_ok hp2 (by omega) g3 (by omega) (by rw [g2, hD])
            refine spec_trie_end l U2 E2 c (pre.length : Int) a [a.f0, a.f1] _ (by omega) (fun hok => ?_) (hfin _)
            rw [if_pos hok, wrap_mid (rest := rest) (by rw [← e]; simp only [maxLen]; omega)]
            have hwc : wrap64 (c + 1) = c + 1 := wrap_id (by omega) (by omega)
            rw [hwc]
            have hcc : (0 ≤ if a.f2 = true then c + 1 else c) ∧ (if a.f2 = true then c + 1 else c) ≤ (pre.length : Int) + 1 := by by_cases h : a.f2 = true <;> simp only [h, if_true, if_false, Bool.false_eq_true] <;> omega
            have := spec_trie_l0 hn rest (pre ++ [a]) D2 U2 E2 (if a.f2 = true then c + 1 else c) (by rw [e]; simp) (by omega) g6 hR2 hcc.1 (by simp; omega)
            rwa [show ((pre ++ [a]).length : Int) = (pre.length : Int) + 1 by simp] at this ⊢
theorem tRel_first (n : Nat) : TRel ((List.replicate n (-1 : Int)).set 0 0) (List.replicate n 0) (List.replicate n 0) := by
  have hz : ∀ j : Int, rd (List.replicate n (0 : Int)) j = 0 := by
    intro j
    unfold rd
    rw [List.getD_eq_getElem?_getD, List.getElem?_replicate]
    by_cases h2 : j.toNat < n
    · rw [if_pos h2]; rfl
    · rw [if_neg h2]; rfl
  refine ⟨by simp, by simp, ⟨hz 0, ?_, hz 0⟩, fun j h0 h1 => .inl ⟨?_, hz j⟩⟩
  · unfold rd
    rw [List.getD_eq_getElem?_getD, List.getElem?_set]
    by_cases h2 : 0 < n
    · simp [h2]
    · simp [h2]
  · have h1' : j < (n : Int) := by simpa using h1
    rw [show (0 : Nat) = (0 : Int).toNat from rfl, rd_set_ne (by omega) (by omega) (by omega)]
    unfold rd
    rw [List.getD_eq_getElem?_getD, List.getElem?_replicate, if_pos (by omega)]
    simp
theorem spec_GoodTrie_is (l : List S86) : Ev (fun k => spec_GoodTrie.f k l) (goodTrie l) := by
  unfold goodTrie
  by_cases h : 1 ≤ (l.length : Int) ∧ (l.length : Int) ≤ 2000
  · rw [if_pos h]
    refine Ev.congr (f := fun k => spec_GoodTrie.l0 k l (List.replicate l.length 0) (List.replicate l.length 0) 0 l (l.length : Int) (([] : List S86).length : Int)) (fun k => ?_) (spec_trie_l0 h.2 l [] _ _ _ 0 rfl (by simp) (depB_first _) (tRel_first _) (by omega) (by simp))
    unfold spec_GoodTrie.f
    rw [spec_l1In_is, Option.bind_some, if_pos (decide_eq_true h), if_pos (by omega), if_pos (by omega)]
    rfl
  · rw [if_neg h]
    refine Ev.congr (fun k => ?_) (Ev.now false)
    unfold spec_GoodTrie.f
    rw [spec_l1In_is, Option.bind_some, if_neg (by simpa using h)]
theorem laws_szTrieNodeS_is (l : List S88) (m0 : l.length ≤ maxLen) : ∃ r, laws_szTrieNodeS.f l 1048576 = some r ∧ (¬ r < 0 → l.length ≤ 1048576) := by
  unfold laws_szTrieNodeS.f
  by_cases hc : wrap64 (1048576 - (l.length : Int)) < 0
  · rw [if_pos hc]; exact ⟨_, rfl, fun h => absurd (by omega) h⟩
  · rw [if_neg hc]; exact ⟨_, rfl, fun h => sz_ok m0 (by rw [if_neg hc]) h⟩
theorem laws_toTrieNodeS_is (k : Nat) (l : List S88) (hl : l.length ≤ 1048576) (hk : l.length < k) : laws_toTrieNodeS.f k l = some (l.map fun p => (⟨p.f0, p.f1, p.f2, p.f3⟩ : S86)) := by
  unfold laws_toTrieNodeS.f
  rw [if_pos (len_nn _), if_pos (by simp; omega)]
  have key : ∀ (rest pre : List S88) (k : Nat), l = pre ++ rest → rest.length < k →
      laws_toTrieNodeS.l0 k l (pre.map (fun p => (⟨p.f0, p.f1, p.f2, p.f3⟩ : S86)) ++ List.replicate rest.length z86) (pre.length : Int) = some (l.map fun p => (⟨p.f0, p.f1, p.f2, p.f3⟩ : S86)) := by
    intro rest
    induction rest with
    | nil =>
      intro pre k e hk
      obtain ⟨k, rfl⟩ : ∃ m, k = m + 1 := ⟨k - 1, by omega⟩
      simp only [laws_toTrieNodeS.l0]
      rw [if_neg (by rw [e]; simp)]
      simp [e]
    | cons a rest ih =>
      intro pre k e hk
      obtain ⟨k, rfl⟩ : ∃ m, k = m + 1 := ⟨k - 1, by omega⟩
      have h1 : rd_T88 l (pre.length : Int) = a := by rw [e]; unfold rd_T88; simp
      simp only [laws_toTrieNodeS.l0]
      rw [if_pos (by rw [e]; exact lt_mid _ _ _), if_pos (len_nn _), h1]
      unfold laws_toTrieNode.f
      rw [Option.bind_some, if_pos (by simp; omega), wrap_mid (rest := rest) (by rw [← e]; simp only [maxLen]; omega)]
      have := ih (pre ++ [a]) k (by rw [e]; simp) (by simp at hk; omega)
      rw [← this]
      congr 1
      have es : ((pre.map (fun p => (⟨p.f0, p.f1, p.f2, p.f3⟩ : S86))).length : Int) = (pre.length : Int) := by simp
      rw [← es, List.length_cons, List.replicate_succ, set_mid]
      simp
  have := key l [] k rfl hk
  simpa using this
theorem laws_eqTrieNode_self (a b : Int) (c : Bool) (d : Int) : laws_eqTrieNode.f a b c d a b c d = some true := by
  unfold laws_eqTrieNode.f; simp
theorem laws_eqTrieNodeS_refl (k : Nat) (l : List S86) (hl : l.length ≤ maxLen) (hk : l.length < k) : laws_eqTrieNodeS.f k l l = some true := by
  unfold laws_eqTrieNodeS.f
  rw [if_pos rfl]
  have key : ∀ (rest pre : List S86) (k : Nat), l = pre ++ rest → rest.length < k → laws_eqTrieNodeS.l0 k l l (pre.length : Int) = some true := by
    intro rest
    induction rest with
    | nil =>
      intro pre k e hk
      obtain ⟨k, rfl⟩ : ∃ m, k = m + 1 := ⟨k - 1, by omega⟩
      simp only [laws_eqTrieNodeS.l0]
      rw [if_neg (by rw [e]; simp)]
    | cons a rest ih =>
      intro pre k e hk
      obtain ⟨k, rfl⟩ : ∃ m, k = m + 1 := ⟨k - 1, by omega⟩
      simp only [laws_eqTrieNodeS.l0]
      rw [if_pos (by rw [e]; exact lt_mid _ _ _), if_pos (len_nn _), if_pos (by rw [e]; exact lt_mid _ _ _), laws_eqTrieNode_self]
      simp only [Option.bind_some, if_true]
      rw [wrap_mid (rest := rest) (by rw [← e]; exact hl)]
      exact ih (pre ++ [a]) k (by rw [e]; simp) (by simp at hk; omega)
  exact key l [] k rfl hk
/-- A half's number: none, or a later node's. -/
def kidOk (n i x : Int) : Prop := x = 0 ∨ (i + 1 ≤ x ∧ x ≤ n - 1)
theorem tput_kid {n i : Int} {D D' : List Int} {x : Int} (h : tput n i D x = some D') : kidOk n i x := by
  unfold tput at h
  by_cases h0 : x = 0
  · exact .inl h0
  · rw [if_neg h0] at h
    by_cases h1 : i + 1 ≤ x ∧ x ≤ n - 1 ∧ rd D x < 0
    · exact .inr ⟨h1.1, h1.2.1⟩
    · rw [if_neg h1] at h; cases h
theorem trieOk_kids (n : Int) : ∀ (rest : List S86) (i : Int) (D : List Int) (c : Int), trieOk n rest i D c = true → ∀ (j : Nat) (a : S86), rest[j]? = some a → (kidOk n (i + j) a.f0 ∧ kidOk n (i + j) a.f1) ∧ isVal a.f3 = true
  | [], _, _, _, _, j, a, h => by simp at h
  | b :: t, i, D, c, ht, j, a, h => by
    rw [trieOk] at ht
    by_cases hd : rd D i < 0 ∨ rd D i > 32
    · rw [if_pos hd] at ht; cases ht
    · rw [if_neg hd] at ht
      cases hok : nodeOk i b
      · rw [hok, if_neg (by decide)] at ht; cases ht
      · rw [hok, if_pos rfl] at ht
        cases hp : tput n i D b.f0 with
        | none => rw [hp] at ht; cases ht
        | some D1 =>
          rw [hp, Option.bind_some] at ht
          cases hp2 : tput n i D1 b.f1 with
          | none => rw [hp2] at ht; cases ht
          | some D2 =>
            rw [hp2] at ht
            cases j with
            | zero =>
              simp at h
              subst h
              refine ⟨by simpa using ⟨tput_kid hp, tput_kid hp2⟩, ?_⟩
              unfold nodeOk at hok
              simp only [Bool.and_eq_true] at hok
              exact hok.1
            | succ j =>
              have := trieOk_kids n t (i + 1) D2 _ ht j a (by simpa using h)
              rwa [show i + 1 + (j : Int) = i + ((j + 1 : Nat) : Int) by omega] at this
theorem goodTrie_len {l : List S86} (h : goodTrie l = true) : 1 ≤ (l.length : Int) ∧ (l.length : Int) ≤ 2000 := by
  unfold goodTrie at h
  by_cases h1 : 1 ≤ (l.length : Int) ∧ (l.length : Int) ≤ 2000
  · exact h1
  · rw [if_neg h1] at h; cases h
theorem goodTrie_kids {l : List S86} (h : goodTrie l = true) {i : Int} (h0 : 0 ≤ i) (h1 : i < (l.length : Int)) : (kidOk l.length i (rd_T86 l i).f0 ∧ kidOk l.length i (rd_T86 l i).f1) ∧ isVal (rd_T86 l i).f3 = true := by
  have hl := goodTrie_len h
  unfold goodTrie at h
  rw [if_pos hl] at h
  have hi : i.toNat < l.length := by omega
  have := trieOk_kids _ l 0 _ _ h i.toNat (l[i.toNat]'hi) (List.getElem?_eq_getElem hi)
  have e : rd_T86 l i = l[i.toNat]'hi := by unfold rd_T86; rw [List.getD_eq_getElem?_getD, List.getElem?_eq_getElem hi]; rfl
  rw [e]
  rwa [show (0 : Int) + (i.toNat : Int) = i by omega] at this
def bitv (a d : Int) : Int := Go.bits .and .i64 (shr .i64 a (31 - d)) 1
theorem bitv_range (a d : Int) : bitv a d = 0 ∨ bitv a d = 1 := by
  unfold bitv
  show IntKind.i64.wrap ((BitVec.ofInt 64 _ &&& BitVec.ofInt 64 1).toNat : Int) = 0 ∨ IntKind.i64.wrap ((BitVec.ofInt 64 _ &&& BitVec.ofInt 64 1).toNat : Int) = 1
  rw [BitVec.toNat_and]
  have h := @Nat.and_le_right (BitVec.ofInt 64 (shr .i64 a (31 - d))).toNat (BitVec.ofInt 64 1).toNat
  have h1 : (BitVec.ofInt 64 1).toNat = 1 := by decide
  rw [h1] at h ⊢
  generalize (BitVec.ofInt 64 (shr .i64 a (31 - d))).toNat &&& 1 = q at h ⊢
  rw [i64_w, wrap_id (by omega) (by omega)]
  omega
theorem impl_bitOf_is (a d : Int) (h0 : 0 ≤ d) (h1 : d ≤ 31) : impl_bitOf.f a d = some (bitv a d) := by
  unfold impl_bitOf.f bitv
  rw [wrap_id (by omega) (by omega), if_pos (by omega)]
theorem spec_l2Bit_is (a d : Int) (h0 : 0 ≤ d) (h1 : d ≤ 31) : spec_l2Bit.f a d = some (bitv a d) := by
  unfold spec_l2Bit.f bitv
  rw [wrap_id (by omega) (by omega), u64_id (by omega) (by omega), if_pos (by omega)]
def halfv (a : S86) (b : Int) : Int := if b = 1 then a.f1 else a.f0
theorem impl_half_is (a : S86) (b : Int) (h : b = 0 ∨ b = 1) : impl_TrieNode_half.f a.f0 a.f1 a.f2 a.f3 b = some (halfv a b) := by
  unfold impl_TrieNode_half.f halfv
  rcases h with rfl | rfl
  · rw [if_pos rfl, if_neg (by decide)]
  · rw [if_neg (by decide), if_pos rfl]
theorem spec_half_is (a : S86) (b : Int) : spec_l2Half.f a.f0 a.f1 a.f2 a.f3 b = some (halfv a b) := by
  unfold spec_l2Half.f halfv
  by_cases h : b = 1
  · rw [if_pos h, if_pos h]
  · rw [if_neg h, if_neg h]
theorem halfv_kid {n i b : Int} {a : S86} (h : kidOk n i a.f0 ∧ kidOk n i a.f1) : kidOk n i (halfv a b) := by
  unfold halfv
  by_cases hb : b = 1
  · rw [if_pos hb]; exact h.2
  · rw [if_neg hb]; exact h.1
def KidsV (l : List S86) : Prop := ∀ i : Int, 0 ≤ i → i < (l.length : Int) → kidOk l.length i (rd_T86 l i).f0 ∧ kidOk l.length i (rd_T86 l i).f1
theorem goodTrie_KidsV {l : List S86} (h : goodTrie l = true) : KidsV l := fun _ h0 h1 => (goodTrie_kids h h0 h1).1
theorem nrd_set_ne {l : List S86} {x y : Int} {v : S86} (hx : 0 ≤ x) (hy : 0 ≤ y) (h : x ≠ y) : rd_T86 (l.set x.toNat v) y = rd_T86 l y := by
  unfold rd_T86
  have : x.toNat ≠ y.toNat := by omega
  simp only [List.getD_eq_getElem?_getD, List.getElem?_set_ne this]
theorem nrd_set_eq {l : List S86} {x : Int} {v : S86} (hx : 0 ≤ x) (h : x < (l.length : Int)) : rd_T86 (l.set x.toNat v) x = v := by
  unfold rd_T86
  have : x.toNat < l.length := by omega
  simp [List.getD_eq_getElem?_getD, List.getElem?_set, this]
theorem nrd_app {l m : List S86} {x : Int} (hx : 0 ≤ x) (h : x < (l.length : Int)) : rd_T86 (l ++ m) x = rd_T86 l x := by
  unfold rd_T86
  rw [List.getD_eq_getElem?_getD, List.getD_eq_getElem?_getD, List.getElem?_append_left (by omega)]
theorem nrd_last {l : List S86} {a : S86} : rd_T86 (l ++ [a]) (l.length : Int) = a := by unfold rd_T86; simp
def withHalf (a : S86) (b n : Int) : S86 := if b = 1 then ⟨a.f0, n, a.f2, a.f3⟩ else ⟨n, a.f1, a.f2, a.f3⟩
/-- What is inserted: m bits are still to go, from depth d, at node i. -/
def insP (v a : Int) : Nat → Int → List S86 → Int → List S86
  | 0, _, l, i => l.set i.toNat ⟨(rd_T86 l i).f0, (rd_T86 l i).f1, true, v⟩
  | m + 1, d, l, i => if halfv (rd_T86 l i) (bitv a d) = 0 then insP v a m (d + 1) ((l ++ [(⟨0, 0, false, 0⟩ : S86)]).set i.toNat (withHalf (rd_T86 l i) (bitv a d) (l.length : Int))) (l.length : Int) else insP v a m (d + 1) l (halfv (rd_T86 l i) (bitv a d))
theorem KidsV.grow {l : List S86} (h : KidsV l) {i : Int} (b : Int) (h0 : 0 ≤ i) (h1 : i < (l.length : Int)) : KidsV ((l ++ [(⟨0, 0, false, 0⟩ : S86)]).set i.toNat (withHalf (rd_T86 l i) b (l.length : Int))) := by
  have hlen : ((((l ++ [(⟨0, 0, false, 0⟩ : S86)]).set i.toNat (withHalf (rd_T86 l i) b (l.length : Int))).length : Nat) : Int) = (l.length : Int) + 1 := by simp
  have up : ∀ {j x : Int}, kidOk l.length j x → kidOk ((l.length : Int) + 1) j x := fun hk => hk.elim .inl (fun hk => .inr ⟨hk.1, by omega⟩)
  intro j hj hj2
  rw [hlen] at hj2 ⊢
  by_cases e : i = j
  · subst e
    rw [nrd_set_eq h0 (by simp; omega)]
    have hk := h i h0 h1
    unfold withHalf
    by_cases hb : b = 1
    · rw [if_pos hb]; dsimp only; exact ⟨up hk.1, .inr ⟨by omega, by omega⟩⟩
    · rw [if_neg hb]; dsimp only; exact ⟨.inr ⟨by omega, by omega⟩, up hk.2⟩
  · rw [nrd_set_ne h0 hj e]
    by_cases e2 : j < (l.length : Int)
    · rw [nrd_app hj e2]
      have hk := h j hj e2
      exact ⟨up hk.1, up hk.2⟩
    · have : j = (l.length : Int) := by omega
      subst this
      rw [nrd_last]
      exact ⟨.inl rfl, .inl rfl⟩
theorem insP_len (v a : Int) : ∀ (m : Nat) (d : Int) (l : List S86) (i : Int), l.length ≤ (insP v a m d l i).length ∧ (insP v a m d l i).length ≤ l.length + m
  | 0, _, l, i => by simp [insP]
  | m + 1, d, l, i => by
    rw [insP]
    by_cases h : halfv (rd_T86 l i) (bitv a d) = 0
    · rw [if_pos h]
      have := insP_len v a m (d + 1) ((l ++ [(⟨0, 0, false, 0⟩ : S86)]).set i.toNat (withHalf (rd_T86 l i) (bitv a d) (l.length : Int))) (l.length : Int)
      simp only [List.length_set, List.length_append, List.length_singleton] at this
      omega
    · rw [if_neg h]
      have := insP_len v a m (d + 1) l (halfv (rd_T86 l i) (bitv a d))
      omega
/-- A node of the new trie has the value. -/
theorem insP_has (v a : Int) : ∀ (m : Nat) (d : Int) (l : List S86) (i : Int), KidsV l → 0 ≤ i → i < (l.length : Int) → ∃ j : Int, 0 ≤ j ∧ j < ((insP v a m d l i).length : Int) ∧ (rd_T86 (insP v a m d l i) j).f3 = v
  | 0, _, l, i, _, h0, h1 => ⟨i, h0, by simpa [insP] using h1, by rw [insP, nrd_set_eq h0 h1]⟩
  | m + 1, d, l, i, hk, h0, h1 => by
    rw [insP]
    by_cases h : halfv (rd_T86 l i) (bitv a d) = 0
    · rw [if_pos h]
      exact insP_has v a m (d + 1) _ _ (hk.grow _ h0 h1) (by omega) (by simp; omega)
    · rw [if_neg h]
      have hv := halfv_kid (b := bitv a d) (hk i h0 h1)
      exact insP_has v a m (d + 1) l _ hk (by rcases hv with e | e; exact absurd e h; omega) (by rcases hv with e | e; exact absurd e h; omega)
theorem last_set {l : List S86} {i v : Int} (h0 : 0 ≤ i) (h1 : i < (l.length : Int)) : ((some (l.set (i : Int).toNat (⟨(rd_T86 l i).f0, (rd_T86 l i).f1, true, (rd_T86 l i).f3⟩ : S86) : List S86)).bind fun y => (some (y.set (i : Int).toNat (⟨(rd_T86 y i).f0, (rd_T86 y i).f1, (rd_T86 y i).f2, v⟩ : S86)))) = some (l.set i.toNat ⟨(rd_T86 l i).f0, (rd_T86 l i).f1, true, v⟩) := by
  rw [Option.bind_some, nrd_set_eq h0 h1, List.set_set]
theorem impl_inserted_l0 (v a p : Int) : ∀ (m : Nat) (d : Int) (l : List S86) (i : Int) (k : Nat), KidsV l → 0 ≤ i → i < (l.length : Int) → 0 ≤ d → d + m = p → p ≤ 32 → l.length + m ≤ 100000000 → m < k → impl_inserted.l0 k v l i p d a p = some (insP v a m d l i)
  | 0, d, l, i, k, hk, h0, h1, h2, h3, h4, h5, h6 => by
    obtain ⟨k, rfl⟩ : ∃ j, k = j + 1 := ⟨k - 1, by omega⟩
    rw [impl_inserted.l0, if_neg (by omega), if_pos h0, if_pos h1, last_set h0 h1]
    rfl
  | m + 1, d, l, i, k, hk, h0, h1, h2, h3, h4, h5, h6 => by
    obtain ⟨k, rfl⟩ : ∃ j, k = j + 1 := ⟨k - 1, by omega⟩
    have hb := bitv_range a d
    have hw : wrap64 (d + 1) = d + 1 := wrap_id (by omega) (by omega)
    rw [impl_inserted.l0, if_pos (by omega), impl_bitOf_is _ _ h2 (by omega), Option.bind_some, if_pos h0, if_pos h1, impl_half_is _ _ hb, Option.bind_some, insP, hw]
    by_cases h : halfv (rd_T86 l i) (bitv a d) = 0
    · rw [if_pos h, if_pos h, if_pos (by omega), Option.bind_some, nrd_app h0 h1]
      have hg := hk.grow (bitv a d) h0 h1
      have ih := impl_inserted_l0 v a p m (d + 1) _ (l.length : Int) k hg (by omega) (by simp; omega) (by omega) (by omega) h4 (by simp; omega) (by omega)
      unfold withHalf at ih ⊢
      rcases hb with e | e
      · rw [if_pos e, if_pos (by simp; omega)]
        rw [if_neg (show ¬ bitv a d = 1 by omega)] at ih ⊢
        exact ih
      · rw [if_neg (show ¬ bitv a d = 0 by omega), if_pos (by simp; omega)]
        rw [if_pos e] at ih ⊢
        exact ih
    · rw [if_neg h, if_neg h]
      have hv := halfv_kid (b := bitv a d) (hk i h0 h1)
      exact impl_inserted_l0 v a p m (d + 1) l _ k hk (by rcases hv with e | e; exact absurd e h; omega) (by rcases hv with e | e; exact absurd e h; omega) (by omega) (by omega) h4 (by omega) (by omega)
theorem spec_insert_l0 (v a p : Int) : ∀ (m : Nat) (d : Int) (l : List S86) (i : Int) (k : Nat), KidsV l → 0 ≤ i → i < (l.length : Int) → 0 ≤ d → d + m = p → p ≤ 32 → l.length + m ≤ 100000000 → m < k → spec_l2Insert.l0 k l v i d a p = some (insP v a m d l i)
  | 0, d, l, i, k, hk, h0, h1, h2, h3, h4, h5, h6 => by
    obtain ⟨k, rfl⟩ : ∃ j, k = j + 1 := ⟨k - 1, by omega⟩
    rw [spec_l2Insert.l0, if_neg (by omega), if_pos h0, if_pos h1, last_set h0 h1]
    rfl
  | m + 1, d, l, i, k, hk, h0, h1, h2, h3, h4, h5, h6 => by
    obtain ⟨k, rfl⟩ : ∃ j, k = j + 1 := ⟨k - 1, by omega⟩
    have hb := bitv_range a d
    have hw : wrap64 (d + 1) = d + 1 := wrap_id (by omega) (by omega)
    rw [spec_l2Insert.l0, if_pos (by omega), spec_l2Bit_is _ _ h2 (by omega), Option.bind_some, if_pos h0, if_pos h1, spec_half_is, Option.bind_some, insP, hw]
    by_cases h : halfv (rd_T86 l i) (bitv a d) = 0
    · rw [if_pos h, if_pos h, if_pos (by omega), Option.bind_some, nrd_app h0 h1]
      have hg := hk.grow (bitv a d) h0 h1
      have ih := spec_insert_l0 v a p m (d + 1) _ (l.length : Int) k hg (by omega) (by simp; omega) (by omega) (by omega) h4 (by simp; omega) (by omega)
      unfold withHalf at ih ⊢
      rcases hb with e | e
      · rw [if_neg (show ¬ bitv a d = 1 by omega), if_pos (by simp; omega)]
        rw [if_neg (show ¬ bitv a d = 1 by omega)] at ih ⊢
        exact ih
      · rw [if_pos e, if_pos (by simp; omega)]
        rw [if_pos e] at ih ⊢
        exact ih
    · rw [if_neg h, if_neg h]
      have hv := halfv_kid (b := bitv a d) (hk i h0 h1)
      exact spec_insert_l0 v a p m (d + 1) l _ k hk (by rcases hv with e | e; exact absurd e h; omega) (by rcases hv with e | e; exact absurd e h; omega) (by omega) (by omega) h4 (by omega) (by omega)
theorem impl_inserted_is (l : List S86) (a p v : Int) (k : Nat) (hk : KidsV l) (h1 : 1 ≤ l.length) (h2 : l.length ≤ 1000000) (h3 : 0 ≤ p) (h4 : p ≤ 32) (h5 : 33 ≤ k) : impl_inserted.f k l a p v = some (insP v a p.toNat 0 l 0) := by
  unfold impl_inserted.f slices_Clone_impl_TrieNode_impl_TrieNode.f
  rw [if_pos (by omega), Option.bind_some]
  exact impl_inserted_l0 v a p p.toNat 0 l 0 k hk (by omega) (by omega) (by omega) (by omega) h4 (by omega) (by omega)
theorem spec_l2Insert_is (l : List S86) (a p v : Int) (k : Nat) (hk : KidsV l) (h1 : 1 ≤ l.length) (h2 : l.length ≤ 1000000) (h3 : 0 ≤ p) (h4 : p ≤ 32) (h5 : 33 ≤ k) : spec_l2Insert.f k l a p v = some (insP v a p.toNat 0 l 0) := by
  unfold spec_l2Insert.f
  exact spec_insert_l0 v a p p.toNat 0 l 0 k hk (by omega) (by omega) (by omega) (by omega) h4 (by omega) (by omega)
theorem InsertIn_same (l : List S86) (a p v : Int) : ∃ r : List S86 × Bool, Ev (fun k => spec_InsertIn.f k l a p v) r ∧ Ev (fun k => impl_InsertIn.f k l a p v) r ∧ r.1.length ≤ 3000 := by
  obtain ⟨K1, h1⟩ := spec_GoodTrie_is l
  obtain ⟨K2, h2⟩ := impl_GoodTrie_is l
  replace h1 : ∀ k, K1 ≤ k → spec_GoodTrie.f k l = _ := h1
  replace h2 : ∀ k, K2 ≤ k → impl_GoodTrie.f k l = _ := h2
  have bad1 : ∀ k, spec_InsertIn.j0 (k + 1) l v true a p = some ([], false) := fun k => by rw [spec_InsertIn.j0, if_pos rfl]
  have bad2 : ∀ k, impl_InsertIn.j0 (k + 1) l v true a p = some ([], false) := fun k => by rw [impl_InsertIn.j0, if_pos rfl]
  by_cases hg : goodTrie l = true
  · by_cases hp : good a p = true
    · have hl := goodTrie_len hg
      obtain ⟨p0, p1, _⟩ := good_iff.1 hp
      have hkv := goodTrie_KidsV hg
      obtain ⟨K3, h3⟩ := spec_GoodTrie_is (insP v a p.toNat 0 l 0)
      obtain ⟨K4, h4⟩ := impl_GoodTrie_is (insP v a p.toNat 0 l 0)
      replace h3 : ∀ k, K3 ≤ k → spec_GoodTrie.f k _ = _ := h3
      replace h4 : ∀ k, K4 ≤ k → impl_GoodTrie.f k _ = _ := h4
      have hlen := insP_len v a p.toNat 0 l 0
      have hv : goodTrie (insP v a p.toNat 0 l 0) = true → isVal v = true := by
        intro h
        obtain ⟨j, j0, j1, j2⟩ := insP_has v a p.toNat 0 l 0 hkv (by omega) (by omega)
        have := (goodTrie_kids h j0 j1).2
        rwa [j2] at this
      refine ⟨if goodTrie (insP v a p.toNat 0 l 0) = true then (insP v a p.toNat 0 l 0, true) else ([], false), ⟨K1 + K3 + 40, fun k hk => ?_⟩, ⟨K2 + K4 + 40, fun k hk => ?_⟩, ?_⟩
      · show spec_InsertIn.f k l a p v = _
        obtain ⟨k, rfl⟩ : ∃ m, k = m + 1 := ⟨k - 1, by omega⟩
        unfold spec_InsertIn.f
        rw [h1 _ (by omega), Option.bind_some, if_pos hg, spec_GoodPrefix_is, Option.bind_some, hp, spec_InsertIn.j0, if_neg (by decide), Option.bind_some, if_pos (by simp; omega), List.nil_append, spec_l2Insert_is l a p v k hkv (by omega) (by omega) p0 p1 (by omega), Option.bind_some, h3 _ (by omega), Option.bind_some]
        by_cases hh : goodTrie (insP v a p.toNat 0 l 0) = true
        · rw [if_pos hh, if_pos hh]
        · rw [if_neg hh, if_neg hh]
      · show impl_InsertIn.f k l a p v = _
        obtain ⟨k, rfl⟩ : ∃ m, k = m + 1 := ⟨k - 1, by omega⟩
        unfold impl_InsertIn.f
        rw [h2 _ (by omega), Option.bind_some, if_pos hg, impl_GoodPrefix_is, Option.bind_some, if_pos hp, impl_isValue_is, Option.bind_some]
        cases hvv : isVal v
        · have hh : ¬ goodTrie (insP v a p.toNat 0 l 0) = true := fun h => by have := hv h; rw [hvv] at this; cases this
          rw [if_neg hh]
          exact bad2 k
        · rw [impl_InsertIn.j0, if_neg (by decide), impl_inserted_is l a p v k hkv (by omega) (by omega) p0 p1 (by omega), Option.bind_some, h4 _ (by omega), Option.bind_some]
          by_cases hh : goodTrie (insP v a p.toNat 0 l 0) = true
          · rw [if_pos hh, if_pos hh]
          · rw [if_neg hh, if_neg hh]
      · by_cases hh : goodTrie (insP v a p.toNat 0 l 0) = true
        · rw [if_pos hh]; show (insP v a p.toNat 0 l 0).length ≤ 3000; omega
        · rw [if_neg hh]; show ([] : List S86).length ≤ 3000; simp
    · refine ⟨([], false), ⟨K1 + 1, fun k hk => ?_⟩, ⟨K2 + 1, fun k hk => ?_⟩, by simp⟩
      · show spec_InsertIn.f k l a p v = _
        obtain ⟨k, rfl⟩ : ∃ m, k = m + 1 := ⟨k - 1, by omega⟩
        unfold spec_InsertIn.f
        have hp' : good a p = false := by simpa using hp
        rw [h1 _ (by omega), Option.bind_some, if_pos hg, spec_GoodPrefix_is, Option.bind_some, hp']
        exact bad1 k
      · show impl_InsertIn.f k l a p v = _
        obtain ⟨k, rfl⟩ : ∃ m, k = m + 1 := ⟨k - 1, by omega⟩
        unfold impl_InsertIn.f
        rw [h2 _ (by omega), Option.bind_some, if_pos hg, impl_GoodPrefix_is, Option.bind_some, if_neg hp]
        exact bad2 k
  · refine ⟨([], false), ⟨K1 + 1, fun k hk => ?_⟩, ⟨K2 + 1, fun k hk => ?_⟩, by simp⟩
    · show spec_InsertIn.f k l a p v = _
      obtain ⟨k, rfl⟩ : ∃ m, k = m + 1 := ⟨k - 1, by omega⟩
      unfold spec_InsertIn.f
      rw [h1 _ (by omega), Option.bind_some, if_neg hg]
      exact bad1 k
    · show impl_InsertIn.f k l a p v = _
      obtain ⟨k, rfl⟩ : ∃ m, k = m + 1 := ⟨k - 1, by omega⟩
      unfold impl_InsertIn.f
      rw [h2 _ (by omega), Option.bind_some, if_neg hg]
      exact bad2 k
def mk_Node (q : Int) : Nat → List S86
  | 0 => []
  | n + 1 => ⟨q, q + 1, (Int.tmod (q + 2) 3 == 0), q + 3⟩ :: mk_Node (q + 4) n
theorem mk_Node_len (q : Int) (n : Nat) : (mk_Node q n).length = n := by
  induction n generalizing q with
  | zero => rfl
  | succ n ih => simp [mk_Node, ih]
theorem node_mid (pre : List S86) (a : S86) (rest : List S86) : rd_T86 (pre ++ a :: rest) (pre.length : Int) = a := rdm_Node _ _ _
theorem laws_markTrieNodeS_is (l : List S86) (hl : l.length ≤ 1000000000) (q : Int) (hq : 0 ≤ q) (hq2 : q ≤ 1000000000000) (k : Nat) (hk : l.length < k) : laws_markTrieNodeS.f k l q = some (q + 4 * l.length, mk_Node q l.length) := by
  have key : ∀ (rest pre : List S86) (k : Nat) (q : Int), (pre ++ rest).length ≤ 1000000000 → 0 ≤ q → q + 4 * rest.length ≤ 20000000000000 → rest.length < k → laws_markTrieNodeS.l0 k (pre ++ rest) q (pre.length : Int) = some (q + 4 * rest.length, pre ++ mk_Node q rest.length) := by
    intro rest
    induction rest with
    | nil =>
      intro pre k q _ _ _ hk
      obtain ⟨k, rfl⟩ : ∃ m, k = m + 1 := ⟨k - 1, by omega⟩
      rw [laws_markTrieNodeS.l0, if_neg (by simp)]
      simp [mk_Node]
    | cons a rest ih =>
      intro pre k q hp h0 h1 hk
      obtain ⟨k, rfl⟩ : ∃ m, k = m + 1 := ⟨k - 1, by omega⟩
      simp only [List.length_cons] at h1 hk
      rw [laws_markTrieNodeS.l0, if_pos (lt_mid _ _ _), if_pos (len_nn _)]
      simp only [Option.bind_some, set_mid, node_mid]
      rw [wrap_id (x := q + 1) (by omega) (by omega), wrap_id (x := q + 1 + 1) (by omega) (by omega), wrap_id (x := q + 1 + 1 + 1) (by omega) (by omega), wrap_id (x := q + 1 + 1 + 1 + 1) (by omega) (by omega), wrap_mid (pre := pre) (a := a) (rest := rest) (by simp only [maxLen]; omega)]
      have := ih (pre ++ [(⟨q, q + 1, (Int.tmod (q + 2) 3 == 0), q + 3⟩ : S86)]) k (q + 4) (by simp at hp ⊢; omega) (by omega) (by omega) (by omega)
      simp only [List.append_assoc, List.singleton_append] at this
      rw [show q + 1 + 1 + 1 + 1 = q + 4 by omega, show q + 1 + 1 + 1 = q + 3 by omega, show q + 1 + 1 = q + 2 by omega, show ((pre ++ [a]).length : Int) = ((pre ++ [(⟨q, q + 1, (Int.tmod (q + 2) 3 == 0), q + 3⟩ : S86)]).length : Int) by simp, this]
      simp only [List.length_cons, mk_Node]
      congr 2
      omega
  have := key l [] k q (by simpa using hl) hq (by omega) hk
  simpa [laws_markTrieNodeS.f] using this
theorem laws_heldTrieNodeS_is (n : Nat) (hn : n ≤ 1000000000) (q : Int) (hq : 0 ≤ q) (hq2 : q ≤ 1000000000000) (k : Nat) (hk : n < k) : laws_heldTrieNodeS.f k (mk_Node q n) q = some (q + 4 * n) := by
  have key : ∀ (n : Nat) (pre : List S86) (k : Nat) (q : Int), pre.length + n ≤ 1000000000 → 0 ≤ q → q + 4 * n ≤ 20000000000000 → n < k → laws_heldTrieNodeS.l0 k (pre ++ mk_Node q n) q (pre.length : Int) = some (q + 4 * n) := by
    intro n
    induction n with
    | zero =>
      intro pre k q _ _ _ hk
      obtain ⟨k, rfl⟩ : ∃ m, k = m + 1 := ⟨k - 1, by omega⟩
      rw [laws_heldTrieNodeS.l0, if_neg (by simp [mk_Node])]
      simp
    | succ n ih =>
      intro pre k q hp h0 h1 hk
      obtain ⟨k, rfl⟩ : ∃ m, k = m + 1 := ⟨k - 1, by omega⟩
      have hlen : (pre ++ (⟨q, q + 1, (Int.tmod (q + 2) 3 == 0), q + 3⟩ : S86) :: mk_Node (q + 4) n).length ≤ maxLen := by simp [mk_Node_len, maxLen]; omega
      simp only [mk_Node]
      rw [laws_heldTrieNodeS.l0, if_pos (lt_mid _ _ _), if_pos (len_nn _), node_mid]
      dsimp only
      rw [if_pos rfl, wrap_id (x := q + 1) (by omega) (by omega), wrap_id (x := q + 1 + 1) (by omega) (by omega), wrap_id (x := q + 1 + 1 + 1) (by omega) (by omega), wrap_id (x := q + 1 + 1 + 1 + 1) (by omega) (by omega), if_pos rfl, show q + 1 + 1 + 1 + 1 = q + 4 by omega, show q + 1 + 1 + 1 = q + 3 by omega, show q + 1 + 1 = q + 2 by omega, if_neg (by simp), if_pos rfl, wrap_mid (rest := mk_Node (q + 4) n) hlen]
      have := ih (pre ++ [(⟨q, q + 1, (Int.tmod (q + 2) 3 == 0), q + 3⟩ : S86)]) k (q + 4) (by simp; omega) (by omega) (by omega) (by omega)
      simp only [List.append_assoc, List.singleton_append] at this
      rw [this]
      congr 1
      omega
  have := key n [] k q (by simpa using hn) hq (by omega) hk
  simpa [laws_heldTrieNodeS.f] using this

end FnExactInsertInUses
open Go.RowKit Go.Proofs.Ytakoaogbkajkcaa.PFnExactInsertIn Go.Proofs.YtakoaogbkajkcaaW.PrintWords Go.Proofs.YtakoaogbkajkcaaW.PrintLast Go.Proofs.YtakoaogbkajkcaaW.PrintMore Go.Proofs.Ytakoaogbkajkcaa.Pfx Go.Proofs.Ytakoaogbkajkcaa.Loop Go.Proofs.Ytakoaogbkajkcaa.Tbl FnExactInsertInUses
set_option linter.unusedVariables false
theorem FnExactInsertIn (l0 : List S88) (a1_0 : Int) (a1_1 : Int) (a2 : Int) (m0 : l0.length ≤ maxLen) (w0 : ∀ a, a ∈ l0 → ((Lit.int .i64 a.f0).wf = true ∧ ((Lit.int .i64 a.f1).wf = true ∧ (True ∧ (Lit.int .i64 a.f3).wf = true)))) (w1_0 : (Lit.int .i64 a1_0).wf = true) (w1_1 : (Lit.int .i64 a1_1).wf = true) (w2 : (Lit.int .i64 a2).wf = true) : ∃ k, laws_FnExactInsertIn.f k l0 a1_0 a1_1 a2 = some true := by
  obtain ⟨r, hr, hb⟩ := laws_szTrieNodeS_is l0 m0
  by_cases h : r < 0
  · exact ⟨0, by unfold laws_FnExactInsertIn.f; rw [hr, Option.bind_some, if_pos h]⟩
  · have hl := hb h
    have hl2 : (l0.map fun p => (⟨p.f0, p.f1, p.f2, p.f3⟩ : S86)).length = l0.length := by simp
    obtain ⟨q, ⟨K1, h1⟩, ⟨K2, h2⟩, hq⟩ := InsertIn_same (l0.map fun p => (⟨p.f0, p.f1, p.f2, p.f3⟩ : S86)) a1_0 a1_1 a2
    replace h1 : ∀ k, K1 ≤ k → spec_InsertIn.f k _ _ _ _ = _ := h1
    replace h2 : ∀ k, K2 ≤ k → impl_InsertIn.f k _ _ _ _ = _ := h2
    obtain ⟨K, hK⟩ : ∃ K : Nat, K1 + K2 + l0.length + 5000 ≤ K := ⟨_, Nat.le_refl _⟩
    refine ⟨K + 1 + 1 + 1, ?_⟩
    unfold laws_FnExactInsertIn.f laws_toPrefix.f
    rw [hr, Option.bind_some, if_neg h, laws_toTrieNodeS_is _ l0 hl (by omega)]
    simp only [Option.bind_some]
    rw [h1 _ (by omega), h2 _ (by omega)]
    simp only [Option.bind_some]
    rw [laws_eqTrieNodeS_refl _ _ (by simp only [maxLen]; omega) (by omega)]
    simp only [Option.bind_some, if_true, bne_self_eq_false]
    rw [laws_FnExactInsertIn.j0, if_neg (by simp), laws_toTrieNodeS_is _ l0 hl (by omega)]
    simp only [Option.bind_some]
    rw [laws_eqTrieNodeS_refl _ _ (by simp only [maxLen]; omega) (by omega)]
    simp only [Option.bind_some, if_true]
    rw [laws_markTrieNodeS_is _ (by omega) 1 (by omega) (by omega) _ (by omega)]
    simp only [Option.bind_some]
    rw [if_neg (by omega), laws_eqTrieNodeS_refl _ _ (by simp only [maxLen]; omega) (by omega)]
    simp only [Option.bind_some, if_true, bne_self_eq_false]
    rw [laws_FnExactInsertIn.j1, if_neg (by simp), laws_markTrieNodeS_is q.1 (by omega) 1 (by omega) (by omega) _ (by omega)]
    simp only [Option.bind_some]
    rw [laws_heldTrieNodeS_is q.1.length (by omega) 1 (by omega) (by omega) _ (by omega)]
    simp only [Option.bind_some]
    rw [if_neg (by omega), if_pos trivial, laws_toTrieNodeS_is _ l0 hl (by omega)]
    unfold laws_toPrefix.f
    simp only [Option.bind_some]
    rw [h2 _ (by omega)]
    simp only [Option.bind_some]
    rw [laws_eqTrieNodeS_refl _ _ (by simp only [maxLen]; omega) (by omega)]
    simp only [Option.bind_some, if_true, bne_self_eq_false]
    rw [laws_FnExactInsertIn.j2, if_neg (by simp), laws_heldTrieNodeS_is q.1.length (by omega) 1 (by omega) (by omega) _ (by omega)]
    simp only [Option.bind_some]
    rw [if_neg (by omega), if_pos trivial]
end Go.Proofs.Ytakoaogbkajkcaa.Pure
