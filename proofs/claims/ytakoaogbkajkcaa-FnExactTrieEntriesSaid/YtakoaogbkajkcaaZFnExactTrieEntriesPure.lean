/- The pure statement of FnExactTrieEntries: what the printed functions tell is what the reference tells. No condition but the arguments' own bounds. -/
import Derived.Test.YtakoaogbkajkcaaYFnExactTrieEntriesx9
import Derived.Test.YtakoaogbkajkcaaQFnExactTrieEntries
namespace Go.Proofs.Ytakoaogbkajkcaa.Pure
namespace FnExactTrieEntriesUses
open Go.RowKit Go.Proofs.Ytakoaogbkajkcaa.PFnExactTrieEntries Go.Proofs.YtakoaogbkajkcaaW.PrintWords Go.Proofs.YtakoaogbkajkcaaW.PrintLast Go.Proofs.YtakoaogbkajkcaaW.PrintMore Go.Proofs.Ytakoaogbkajkcaa.Pfx Go.Proofs.Ytakoaogbkajkcaa.Loop Go.Proofs.Ytakoaogbkajkcaa.Tbl
set_option linter.unusedVariables false
set_option linter.unusedSimpArgs false

theorem spec_l1In_is (a lo hi : Int) : spec_l1In.f a lo hi = some (decide (lo ≤ a ∧ a ≤ hi)) := by
  unfold spec_l1In.f
  by_cases h : lo ≤ a
  · rw [if_pos h]; simp [h]
  · rw [if_neg h]; simp [h]
theorem impl_within_is (a lo hi : Int) : impl_within.f a lo hi = some (decide (lo ≤ a ∧ a ≤ hi)) := by
  unfold impl_within.f
  by_cases h : lo ≤ a
  · rw [if_pos h]; simp [h]
  · rw [if_neg h]; simp [h]
theorem impl_sizeOf_is {n : Int} (h0 : 0 ≤ n) (h1 : n ≤ 32) : impl_sizeOf.f n = some (sz n) := by
  unfold impl_sizeOf.f
  rw [shl_sz h0 h1, if_pos (by rw [wrap_id (by omega) (by omega)]; omega)]
theorem spec_l1Size_is (a : Int) {n : Int} (h0 : 0 ≤ n) (h1 : n ≤ 32) : spec_l1Size.f a n = some (sz n) := by
  unfold spec_l1Size.f
  have e : IntKind.u64.wrap (wrap64 (32 - n)) = wrap64 (32 - n) := by rw [wrap_id (by omega) (by omega), u64_id (by omega) (by omega)]
  rw [e, shl_sz h0 h1, if_pos (by rw [wrap_id (by omega) (by omega)]; omega)]
theorem spec_l1Halves_is {a n : Int} (h0 : 0 ≤ n) (h1 : n < 32) (h2 : 0 ≤ a) (h3 : a ≤ 4294967295) : spec_l1Halves.f a n = some (a, n + 1, a + sz (n + 1), n + 1) := by
  have hs := sz_pos (n + 1)
  have h9 := sz_le (n := n + 1) (by omega)
  unfold spec_l1Halves.f
  rw [wrap_id (x := n + 1) (by omega) (by omega), spec_l1Size_is a (by omega) (by omega), Option.bind_some, wrap_id (by omega) (by omega)]
theorem impl_Prefix_halves_is {a n : Int} (h0 : 0 ≤ n) (h1 : n < 32) (h2 : 0 ≤ a) (h3 : a ≤ 4294967295) : impl_Prefix_halves.f a n = some (a, n + 1, a + sz (n + 1), n + 1) := by
  have hs := sz_pos (n + 1)
  have h9 := sz_le (n := n + 1) (by omega)
  unfold impl_Prefix_halves.f
  rw [wrap_id (x := n + 1) (by omega) (by omega), impl_sizeOf_is (by omega) (by omega), Option.bind_some, wrap_id (by omega) (by omega)]
theorem laws_eqPrefix_is (a n b m : Int) : laws_eqPrefix.f a n b m = some (decide (a = b ∧ n = m)) := by
  unfold laws_eqPrefix.f
  by_cases h : a = b
  · by_cases h' : n = m
    · rw [if_pos h, if_pos h']; simp [h, h']
    · rw [if_pos h, if_neg h']; simp [h']
  · rw [if_neg h]; simp [h]
theorem rdm_Prefix (pre : List S37) (a : S37) (rest : List S37) : rd_T37 (pre ++ a :: rest) (pre.length : Int) = a := by unfold rd_T37; simp
def pr (p : S37) : Pr := (p.f0, p.f1)
theorem pr_inj {p q : S37} (h : pr p = pr q) : p = q := by cases p; cases q; simpa [pr] using h
theorem rdm_Entry (pre : List S39) (a : S39) (rest : List S39) : rd_T39 (pre ++ a :: rest) (pre.length : Int) = a := by unfold rd_T39; simp
theorem laws_eqEntry_is (a n v b m u : Int) : laws_eqEntry.f a n v b m u = some (decide ((a = b ∧ n = m) ∧ v = u)) := by
  unfold laws_eqEntry.f
  rw [laws_eqPrefix_is, Option.bind_some]
  by_cases h : a = b ∧ n = m
  · rw [if_pos (decide_eq_true h)]
    by_cases h2 : v = u
    · rw [if_pos h2]; simp [h, h2]
    · rw [if_neg h2]; simp [h2]
  · rw [if_neg (by simpa using h)]; simp; intro h1 h2; exact absurd ⟨h1, h2⟩ h
theorem laws_eqEntryS_refl (k : Nat) (l : List S39) (hl : l.length ≤ maxLen) (hk : l.length < k) : laws_eqEntryS.f k l l = some true := by
  unfold laws_eqEntryS.f
  rw [if_pos rfl]
  have key : ∀ (rest pre : List S39) (k : Nat), l = pre ++ rest → rest.length < k → laws_eqEntryS.l0 k l l (pre.length : Int) = some true := by
    intro rest
    induction rest with
    | nil =>
      intro pre k e hk
      obtain ⟨k, rfl⟩ : ∃ m, k = m + 1 := ⟨k - 1, by omega⟩
      simp only [laws_eqEntryS.l0]
      rw [if_neg (by rw [e]; simp)]
    | cons a rest ih =>
      intro pre k e hk
      obtain ⟨k, rfl⟩ : ∃ m, k = m + 1 := ⟨k - 1, by omega⟩
      simp only [laws_eqEntryS.l0]
      rw [if_pos (by rw [e]; exact lt_mid _ _ _), if_pos (len_nn _), if_pos (by rw [e]; exact lt_mid _ _ _), laws_eqEntry_is]
      simp only [Option.bind_some, and_self, decide_true, if_true]
      rw [wrap_mid (rest := rest) (by rw [← e]; exact hl)]
      exact ih (pre ++ [a]) k (by rw [e]; simp) (by simp at hk; omega)
  exact key l [] k rfl hk
theorem impl_isValue_is (a : Int) : impl_isValue.f a = some (isVal a) := by
  unfold impl_isValue.f; rw [impl_within_is]; rfl
theorem spec_l2Value_is (a : Int) : spec_l2Value.f a = some (isVal a) := by
  unfold spec_l2Value.f; rw [spec_l1In_is]; rfl
theorem map_pr_inj : ∀ {l l' : List S37}, l.map pr = l'.map pr → l = l'
  | [], [], _ => rfl
  | [], _ :: _, h => by simp at h
  | _ :: _, [], h => by simp at h
  | a :: t, b :: t', h => by
    simp only [List.map_cons, List.cons.injEq] at h
    rw [pr_inj h.1, map_pr_inj h.2]
theorem slices_Repeat_one (a n : Int) (h0 : 0 ≤ n) (h1 : n ≤ 17592186044416) : slices_Repeat_int_int.f [a] n = some (List.replicate n.toNat a) := by
  unfold slices_Repeat_int_int.f
  dsimp only
  rw [if_pos h0, if_pos h1]
theorem rdm_Node (pre : List S86) (a : S86) (rest : List S86) : rd_T86 (pre ++ a :: rest) (pre.length : Int) = a := by unfold rd_T86; simp
/-- A half's number is put down with its depth, if it may stand there. -/
def tput (n i : Int) (D : List Int) (x : Int) : Option (List Int) := if x = 0 then some D else if i + 1 ≤ x ∧ x ≤ n - 1 ∧ rd D x < 0 then some (D.set x.toNat (rd D i + 1)) else none
def nodeOk (i : Int) (a : S86) : Bool := isVal a.f3 && (a.f2 || (a.f3 == 0 && !(decide (0 < i) && (a.f0 == 0 && a.f1 == 0))))
def trieOk (n : Int) : List S86 → Int → List Int → Int → Bool
  | [], _, _, c => decide (c ≤ 30)
  | a :: t, i, D, c => if rd D i < 0 ∨ rd D i > 32 then false else if nodeOk i a = true then
      (match (tput n i D a.f0).bind (fun D => tput n i D a.f1) with
      | none => false
      | some D' => trieOk n t (i + 1) D' (if a.f2 = true then c + 1 else c)) else false
def goodTrie (l : List S86) : Bool := if 1 ≤ (l.length : Int) ∧ (l.length : Int) ≤ 2000 then trieOk l.length l 0 ((List.replicate l.length (-1 : Int)).set 0 0) 0 else false
theorem rd_set_ne {D : List Int} {x y : Int} {v : Int} (hx : 0 ≤ x) (hy : 0 ≤ y) (h : x ≠ y) : rd (D.set x.toNat v) y = rd D y := by
  unfold rd
  have : x.toNat ≠ y.toNat := by omega
  simp only [List.getD_eq_getElem?_getD, List.getElem?_set_ne this]
theorem rd_set_eq {D : List Int} {x : Int} {v : Int} (hx : 0 ≤ x) (h : x < (D.length : Int)) : rd (D.set x.toNat v) x = v := by
  unfold rd
  have : x.toNat < D.length := by omega
  simp [List.getD_eq_getElem?_getD, List.getElem?_set, this]
/-- Depths are from -1 to 33. -/
def DepB (D : List Int) : Prop := ∀ j : Int, 0 ≤ j → -1 ≤ rd D j ∧ rd D j ≤ 33
theorem tput_ok {n i : Int} {D D' : List Int} {x : Int} (h : tput n i D x = some D') (hi : 0 ≤ i) (hb : DepB D) (hd : rd D i ≤ 32) (hn : (D.length : Int) = n) : D'.length = D.length ∧ DepB D' ∧ rd D' i = rd D i ∧ (∀ j, 0 ≤ j → 0 ≤ rd D j → rd D' j = rd D j) := by
  unfold tput at h
  by_cases h0 : x = 0
  · rw [if_pos h0] at h; cases h; exact ⟨rfl, hb, rfl, fun _ _ _ => rfl⟩
  · rw [if_neg h0] at h
    by_cases h1 : i + 1 ≤ x ∧ x ≤ n - 1 ∧ rd D x < 0
    · rw [if_pos h1] at h
      cases h
      refine ⟨List.length_set .., fun j hj => ?_, rd_set_ne (by omega) hi (by omega), fun j hj hd2 => rd_set_ne (by omega) hj (fun e => by subst e; omega)⟩
      by_cases e : x = j
      · subst e
        rw [rd_set_eq hj (by omega)]
        have := hb i hi
        omega
      · rw [rd_set_ne (by omega) hj e]; exact hb j hj
    · rw [if_neg h1] at h; cases h
theorem impl_trie_child {l : List S86} {D L : List Int} {c i : Int} {r : Bool} (hn : (l.length : Int) ≤ 2000) (hD : D.length = l.length) (hb : DepB D) (hi : 0 ≤ i) (hi2 : i < (l.length : Int)) (hd : 0 ≤ rd D i ∧ rd D i ≤ 32)
    (q : Nat) (hL : L.length = 2) (hq : q < 2)
    (h : match tput (l.length : Int) i D (rd L q) with | none => r = false | some D' => Ev (fun k => impl_GoodTrie.l1 k l D' c i l (l.length : Int) i L 2 ((q + 1 : Nat) : Int)) r) :
    Ev (fun k => impl_GoodTrie.l1 k l D c i l (l.length : Int) i L 2 (q : Int)) r := by
  have hw : wrap64 ((q : Int) + 1) = ((q + 1 : Nat) : Int) := by rw [wrap_id (by omega) (by omega)]; omega
  have hw1 : wrap64 (i + 1) = i + 1 := wrap_id (by omega) (by omega)
  have hw2 : wrap64 ((l.length : Int) - 1) = (l.length : Int) - 1 := wrap_id (by omega) (by omega)
  have hw3 : wrap64 (rd D i + 1) = rd D i + 1 := wrap_id (by omega) (by omega)
  unfold tput at h
  by_cases h0 : rd L q = 0
  · rw [if_pos h0] at h
    refine Ev.step (fun k => ?_) h
    rw [impl_GoodTrie.l1, if_pos (by omega), if_pos (by omega), if_pos (by rw [hL]; omega), if_pos h0, hw]
  · rw [if_neg h0] at h
    by_cases h1 : i + 1 ≤ rd L q ∧ rd L q ≤ (l.length : Int) - 1
    · by_cases h2 : rd D (rd L q) < 0
      · rw [if_pos ⟨h1.1, h1.2, h2⟩] at h
        refine Ev.step (fun k => ?_) h
        rw [impl_GoodTrie.l1, if_pos (by omega), if_pos (by omega), if_pos (by rw [hL]; omega), if_neg h0, impl_within_is, Option.bind_some, hw1, hw2, if_pos (decide_eq_true h1), if_pos (by omega), if_pos (by rw [hD]; omega), if_neg (by omega), if_pos hi, if_pos (by rw [hD]; omega), hw, hw3]
      · rw [if_neg (fun h' => h2 h'.2.2)] at h
        subst h
        refine Ev.step (fun k => ?_) (Ev.now _)
        rw [impl_GoodTrie.l1, if_pos (by omega), if_pos (by omega), if_pos (by rw [hL]; omega), if_neg h0, impl_within_is, Option.bind_some, hw1, hw2, if_pos (decide_eq_true h1), if_pos (by omega), if_pos (by rw [hD]; omega), if_pos (by omega)]
    · rw [if_neg (fun h' => h1 ⟨h'.1, h'.2.1⟩)] at h
      subst h
      refine Ev.step (fun k => ?_) (Ev.now _)
      rw [impl_GoodTrie.l1, if_pos (by omega), if_pos (by omega), if_pos (by rw [hL]; omega), if_neg h0, impl_within_is, Option.bind_some, hw1, hw2, if_neg (by simpa using h1)]
theorem impl_trie_l0 {l : List S86} (hn : (l.length : Int) ≤ 2000) : ∀ (rest pre : List S86) (D : List Int) (c : Int), l = pre ++ rest → D.length = l.length → DepB D → 0 ≤ c → c ≤ pre.length →
    Ev (fun k => impl_GoodTrie.l0 k l D c l (l.length : Int) (pre.length : Int)) (trieOk l.length rest pre.length D c)
  | [], pre, D, c, e, hD, hb, c0, c1 => by
    refine Ev.step (fun k => ?_) (Ev.now _)
    rw [impl_GoodTrie.l0, if_neg (by rw [e]; simp), trieOk]
  | a :: rest, pre, D, c, e, hD, hb, c0, c1 => by
    have hlen : (l.length : Int) = pre.length + (rest.length + 1) := by rw [e]; simp
    have h1 : rd_T86 l (pre.length : Int) = a := by rw [e]; exact rdm_Node _ _ _
    have hbi := hb (pre.length : Int) (by omega)
    have step : ∀ bad : Bool, (bad = (decide (rd D (pre.length : Int) < 0 ∨ rd D (pre.length : Int) > 32) || !nodeOk (pre.length : Int) a)) → ∀ k, impl_GoodTrie.l0 (k + 1) l D c l (l.length : Int) (pre.length : Int) = impl_GoodTrie.j1 k l D c (pre.length : Int) l (l.length : Int) (pre.length : Int) bad a.f0 a.f1 a.f2 a.f3 := by
      intro bad hbad k
      rw [impl_GoodTrie.l0, if_pos (by omega), if_pos (by omega), if_pos (by omega), if_pos (by rw [hD]; omega), h1]
      subst hbad
      by_cases b1 : rd D (pre.length : Int) < 0
      · rw [if_pos b1]; simp [b1]
      · rw [if_neg b1]
        by_cases b2 : rd D (pre.length : Int) > 32
        · rw [if_pos b2]; simp [b2]
        · rw [if_neg b2, impl_isValue_is, Option.bind_some]
          have b3 : (decide (rd D (pre.length : Int) < 0 ∨ rd D (pre.length : Int) > 32)) = false := decide_eq_false (fun h => h.elim b1 b2)
          rw [b3, Bool.false_or]
          unfold nodeOk
          cases hv : isVal a.f3
          · rfl
          · rw [if_pos rfl]
            cases hh : a.f2
            · rw [if_neg (by simp)]
              by_cases b4 : a.f3 = 0
              · rw [if_pos b4]
                by_cases b5 : (pre.length : Int) > 0
                · rw [if_pos b5]
                  by_cases b6 : a.f0 = 0
                  · rw [if_pos b6]
                    have b5' : decide (0 < (pre.length : Int)) = true := decide_eq_true b5
                    simp only [b4, b5', b6, beq_self_eq_true, Bool.true_and, Bool.false_or, Bool.not_not]
                  · rw [if_neg b6]
                    have b6' : (a.f0 == 0) = false := by simpa using b6
                    simp [b4, b6']
                · rw [if_neg b5]
                  have b5' : decide (0 < (pre.length : Int)) = false := decide_eq_false b5
                  simp only [b4, b5', beq_self_eq_true, Bool.true_and, Bool.false_and, Bool.not_false, Bool.or_true, Bool.not_true]
              · rw [if_neg b4]
                have b4' : (a.f3 == 0) = false := by simpa using b4
                simp [b4']
            · rw [if_pos rfl]
              by_cases b5 : (pre.length : Int) > 0
              · rw [if_pos b5]; simp
              · rw [if_neg b5]; simp
    refine Ev.step (step _ rfl) ?_
    rw [trieOk]
    by_cases hd : rd D (pre.length : Int) < 0 ∨ rd D (pre.length : Int) > 32
    · rw [if_pos hd, decide_eq_true hd]
      refine Ev.step (fun k => ?_) (Ev.now _)
      rw [impl_GoodTrie.j1, if_pos (by rfl)]
    · rw [if_neg hd, decide_eq_false hd, Bool.false_or]
      cases hok : nodeOk (pre.length : Int) a
      · rw [if_neg (by simp)]
        refine Ev.step (fun k => ?_) (Ev.now _)
        rw [impl_GoodTrie.j1, if_pos (by rfl)]
      · rw [if_pos rfl]
        have hd2 : 0 ≤ rd D (pre.length : Int) ∧ rd D (pre.length : Int) ≤ 32 := by omega
        have hwc : wrap64 (c + 1) = c + 1 := wrap_id (by omega) (by omega)
        have hcc : (0 ≤ if a.f2 = true then c + 1 else c) ∧ (if a.f2 = true then c + 1 else c) ≤ (pre.length : Int) + 1 := by by_cases h : a.f2 = true <;> simp only [h, if_true, if_false, Bool.false_eq_true] <;> omega
        have key : ∀ c', 0 ≤ c' → c' ≤ (pre.length : Int) + 1 → Ev (fun k => impl_GoodTrie.j2 k l D c' (pre.length : Int) l (l.length : Int) (pre.length : Int) a.f0 a.f1 a.f2 a.f3) (match (tput (l.length : Int) (pre.length : Int) D a.f0).bind (fun D => tput (l.length : Int) (pre.length : Int) D a.f1) with | none => false | some D' => trieOk (l.length : Int) rest ((pre.length : Int) + 1) D' c') := by
          intro c' g0 g1
          refine Ev.step (f := fun k => impl_GoodTrie.l1 k l D c' (pre.length : Int) l (l.length : Int) (pre.length : Int) [a.f0, a.f1] 2 ((0 : Nat) : Int)) (fun k => ?_) ?_
          · rw [impl_GoodTrie.j2, Option.bind_some]; rfl
          · refine impl_trie_child hn hD hb (by omega) (by omega) hd2 0 rfl (by omega) ?_
            rw [show rd [a.f0, a.f1] ((0 : Nat) : Int) = a.f0 from rfl]
            cases hp : tput (l.length : Int) (pre.length : Int) D a.f0 with
            | none => rfl
            | some D1 =>
              obtain ⟨g2, g3, g4, _⟩ := tput_ok hp (by omega) hb hd2.2 (by rw [hD])
              refine impl_trie_child hn (by omega) g3 (by omega) (by omega) (by omega) 1 rfl (by omega) ?_
              rw [show rd [a.f0, a.f1] ((1 : Nat) : Int) = a.f1 from rfl, Option.bind_some]
              cases hp2 : tput (l.length : Int) (pre.length : Int) D1 a.f1 with
              | none => rfl
              | some D2 =>
                obtain ⟨g5, g6, g7, _⟩ := tput_ok hp2 (by omega) g3 (by omega) (by rw [g2, hD])
                refine Ev.step (f := fun k => impl_GoodTrie.l0 k l D2 c' l (l.length : Int) ((pre ++ [a]).length : Int)) (fun k => ?_) ?_
                · rw [impl_GoodTrie.l1, if_neg (by decide), wrap_mid (rest := rest) (by rw [← e]; simp only [maxLen]; omega)]
                · have := impl_trie_l0 hn rest (pre ++ [a]) D2 c' (by rw [e]; simp) (by omega) g6 g0 (by simp; omega)
                  rwa [show ((pre ++ [a]).length : Int) = (pre.length : Int) + 1 by simp] at this ⊢
        refine Ev.step (f := fun k => impl_GoodTrie.j2 k l D (if a.f2 = true then c + 1 else c) (pre.length : Int) l (l.length : Int) (pre.length : Int) a.f0 a.f1 a.f2 a.f3) (fun k => ?_) (key _ hcc.1 hcc.2)
        rw [impl_GoodTrie.j1, if_neg (by decide), hwc]
        by_cases h : a.f2 = true
        · rw [if_pos h, if_pos h]
        · rw [if_neg h, if_neg h]
theorem depB_first (n : Nat) : DepB ((List.replicate n (-1 : Int)).set 0 0) := by
  intro j hj
  unfold rd
  rw [List.getD_eq_getElem?_getD, List.getElem?_set]
  by_cases h : 0 = j.toNat
  · rw [if_pos h]
    by_cases h2 : 0 < (List.replicate n (-1 : Int)).length
    · rw [if_pos h2]; simp
    · rw [if_neg h2]; simp
  · rw [if_neg h, List.getElem?_replicate]
    by_cases h2 : j.toNat < n
    · rw [if_pos h2]; simp
    · rw [if_neg h2]; simp
theorem impl_GoodTrie_is (l : List S86) : Ev (fun k => impl_GoodTrie.f k l) (goodTrie l) := by
  unfold goodTrie
  by_cases h : 1 ≤ (l.length : Int) ∧ (l.length : Int) ≤ 2000
  · rw [if_pos h]
    refine Ev.congr (f := fun k => impl_GoodTrie.l0 k l ((List.replicate l.length (-1 : Int)).set 0 0) 0 l (l.length : Int) (([] : List S86).length : Int)) (fun k => ?_) (impl_trie_l0 h.2 l [] _ 0 rfl (by simp) (depB_first _) (by omega) (by simp))
    unfold impl_GoodTrie.f
    rw [impl_within_is, Option.bind_some, if_pos (decide_eq_true h)]
    rw [slices_Repeat_one _ _ (by omega) (by omega), Option.bind_some, if_pos (by rw [List.length_replicate]; omega)]
    simp
  · rw [if_neg h]
    refine Ev.congr (fun k => ?_) (Ev.now false)
    unfold impl_GoodTrie.f
    rw [impl_within_is, Option.bind_some, if_neg (by simpa using h)]
/-- The reference's two rows, and the one row of depths. -/
structure TRel (D U E : List Int) : Prop where
  lu : U.length = D.length
  le : E.length = D.length
  zero : rd U 0 = 0 ∧ rd D 0 = 0 ∧ rd E 0 = 0
  other : ∀ j : Int, 0 < j → j < (D.length : Int) → (rd D j < 0 ∧ rd U j = 0) ∨ (0 ≤ rd D j ∧ rd U j = 1 ∧ rd E j = rd D j)
theorem TRel.deep {D U E : List Int} (h : TRel D U E) {j : Int} (h0 : 0 ≤ j) (h1 : j < (D.length : Int)) (h2 : 0 ≤ rd D j) : rd E j = rd D j := by
  by_cases e : j = 0
  · subst e; rw [h.zero.2.1, h.zero.2.2]
  · rcases h.other j (by omega) h1 with h3 | h3
    · omega
    · exact h3.2.2
theorem TRel.put {D U E : List Int} (h : TRel D U E) {x v : Int} (h0 : 0 < x) (h1 : x < (D.length : Int)) (hv : 0 ≤ v) : TRel (D.set x.toNat v) (U.set x.toNat 1) (E.set x.toNat v) := by
  refine ⟨by simp [h.lu], by simp [h.le], ⟨?_, ?_, ?_⟩, fun j h2 h3 => ?_⟩
  · rw [rd_set_ne (by omega) (by omega) (by omega)]; exact h.zero.1
  · rw [rd_set_ne (by omega) (by omega) (by omega)]; exact h.zero.2.1
  · rw [rd_set_ne (by omega) (by omega) (by omega)]; exact h.zero.2.2
  · have h3' : j < (D.length : Int) := by simpa using h3
    by_cases e : x = j
    · subst e
      rw [rd_set_eq (by omega) h1, rd_set_eq (by omega) (by rw [h.lu]; exact h1), rd_set_eq (by omega) (by rw [h.le]; exact h1)]
      exact .inr ⟨hv, rfl, rfl⟩
    · rw [rd_set_ne (by omega) (by omega) e, rd_set_ne (by omega) (by omega) e, rd_set_ne (by omega) (by omega) e]
      exact h.other j h2 h3'
theorem spec_trie_child {l : List S86} {D U E L : List Int} {c i z o v : Int} {hs : Bool} {r : Bool} (hn : (l.length : Int) ≤ 2000) (hD : D.length = l.length) (hb : DepB D) (hR : TRel D U E) (hi : 0 ≤ i) (hi2 : i < (l.length : Int)) (hd : 0 ≤ rd D i ∧ rd D i ≤ 32)
    (q : Nat) (hL : L.length = 2) (hq : q < 2)
    (h : match tput (l.length : Int) i D (rd L q) with | none => r = false | some D' => ∀ U' E', TRel D' U' E' → Ev (fun k => spec_GoodTrie.l1 k l U' E' c i l (l.length : Int) i L 2 ((q + 1 : Nat) : Int) z o hs v) r) :
    Ev (fun k => spec_GoodTrie.l1 k l U E c i l (l.length : Int) i L 2 (q : Int) z o hs v) r := by
  have hw : wrap64 ((q : Int) + 1) = ((q + 1 : Nat) : Int) := by rw [wrap_id (by omega) (by omega)]; omega
  have hE : rd E i = rd D i := hR.deep hi (by omega) hd.1
  have hw3 : wrap64 (rd E i + 1) = rd D i + 1 := by rw [hE]; exact wrap_id (by omega) (by omega)
  have lu := hR.lu
  have le := hR.le
  unfold tput at h
  by_cases h0 : rd L q = 0
  · rw [if_pos h0] at h
    refine Ev.step (fun k => ?_) (h U E hR)
    rw [spec_GoodTrie.l1, if_pos (by omega), if_pos (by omega), if_pos (by rw [hL]; omega), if_pos h0, hw]
  · rw [if_neg h0] at h
    by_cases h1 : i + 1 ≤ rd L q ∧ rd L q ≤ (l.length : Int) - 1
    · rcases hR.other (rd L q) (by omega) (by omega) with h3 | h3
      · rw [if_pos ⟨h1.1, h1.2, h3.1⟩] at h
        refine Ev.step (fun k => ?_) (h _ _ (hR.put (x := rd L q) (v := rd D i + 1) (by omega) (by omega) (by omega)))
        rw [spec_GoodTrie.l1, if_pos (by omega), if_pos (by omega), if_pos (by rw [hL]; omega), if_neg h0, if_neg (by omega), if_neg (by omega), if_pos (by omega), if_pos (by omega), if_pos h3.2, if_pos hi, if_pos (by omega), if_pos (by omega), hw, hw3]
      · rw [if_neg (fun h' => by omega)] at h
        subst h
        refine Ev.step (fun k => ?_) (Ev.now _)
        rw [spec_GoodTrie.l1, if_pos (by omega), if_pos (by omega), if_pos (by rw [hL]; omega), if_neg h0, if_neg (by omega), if_neg (by omega), if_pos (by omega), if_pos (by omega), if_neg (by omega)]
    · rw [if_neg (fun h' => h1 ⟨h'.1, h'.2.1⟩)] at h
      subst h
      refine Ev.step (fun k => ?_) (Ev.now _)
      by_cases h4 : rd L q ≤ i
      · rw [spec_GoodTrie.l1, if_pos (by omega), if_pos (by omega), if_pos (by rw [hL]; omega), if_neg h0, if_pos h4]
      · rw [spec_GoodTrie.l1, if_pos (by omega), if_pos (by omega), if_pos (by rw [hL]; omega), if_neg h0, if_neg h4, if_pos (by omega)]
theorem spec_trie_end (l : List S86) (U E : List Int) (c i : Int) (a : S86) (L : List Int) (r : Bool) (hi : 0 ≤ i)
    (h : nodeOk i a = true → Ev (fun k => spec_GoodTrie.l0 k l U E (if a.f2 = true then wrap64 (c + 1) else c) l (l.length : Int) (wrap64 (i + 1))) r) (h' : nodeOk i a = false → r = false) :
    Ev (fun k => spec_GoodTrie.l1 k l U E c i l (l.length : Int) i L 2 ((2 : Nat) : Int) a.f0 a.f1 a.f2 a.f3) r := by
  have st : ∀ k, spec_GoodTrie.l1 (k + 1) l U E c i l (l.length : Int) i L 2 ((2 : Nat) : Int) a.f0 a.f1 a.f2 a.f3 = if nodeOk i a = true then spec_GoodTrie.l0 k l U E (if a.f2 = true then wrap64 (c + 1) else c) l (l.length : Int) (wrap64 (i + 1)) else some false := by
    intro k
    rw [spec_GoodTrie.l1, if_neg (by decide), spec_l2Value_is]
    simp only [Option.bind_some]
    unfold nodeOk
    cases hv : isVal a.f3
    · cases hh : a.f2
      · by_cases b4 : a.f3 = 0
        · simp [b4]
        · simp [b4]
      · simp
    · cases hh : a.f2
      · by_cases b4 : a.f3 = 0
        · by_cases b5 : i > 0
          · by_cases b6 : a.f0 = 0
            · by_cases b7 : a.f1 = 0
              · simp [b4, b5, b6, b7]
              · simp [b4, b5, b6, b7]
            · simp [b4, b5, b6]
          · simp [b4, b5]
        · simp [b4]
      · by_cases b5 : i > 0
        · by_cases b6 : a.f0 = 0
          · by_cases b7 : a.f1 = 0
            · simp [b5, b6, b7]
            · simp [b5, b6, b7]
          · simp [b5, b6]
        · simp [b5]
  cases hok : nodeOk i a
  · rw [h' hok]
    refine Ev.step (fun k => ?_) (Ev.now _)
    rw [st, if_neg (by rw [hok]; decide)]
  · refine Ev.step (fun k => ?_) (h hok)
    rw [st, if_pos hok]
theorem spec_trie_l0 {l : List S86} (hn : (l.length : Int) ≤ 2000) : ∀ (rest pre : List S86) (D U E : List Int) (c : Int), l = pre ++ rest → D.length = l.length → DepB D → TRel D U E → 0 ≤ c → c ≤ pre.length →
    Ev (fun k => spec_GoodTrie.l0 k l U E c l (l.length : Int) (pre.length : Int)) (trieOk l.length rest pre.length D c)
  | [], pre, D, U, E, c, e, hD, hb, hR, c0, c1 => by
    refine Ev.step (fun k => ?_) (Ev.now _)
    rw [spec_GoodTrie.l0, if_neg (by rw [e]; simp), trieOk]
  | a :: rest, pre, D, U, E, c, e, hD, hb, hR, c0, c1 => by
    have hlen : (l.length : Int) = pre.length + (rest.length + 1) := by rw [e]; simp
    have h1 : rd_T86 l (pre.length : Int) = a := by rw [e]; exact rdm_Node _ _ _
    have lu := hR.lu
    have le := hR.le
    have step : ∀ k, spec_GoodTrie.l0 (k + 1) l U E c l (l.length : Int) (pre.length : Int) = spec_GoodTrie.j1 k l U E c (pre.length : Int) l (l.length : Int) (pre.length : Int) (decide (rd D (pre.length : Int) < 0 ∨ rd D (pre.length : Int) > 32)) a.f0 a.f1 a.f2 a.f3 := by
      intro k
      rw [spec_GoodTrie.l0, if_pos (by omega), if_pos (by omega), if_pos (by omega), h1]
      by_cases b5 : (pre.length : Int) > 0
      · rw [if_pos b5, if_pos (by omega)]
        rcases hR.other (pre.length : Int) (by omega) (by omega) with h3 | h3
        · rw [if_pos h3.2, decide_eq_true (Or.inl h3.1)]
        · have h4 : ¬ rd D (pre.length : Int) < 0 := by omega
          rw [if_neg (by omega), if_pos (by omega), h3.2.2]
          simp [h4]
      · have e0 : (pre.length : Int) = 0 := by omega
        rw [if_neg b5, if_pos (by omega), e0, hR.zero.2.1, hR.zero.2.2]
        simp
    refine Ev.step step ?_
    rw [trieOk]
    by_cases hd : rd D (pre.length : Int) < 0 ∨ rd D (pre.length : Int) > 32
    · rw [if_pos hd, decide_eq_true hd]
      refine Ev.step (fun k => ?_) (Ev.now _)
      rw [spec_GoodTrie.j1, if_pos rfl]
    · rw [if_neg hd, decide_eq_false hd]
      have hd2 : 0 ≤ rd D (pre.length : Int) ∧ rd D (pre.length : Int) ≤ 32 := by omega
      refine Ev.step (f := fun k => spec_GoodTrie.l1 k l U E c (pre.length : Int) l (l.length : Int) (pre.length : Int) [a.f0, a.f1] 2 ((0 : Nat) : Int) a.f0 a.f1 a.f2 a.f3) (fun k => ?_) ?_
      · rw [spec_GoodTrie.j1, if_neg (by decide), Option.bind_some]; rfl
      · have hfin : ∀ r : Bool, nodeOk (pre.length : Int) a = false → (if nodeOk (pre.length : Int) a = true then r else false) = false := fun r h => by rw [if_neg (by rw [h]; decide)]
        refine spec_trie_child hn hD hb hR (by omega) (by omega) hd2 0 rfl (by omega) ?_
        rw [show rd [a.f0, a.f1] ((0 : Nat) : Int) = a.f0 from rfl]
        cases hp : tput (l.length : Int) (pre.length : Int) D a.f0 with
        | none => by_cases hok : nodeOk (pre.length : Int) a = true <;> simp [hok]
        | some D1 =>
          intro U1 E1 hR1
          obtain ⟨g2, g3, g4, _⟩ := tput_ok hp (by omega) hb hd2.2 (by rw [hD])
          refine spec_trie_child hn (by omega) g3 hR1 (by omega) (by omega) (by omega) 1 rfl (by omega) ?_
          rw [show rd [a.f0, a.f1] ((1 : Nat) : Int) = a.f1 from rfl, Option.bind_some]
          cases hp2 : tput (l.length : Int) (pre.length : Int) D1 a.f1 with
          | none => by_cases hok : nodeOk (pre.length : Int) a = true <;> simp [hok]
          | some D2 =>
            intro U2 E2 hR2
            obtain ⟨g5, g6, g7, _⟩ := tput_ok hp2 (by omega) g3 (by omega) (by rw [g2, hD])
            refine spec_trie_end l U2 E2 c (pre.length : Int) a [a.f0, a.f1] _ (by omega) (fun hok => ?_) (hfin _)
            rw [if_pos hok, wrap_mid (rest := rest) (by rw [← e]; simp only [maxLen]; omega)]
            have hwc : wrap64 (c + 1) = c + 1 := wrap_id (by omega) (by omega)
            rw [hwc]
            have hcc : (0 ≤ if a.f2 = true then c + 1 else c) ∧ (if a.f2 = true then c + 1 else c) ≤ (pre.length : Int) + 1 := by by_cases h : a.f2 = true <;> simp only [h, if_true, if_false, Bool.false_eq_true] <;> omega
            have := spec_trie_l0 hn rest (pre ++ [a]) D2 U2 E2 (if a.f2 = true then c + 1 else c) (by rw [e]; simp) (by omega) g6 hR2 hcc.1 (by simp; omega)
            rwa [show ((pre ++ [a]).length : Int) = (pre.length : Int) + 1 by simp] at this ⊢
theorem tRel_first (n : Nat) : TRel ((List.replicate n (-1 : Int)).set 0 0) (List.replicate n 0) (List.replicate n 0) := by
  have hz : ∀ j : Int, rd (List.replicate n (0 : Int)) j = 0 := by
    intro j
    unfold rd
    rw [List.getD_eq_getElem?_getD, List.getElem?_replicate]
    by_cases h2 : j.toNat < n
    · rw [if_pos h2]; rfl
    · rw [if_neg h2]; rfl
  refine ⟨by simp, by simp, ⟨hz 0, ?_, hz 0⟩, fun j h0 h1 => .inl ⟨?_, hz j⟩⟩
  · unfold rd
    rw [List.getD_eq_getElem?_getD, List.getElem?_set]
    by_cases h2 : 0 < n
    · simp [h2]
    · simp [h2]
  · have h1' : j < (n : Int) := by simpa using h1
    rw [show (0 : Nat) = (0 : Int).toNat from rfl, rd_set_ne (by omega) (by omega) (by omega)]
    unfold rd
    rw [List.getD_eq_getElem?_getD, List.getElem?_replicate, if_pos (by omega)]
    simp
theorem spec_GoodTrie_is (l : List S86) : Ev (fun k => spec_GoodTrie.f k l) (goodTrie l) := by
  unfold goodTrie
  by_cases h : 1 ≤ (l.length : Int) ∧ (l.length : Int) ≤ 2000
  · rw [if_pos h]
    refine Ev.congr (f := fun k => spec_GoodTrie.l0 k l (List.replicate l.length 0) (List.replicate l.length 0) 0 l (l.length : Int) (([] : List S86).length : Int)) (fun k => ?_) (spec_trie_l0 h.2 l [] _ _ _ 0 rfl (by simp) (depB_first _) (tRel_first _) (by omega) (by simp))
    unfold spec_GoodTrie.f
    rw [spec_l1In_is, Option.bind_some, if_pos (decide_eq_true h), if_pos (by omega), if_pos (by omega)]
    rfl
  · rw [if_neg h]
    refine Ev.congr (fun k => ?_) (Ev.now false)
    unfold spec_GoodTrie.f
    rw [spec_l1In_is, Option.bind_some, if_neg (by simpa using h)]
theorem laws_szTrieNodeS_is (l : List S88) (m0 : l.length ≤ maxLen) : ∃ r, laws_szTrieNodeS.f l 1048576 = some r ∧ (¬ r < 0 → l.length ≤ 1048576) := by
  unfold laws_szTrieNodeS.f
  by_cases hc : wrap64 (1048576 - (l.length : Int)) < 0
  · rw [if_pos hc]; exact ⟨_, rfl, fun h => absurd (by omega) h⟩
  · rw [if_neg hc]; exact ⟨_, rfl, fun h => sz_ok m0 (by rw [if_neg hc]) h⟩
theorem laws_toTrieNodeS_is (k : Nat) (l : List S88) (hl : l.length ≤ 1048576) (hk : l.length < k) : laws_toTrieNodeS.f k l = some (l.map fun p => (⟨p.f0, p.f1, p.f2, p.f3⟩ : S86)) := by
  unfold laws_toTrieNodeS.f
  rw [if_pos (len_nn _), if_pos (by simp; omega)]
  have key : ∀ (rest pre : List S88) (k : Nat), l = pre ++ rest → rest.length < k →
      laws_toTrieNodeS.l0 k l (pre.map (fun p => (⟨p.f0, p.f1, p.f2, p.f3⟩ : S86)) ++ List.replicate rest.length z86) (pre.length : Int) = some (l.map fun p => (⟨p.f0, p.f1, p.f2, p.f3⟩ : S86)) := by
    intro rest
    induction rest with
    | nil =>
      intro pre k e hk
      obtain ⟨k, rfl⟩ : ∃ m, k = m + 1 := ⟨k - 1, by omega⟩
      simp only [laws_toTrieNodeS.l0]
      rw [if_neg (by rw [e]; simp)]
      simp [e]
    | cons a rest ih =>
      intro pre k e hk
      obtain ⟨k, rfl⟩ : ∃ m, k = m + 1 := ⟨k - 1, by omega⟩
      have h1 : rd_T88 l (pre.length : Int) = a := by rw [e]; unfold rd_T88; simp
      simp only [laws_toTrieNodeS.l0]
      rw [if_pos (by rw [e]; exact lt_mid _ _ _), if_pos (len_nn _), h1]
      unfold laws_toTrieNode.f
      rw [Option.bind_some, if_pos (by simp; omega), wrap_mid (rest := rest) (by rw [← e]; simp only [maxLen]; omega)]
      have := ih (pre ++ [a]) k (by rw [e]; simp) (by simp at hk; omega)
      rw [← this]
      congr 1
      have es : ((pre.map (fun p => (⟨p.f0, p.f1, p.f2, p.f3⟩ : S86))).length : Int) = (pre.length : Int) := by simp
      rw [← es, List.length_cons, List.replicate_succ, set_mid]
      simp
  have := key l [] k rfl hk
  simpa using this
theorem laws_eqTrieNode_self (a b : Int) (c : Bool) (d : Int) : laws_eqTrieNode.f a b c d a b c d = some true := by
  unfold laws_eqTrieNode.f; simp
theorem laws_eqTrieNodeS_refl (k : Nat) (l : List S86) (hl : l.length ≤ maxLen) (hk : l.length < k) : laws_eqTrieNodeS.f k l l = some true := by
  unfold laws_eqTrieNodeS.f
  rw [if_pos rfl]
  have key : ∀ (rest pre : List S86) (k : Nat), l = pre ++ rest → rest.length < k → laws_eqTrieNodeS.l0 k l l (pre.length : Int) = some true := by
    intro rest
    induction rest with
    | nil =>
      intro pre k e hk
      obtain ⟨k, rfl⟩ : ∃ m, k = m + 1 := ⟨k - 1, by omega⟩
      simp only [laws_eqTrieNodeS.l0]
      rw [if_neg (by rw [e]; simp)]
    | cons a rest ih =>
      intro pre k e hk
      obtain ⟨k, rfl⟩ : ∃ m, k = m + 1 := ⟨k - 1, by omega⟩
      simp only [laws_eqTrieNodeS.l0]
      rw [if_pos (by rw [e]; exact lt_mid _ _ _), if_pos (len_nn _), if_pos (by rw [e]; exact lt_mid _ _ _), laws_eqTrieNode_self]
      simp only [Option.bind_some, if_true]
      rw [wrap_mid (rest := rest) (by rw [← e]; exact hl)]
      exact ih (pre ++ [a]) k (by rw [e]; simp) (by simp at hk; omega)
  exact key l [] k rfl hk
/-- A half's number: none, or a later node's. -/
def kidOk (n i x : Int) : Prop := x = 0 ∨ (i + 1 ≤ x ∧ x ≤ n - 1)
theorem tput_kid {n i : Int} {D D' : List Int} {x : Int} (h : tput n i D x = some D') : kidOk n i x := by
  unfold tput at h
  by_cases h0 : x = 0
  · exact .inl h0
  · rw [if_neg h0] at h
    by_cases h1 : i + 1 ≤ x ∧ x ≤ n - 1 ∧ rd D x < 0
    · exact .inr ⟨h1.1, h1.2.1⟩
    · rw [if_neg h1] at h; cases h
theorem trieOk_kids (n : Int) : ∀ (rest : List S86) (i : Int) (D : List Int) (c : Int), trieOk n rest i D c = true → ∀ (j : Nat) (a : S86), rest[j]? = some a → (kidOk n (i + j) a.f0 ∧ kidOk n (i + j) a.f1) ∧ isVal a.f3 = true
  | [], _, _, _, _, j, a, h => by simp at h
  | b :: t, i, D, c, ht, j, a, h => by
    rw [trieOk] at ht
    by_cases hd : rd D i < 0 ∨ rd D i > 32
    · rw [if_pos hd] at ht; cases ht
    · rw [if_neg hd] at ht
      cases hok : nodeOk i b
      · rw [hok, if_neg (by decide)] at ht; cases ht
      · rw [hok, if_pos rfl] at ht
        cases hp : tput n i D b.f0 with
        | none => rw [hp] at ht; cases ht
        | some D1 =>
          rw [hp, Option.bind_some] at ht
          cases hp2 : tput n i D1 b.f1 with
          | none => rw [hp2] at ht; cases ht
          | some D2 =>
            rw [hp2] at ht
            cases j with
            | zero =>
              simp at h
              subst h
              refine ⟨by simpa using ⟨tput_kid hp, tput_kid hp2⟩, ?_⟩
              unfold nodeOk at hok
              simp only [Bool.and_eq_true] at hok
              exact hok.1
            | succ j =>
              have := trieOk_kids n t (i + 1) D2 _ ht j a (by simpa using h)
              rwa [show i + 1 + (j : Int) = i + ((j + 1 : Nat) : Int) by omega] at this
theorem goodTrie_len {l : List S86} (h : goodTrie l = true) : 1 ≤ (l.length : Int) ∧ (l.length : Int) ≤ 2000 := by
  unfold goodTrie at h
  by_cases h1 : 1 ≤ (l.length : Int) ∧ (l.length : Int) ≤ 2000
  · exact h1
  · rw [if_neg h1] at h; cases h
theorem goodTrie_kids {l : List S86} (h : goodTrie l = true) {i : Int} (h0 : 0 ≤ i) (h1 : i < (l.length : Int)) : (kidOk l.length i (rd_T86 l i).f0 ∧ kidOk l.length i (rd_T86 l i).f1) ∧ isVal (rd_T86 l i).f3 = true := by
  have hl := goodTrie_len h
  unfold goodTrie at h
  rw [if_pos hl] at h
  have hi : i.toNat < l.length := by omega
  have := trieOk_kids _ l 0 _ _ h i.toNat (l[i.toNat]'hi) (List.getElem?_eq_getElem hi)
  have e : rd_T86 l i = l[i.toNat]'hi := by unfold rd_T86; rw [List.getD_eq_getElem?_getD, List.getElem?_eq_getElem hi]; rfl
  rw [e]
  rwa [show (0 : Int) + (i.toNat : Int) = i by omega] at this
def KidsV (l : List S86) : Prop := ∀ i : Int, 0 ≤ i → i < (l.length : Int) → kidOk l.length i (rd_T86 l i).f0 ∧ kidOk l.length i (rd_T86 l i).f1
theorem goodTrie_KidsV {l : List S86} (h : goodTrie l = true) : KidsV l := fun _ h0 h1 => (goodTrie_kids h h0 h1).1
theorem nrd_set_ne {l : List S86} {x y : Int} {v : S86} (hx : 0 ≤ x) (hy : 0 ≤ y) (h : x ≠ y) : rd_T86 (l.set x.toNat v) y = rd_T86 l y := by
  unfold rd_T86
  have : x.toNat ≠ y.toNat := by omega
  simp only [List.getD_eq_getElem?_getD, List.getElem?_set_ne this]
theorem nrd_set_eq {l : List S86} {x : Int} {v : S86} (hx : 0 ≤ x) (h : x < (l.length : Int)) : rd_T86 (l.set x.toNat v) x = v := by
  unfold rd_T86
  have : x.toNat < l.length := by omega
  simp [List.getD_eq_getElem?_getD, List.getElem?_set, this]
theorem nrd_app {l m : List S86} {x : Int} (hx : 0 ≤ x) (h : x < (l.length : Int)) : rd_T86 (l ++ m) x = rd_T86 l x := by
  unfold rd_T86
  rw [List.getD_eq_getElem?_getD, List.getD_eq_getElem?_getD, List.getElem?_append_left (by omega)]
theorem nrd_last {l : List S86} {a : S86} : rd_T86 (l ++ [a]) (l.length : Int) = a := by unfold rd_T86; simp
def mk_Node (q : Int) : Nat → List S86
  | 0 => []
  | n + 1 => ⟨q, q + 1, (Int.tmod (q + 2) 3 == 0), q + 3⟩ :: mk_Node (q + 4) n
theorem mk_Node_len (q : Int) (n : Nat) : (mk_Node q n).length = n := by
  induction n generalizing q with
  | zero => rfl
  | succ n ih => simp [mk_Node, ih]
theorem node_mid (pre : List S86) (a : S86) (rest : List S86) : rd_T86 (pre ++ a :: rest) (pre.length : Int) = a := rdm_Node _ _ _
theorem laws_markTrieNodeS_is (l : List S86) (hl : l.length ≤ 1000000000) (q : Int) (hq : 0 ≤ q) (hq2 : q ≤ 1000000000000) (k : Nat) (hk : l.length < k) : laws_markTrieNodeS.f k l q = some (q + 4 * l.length, mk_Node q l.length) := by
  have key : ∀ (rest pre : List S86) (k : Nat) (q : Int), (pre ++ rest).length ≤ 1000000000 → 0 ≤ q → q + 4 * rest.length ≤ 20000000000000 → rest.length < k → laws_markTrieNodeS.l0 k (pre ++ rest) q (pre.length : Int) = some (q + 4 * rest.length, pre ++ mk_Node q rest.length) := by
    intro rest
    induction rest with
    | nil =>
      intro pre k q _ _ _ hk
      obtain ⟨k, rfl⟩ : ∃ m, k = m + 1 := ⟨k - 1, by omega⟩
      rw [laws_markTrieNodeS.l0, if_neg (by simp)]
      simp [mk_Node]
    | cons a rest ih =>
      intro pre k q hp h0 h1 hk
      obtain ⟨k, rfl⟩ : ∃ m, k = m + 1 := ⟨k - 1, by omega⟩
      simp only [List.length_cons] at h1 hk
      rw [laws_markTrieNodeS.l0, if_pos (lt_mid _ _ _), if_pos (len_nn _)]
      simp only [Option.bind_some, set_mid, node_mid]
      rw [wrap_id (x := q + 1) (by omega) (by omega), wrap_id (x := q + 1 + 1) (by omega) (by omega), wrap_id (x := q + 1 + 1 + 1) (by omega) (by omega), wrap_id (x := q + 1 + 1 + 1 + 1) (by omega) (by omega), wrap_mid (pre := pre) (a := a) (rest := rest) (by simp only [maxLen]; omega)]
      have := ih (pre ++ [(⟨q, q + 1, (Int.tmod (q + 2) 3 == 0), q + 3⟩ : S86)]) k (q + 4) (by simp at hp ⊢; omega) (by omega) (by omega) (by omega)
      simp only [List.append_assoc, List.singleton_append] at this
      rw [show q + 1 + 1 + 1 + 1 = q + 4 by omega, show q + 1 + 1 + 1 = q + 3 by omega, show q + 1 + 1 = q + 2 by omega, show ((pre ++ [a]).length : Int) = ((pre ++ [(⟨q, q + 1, (Int.tmod (q + 2) 3 == 0), q + 3⟩ : S86)]).length : Int) by simp, this]
      simp only [List.length_cons, mk_Node]
      congr 2
      omega
  have := key l [] k q (by simpa using hl) hq (by omega) hk
  simpa [laws_markTrieNodeS.f] using this
/-- The entries of a node and of those below it, behind others; m bits are still to go. -/
def walkP (t : List S86) : Nat → Int → Int → Int → List S39 → List S39
  | 0, i, a, n, out => if (rd_T86 t i).f2 = true then out ++ [⟨⟨a, n⟩, (rd_T86 t i).f3⟩] else out
  | m + 1, i, a, n, out =>
    let o1 := if (rd_T86 t i).f2 = true then out ++ [⟨⟨a, n⟩, (rd_T86 t i).f3⟩] else out
    let o2 := if (rd_T86 t i).f0 = 0 then o1 else walkP t m (rd_T86 t i).f0 a (n + 1) o1
    if (rd_T86 t i).f1 = 0 then o2 else walkP t m (rd_T86 t i).f1 (a + sz (n + 1)) (n + 1) o2
theorem walkP_len (t : List S86) : ∀ (m : Nat) (i a n : Int) (out : List S39), (walkP t m i a n out).length + 1 ≤ out.length + 2 ^ (m + 1)
  | 0, i, a, n, out => by
    rw [walkP]
    by_cases h : (rd_T86 t i).f2 = true
    · rw [if_pos h]; simp
    · rw [if_neg h]; simp; try omega
  | m + 1, i, a, n, out => by
    rw [walkP]
    have h1 : (if (rd_T86 t i).f2 = true then out ++ [⟨⟨a, n⟩, (rd_T86 t i).f3⟩] else out).length ≤ out.length + 1 := by
      by_cases h : (rd_T86 t i).f2 = true
      · rw [if_pos h]; simp
      · rw [if_neg h]; omega
    generalize (if (rd_T86 t i).f2 = true then out ++ [⟨⟨a, n⟩, (rd_T86 t i).f3⟩] else out) = o1 at h1 ⊢
    have hp : (2 : Nat) ^ (m + 1 + 1) = 2 ^ (m + 1) + 2 ^ (m + 1) := by rw [Nat.pow_succ]; omega
    have hq : 1 ≤ (2 : Nat) ^ (m + 1) := Nat.one_le_two_pow
    have h2 : (if (rd_T86 t i).f0 = 0 then o1 else walkP t m (rd_T86 t i).f0 a (n + 1) o1).length + 1 ≤ o1.length + 2 ^ (m + 1) := by
      by_cases h : (rd_T86 t i).f0 = 0
      · rw [if_pos h]; omega
      · rw [if_neg h]; exact walkP_len t m _ _ _ _
    generalize (if (rd_T86 t i).f0 = 0 then o1 else walkP t m (rd_T86 t i).f0 a (n + 1) o1) = o2 at h2 ⊢
    by_cases h : (rd_T86 t i).f1 = 0
    · rw [if_pos h]; omega
    · rw [if_neg h]
      have := walkP_len t m (rd_T86 t i).f1 (a + sz (n + 1)) (n + 1) o2
      omega
theorem walk_same {t : List S86} (hk : KidsV t) : ∀ (m : Nat) (i a n : Int) (out : List S39) (k : Nat), 0 ≤ i → i < (t.length : Int) → 0 ≤ n → n + m = 32 → 0 ≤ a → a + sz n ≤ 4294967296 → out.length + 2 ^ (m + 1) ≤ 100000000000 → 2 * m + 2 ≤ k →
    spec_l2Walk.f k t i a n out = some (walkP t m i a n out) ∧ impl_entriesBelow.f k t i a n out = some (walkP t m i a n out)
  | 0, i, a, n, out, k, i0, i1, n0, hn, a0, a1, ho, hkk => by
    obtain ⟨k, rfl⟩ : ∃ j, k = j + 1 + 1 := ⟨k - 2, by omega⟩
    rw [spec_l2Walk.f, impl_entriesBelow.f, if_pos i0, if_pos i0, if_pos i1, if_pos i1, walkP]
    by_cases h : (rd_T86 t i).f2 = true
    · rw [if_pos h, if_pos h, if_pos h, if_pos (by omega), if_pos (by omega), spec_l2Walk.j0, impl_entriesBelow.j0, if_pos (show n = 32 by omega), if_pos (show n = 32 by omega)]
      exact ⟨rfl, rfl⟩
    · rw [if_neg h, if_neg h, if_neg h, spec_l2Walk.j0, impl_entriesBelow.j0, if_pos (show n = 32 by omega), if_pos (show n = 32 by omega)]
      exact ⟨rfl, rfl⟩
  | m + 1, i, a, n, out, k, i0, i1, n0, hn, a0, a1, ho, hkk => by
    obtain ⟨k, rfl⟩ : ∃ j, k = j + 1 + 1 := ⟨k - 2, by omega⟩
    have hki := hk i i0 i1
    have hs := sz_succ n0 (by omega)
    have hs1 := sz_pos (n + 1)
    have hp : (2 : Nat) ^ (m + 1 + 1) = 2 ^ (m + 1) + 2 ^ (m + 1) := by rw [Nat.pow_succ]; omega
    have hq : 2 ≤ (2 : Nat) ^ (m + 1) := by have := @Nat.one_le_two_pow m; rw [Nat.pow_succ]; omega
    have mid : ∀ o1 : List S39, o1.length ≤ out.length + 1 →
        spec_l2Walk.j0 (k + 1) t i o1 a n = some (if (rd_T86 t i).f1 = 0 then (if (rd_T86 t i).f0 = 0 then o1 else walkP t m (rd_T86 t i).f0 a (n + 1) o1) else walkP t m (rd_T86 t i).f1 (a + sz (n + 1)) (n + 1) (if (rd_T86 t i).f0 = 0 then o1 else walkP t m (rd_T86 t i).f0 a (n + 1) o1)) ∧
        impl_entriesBelow.j0 (k + 1) t o1 a n (rd_T86 t i).f0 (rd_T86 t i).f1 (rd_T86 t i).f2 (rd_T86 t i).f3 = some (if (rd_T86 t i).f1 = 0 then (if (rd_T86 t i).f0 = 0 then o1 else walkP t m (rd_T86 t i).f0 a (n + 1) o1) else walkP t m (rd_T86 t i).f1 (a + sz (n + 1)) (n + 1) (if (rd_T86 t i).f0 = 0 then o1 else walkP t m (rd_T86 t i).f0 a (n + 1) o1)) := by
      intro o1 h1
      rw [spec_l2Walk.j0, impl_entriesBelow.j0, if_neg (show ¬ n = 32 by omega), if_neg (show ¬ n = 32 by omega), spec_l1Halves_is n0 (by omega) a0 (by omega), impl_Prefix_halves_is n0 (by omega) a0 (by omega), Option.bind_some, Option.bind_some, if_pos i0, if_pos i1]
      dsimp only
      by_cases z0 : (rd_T86 t i).f0 = 0
      · rw [if_pos z0, if_neg (show ¬ (rd_T86 t i).f0 > 0 by omega)]
        by_cases z1 : (rd_T86 t i).f1 = 0
        · rw [if_pos z1, if_neg (show ¬ (rd_T86 t i).f1 > 0 by omega), if_pos z1, if_pos z0]
          exact ⟨rfl, rfl⟩
        · have hv : i + 1 ≤ (rd_T86 t i).f1 ∧ (rd_T86 t i).f1 ≤ (t.length : Int) - 1 := hki.2.elim (fun e => absurd e z1) id
          obtain ⟨r1, r2⟩ := walk_same hk m (rd_T86 t i).f1 (a + sz (n + 1)) (n + 1) o1 k (by omega) (by omega) (by omega) (by omega) (by omega) (by omega) (by omega) (by omega)
          rw [if_neg z1, if_pos (show (rd_T86 t i).f1 > 0 by omega), if_neg z1, if_pos z0, r1, r2]
          exact ⟨rfl, rfl⟩
      · have hv0 : i + 1 ≤ (rd_T86 t i).f0 ∧ (rd_T86 t i).f0 ≤ (t.length : Int) - 1 := hki.1.elim (fun e => absurd e z0) id
        obtain ⟨q1, q2⟩ := walk_same hk m (rd_T86 t i).f0 a (n + 1) o1 k (by omega) (by omega) (by omega) (by omega) a0 (by omega) (by omega) (by omega)
        have hl := walkP_len t m (rd_T86 t i).f0 a (n + 1) o1
        rw [if_neg z0, if_pos (show (rd_T86 t i).f0 > 0 by omega), q1, q2, Option.bind_some, Option.bind_some]
        by_cases z1 : (rd_T86 t i).f1 = 0
        · rw [if_pos z1, if_neg (show ¬ (rd_T86 t i).f1 > 0 by omega), if_pos z1, if_neg z0]
          exact ⟨rfl, rfl⟩
        · have hv : i + 1 ≤ (rd_T86 t i).f1 ∧ (rd_T86 t i).f1 ≤ (t.length : Int) - 1 := hki.2.elim (fun e => absurd e z1) id
          obtain ⟨r1, r2⟩ := walk_same hk m (rd_T86 t i).f1 (a + sz (n + 1)) (n + 1) (walkP t m (rd_T86 t i).f0 a (n + 1) o1) k (by omega) (by omega) (by omega) (by omega) (by omega) (by omega) (by omega) (by omega)
          rw [if_neg z1, if_pos (show (rd_T86 t i).f1 > 0 by omega), if_neg z1, if_neg z0, r1, r2]
          exact ⟨rfl, rfl⟩
    rw [spec_l2Walk.f, impl_entriesBelow.f, if_pos i0, if_pos i0, if_pos i1, if_pos i1, walkP]
    by_cases h : (rd_T86 t i).f2 = true
    · simp only [if_pos h]
      rw [if_pos (show out.length < 5864062014805 by omega), if_pos (show out.length < 5864062014805 by omega)]
      exact mid _ (by simp)
    · simp only [if_neg h]
      exact mid _ (by omega)
def entR (t : List S86) : List S39 × Bool := if goodTrie t = true then (walkP t 32 0 0 0 [], true) else ([], false)
theorem entR_len (t : List S86) : (entR t).1.length ≤ 10000000000 := by
  unfold entR
  by_cases h : goodTrie t = true
  · rw [if_pos h]
    have := walkP_len t 32 0 0 0 []
    simp only [List.length_nil, Nat.zero_add] at this
    have e : (2 : Nat) ^ (32 + 1) = 8589934592 := by decide
    rw [e] at this
    show (walkP t 32 0 0 0 []).length ≤ _
    omega
  · rw [if_neg h]; simp
theorem TrieEntries_is (t : List S86) : Ev (fun k => spec_TrieEntries.f k t) (entR t) ∧ Ev (fun k => impl_TrieEntries.f k t) (entR t) := by
  obtain ⟨K1, h1⟩ := spec_GoodTrie_is t
  obtain ⟨K2, h2⟩ := impl_GoodTrie_is t
  replace h1 : ∀ k, K1 ≤ k → spec_GoodTrie.f k t = _ := h1
  replace h2 : ∀ k, K2 ≤ k → impl_GoodTrie.f k t = _ := h2
  unfold entR
  by_cases hg : goodTrie t = true
  · rw [if_pos hg]
    have hl := goodTrie_len hg
    have hw : ∀ k, 66 ≤ k → spec_l2Walk.f k t 0 0 0 [] = some (walkP t 32 0 0 0 []) ∧ impl_entriesBelow.f k t 0 0 0 [] = some (walkP t 32 0 0 0 []) := fun k hk =>
      walk_same (goodTrie_KidsV hg) 32 0 0 0 [] k (by omega) (by omega) (by omega) (by omega) (by omega) (by rw [sz_lit.1]; omega) (by simp) (by omega)
    refine ⟨⟨K1 + 66, fun k hk => ?_⟩, ⟨K2 + 66, fun k hk => ?_⟩⟩
    · show spec_TrieEntries.f k t = _
      unfold spec_TrieEntries.f
      rw [h1 _ (by omega), Option.bind_some, if_pos hg, (hw k (by omega)).1]; rfl
    · show impl_TrieEntries.f k t = _
      unfold impl_TrieEntries.f
      rw [h2 _ (by omega), Option.bind_some, if_pos hg, (hw k (by omega)).2]; rfl
  · rw [if_neg hg]
    refine ⟨⟨K1, fun k hk => ?_⟩, ⟨K2, fun k hk => ?_⟩⟩
    · show spec_TrieEntries.f k t = _
      unfold spec_TrieEntries.f
      rw [h1 _ (by omega), Option.bind_some, if_neg hg]
    · show impl_TrieEntries.f k t = _
      unfold impl_TrieEntries.f
      rw [h2 _ (by omega), Option.bind_some, if_neg hg]
def mk_Entry (q : Int) : Nat → List S39
  | 0 => []
  | n + 1 => ⟨⟨q, q + 1⟩, q + 2⟩ :: mk_Entry (q + 3) n
theorem mk_Entry_len (q : Int) (n : Nat) : (mk_Entry q n).length = n := by
  induction n generalizing q with
  | zero => rfl
  | succ n ih => simp [mk_Entry, ih]
theorem laws_markEntryS_is (l : List S39) (hl : l.length ≤ 10000000000) (q : Int) (hq : 0 ≤ q) (hq2 : q ≤ 1000000000000) (k : Nat) (hk : l.length < k) : laws_markEntryS.f k l q = some (q + 3 * l.length, mk_Entry q l.length) := by
  have key : ∀ (rest pre : List S39) (k : Nat) (q : Int), (pre ++ rest).length ≤ 10000000000 → 0 ≤ q → q + 3 * rest.length ≤ 200000000000000 → rest.length < k → laws_markEntryS.l0 k (pre ++ rest) q (pre.length : Int) = some (q + 3 * rest.length, pre ++ mk_Entry q rest.length) := by
    intro rest
    induction rest with
    | nil =>
      intro pre k q _ _ _ hk
      obtain ⟨k, rfl⟩ : ∃ m, k = m + 1 := ⟨k - 1, by omega⟩
      rw [laws_markEntryS.l0, if_neg (by simp)]
      simp [mk_Entry]
    | cons a rest ih =>
      intro pre k q hp h0 h1 hk
      obtain ⟨k, rfl⟩ : ∃ m, k = m + 1 := ⟨k - 1, by omega⟩
      simp only [List.length_cons] at h1 hk
      rw [laws_markEntryS.l0, if_pos (lt_mid _ _ _), if_pos (len_nn _)]
      simp only [Option.bind_some, set_mid, rdm_Entry]
      rw [wrap_id (x := q + 1) (by omega) (by omega), wrap_id (x := q + 1 + 1) (by omega) (by omega), wrap_id (x := q + 1 + 1 + 1) (by omega) (by omega), wrap_mid (pre := pre) (a := a) (rest := rest) (by simp only [maxLen]; omega)]
      have := ih (pre ++ [(⟨⟨q, q + 1⟩, q + 2⟩ : S39)]) k (q + 3) (by simp at hp ⊢; omega) (by omega) (by omega) (by omega)
      simp only [List.append_assoc, List.singleton_append] at this
      rw [show q + 1 + 1 + 1 = q + 3 by omega, show q + 1 + 1 = q + 2 by omega, show ((pre ++ [a]).length : Int) = ((pre ++ [(⟨⟨q, q + 1⟩, q + 2⟩ : S39)]).length : Int) by simp, this]
      simp only [List.length_cons, mk_Entry]
      congr 2
      omega
  have := key l [] k q (by simpa using hl) hq (by omega) hk
  simpa [laws_markEntryS.f] using this
theorem laws_heldEntryS_is (n : Nat) (hn : n ≤ 10000000000) (q : Int) (hq : 0 ≤ q) (hq2 : q ≤ 1000000000000) (k : Nat) (hk : n < k) : laws_heldEntryS.f k (mk_Entry q n) q = some (q + 3 * n) := by
  have key : ∀ (n : Nat) (pre : List S39) (k : Nat) (q : Int), pre.length + n ≤ 10000000000 → 0 ≤ q → q + 3 * n ≤ 200000000000000 → n < k → laws_heldEntryS.l0 k (pre ++ mk_Entry q n) q (pre.length : Int) = some (q + 3 * n) := by
    intro n
    induction n with
    | zero =>
      intro pre k q _ _ _ hk
      obtain ⟨k, rfl⟩ : ∃ m, k = m + 1 := ⟨k - 1, by omega⟩
      rw [laws_heldEntryS.l0, if_neg (by simp [mk_Entry])]
      simp
    | succ n ih =>
      intro pre k q hp h0 h1 hk
      obtain ⟨k, rfl⟩ : ∃ m, k = m + 1 := ⟨k - 1, by omega⟩
      have hlen : (pre ++ (⟨⟨q, q + 1⟩, q + 2⟩ : S39) :: mk_Entry (q + 3) n).length ≤ maxLen := by simp [mk_Entry_len, maxLen]; omega
      simp only [mk_Entry]
      rw [laws_heldEntryS.l0, if_pos (lt_mid _ _ _), if_pos (len_nn _), rdm_Entry]
      dsimp only
      rw [if_pos rfl, wrap_id (x := q + 1) (by omega) (by omega), wrap_id (x := q + 1 + 1) (by omega) (by omega), wrap_id (x := q + 1 + 1 + 1) (by omega) (by omega), if_pos rfl, show q + 1 + 1 + 1 = q + 3 by omega, show q + 1 + 1 = q + 2 by omega, if_pos rfl, wrap_mid (rest := mk_Entry (q + 3) n) hlen]
      have := ih (pre ++ [(⟨⟨q, q + 1⟩, q + 2⟩ : S39)]) k (q + 3) (by simp; omega) (by omega) (by omega) (by omega)
      simp only [List.append_assoc, List.singleton_append] at this
      rw [this]
      congr 1
      omega
  have := key n [] k q (by simpa using hn) hq (by omega) hk
  simpa [laws_heldEntryS.f] using this

end FnExactTrieEntriesUses
open Go.RowKit Go.Proofs.Ytakoaogbkajkcaa.PFnExactTrieEntries Go.Proofs.YtakoaogbkajkcaaW.PrintWords Go.Proofs.YtakoaogbkajkcaaW.PrintLast Go.Proofs.YtakoaogbkajkcaaW.PrintMore Go.Proofs.Ytakoaogbkajkcaa.Pfx Go.Proofs.Ytakoaogbkajkcaa.Loop Go.Proofs.Ytakoaogbkajkcaa.Tbl FnExactTrieEntriesUses
set_option linter.unusedVariables false
theorem FnExactTrieEntries (l0 : List S88) (m0 : l0.length ≤ maxLen) (w0 : ∀ a, a ∈ l0 → ((Lit.int .i64 a.f0).wf = true ∧ ((Lit.int .i64 a.f1).wf = true ∧ (True ∧ (Lit.int .i64 a.f3).wf = true)))) : ∃ k, laws_FnExactTrieEntries.f k l0 = some true := by
  obtain ⟨r, hr, hb⟩ := laws_szTrieNodeS_is l0 m0
  by_cases h : r < 0
  · exact ⟨0, by unfold laws_FnExactTrieEntries.f; rw [hr, Option.bind_some, if_pos h]⟩
  · have hl := hb h
    have hl2 : (l0.map fun p => (⟨p.f0, p.f1, p.f2, p.f3⟩ : S86)).length = l0.length := by simp
    obtain ⟨⟨K1, h1⟩, ⟨K2, h2⟩⟩ := TrieEntries_is (l0.map fun p => (⟨p.f0, p.f1, p.f2, p.f3⟩ : S86))
    have hq := entR_len (l0.map fun p => (⟨p.f0, p.f1, p.f2, p.f3⟩ : S86))
    generalize entR (l0.map fun p => (⟨p.f0, p.f1, p.f2, p.f3⟩ : S86)) = q at h1 h2 hq
    replace h1 : ∀ k, K1 ≤ k → spec_TrieEntries.f k _ = _ := h1
    replace h2 : ∀ k, K2 ≤ k → impl_TrieEntries.f k _ = _ := h2
    obtain ⟨K, hK⟩ : ∃ K : Nat, K1 + K2 + l0.length + q.1.length + 10 ≤ K := ⟨_, Nat.le_refl _⟩
    refine ⟨K + 1 + 1 + 1, ?_⟩
    unfold laws_FnExactTrieEntries.f
    rw [hr, Option.bind_some, if_neg h, laws_toTrieNodeS_is _ l0 hl (by omega)]
    simp only [Option.bind_some]
    rw [h1 _ (by omega), h2 _ (by omega)]
    simp only [Option.bind_some]
    rw [laws_eqEntryS_refl _ _ (by simp only [maxLen]; omega) (by omega)]
    simp only [Option.bind_some, if_true, bne_self_eq_false]
    rw [laws_FnExactTrieEntries.j0, if_neg (by simp), laws_toTrieNodeS_is _ l0 hl (by omega)]
    simp only [Option.bind_some]
    rw [laws_eqTrieNodeS_refl _ _ (by simp only [maxLen]; omega) (by omega)]
    simp only [Option.bind_some, if_true]
    rw [laws_markTrieNodeS_is _ (by omega) 1 (by omega) (by omega) _ (by omega)]
    simp only [Option.bind_some]
    rw [if_neg (by omega), laws_eqEntryS_refl _ _ (by simp only [maxLen]; omega) (by omega)]
    simp only [Option.bind_some, if_true, bne_self_eq_false]
    rw [laws_FnExactTrieEntries.j1, if_neg (by simp), laws_markEntryS_is q.1 (by omega) 1 (by omega) (by omega) _ (by omega)]
    simp only [Option.bind_some]
    rw [laws_heldEntryS_is q.1.length (by omega) 1 (by omega) (by omega) _ (by omega)]
    simp only [Option.bind_some]
    rw [if_neg (by omega), if_pos trivial, laws_toTrieNodeS_is _ l0 hl (by omega)]
    simp only [Option.bind_some]
    rw [h2 _ (by omega)]
    simp only [Option.bind_some]
    rw [laws_eqEntryS_refl _ _ (by simp only [maxLen]; omega) (by omega)]
    simp only [Option.bind_some, if_true, bne_self_eq_false]
    rw [laws_FnExactTrieEntries.j2, if_neg (by simp), laws_heldEntryS_is q.1.length (by omega) 1 (by omega) (by omega) _ (by omega)]
    simp only [Option.bind_some]
    rw [if_neg (by omega), if_pos trivial]
end Go.Proofs.Ytakoaogbkajkcaa.Pure
