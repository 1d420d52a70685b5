/- The pure statement of FnExactTidyRegex: what the printed functions tell is what the reference tells. No condition but the arguments' own bounds. -/
import Derived.Test.YtkkchcalhomgcaaYFnExactTidyRegexx8
import Derived.Test.YtkkchcalhomgcaaQFnExactTidyRegex
namespace Go.Proofs.Ytkkchcalhomgcaa.Pure
namespace FnExactTidyRegexUses
open Go.RowKit Go.Proofs.Ytkkchcalhomgcaa.PFnExactTidyRegex Go.Proofs.YtkkchcalhomgcaaW.PrintWords Go.Proofs.YtkkchcalhomgcaaW.PrintLast Go.Proofs.YtkkchcalhomgcaaW.PrintMore Go.Proofs.Ytkkchcalhomgcaa.Pfx Go.Proofs.Ytkkchcalhomgcaa.Loop
set_option linter.unusedVariables false
set_option linter.unusedSimpArgs false

theorem spec_l1In_is (a lo hi : Int) : spec_l1In.f a lo hi = some (decide (lo ≤ a ∧ a ≤ hi)) := by
  unfold spec_l1In.f
  by_cases h : lo ≤ a
  · rw [if_pos h]; simp [h]
  · rw [if_neg h]; simp [h]
theorem impl_within_is (a lo hi : Int) : impl_within.f a lo hi = some (decide (lo ≤ a ∧ a ≤ hi)) := by
  unfold impl_within.f
  by_cases h : lo ≤ a
  · rw [if_pos h]; simp [h]
  · rw [if_neg h]; simp [h]
theorem rdm_ReCell (pre : List S109) (a : S109) (rest : List S109) : rd_T109 (pre ++ a :: rest) (pre.length : Int) = a := by unfold rd_T109; simp
theorem rdm_LReCell (pre : List S111) (a : S111) (rest : List S111) : rd_T111 (pre ++ a :: rest) (pre.length : Int) = a := by unfold rd_T111; simp
theorem laws_eqReCellS_refl (k : Nat) (l : List S109) (hl : l.length ≤ maxLen) (hk : l.length < k) : laws_eqReCellS.f k l l = some true := by
  unfold laws_eqReCellS.f
  rw [if_pos rfl]
  have key : ∀ (rest pre : List S109) (k : Nat), l = pre ++ rest → rest.length < k → laws_eqReCellS.l0 k l l (pre.length : Int) = some true := by
    intro rest
    induction rest with
    | nil =>
      intro pre k e hk
      obtain ⟨k, rfl⟩ : ∃ m, k = m + 1 := ⟨k - 1, by omega⟩
      simp only [laws_eqReCellS.l0]
      rw [if_neg (by rw [e]; simp)]
    | cons a rest ih =>
      intro pre k e hk
      obtain ⟨k, rfl⟩ : ∃ m, k = m + 1 := ⟨k - 1, by omega⟩
      simp only [laws_eqReCellS.l0, laws_eqReCell.f]
      rw [if_pos (by rw [e]; exact lt_mid _ _ _), if_pos (len_nn _), if_pos (by rw [e]; exact lt_mid _ _ _)]
      simp only [Option.bind_some, if_true]
      rw [wrap_mid (rest := rest) (by rw [← e]; exact hl)]
      exact ih (pre ++ [a]) k (by rw [e]; simp) (by simp at hk; omega)
  exact key l [] k rfl hk
theorem laws_szReCellS_is (l : List S111) (m0 : l.length ≤ maxLen) : ∃ r, laws_szReCellS.f l 1048576 = some r ∧ (¬ r < 0 → l.length ≤ 1048576) := by
  unfold laws_szReCellS.f
  by_cases h : wrap64 (1048576 - (l.length : Int)) < 0
  · exact ⟨_, if_pos h, fun h' => absurd (by omega) h'⟩
  · exact ⟨_, if_neg h, fun h' => sz_ok m0 (if_neg h) h'⟩
theorem laws_toReCellS_is (k : Nat) (l : List S111) (hl : l.length ≤ 1048576) (hk : l.length < k) : laws_toReCellS.f k l = some (l.map fun p => (⟨p.f0, p.f1⟩ : S109)) := by
  unfold laws_toReCellS.f
  rw [if_pos (len_nn _), if_pos (by simp; omega)]
  have key : ∀ (rest pre : List S111) (k : Nat), l = pre ++ rest → rest.length < k →
      laws_toReCellS.l0 k l ((pre.map fun p => (⟨p.f0, p.f1⟩ : S109)) ++ List.replicate rest.length z109) (pre.length : Int) = some (l.map fun p => (⟨p.f0, p.f1⟩ : S109)) := by
    intro rest
    induction rest with
    | nil =>
      intro pre k e hk
      obtain ⟨k, rfl⟩ : ∃ m, k = m + 1 := ⟨k - 1, by omega⟩
      simp only [laws_toReCellS.l0]
      rw [if_neg (by rw [e]; simp)]
      simp [e]
    | cons a rest ih =>
      intro pre k e hk
      obtain ⟨k, rfl⟩ : ∃ m, k = m + 1 := ⟨k - 1, by omega⟩
      simp only [laws_toReCellS.l0, laws_toReCell.f, Option.bind_some]
      rw [if_pos (by rw [e]; exact lt_mid _ _ _), if_pos (len_nn _), if_pos (by simp; omega), wrap_mid (rest := rest) (by rw [← e]; simp only [maxLen]; omega)]
      have h1 : rd_T111 l (pre.length : Int) = a := by rw [e]; exact rdm_LReCell _ _ _
      rw [h1, List.length_cons, List.replicate_succ]
      have h2 := ih (pre ++ [a]) k (by rw [e]; simp) (by simp at hk; omega)
      have h3 : ((pre.map fun p => (⟨p.f0, p.f1⟩ : S109)) ++ z109 :: List.replicate rest.length z109).set ((pre.length : Int)).toNat (⟨a.f0, a.f1⟩ : S109) = ((pre ++ [a]).map fun p => (⟨p.f0, p.f1⟩ : S109)) ++ List.replicate rest.length z109 := by
        have := set_mid (pre.map fun p => (⟨p.f0, p.f1⟩ : S109)) z109 ⟨a.f0, a.f1⟩ (List.replicate rest.length z109)
        rw [List.length_map] at this
        rw [this]; simp
      rw [h3]; exact h2
  have := key l [] k rfl hk
  simpa using this
def arity (x : Int) : Int := if x = 1 ∨ x = 2 ∨ x = 3 ∨ x = 4 then 0 else if x = 5 ∨ x = 6 then 2 else if x = 7 then 1 else -1
theorem arity_range (x : Int) : -1 ≤ arity x ∧ arity x ≤ 2 := by
  unfold arity
  by_cases h1 : x = 1 ∨ x = 2 ∨ x = 3 ∨ x = 4
  · rw [if_pos h1]; omega
  · rw [if_neg h1]
    by_cases h2 : x = 5 ∨ x = 6
    · rw [if_pos h2]; omega
    · rw [if_neg h2]
      by_cases h3 : x = 7
      · rw [if_pos h3]; omega
      · rw [if_neg h3]; omega
def numOk (c : S109) : Bool := if c.f0 = 3 then decide (1 ≤ c.f1 ∧ c.f1 ≤ 65535) else (c.f1 == 0)
def cellOk (c : S109) : Bool := decide (0 ≤ arity c.f0) && numOk c
def scan : Nat → List S109 → Option (List S109)
  | 0, r => some r
  | _ + 1, [] => none
  | n + 1, c :: r => if cellOk c = true then scan (n + (arity c.f0).toNat) r else none
  termination_by _ l => l.length
theorem scan_add (m : Nat) : ∀ (l : List S109) (n : Nat), scan (n + m) l = (scan n l).bind (scan m)
  | [], 0 => by simp [scan]
  | [], n + 1 => by
    rw [show n + 1 + m = (n + m) + 1 by omega]
    simp [scan]
  | c :: l, 0 => by simp [scan]
  | c :: l, n + 1 => by
    rw [show n + 1 + m = (n + m) + 1 by omega]
    simp only [scan]
    by_cases h : cellOk c = true
    · rw [if_pos h, if_pos h, show n + m + (arity c.f0).toNat = (n + (arity c.f0).toNat) + m by omega]
      exact scan_add m l _
    · rw [if_neg h, if_neg h]; rfl
theorem spec_l6Arity_is (x : Int) (k : Nat) : spec_l6Arity.f (k + 2) x = some (arity x) := by
  unfold spec_l6Arity.f arity
  simp only [spec_l6Arity.j0, spec_l6Arity.j1]
  by_cases h1 : x = 1
  · simp [h1]
  · by_cases h2 : x = 2
    · simp [h2]
    · by_cases h3 : x = 3
      · simp [h3]
      · by_cases h4 : x = 4
        · simp [h4]
        · by_cases h5 : x = 5
          · simp [h5]
          · by_cases h6 : x = 6
            · simp [h6]
            · by_cases h7 : x = 7
              · simp [h7]
              · simp [h1, h2, h3, h4, h5, h6, h7]
theorem impl_partsOf_is (x : Int) (k : Nat) : impl_partsOf.f (k + 1) x = some (arity x) := by
  unfold impl_partsOf.f arity
  simp only [impl_partsOf.j0]
  by_cases h1 : x = 1
  · simp [h1]
  · by_cases h2 : x = 2
    · simp [h2]
    · by_cases h3 : x = 3
      · simp [h3]
      · by_cases h4 : x = 4
        · simp [h4]
        · by_cases h5 : x = 5
          · simp [h5]
          · by_cases h6 : x = 6
            · simp [h6]
            · by_cases h7 : x = 7
              · simp [h7]
              · simp [h1, h2, h3, h4, h5, h6, h7]
def parseK (p : List S109 → Option (S105 × List S109)) : Nat → List S109 → Option (List S105 × List S109)
  | 0, r => some ([], r)
  | m + 1, r => (p r).bind fun q => (parseK p m q.2).bind fun s => some (q.1 :: s.1, s.2)
def parse : Nat → List S109 → Option (S105 × List S109)
  | 0, _ => none
  | _ + 1, [] => none
  | n + 1, c :: r => if cellOk c = true then (parseK (parse n) (arity c.f0).toNat r).bind fun s => some (⟨c.f0, c.f1, s.1⟩, s.2) else none
theorem parseK_cut {p : List S109 → Option (S105 × List S109)} (hp : ∀ r t q, p r = some (t, q) → ∃ u, r = u ++ q) : ∀ (m : Nat) (r : List S109) (t : List S105) (q : List S109), parseK p m r = some (t, q) → ∃ u, r = u ++ q
  | 0, r, t, q, h => by
    simp only [parseK, Option.some.injEq, Prod.mk.injEq] at h
    exact ⟨[], by simp [h.2]⟩
  | m + 1, r, t, q, h => by
    simp only [parseK] at h
    cases h1 : p r with
    | none => rw [h1] at h; cases h
    | some x =>
      obtain ⟨x1, x2⟩ := x
      rw [h1, Option.bind_some] at h
      dsimp only at h
      cases h2 : parseK p m x2 with
      | none => rw [h2] at h; cases h
      | some y =>
        obtain ⟨y1, y2⟩ := y
        rw [h2, Option.bind_some] at h
        simp only [Option.some.injEq, Prod.mk.injEq] at h
        obtain ⟨u, hu⟩ := hp _ _ _ h1
        obtain ⟨v, hv⟩ := parseK_cut hp m _ _ _ h2
        exact ⟨u ++ v, by rw [hu, hv, h.2]; simp⟩
theorem parse_cut : ∀ (n : Nat) (r : List S109) (t : S105) (q : List S109), parse n r = some (t, q) → ∃ c u, r = c :: u ++ q
  | 0, r, t, q, h => by simp [parse] at h
  | n + 1, [], t, q, h => by simp [parse] at h
  | n + 1, c :: r, t, q, h => by
    simp only [parse] at h
    by_cases hc : cellOk c = true
    · rw [if_pos hc] at h
      cases h1 : parseK (parse n) (arity c.f0).toNat r with
      | none => rw [h1] at h; cases h
      | some x =>
        obtain ⟨x1, x2⟩ := x
        rw [h1, Option.bind_some] at h
        simp only [Option.some.injEq, Prod.mk.injEq] at h
        obtain ⟨u, hu⟩ := parseK_cut (fun r t q h => by obtain ⟨c, u, e⟩ := parse_cut n r t q h; exact ⟨c :: u, e⟩) _ _ _ _ h1
        exact ⟨c, u, by rw [hu, h.2]; simp⟩
    · rw [if_neg hc] at h; cases h
theorem parse_scan : ∀ (n : Nat) (r : List S109), r.length ≤ n → (parse n r).map (·.2) = scan 1 r
  | 0, r, h => by
    have : r = [] := List.length_eq_zero_iff.mp (by omega)
    subst this
    simp [parse, scan]
  | n + 1, [], h => by simp [parse, scan]
  | n + 1, c :: r, h => by
    simp only [parse, scan]
    by_cases hc : cellOk c = true
    · rw [if_pos hc, if_pos hc, Nat.zero_add]
      have hk : ∀ (m : Nat) (r : List S109), r.length ≤ n → (parseK (parse n) m r).map (·.2) = scan m r := by
        intro m
        induction m with
        | zero => intro r _; simp [parseK, scan]
        | succ m ih =>
          intro r hr
          rw [show m + 1 = 1 + m by omega, scan_add m r 1, ← parse_scan n r hr, show 1 + m = m + 1 by omega]
          simp only [parseK]
          cases h1 : parse n r with
          | none => rfl
          | some x =>
            obtain ⟨x1, x2⟩ := x
            obtain ⟨c, u, e⟩ := parse_cut _ _ _ _ h1
            have hx : x2.length ≤ n := by rw [e] at hr; simp at hr; omega
            simp only [Option.bind_some, Option.map_some]
            rw [← ih x2 hx]
            cases parseK (parse n) m x2 with
            | none => rfl
            | some y => rfl
      rw [← hk _ r (by simpa using h)]
      cases parseK (parse n) (arity c.f0).toNat r with
      | none => rfl
      | some y => rfl
    · rw [if_neg hc, if_neg hc]; rfl
def outP (L : Nat) : Option (S105 × List S109) → Int × Int × List S105 × Int
  | none => (0, 0, [], 0)
  | some (t, r) => (t.f0, t.f1, t.f2, (L : Int) - (r.length : Int))
def outK (L : Nat) (a b : Int) (ts : List S105) : Option (List S105 × List S109) → Int × Int × List S105 × Int
  | none => (0, 0, [], 0)
  | some (t, r) => (a, b, ts ++ t, (L : Int) - (r.length : Int))
theorem read_is (l : List S109) (hl : l.length ≤ 1000000) : ∀ (n : Nat) (rest pre : List S109), l = pre ++ rest → rest.length ≤ n → Ev (fun k => spec_l6Read.f k l (pre.length : Int)) (outP l.length (parse n rest)) := by
  have nil : ∀ (rest pre : List S109), l = pre ++ rest → rest = [] → Ev (fun k => spec_l6Read.f k l (pre.length : Int)) (0, 0, [], 0) := by
    intro rest pre e h0
    refine ⟨1, fun k hk => ?_⟩
    obtain ⟨k, rfl⟩ : ∃ m, k = m + 1 := ⟨k - 1, by omega⟩
    simp only [spec_l6Read.f]
    rw [if_pos (by rw [e, h0]; simp)]
  intro n
  induction n with
  | zero =>
    intro rest pre e h
    exact nil rest pre e (List.length_eq_zero_iff.mp (by omega))
  | succ n ih =>
    intro rest pre e h
    cases rest with
    | nil => exact nil [] pre e rfl
    | cons c rest =>
      have hr : rd_T109 l (pre.length : Int) = c := by rw [e]; exact rdm_ReCell _ _ _
      have hlt : (pre.length : Int) < (l.length : Int) := by rw [e]; exact lt_mid _ _ _
      have hw := wrap_mid (pre := pre) (a := c) (rest := rest) (by rw [← e]; simp only [maxLen]; omega)
      have kids : ∀ (m : Nat) (rest pre : List S109) (ts : List S105) (a b : Int), l = pre ++ rest → rest.length ≤ n → ts.length + m ≤ 1000 →
          Ev (fun k => spec_l6Read.l0 k l (pre.length : Int) (m : Int) a b ts) (outK l.length a b ts (parseK (parse n) m rest)) := by
        intro m
        induction m with
        | zero =>
          intro rest pre ts a b e h _
          refine ⟨1, fun k hk => ?_⟩
          obtain ⟨k, rfl⟩ : ∃ m, k = m + 1 := ⟨k - 1, by omega⟩
          simp only [spec_l6Read.l0, parseK, outK]
          rw [if_neg (by omega), List.append_nil, show (l.length : Int) - (rest.length : Int) = (pre.length : Int) by rw [e]; simp]
        | succ m ihm =>
          intro rest pre ts a b e h hm
          obtain ⟨K, hK⟩ := ih rest pre e h
          replace hK : ∀ k, K ≤ k → spec_l6Read.f k l (pre.length : Int) = _ := hK
          cases h1 : parse n rest with
          | none =>
            refine ⟨K + 1, fun k hk => ?_⟩
            obtain ⟨k, rfl⟩ : ∃ m, k = m + 1 := ⟨k - 1, by omega⟩
            simp only [spec_l6Read.l0]
            rw [if_pos (by omega), hK k (by omega), Option.bind_some, h1]
            simp only [outP]
            rw [if_pos trivial]
            simp only [parseK, h1, Option.bind_none, outK]
          | some x =>
            obtain ⟨t, q⟩ := x
            obtain ⟨c2, u, e2⟩ := parse_cut _ _ _ _ h1
            have hq : q.length < l.length := by rw [e, e2]; simp; omega
            obtain ⟨K2, hK2⟩ := ihm q (pre ++ c2 :: u) (ts ++ [t]) a b (by rw [e, e2]; simp) (by rw [e2] at h; simp at h; omega) (by simp; omega)
            replace hK2 : ∀ k, K2 ≤ k → spec_l6Read.l0 k l ((pre ++ c2 :: u).length : Int) (m : Int) a b (ts ++ [t]) = _ := hK2
            have e3 : (l.length : Int) - (q.length : Int) = ((pre ++ c2 :: u).length : Int) := by rw [e, e2]; simp; omega
            refine ⟨K + K2 + 1, fun k hk => ?_⟩
            obtain ⟨k, rfl⟩ : ∃ m, k = m + 1 := ⟨k - 1, by omega⟩
            simp only [spec_l6Read.l0]
            rw [if_pos (by omega), hK k (by omega), Option.bind_some, h1]
            rw [show outP l.length (some (t, q)) = (t.f0, t.f1, t.f2, (l.length : Int) - (q.length : Int)) from rfl]
            dsimp only
            rw [if_neg (show ¬ ((l.length : Int) - (q.length : Int) = 0) by omega), if_pos (show ts.length < 3518437208883 by omega), wrap_id (x := ((m + 1 : Nat) : Int) - 1) (by omega) (by omega), show ((m + 1 : Nat) : Int) - 1 = (m : Int) by omega, e3]
            rw [show (⟨t.f0, t.f1, t.f2⟩ : S105) = t by cases t; rfl, hK2 k (by omega)]
            simp only [parseK, h1, Option.bind_some]
            cases parseK (parse n) m q with
            | none => rfl
            | some y => simp [outK]
      have ha := arity_range c.f0
      have j1 : ∀ k m x y, spec_l6Read.j0 (k + 1) l (pre.length : Int) m true x y = some (0, 0, [], 0) := by
        intro k m x y; simp only [spec_l6Read.j0]; rw [if_pos trivial]
      have j2 : ∀ k m x y, spec_l6Read.j0 (k + 1) l (pre.length : Int) m false x y = spec_l6Read.l0 k l (wrap64 ((pre.length : Int) + 1)) m x y [] := by
        intro k m x y; simp only [spec_l6Read.j0]; rw [if_neg (by simp)]
      obtain ⟨K, hK⟩ := kids (arity c.f0).toNat rest (pre ++ [c]) [] c.f0 c.f1 (by rw [e]; simp) (by simpa using h) (by simp; omega)
      replace hK : ∀ k, K ≤ k → spec_l6Read.l0 k l ((pre ++ [c]).length : Int) ((arity c.f0).toNat : Int) c.f0 c.f1 [] = _ := hK
      refine ⟨K + 3, fun k hk => ?_⟩
      obtain ⟨k, rfl⟩ : ∃ m, k = m + 3 := ⟨k - 3, by omega⟩
      show spec_l6Read.f (k + 2 + 1) l (pre.length : Int) = _
      simp only [spec_l6Read.f]
      rw [if_neg (by omega), if_pos (len_nn _), if_pos hlt, hr, spec_l6Arity_is, Option.bind_some]
      simp only [parse]
      by_cases h0 : arity c.f0 < 0
      · rw [if_pos h0, j1, if_neg (by unfold cellOk; rw [decide_eq_false (by omega)]; simp)]; rfl
      · have h0' : 0 ≤ arity c.f0 := by omega
        have good : numOk c = true → some (outK l.length c.f0 c.f1 [] (parseK (parse n) (arity c.f0).toNat rest)) = some (outP l.length (if cellOk c = true then (parseK (parse n) (arity c.f0).toNat rest).bind fun s => some (⟨c.f0, c.f1, s.1⟩, s.2) else none)) := by
          intro hn
          rw [if_pos (by unfold cellOk; rw [decide_eq_true h0', hn]; rfl)]
          cases parseK (parse n) (arity c.f0).toNat rest with
          | none => rfl
          | some y => simp [outK, outP]
        have bad : numOk c = false → some ((0 : Int), (0 : Int), ([] : List S105), (0 : Int)) = some (outP l.length (if cellOk c = true then (parseK (parse n) (arity c.f0).toNat rest).bind fun s => some (⟨c.f0, c.f1, s.1⟩, s.2) else none)) := by
          intro hn
          rw [if_neg (by unfold cellOk; rw [hn]; simp)]; rfl
        have hK' := hK (k + 1) (by omega)
        rw [show ((arity c.f0).toNat : Int) = arity c.f0 by omega, ← hw] at hK'
        rw [if_neg h0]
        by_cases h3 : c.f0 = 3
        · rw [if_pos h3, spec_l1In_is, Option.bind_some]
          by_cases h4 : 1 ≤ c.f1 ∧ c.f1 ≤ 65535
          · rw [if_pos (decide_eq_true h4), j2, hK']
            exact good (by unfold numOk; rw [if_pos h3, decide_eq_true h4])
          · rw [if_neg (by rw [decide_eq_false h4]; simp), j1]
            exact bad (by unfold numOk; rw [if_pos h3, decide_eq_false h4])
        · rw [if_neg h3]
          by_cases h4 : c.f1 = 0
          · rw [show (c.f1 != 0) = false by simp [h4], j2, hK']
            exact good (by unfold numOk; rw [if_neg h3, h4]; rfl)
          · rw [show (c.f1 != 0) = true by simp [h4], j1]
            exact bad (by unfold numOk; rw [if_neg h3]; simp [h4])
def tree (l : List S109) : Int × Int × List S105 × Bool := if l.length > 30 then (0, 0, [], false) else match parse l.length l with
  | none => (0, 0, [], false)
  | some (t, r) => (t.f0, t.f1, t.f2, r.isEmpty)
theorem spec_l6Tree_is (l : List S109) : Ev (fun k => spec_l6Tree.f k l) (tree l) := by
  unfold tree
  by_cases h : (l.length : Int) > 30
  · rw [if_pos (by omega)]
    exact Ev.congr (fun k => by unfold spec_l6Tree.f; rw [if_pos h]) (Ev.now _)
  · rw [if_neg (by omega)]
    obtain ⟨K, hK⟩ := read_is l (by omega) l.length l [] rfl (Nat.le_refl _)
    replace hK : ∀ k, K ≤ k → spec_l6Read.f k l 0 = _ := hK
    refine ⟨K, fun k hk => ?_⟩
    simp only [spec_l6Tree.f]
    rw [if_neg h, hK k hk, Option.bind_some]
    cases h1 : parse l.length l with
    | none =>
      rw [show outP l.length none = ((0 : Int), (0 : Int), ([] : List S105), (0 : Int)) from rfl]
      dsimp only
      rw [if_neg (by omega)]
    | some x =>
      obtain ⟨t, r⟩ := x
      obtain ⟨c, u, e⟩ := parse_cut _ _ _ _ h1
      have hr : r.length < l.length := by
        have := congrArg List.length e
        simp at this; omega
      rw [show outP l.length (some (t, r)) = (t.f0, t.f1, t.f2, (l.length : Int) - (r.length : Int)) from rfl]
      dsimp only
      rw [if_pos (by omega)]
      congr 4
      cases r with
      | nil => simp
      | cons a r => simp; omega
def scanA : Nat → List S109 → Option (List S109)
  | _, [] => none
  | n, c :: r => if arity c.f0 < 0 then none else if n + (arity c.f0).toNat = 1 then some r else scanA (n + (arity c.f0).toNat - 1) r
def outA (L : Nat) (a : Int) : Option (List S109) → Int
  | none => -1
  | some r => (L : Int) - (r.length : Int) - a
theorem impl_sizeAt_is (l : List S109) (hl : l.length ≤ 1000000) (a : Int) (ha : 0 ≤ a) (ha2 : a ≤ 1000000) : ∀ (rest pre : List S109) (n : Nat), l = pre ++ rest → 1 ≤ n → n + 2 * rest.length ≤ 4000000 → Ev (fun k => impl_sizeAt.l0 k l a (n : Int) (pre.length : Int)) (outA l.length a (scanA n rest)) := by
  intro rest
  induction rest with
  | nil =>
    intro pre n e h1 h2
    refine Ev.step (f := fun _ => some (-1)) (fun k => ?_) (Ev.now _)
    simp only [impl_sizeAt.l0]
    rw [if_neg (by rw [e]; simp)]
  | cons c rest ih =>
    intro pre n e h1 h2
    have hr : rd_T109 l (pre.length : Int) = c := by rw [e]; exact rdm_ReCell _ _ _
    have hlt : (pre.length : Int) < (l.length : Int) := by rw [e]; exact lt_mid _ _ _
    have hw := wrap_mid (pre := pre) (a := c) (rest := rest) (by rw [← e]; simp only [maxLen]; omega)
    have hc := arity_range c.f0
    simp only [List.length_cons] at h2
    simp only [scanA]
    by_cases h0 : arity c.f0 < 0
    · rw [if_pos h0]
      refine ⟨2, fun k hk => ?_⟩
      obtain ⟨k, rfl⟩ : ∃ m, k = m + 2 := ⟨k - 2, by omega⟩
      show impl_sizeAt.l0 (k + 1 + 1) l a (n : Int) (pre.length : Int) = _
      simp only [impl_sizeAt.l0]
      rw [if_pos hlt, if_pos (len_nn _), hr, impl_partsOf_is, Option.bind_some, if_pos h0]; rfl
    · rw [if_neg h0]
      have w1 : wrap64 (arity c.f0 - 1) = arity c.f0 - 1 := wrap_id (by omega) (by omega)
      have w2 : wrap64 ((n : Int) + (arity c.f0 - 1)) = (n : Int) + (arity c.f0 - 1) := wrap_id (by omega) (by omega)
      by_cases h3 : n + (arity c.f0).toNat = 1
      · rw [if_pos h3]
        refine ⟨2, fun k hk => ?_⟩
        obtain ⟨k, rfl⟩ : ∃ m, k = m + 2 := ⟨k - 2, by omega⟩
        show impl_sizeAt.l0 (k + 1 + 1) l a (n : Int) (pre.length : Int) = _
        simp only [impl_sizeAt.l0]
        rw [if_pos hlt, if_pos (len_nn _), hr, impl_partsOf_is, Option.bind_some, if_neg h0, w1, w2, if_pos (by omega), hw]
        rw [wrap_id (by simp; omega) (by rw [e] at hl; simp at hl ⊢; omega)]
        simp only [outA]
        rw [e]; simp; omega
      · rw [if_neg h3]
        obtain ⟨K, hK⟩ := ih (pre ++ [c]) (n + (arity c.f0).toNat - 1) (by rw [e]; simp) (by omega) (by omega)
        replace hK : ∀ k, K ≤ k → impl_sizeAt.l0 k l a ((n + (arity c.f0).toNat - 1 : Nat) : Int) ((pre ++ [c]).length : Int) = _ := hK
        refine ⟨K + 2, fun k hk => ?_⟩
        obtain ⟨k, rfl⟩ : ∃ m, k = m + 2 := ⟨k - 2, by omega⟩
        show impl_sizeAt.l0 (k + 1 + 1) l a (n : Int) (pre.length : Int) = _
        rw [impl_sizeAt.l0, if_pos hlt, if_pos (len_nn _), hr, impl_partsOf_is, Option.bind_some, if_neg h0, w1, w2, if_neg (by omega), hw, show (n : Int) + (arity c.f0 - 1) = ((n + (arity c.f0).toNat - 1 : Nat) : Int) by omega, hK (k + 1) (by omega)]
theorem scan_scanA : ∀ (rest : List S109) (n : Nat) (r : List S109), scan (n + 1) rest = some r → scanA (n + 1) rest = some r ∧ ∃ u, rest = u ++ r ∧ u.all numOk = true
  | [], n, r, h => by simp [scan] at h
  | c :: rest, n, r, h => by
    simp only [scan] at h
    by_cases hc : cellOk c = true
    · rw [if_pos hc] at h
      have hc' := hc
      unfold cellOk at hc
      simp only [Bool.and_eq_true, decide_eq_true_eq] at hc
      simp only [scanA]
      rw [if_neg (by omega)]
      by_cases h3 : n + 1 + (arity c.f0).toNat = 1
      · rw [if_pos h3]
        rw [show n + (arity c.f0).toNat = 0 by omega] at h
        simp only [scan, Option.some.injEq] at h
        exact ⟨by rw [h], [c], by rw [h]; rfl, by simp [hc.2]⟩
      · rw [if_neg h3]
        obtain ⟨m, hm⟩ : ∃ m, n + (arity c.f0).toNat = m + 1 := ⟨n + (arity c.f0).toNat - 1, by omega⟩
        rw [hm] at h
        obtain ⟨h4, u, h5, h6⟩ := scan_scanA rest m r h
        rw [show n + 1 + (arity c.f0).toNat - 1 = m + 1 by omega]
        exact ⟨h4, c :: u, by rw [h5]; rfl, by simp [hc.2]; simpa using h6⟩
    · rw [if_neg hc] at h; cases h
theorem scanA_scan : ∀ (rest : List S109) (n : Nat), rest.all numOk = true → scan (n + 1) rest = scanA (n + 1) rest
  | [], n, _ => by simp [scan, scanA]
  | c :: rest, n, h => by
    simp only [List.all_cons, Bool.and_eq_true] at h
    simp only [scan, scanA]
    by_cases h0 : arity c.f0 < 0
    · rw [if_pos h0, if_neg (by unfold cellOk; rw [decide_eq_false (by omega)]; simp)]
    · rw [if_neg h0, if_pos (by unfold cellOk; rw [decide_eq_true (by omega), h.1]; rfl)]
      by_cases h3 : n + 1 + (arity c.f0).toNat = 1
      · rw [if_pos h3, show n + (arity c.f0).toNat = 0 by omega]; simp [scan]
      · rw [if_neg h3]
        obtain ⟨m, hm⟩ : ∃ m, n + (arity c.f0).toNat = m + 1 := ⟨n + (arity c.f0).toNat - 1, by omega⟩
        rw [hm, show n + 1 + (arity c.f0).toNat - 1 = m + 1 by omega]
        exact scanA_scan rest m h.2
theorem idx_ReCell (l : List S109) (hl : l.length ≤ maxLen) : ∀ (rest pre : List S109), l = pre ++ rest →
    ∃ r : Int, Ev (fun k => slices_IndexFunc_impl_ReCell_impl_ReCell.l0 k l (l.length : Int) (pre.length : Int)) r ∧ (decide (r ≥ 0) = !rest.all numOk) := by
  intro rest
  induction rest with
  | nil =>
    intro pre e
    refine ⟨-1, Ev.step (f := fun _ => some (-1)) (fun k => ?_) (Ev.now _), by simp⟩
    simp only [slices_IndexFunc_impl_ReCell_impl_ReCell.l0]
    rw [if_neg (by rw [e]; simp)]
  | cons a rest ih =>
    intro pre e
    have hlt : (pre.length : Int) < (l.length : Int) := by rw [e]; exact lt_mid _ _ _
    have h1 : rd_T109 l (pre.length : Int) = a := by rw [e]; exact rdm_ReCell _ _ _
    have hb : impl_GoodRegex_1.f a.f0 a.f1 = some (!numOk a) := by
      unfold impl_GoodRegex_1.f numOk
      by_cases h3 : a.f0 = 3
      · rw [if_pos h3, if_pos h3]
        simp only [impl_isAsn.f, impl_within_is, Option.bind_some]
        by_cases h4 : 1 ≤ a.f1 ∧ a.f1 ≤ 65535
        · rw [if_pos (decide_eq_true h4), decide_eq_true h4]; rfl
        · rw [if_neg (by rw [decide_eq_false h4]; simp), decide_eq_false h4]; rfl
      · rw [if_neg h3, if_neg h3]; rfl
    by_cases hm : numOk a = true
    · obtain ⟨r, hr, hb2⟩ := ih (pre ++ [a]) (by rw [e]; simp)
      refine ⟨r, Ev.step (fun k => ?_) hr, by rw [hb2]; simp [hm]⟩
      simp only [slices_IndexFunc_impl_ReCell_impl_ReCell.l0]
      rw [if_pos hlt, if_pos (len_nn _), if_pos hlt, h1, hb, Option.bind_some, hm]
      rw [if_neg (by simp), wrap_mid (rest := rest) (by rw [← e]; exact hl)]
    · have hm' : numOk a = false := by simpa using hm
      refine ⟨(pre.length : Int), Ev.step (f := fun _ => some (pre.length : Int)) (fun k => ?_) (Ev.now _), by simp [hm']⟩
      simp only [slices_IndexFunc_impl_ReCell_impl_ReCell.l0]
      rw [if_pos hlt, if_pos (len_nn _), if_pos hlt, h1, hb, Option.bind_some, hm']
      rw [if_pos (by simp)]
def endsAll : Option (List S109) → Bool
  | some [] => true
  | _ => false
theorem tree_ok (l : List S109) : (tree l).2.2.2 = (decide (1 ≤ l.length ∧ l.length ≤ 30) && (endsAll (scanA 1 l) && l.all numOk)) := by
  unfold tree
  by_cases h : l.length > 30
  · rw [if_pos h, decide_eq_false (by omega)]; rfl
  · rw [if_neg h]
    have hs := parse_scan l.length l (Nat.le_refl _)
    cases l with
    | nil => simp [parse]
    | cons c l =>
      rw [decide_eq_true (by simp at h ⊢; omega), Bool.true_and]
      cases h1 : parse (c :: l).length (c :: l) with
      | none =>
        rw [h1] at hs
        by_cases h2 : (c :: l).all numOk = true
        · rw [← scanA_scan (c :: l) 0 h2, ← hs]; simp [endsAll]
        · have : (c :: l).all numOk = false := by simpa using h2
          rw [this]; simp
      | some x =>
        obtain ⟨t, r⟩ := x
        rw [h1] at hs
        have hs' : scan 1 (c :: l) = some r := hs.symm
        obtain ⟨h2, u, h3, h4⟩ := scan_scanA (c :: l) 0 r hs'
        rw [Nat.zero_add] at h2
        rw [h2]
        cases r with
        | nil =>
          rw [List.append_nil] at h3
          rw [h3, h4]; simp [endsAll]
        | cons a r => simp [endsAll]
theorem impl_GoodRegex_is (l : List S109) (hl : l.length ≤ 1048576) : Ev (fun k => impl_GoodRegex.f k l) (tree l).2.2.2 := by
  rw [tree_ok]
  by_cases h : 1 ≤ (l.length : Int) ∧ (l.length : Int) ≤ 30
  · rw [decide_eq_true (by omega), Bool.true_and]
    obtain ⟨K1, h1⟩ := impl_sizeAt_is l (by omega) 0 (by omega) (by omega) l [] 1 rfl (by omega) (by omega)
    obtain ⟨r, ⟨K2, h2⟩, h3⟩ := idx_ReCell l (by simp only [maxLen]; omega) l [] rfl
    replace h1 : ∀ k, K1 ≤ k → impl_sizeAt.f k l 0 = _ := h1
    replace h2 : ∀ k, K2 ≤ k → slices_IndexFunc_impl_ReCell_impl_ReCell.f k l = _ := h2
    refine ⟨K1 + K2, fun k hk => ?_⟩
    simp only [impl_GoodRegex.f, slices_ContainsFunc_impl_ReCell_impl_ReCell.f]
    rw [impl_within_is, Option.bind_some, if_pos (decide_eq_true h), h1 k (by omega), Option.bind_some, h2 k (by omega)]
    simp only [Option.bind_some]
    rw [h3]
    cases h4 : scanA 1 l with
    | none =>
      rw [show outA l.length 0 none = -1 from rfl, if_neg (by omega)]; simp [endsAll]
    | some r =>
      cases r with
      | nil => rw [show outA l.length 0 (some []) = (l.length : Int) from by simp [outA], if_pos rfl]; simp [endsAll]
      | cons a r => rw [if_neg (by simp [outA]; omega)]; simp [endsAll]
  · rw [decide_eq_false (by omega), Bool.false_and]
    refine ⟨0, fun k _ => ?_⟩
    simp only [impl_GoodRegex.f]
    rw [impl_within_is, Option.bind_some, if_neg (by rw [decide_eq_false h]; simp)]
def mk_ReCell (q : Int) : Nat → List S109
  | 0 => []
  | n + 1 => ⟨q, q + 1⟩ :: mk_ReCell (q + 2) n
theorem laws_markReCellS_is (l : List S109) (hl : l.length ≤ 1000000000) (q : Int) (hq : 0 ≤ q) (hq2 : q ≤ 1000000000000) (k : Nat) (hk : l.length < k) : laws_markReCellS.f k l q = some (q + 2 * l.length, mk_ReCell q l.length) := by
  have key : ∀ (rest pre : List S109) (k : Nat) (q : Int), (pre ++ rest).length ≤ 1000000000 → 0 ≤ q → q + 2 * rest.length ≤ 20000000000000 → rest.length < k → laws_markReCellS.l0 k (pre ++ rest) q (pre.length : Int) = some (q + 2 * rest.length, pre ++ mk_ReCell q rest.length) := by
    intro rest
    induction rest with
    | nil =>
      intro pre k q _ _ _ hk
      obtain ⟨k, rfl⟩ : ∃ m, k = m + 1 := ⟨k - 1, by omega⟩
      rw [laws_markReCellS.l0, if_neg (by simp)]
      simp [mk_ReCell]
    | cons a rest ih =>
      intro pre k q hp h0 h1 hk
      obtain ⟨k, rfl⟩ : ∃ m, k = m + 1 := ⟨k - 1, by omega⟩
      simp only [List.length_cons] at h1 hk
      rw [laws_markReCellS.l0, if_pos (lt_mid _ _ _), if_pos (len_nn _)]
      simp only [Option.bind_some, set_mid, rdm_ReCell]
      rw [wrap_id (x := q + 1) (by omega) (by omega), wrap_id (x := q + 1 + 1) (by omega) (by omega), wrap_mid (pre := pre) (a := a) (rest := rest) (by simp only [maxLen]; omega)]
      have := ih (pre ++ [(⟨q, q + 1⟩ : S109)]) k (q + 2) (by simp at hp ⊢; omega) (by omega) (by omega) (by omega)
      simp only [List.append_assoc, List.singleton_append] at this
      rw [show q + 1 + 1 = q + 2 by omega, show ((pre ++ [a]).length : Int) = ((pre ++ [(⟨q, q + 1⟩ : S109)]).length : Int) by simp, this]
      simp only [List.length_cons, mk_ReCell]
      congr 2
      omega
  have := key l [] k q (by simpa using hl) hq (by omega) hk
  simpa [laws_markReCellS.f] using this
theorem treeOf_is : ∀ (n : Nat) (l : List S109) (x : S105 × List S109), parse n l = some x → impl_treeOf.f (n + 1) l = some x
  | 0, l, x, h => by simp [parse] at h
  | n + 1, [], x, h => by simp [parse] at h
  | n + 1, c :: r, x, h => by
    simp only [parse] at h
    by_cases hc : cellOk c = true
    · rw [if_pos hc] at h
      cases h1 : parseK (parse n) (arity c.f0).toNat r with
      | none => rw [h1] at h; cases h
      | some y =>
        obtain ⟨ts, q⟩ := y
        rw [h1, Option.bind_some] at h
        have ha := arity_range c.f0
        have kids : ∀ (m : Nat) (r : List S109) (y : List S105 × List S109), parseK (parse n) m r = some y → kidsP (impl_treeOf.f (n + 1)) m r = some y ∧ y.1.length = m := by
          intro m
          induction m with
          | zero =>
            intro r y hy
            simp only [parseK, Option.some.injEq] at hy
            subst hy
            exact ⟨rfl, rfl⟩
          | succ m ih =>
            intro r y hy
            simp only [parseK] at hy
            obtain ⟨a, e1, hy⟩ := Option.bind_eq_some_iff.mp hy
            obtain ⟨b, e2, hy⟩ := Option.bind_eq_some_iff.mp hy
            simp only [Option.some.injEq] at hy
            subst hy
            obtain ⟨i1, i2⟩ := ih a.2 b e2
            simp only [kidsP]
            rw [treeOf_is n r a e1, Option.bind_some, i1, Option.bind_some]
            exact ⟨rfl, by simp [i2]⟩
        obtain ⟨k1, k2⟩ := kids _ _ _ h1
        rw [impl_treeOf.f, impl_partsOf_is, Option.bind_some, if_pos (by omega), k1, Option.bind_some, if_pos (by rw [k2]; omega)]
        exact h
    · rw [if_neg hc] at h; cases h
theorem mk_ReCell_len (q : Int) (n : Nat) : (mk_ReCell q n).length = n := by
  induction n generalizing q with
  | zero => rfl
  | succ n ih => simp [mk_ReCell, ih]
theorem laws_heldReCellS_is (n : Nat) (hn : n ≤ 1000000000) (q : Int) (hq : 0 ≤ q) (hq2 : q ≤ 1000000000000) (k : Nat) (hk : n < k) : laws_heldReCellS.f k (mk_ReCell q n) q = some (q + 2 * n) := by
  have key : ∀ (n : Nat) (pre : List S109) (k : Nat) (q : Int), 0 ≤ q → q + 2 * n ≤ 4000000000000 → pre.length + n ≤ 1000000000 → n < k →
      laws_heldReCellS.l0 k (pre ++ mk_ReCell q n) q (pre.length : Int) = some (q + 2 * n) := by
    intro n
    induction n with
    | zero =>
      intro pre k q h0 h1 h2 hk
      obtain ⟨k, rfl⟩ : ∃ m, k = m + 1 := ⟨k - 1, by omega⟩
      rw [show mk_ReCell q 0 = [] from rfl, List.append_nil]
      simp only [laws_heldReCellS.l0]
      rw [if_neg (by omega)]
      simp
    | succ n ih =>
      intro pre k q h0 h1 h2 hk
      obtain ⟨k, rfl⟩ : ∃ m, k = m + 1 := ⟨k - 1, by omega⟩
      rw [show mk_ReCell q (n + 1) = ⟨q, q + 1⟩ :: mk_ReCell (q + 2) n from rfl]
      simp only [laws_heldReCellS.l0]
      have hlen : (pre ++ (⟨q, q + 1⟩ : S109) :: mk_ReCell (q + 2) n).length ≤ maxLen := by
        simp only [maxLen, List.length_append, List.length_cons, mk_ReCell_len]; omega
      rw [if_pos (lt_mid _ _ _), if_pos (len_nn _), rdm_ReCell, if_pos rfl, wrap_id (x := q + 1) (by omega) (by omega), if_pos rfl, wrap_id (x := q + 1 + 1) (by omega) (by omega), wrap_mid hlen, snoc_cons]
      have := ih (pre ++ [⟨q, q + 1⟩]) k (q + 2) (by omega) (by omega) (by simp; omega) (by omega)
      rw [show q + 1 + 1 = q + 2 by omega]
      rw [this]
      congr 1; omega
  unfold laws_heldReCellS.f
  have := key n [] k q hq (by omega) (by simpa using hn) hk
  simpa using this
inductive PT where
  | leaf (k n : Int)
  | star (a : PT)
  | bin (o : Bool) (a b : PT)
def bk (o : Bool) : Int := if o = true then 6 else 5
def PT.toS : PT → S105
  | .leaf k n => ⟨k, n, []⟩
  | .star a => ⟨7, 0, [a.toS]⟩
  | .bin o a b => ⟨bk o, 0, [a.toS, b.toS]⟩
def PT.flat : PT → List S109
  | .leaf k n => [⟨k, n⟩]
  | .star a => ⟨7, 0⟩ :: a.flat
  | .bin o a b => ⟨bk o, 0⟩ :: (a.flat ++ b.flat)
def PT.ok : PT → Prop
  | .leaf k _ => 1 ≤ k ∧ k ≤ 4
  | .star a => a.ok
  | .bin _ a b => a.ok ∧ b.ok
theorem bk_cases (o : Bool) : bk o = 5 ∧ o = false ∨ bk o = 6 ∧ o = true := by cases o <;> simp [bk]
theorem flat_pos (p : PT) : 1 ≤ p.flat.length := by cases p <;> simp [PT.flat]
theorem arity_leaf {x : Int} (h : 0 ≤ arity x) : (arity x).toNat = 0 ∧ 1 ≤ x ∧ x ≤ 4 ∨ x = 7 ∨ x = 5 ∨ x = 6 := by
  unfold arity at h ⊢
  by_cases h1 : x = 1 ∨ x = 2 ∨ x = 3 ∨ x = 4
  · rw [if_pos h1]; exact .inl ⟨rfl, by omega, by omega⟩
  · rw [if_neg h1] at h ⊢
    by_cases h2 : x = 5 ∨ x = 6
    · exact .inr (.inr h2)
    · rw [if_neg h2] at h
      by_cases h3 : x = 7
      · exact .inr (.inl h3)
      · rw [if_neg h3] at h; omega
theorem parse_pt : ∀ (n : Nat) (l : List S109) (t : S105) (q : List S109), parse n l = some (t, q) → ∃ p : PT, p.ok ∧ t = p.toS ∧ l = p.flat ++ q
  | 0, l, t, q, h => by simp [parse] at h
  | n + 1, [], t, q, h => by simp [parse] at h
  | n + 1, c :: r, t, q, h => by
    simp only [parse] at h
    by_cases hc : cellOk c = true
    case neg => rw [if_neg hc] at h; cases h
    rw [if_pos hc] at h
    obtain ⟨⟨ts, q1⟩, h1, h⟩ := Option.bind_eq_some_iff.mp h
    simp only [Option.some.injEq, Prod.mk.injEq] at h
    obtain ⟨rfl, rfl⟩ := h
    unfold cellOk at hc
    simp only [Bool.and_eq_true, decide_eq_true_eq] at hc
    obtain ⟨ha, hn⟩ := hc
    have hz : c.f0 ≠ 3 → c.f1 = 0 := fun h3 => by
      unfold numOk at hn
      rw [if_neg h3] at hn
      simpa using hn
    obtain ⟨c0, c1⟩ := c
    dsimp only at *
    rcases arity_leaf ha with ⟨e, h14⟩ | e | e
    · rw [e] at h1
      simp only [parseK, Option.some.injEq, Prod.mk.injEq] at h1
      obtain ⟨rfl, rfl⟩ := h1
      exact ⟨.leaf c0 c1, h14, rfl, rfl⟩
    · subst e
      rw [show (arity 7).toNat = 1 from rfl] at h1
      simp only [parseK] at h1
      obtain ⟨⟨t1, q2⟩, e1, h1⟩ := Option.bind_eq_some_iff.mp h1
      simp only [Option.bind_some, Option.some.injEq, Prod.mk.injEq] at h1
      obtain ⟨rfl, rfl⟩ := h1
      obtain ⟨p, hp, rfl, rfl⟩ := parse_pt n _ _ _ e1
      rw [hz (by decide)]
      exact ⟨.star p, hp, rfl, rfl⟩
    · have h2 : (arity c0).toNat = 2 := by rcases e with rfl | rfl <;> rfl
      rw [h2] at h1
      simp only [parseK] at h1
      obtain ⟨⟨t1, q2⟩, e1, h1⟩ := Option.bind_eq_some_iff.mp h1
      obtain ⟨⟨u, q3⟩, e2, h1⟩ := Option.bind_eq_some_iff.mp h1
      obtain ⟨⟨t2, q4⟩, e3, e2⟩ := Option.bind_eq_some_iff.mp e2
      simp only [Option.bind_some, Option.some.injEq, Prod.mk.injEq] at e2 h1
      obtain ⟨rfl, rfl⟩ := e2
      obtain ⟨rfl, rfl⟩ := h1
      obtain ⟨p1, hp1, rfl, rfl⟩ := parse_pt n _ _ _ e1
      obtain ⟨p2, hp2, rfl, hr⟩ := parse_pt n _ _ _ e3
      dsimp only at hr
      rw [hz (by omega), hr]
      refine ⟨.bin (decide (c0 = 6)) p1 p2, ⟨hp1, hp2⟩, ?_, ?_⟩
      · rcases e with rfl | rfl <;> rfl
      · rcases e with rfl | rfl <;> simp [PT.flat, bk]
theorem flat_inj : ∀ (p q : PT) (x y : List S109), p.ok → q.ok → p.flat ++ x = q.flat ++ y → p = q ∧ x = y := by
  intro p
  induction p with
  | leaf k n =>
    intro q x y hp hq h
    cases q with
    | leaf k' n' =>
      simp only [PT.flat, List.cons_append, List.nil_append, List.cons.injEq] at h
      obtain ⟨h1, h2⟩ := h
      injection h1 with h3 h4
      exact ⟨by rw [h3, h4], h2⟩
    | star a =>
      simp only [PT.flat, List.cons_append, List.nil_append, List.cons.injEq] at h
      injection h.1 with h3 h4
      have := hp.2
      omega
    | bin o a b =>
      simp only [PT.flat, List.cons_append, List.nil_append, List.cons.injEq] at h
      injection h.1 with h3 h4
      have := hp.2
      rcases bk_cases o with e | e <;> omega
  | star a ih =>
    intro q x y hp hq h
    cases q with
    | leaf k' n' =>
      simp only [PT.flat, List.cons_append, List.nil_append, List.cons.injEq] at h
      injection h.1 with h3 h4
      have := hq.2
      omega
    | star a' =>
      simp only [PT.flat, List.cons_append, List.cons.injEq] at h
      obtain ⟨h1, h2⟩ := ih a' x y hp hq h.2
      exact ⟨by rw [h1], h2⟩
    | bin o a' b =>
      simp only [PT.flat, List.cons_append, List.cons.injEq] at h
      injection h.1 with h3 h4
      rcases bk_cases o with e | e <;> omega
  | bin o a b iha ihb =>
    intro q x y hp hq h
    cases q with
    | leaf k' n' =>
      simp only [PT.flat, List.cons_append, List.nil_append, List.cons.injEq] at h
      injection h.1 with h3 h4
      have := hq.2
      rcases bk_cases o with e | e <;> omega
    | star a' =>
      simp only [PT.flat, List.cons_append, List.cons.injEq] at h
      injection h.1 with h3 h4
      rcases bk_cases o with e | e <;> omega
    | bin o' a' b' =>
      simp only [PT.flat, List.cons_append, List.cons.injEq, List.append_assoc] at h
      injection h.1 with h3 h4
      obtain ⟨h5, h6⟩ := iha a' _ _ hp.1 hq.1 h.2
      obtain ⟨h7, h8⟩ := ihb b' _ _ hp.2 hq.2 h6
      have ho : o = o' := by
        rcases bk_cases o with e | e <;> rcases bk_cases o' with e' | e' <;> first | omega | rw [e.2, e'.2]
      exact ⟨by rw [h5, h7, ho], h8⟩
theorem flat_eq {p q : PT} (hp : p.ok) (hq : q.ok) : p.flat = q.flat ↔ p = q :=
  ⟨fun h => (flat_inj p q [] [] hp hq (by rw [h])).1, fun h => by rw [h]⟩
open Classical in
noncomputable def PT.tidy : PT → PT
  | .leaf k n => .leaf k n
  | .star a => if a.tidy.toS.f0 = 1 then .leaf 2 0 else if a.tidy.toS.f0 = 2 then .leaf 2 0 else if a.tidy.toS.f0 = 7 then a.tidy else .star a.tidy
  | .bin false a b => if a.tidy.toS.f0 = 1 then .leaf 1 0 else if b.tidy.toS.f0 = 1 then .leaf 1 0 else if a.tidy.toS.f0 = 2 then b.tidy else if b.tidy.toS.f0 = 2 then a.tidy else .bin false a.tidy b.tidy
  | .bin true a b => if a.tidy.toS.f0 = 1 then b.tidy else if b.tidy.toS.f0 = 1 then a.tidy else if a.tidy = b.tidy then a.tidy else .bin true a.tidy b.tidy
theorem tidy_ok : ∀ p : PT, p.ok → p.tidy.ok ∧ p.tidy.flat.length ≤ p.flat.length
  | .leaf k n, h => ⟨h, Nat.le_refl _⟩
  | .star a, h => by
    obtain ⟨h1, h2⟩ := tidy_ok a h
    have := flat_pos a
    simp only [PT.tidy]
    split
    · exact ⟨⟨by decide, by decide⟩, by simp [PT.flat]⟩
    · split
      · exact ⟨⟨by decide, by decide⟩, by simp [PT.flat]⟩
      · split
        · exact ⟨h1, by simp only [PT.flat, List.length_cons]; omega⟩
        · exact ⟨h1, by simp only [PT.flat, List.length_cons]; omega⟩
  | .bin false a b, h => by
    obtain ⟨h1, h2⟩ := tidy_ok a h.1
    obtain ⟨h3, h4⟩ := tidy_ok b h.2
    simp only [PT.tidy]
    split
    · exact ⟨⟨by decide, by decide⟩, by simp [PT.flat]⟩
    · split
      · exact ⟨⟨by decide, by decide⟩, by simp [PT.flat]⟩
      · split
        · exact ⟨h3, by simp only [PT.flat, List.length_cons, List.length_append]; omega⟩
        · split
          · exact ⟨h1, by simp only [PT.flat, List.length_cons, List.length_append]; omega⟩
          · exact ⟨⟨h1, h3⟩, by simp only [PT.flat, List.length_cons, List.length_append]; omega⟩
  | .bin true a b, h => by
    obtain ⟨h1, h2⟩ := tidy_ok a h.1
    obtain ⟨h3, h4⟩ := tidy_ok b h.2
    simp only [PT.tidy]
    split
    · exact ⟨h3, by simp only [PT.flat, List.length_cons, List.length_append]; omega⟩
    · split
      · exact ⟨h1, by simp only [PT.flat, List.length_cons, List.length_append]; omega⟩
      · split
        · exact ⟨h1, by simp only [PT.flat, List.length_cons, List.length_append]; omega⟩
        · exact ⟨⟨h1, h3⟩, by simp only [PT.flat, List.length_cons, List.length_append]; omega⟩
theorem cells_is : ∀ p : PT, p.flat.length ≤ 1000 → ∃ K, ∀ k, K ≤ k → impl_cells.f k p.toS = some p.flat
  | .leaf x n, h => ⟨1, fun k hk => by
    obtain ⟨k, rfl⟩ : ∃ m, k = m + 1 := ⟨k - 1, by omega⟩
    rfl⟩
  | .star a, h => by
    simp only [PT.flat, List.length_cons] at h
    obtain ⟨K, hK⟩ := cells_is a (by omega)
    refine ⟨K + 1, fun k hk => ?_⟩
    obtain ⟨k, rfl⟩ : ∃ m, k = m + 1 := ⟨k - 1, by omega⟩
    rw [impl_cells.f]
    simp only [PT.toS, cellsK]
    rw [hK k (by omega), Option.bind_some, if_pos (by simp only [List.length_singleton]; omega)]
    rfl
  | .bin o a b, h => by
    simp only [PT.flat, List.length_cons, List.length_append] at h
    obtain ⟨K, hK⟩ := cells_is a (by omega)
    obtain ⟨L, hL⟩ := cells_is b (by omega)
    refine ⟨K + L + 1, fun k hk => ?_⟩
    obtain ⟨k, rfl⟩ : ∃ m, k = m + 1 := ⟨k - 1, by omega⟩
    rw [impl_cells.f]
    simp only [PT.toS, cellsK]
    rw [hK k (by omega), Option.bind_some, if_pos (by simp only [List.length_singleton]; omega), hL k (by omega), Option.bind_some, if_pos (by simp only [List.length_append, List.length_singleton]; omega)]
    rfl
theorem sflat_is : ∀ (p : PT) (l : List S109), l.length + p.flat.length ≤ 1000 → ∃ K, ∀ k, K ≤ k → spec_l6Flat.f k p.toS.f0 p.toS.f1 p.toS.f2 l = some (l ++ p.flat)
  | .leaf x n, l, h => ⟨1, fun k hk => by
    obtain ⟨k, rfl⟩ : ∃ m, k = m + 1 := ⟨k - 1, by omega⟩
    rw [spec_l6Flat.f, if_pos (by omega)]
    rfl⟩
  | .star a, l, h => by
    simp only [PT.flat, List.length_cons] at h
    obtain ⟨K, hK⟩ := sflat_is a (l ++ [⟨7, 0⟩]) (by simp only [List.length_append, List.length_singleton]; omega)
    refine ⟨K + 1, fun k hk => ?_⟩
    obtain ⟨k, rfl⟩ : ∃ m, k = m + 1 := ⟨k - 1, by omega⟩
    rw [spec_l6Flat.f, if_pos (by omega)]
    simp only [PT.toS, flatK]
    rw [hK k (by omega), Option.bind_some]
    simp [PT.flat]
  | .bin o a b, l, h => by
    simp only [PT.flat, List.length_cons, List.length_append] at h
    obtain ⟨K, hK⟩ := sflat_is a (l ++ [⟨bk o, 0⟩]) (by simp only [List.length_append, List.length_singleton]; omega)
    obtain ⟨L, hL⟩ := sflat_is b (l ++ [⟨bk o, 0⟩] ++ a.flat) (by simp only [List.length_append, List.length_singleton]; omega)
    refine ⟨K + L + 1, fun k hk => ?_⟩
    obtain ⟨k, rfl⟩ : ∃ m, k = m + 1 := ⟨k - 1, by omega⟩
    rw [spec_l6Flat.f, if_pos (by omega)]
    simp only [PT.toS, flatK]
    rw [hK k (by omega), Option.bind_some, hL k (by omega), Option.bind_some]
    simp [PT.flat]
open Classical in
theorem same_is : ∀ (p q : PT), p.ok → q.ok → ∃ K, ∀ k, K ≤ k → spec_l6Same.f k p.toS.f0 p.toS.f1 p.toS.f2 q.toS.f0 q.toS.f1 q.toS.f2 = some (decide (p = q)) := by
  have off : ∀ (p q : PT), (p.toS.f0 ≠ q.toS.f0 ∨ p.toS.f1 ≠ q.toS.f1) → ∃ K, ∀ k, K ≤ k → spec_l6Same.f k p.toS.f0 p.toS.f1 p.toS.f2 q.toS.f0 q.toS.f1 q.toS.f2 = some (decide (p = q)) := by
    intro p q h
    have hne : ¬ p = q := fun e => by subst e; rcases h with h | h <;> exact h rfl
    refine ⟨2, fun k hk => ?_⟩
    obtain ⟨k, rfl⟩ : ∃ m, k = m + 2 := ⟨k - 2, by omega⟩
    rw [decide_eq_false hne, show k + 2 = (k + 1) + 1 from rfl, spec_l6Same.f]
    by_cases h0 : p.toS.f0 = q.toS.f0
    · rw [if_pos h0, spec_l6Same.j0, if_pos (by rcases h with h | h; exact absurd h0 h; simpa using h)]
    · rw [if_neg h0, spec_l6Same.j0, if_pos rfl]
  intro p
  induction p with
  | leaf x n =>
    intro q hp hq
    cases q with
    | leaf x' n' =>
      by_cases h : x = x' ∧ n = n'
      · obtain ⟨rfl, rfl⟩ := h
        refine ⟨3, fun k hk => ?_⟩
        obtain ⟨k, rfl⟩ : ∃ m, k = m + 3 := ⟨k - 3, by omega⟩
        rw [decide_eq_true rfl, show k + 3 = (k + 2) + 1 from rfl, spec_l6Same.f, if_pos rfl, show k + 2 = (k + 1) + 1 from rfl, spec_l6Same.j0, if_neg (by simp), spec_l6Same.l0, if_neg (by simp [PT.toS])]
      · refine off _ _ ?_
        by_cases h0 : x = x'
        · exact .inr (fun e => h ⟨h0, e⟩)
        · exact .inl h0
    | star a => exact off _ _ (.inl (by have := hp.2; show x ≠ 7; omega))
    | bin o a b => exact off _ _ (.inl (by have := hp.2; show x ≠ bk o; rcases bk_cases o with e | e <;> omega))
  | star a ih =>
    intro q hp hq
    cases q with
    | leaf x' n' => exact off _ _ (.inl (by have := hq.2; show (7 : Int) ≠ x'; omega))
    | star a' =>
      obtain ⟨K, hK⟩ := ih a' hp hq
      refine ⟨K + 4, fun k hk => ?_⟩
      obtain ⟨k, rfl⟩ : ∃ m, k = m + 4 := ⟨k - 4, by omega⟩
      rw [show k + 4 = (k + 3) + 1 from rfl, spec_l6Same.f, if_pos (show a.star.toS.f0 = a'.star.toS.f0 from rfl), show k + 3 = (k + 2) + 1 from rfl, spec_l6Same.j0, if_neg (by simp [PT.toS]), show k + 2 = (k + 1) + 1 from rfl, spec_l6Same.l0, if_pos (by simp [PT.toS]), if_pos (by decide), if_pos (by simp [PT.toS]), if_pos (by simp [PT.toS])]
      show ((spec_l6Same.f (k + 1) a.toS.f0 a.toS.f1 a.toS.f2 a'.toS.f0 a'.toS.f1 a'.toS.f2).bind fun t => _) = _
      rw [hK (k + 1) (by omega), Option.bind_some]
      by_cases h : a = a'
      · subst h
        rw [if_pos (decide_eq_true rfl), decide_eq_true rfl, spec_l6Same.l0, if_neg (by simp [PT.toS, wrap64])]
      · rw [if_neg (by simpa using h), decide_eq_false (fun e => h (by injection e))]
    | bin o a' b => exact off _ _ (.inl (by show (7 : Int) ≠ bk o; rcases bk_cases o with e | e <;> omega))
  | bin o a b iha ihb =>
    intro q hp hq
    cases q with
    | leaf x' n' => exact off _ _ (.inl (by have := hq.2; show bk o ≠ x'; rcases bk_cases o with e | e <;> omega))
    | star a' => exact off _ _ (.inl (by show bk o ≠ 7; rcases bk_cases o with e | e <;> omega))
    | bin o' a' b' =>
      by_cases ho : ¬ o = o'
      · exact off _ _ (.inl (by show bk o ≠ bk o'; cases o <;> cases o' <;> simp [bk] at ho ⊢))
      obtain rfl := Classical.not_not.mp ho
      obtain ⟨K, hK⟩ := iha a' hp.1 hq.1
      obtain ⟨L, hL⟩ := ihb b' hp.2 hq.2
      refine ⟨K + L + 5, fun k hk => ?_⟩
      obtain ⟨k, rfl⟩ : ∃ m, k = m + 5 := ⟨k - 5, by omega⟩
      rw [show k + 5 = (k + 4) + 1 from rfl, spec_l6Same.f, if_pos (show (PT.bin o a b).toS.f0 = (PT.bin o a' b').toS.f0 from rfl), show k + 4 = (k + 3) + 1 from rfl, spec_l6Same.j0, if_neg (by simp [PT.toS]), show k + 3 = (k + 2) + 1 from rfl, spec_l6Same.l0, if_pos (by simp [PT.toS]), if_pos (by decide), if_pos (by simp [PT.toS]), if_pos (by simp [PT.toS])]
      show ((spec_l6Same.f (k + 2) a.toS.f0 a.toS.f1 a.toS.f2 a'.toS.f0 a'.toS.f1 a'.toS.f2).bind fun t => _) = _
      rw [hK (k + 2) (by omega), Option.bind_some]
      by_cases h : ¬ a = a'
      · rw [if_neg (by simpa using h), decide_eq_false (fun e => h (by injection e))]
      obtain rfl := Classical.not_not.mp h
      rw [if_pos (decide_eq_true rfl), show wrap64 (0 + 1) = 1 from wrap_id (by omega) (by omega), show k + 2 = (k + 1) + 1 from rfl, spec_l6Same.l0, if_pos (by simp [PT.toS]), if_pos (by decide), if_pos (by simp [PT.toS]), if_pos (by simp [PT.toS])]
      show ((spec_l6Same.f (k + 1) b.toS.f0 b.toS.f1 b.toS.f2 b'.toS.f0 b'.toS.f1 b'.toS.f2).bind fun t => _) = _
      rw [hL (k + 1) (by omega), Option.bind_some]
      by_cases h : b = b'
      · subst h
        rw [if_pos (decide_eq_true rfl), decide_eq_true rfl, spec_l6Same.l0, if_neg (by simp [PT.toS, wrap64])]
      · rw [if_neg (by simpa using h), decide_eq_false (fun e => h (by injection e))]
theorem cells_Equal_is (a b : List S109) (hl : a.length ≤ 1000) (k : Nat) (hk : a.length < k) : ∃ r : Bool, slices_Equal_impl_ReCell_impl_ReCell.f k a b = some r ∧ (r = true ↔ a = b) := by
  unfold slices_Equal_impl_ReCell_impl_ReCell.f
  by_cases hlen : (a.length : Int) = (b.length : Int)
  case neg => exact ⟨false, by rw [if_neg hlen], by simp; intro e; exact hlen (by rw [e])⟩
  rw [if_pos hlen]
  have key : ∀ (ra rb pa pb : List S109) (k : Nat), a = pa ++ ra → b = pb ++ rb → pa.length = pb.length → ra.length < k → ∃ r : Bool, slices_Equal_impl_ReCell_impl_ReCell.l0 k a b (a.length : Int) (pa.length : Int) = some r ∧ (r = true ↔ ra = rb) := by
    intro ra
    induction ra with
    | nil =>
      intro rb pa pb k e1 e2 hp hk
      obtain ⟨k, rfl⟩ : ∃ m, k = m + 1 := ⟨k - 1, by omega⟩
      rw [slices_Equal_impl_ReCell_impl_ReCell.l0, if_neg (by rw [e1]; simp)]
      have h0 : rb = [] := by
        apply List.eq_nil_of_length_eq_zero
        have h1 := congrArg List.length e1
        have h2 := congrArg List.length e2
        simp at h1 h2
        omega
      exact ⟨true, rfl, by simp [h0]⟩
    | cons x ra ih =>
      intro rb pa pb k e1 e2 hp hk
      obtain ⟨k, rfl⟩ : ∃ m, k = m + 1 := ⟨k - 1, by omega⟩
      cases rb with
      | nil =>
        exfalso
        have h1 := congrArg List.length e1
        have h2 := congrArg List.length e2
        simp at h1 h2
        omega
      | cons y rb =>
        have h1 : (pa.length : Int) < (a.length : Int) := by rw [e1]; exact lt_mid _ _ _
        have r1 : rd_T109 a (pa.length : Int) = x := by rw [e1]; exact rdm_ReCell _ _ _
        have r2 : rd_T109 b (pa.length : Int) = y := by rw [e2, hp]; exact rdm_ReCell _ _ _
        rw [slices_Equal_impl_ReCell_impl_ReCell.l0, if_pos h1, if_pos (len_nn _), if_pos h1, if_pos (by omega), r1, r2]
        by_cases hxy : x = y
        · subst hxy
          rw [if_neg (by simp), wrap_mid (rest := ra) (a := x) (by rw [← e1]; simp only [maxLen]; omega)]
          obtain ⟨r, h2, h3⟩ := ih rb (pa ++ [x]) (pb ++ [x]) k (by rw [e1]; simp) (by rw [e2]; simp) (by simp [hp]) (by simp at hk; omega)
          exact ⟨r, h2, by rw [h3]; simp⟩
        · refine ⟨false, ?_, by simp [hxy]⟩
          rw [if_pos]
          obtain ⟨x0, x1⟩ := x
          obtain ⟨y0, y1⟩ := y
          by_cases h0 : x0 = y0
          · have h4 : ¬ x1 = y1 := fun e => hxy (by rw [h0, e])
            simp [h4]
          · simp [h0]
  exact key a b [] [] k rfl rfl rfl hk
theorem tidy_is : ∀ p : PT, p.ok → p.flat.length ≤ 1000 → ∃ K, ∀ k, K ≤ k → impl_tidy.f k p.toS = some p.tidy.toS
  | .leaf x n, hp, h => ⟨1, fun k hk => by
    obtain ⟨k, rfl⟩ : ∃ m, k = m + 1 := ⟨k - 1, by omega⟩
    have h14 := hp
    rw [impl_tidy.f]
    simp only [PT.toS, tidyK, Option.bind_some]
    rw [if_pos (by simp)]
    unfold tidyF
    rw [if_neg (by have := h14.2; omega), if_neg (by have := h14.2; omega), if_neg (by have := h14.2; omega)]
    rfl⟩
  | .star a, hp, h => by
    simp only [PT.flat, List.length_cons] at h
    obtain ⟨K, hK⟩ := tidy_is a hp (by omega)
    refine ⟨K + 1, fun k hk => ?_⟩
    obtain ⟨k, rfl⟩ : ∃ m, k = m + 1 := ⟨k - 1, by omega⟩
    rw [impl_tidy.f]
    simp only [PT.toS, tidyK]
    rw [hK k (by omega)]
    simp only [Option.bind_some]
    rw [if_pos (by simp)]
    unfold tidyF
    rw [if_neg (by decide), if_neg (by decide), if_pos rfl]
    simp only [PT.tidy]
    by_cases h1 : a.tidy.toS.f0 = 1
    · rw [if_pos h1, if_pos h1]; rfl
    rw [if_neg h1, if_neg h1]
    by_cases h2 : a.tidy.toS.f0 = 2
    · rw [if_pos h2, if_pos h2]; rfl
    rw [if_neg h2, if_neg h2]
    by_cases h7 : a.tidy.toS.f0 = 7
    · rw [if_pos h7, if_pos h7]
    · rw [if_neg h7, if_neg h7]; rfl
  | .bin false a b, hp, h => by
    simp only [PT.flat, List.length_cons, List.length_append] at h
    obtain ⟨K, hK⟩ := tidy_is a hp.1 (by omega)
    obtain ⟨L, hL⟩ := tidy_is b hp.2 (by omega)
    refine ⟨K + L + 1, fun k hk => ?_⟩
    obtain ⟨k, rfl⟩ : ∃ m, k = m + 1 := ⟨k - 1, by omega⟩
    rw [impl_tidy.f]
    simp only [PT.toS, tidyK]
    rw [hK k (by omega), hL k (by omega)]
    simp only [Option.bind_some]
    rw [if_pos (by simp)]
    unfold tidyF
    rw [if_pos (by rfl)]
    simp only [PT.tidy]
    by_cases h1 : a.tidy.toS.f0 = 1
    · rw [if_pos h1, if_pos h1]; rfl
    rw [if_neg h1, if_neg h1]
    by_cases h2 : b.tidy.toS.f0 = 1
    · rw [if_pos h2, if_pos h2]; rfl
    rw [if_neg h2, if_neg h2]
    by_cases h3 : a.tidy.toS.f0 = 2
    · rw [if_pos h3, if_pos h3]
    rw [if_neg h3, if_neg h3]
    by_cases h4 : b.tidy.toS.f0 = 2
    · rw [if_pos h4, if_pos h4]
    · rw [if_neg h4, if_neg h4]; rfl
  | .bin true a b, hp, h => by
    simp only [PT.flat, List.length_cons, List.length_append] at h
    obtain ⟨K, hK⟩ := tidy_is a hp.1 (by omega)
    obtain ⟨L, hL⟩ := tidy_is b hp.2 (by omega)
    obtain ⟨oa, la⟩ := tidy_ok a hp.1
    obtain ⟨ob, lb⟩ := tidy_ok b hp.2
    obtain ⟨M, hM⟩ := cells_is a.tidy (by omega)
    obtain ⟨N, hN⟩ := cells_is b.tidy (by omega)
    refine ⟨K + L + M + N + 1002, fun k hk => ?_⟩
    obtain ⟨k, rfl⟩ : ∃ m, k = m + 1 := ⟨k - 1, by omega⟩
    rw [impl_tidy.f]
    simp only [PT.toS, tidyK]
    rw [hK k (by omega), hL k (by omega)]
    simp only [Option.bind_some]
    rw [if_pos (by simp)]
    unfold tidyF
    rw [if_neg (by decide), if_pos (by rfl)]
    simp only [PT.tidy]
    by_cases h1 : a.tidy.toS.f0 = 1
    · rw [if_pos h1, if_pos h1]
    rw [if_neg h1, if_neg h1]
    by_cases h2 : b.tidy.toS.f0 = 1
    · rw [if_pos h2, if_pos h2]
    rw [if_neg h2, if_neg h2, hM k (by omega), Option.bind_some, hN k (by omega), Option.bind_some]
    obtain ⟨r, hr, he⟩ := cells_Equal_is a.tidy.flat b.tidy.flat (by omega) k (by omega)
    rw [hr, Option.bind_some]
    rw [flat_eq oa ob] at he
    by_cases h3 : a.tidy = b.tidy
    · rw [if_pos h3, if_pos (he.2 h3)]
    · rw [if_neg h3, if_neg (fun e => h3 (he.1 e))]; rfl
open Classical in
theorem stidy_is : ∀ p : PT, p.ok → ∃ K, ∀ k, K ≤ k → spec_l6Tidy.f k p.toS.f0 p.toS.f1 p.toS.f2 = some p.tidy.toS
  | .leaf x n, hp => ⟨1, fun k hk => by
    obtain ⟨k, rfl⟩ : ∃ m, k = m + 1 := ⟨k - 1, by omega⟩
    have h14 := hp
    rw [spec_l6Tidy.f]
    simp only [PT.toS, stidyK, Option.bind_some]
    unfold spec_l6Make.f makeF
    rw [if_neg (by have := h14.2; omega), if_neg (by have := h14.2; omega), if_neg (by have := h14.2; omega)]
    rfl⟩
  | .star a, hp => by
    obtain ⟨K, hK⟩ := stidy_is a hp
    refine ⟨K + 1, fun k hk => ?_⟩
    obtain ⟨k, rfl⟩ : ∃ m, k = m + 1 := ⟨k - 1, by omega⟩
    rw [spec_l6Tidy.f]
    simp only [PT.toS, stidyK]
    rw [if_pos (by simp), hK k (by omega)]
    simp only [Option.bind_some, List.nil_append]
    unfold spec_l6Make.f makeF
    rw [if_neg (by decide), if_neg (by decide), if_pos rfl]
    simp only [PT.tidy]
    by_cases h1 : a.tidy.toS.f0 = 1
    · rw [if_pos h1, if_pos h1]; rfl
    rw [if_neg h1, if_neg h1]
    by_cases h2 : a.tidy.toS.f0 = 2
    · rw [if_pos h2, if_pos h2]; rfl
    rw [if_neg h2, if_neg h2]
    by_cases h7 : a.tidy.toS.f0 = 7
    · rw [if_pos h7, if_pos h7]
    · rw [if_neg h7, if_neg h7]; rfl
  | .bin false a b, hp => by
    obtain ⟨K, hK⟩ := stidy_is a hp.1
    obtain ⟨L, hL⟩ := stidy_is b hp.2
    refine ⟨K + L + 1, fun k hk => ?_⟩
    obtain ⟨k, rfl⟩ : ∃ m, k = m + 1 := ⟨k - 1, by omega⟩
    rw [spec_l6Tidy.f]
    simp only [PT.toS, stidyK]
    rw [if_pos (by simp), hK k (by omega), Option.bind_some, if_pos (by simp), hL k (by omega)]
    simp only [Option.bind_some, List.nil_append, List.cons_append]
    unfold spec_l6Make.f makeF
    rw [if_pos (by rfl)]
    simp only [PT.tidy]
    by_cases h1 : a.tidy.toS.f0 = 1
    · rw [if_pos h1, if_pos h1]; rfl
    rw [if_neg h1, if_neg h1]
    by_cases h2 : b.tidy.toS.f0 = 1
    · rw [if_pos h2, if_pos h2]; rfl
    rw [if_neg h2, if_neg h2]
    by_cases h3 : a.tidy.toS.f0 = 2
    · rw [if_pos h3, if_pos h3]
    rw [if_neg h3, if_neg h3]
    by_cases h4 : b.tidy.toS.f0 = 2
    · rw [if_pos h4, if_pos h4]
    · rw [if_neg h4, if_neg h4]; rfl
  | .bin true a b, hp => by
    obtain ⟨K, hK⟩ := stidy_is a hp.1
    obtain ⟨L, hL⟩ := stidy_is b hp.2
    obtain ⟨oa, _⟩ := tidy_ok a hp.1
    obtain ⟨ob, _⟩ := tidy_ok b hp.2
    obtain ⟨M, hM⟩ := same_is a.tidy b.tidy oa ob
    refine ⟨K + L + M + 1, fun k hk => ?_⟩
    obtain ⟨k, rfl⟩ : ∃ m, k = m + 1 := ⟨k - 1, by omega⟩
    rw [spec_l6Tidy.f]
    simp only [PT.toS, stidyK]
    rw [if_pos (by simp), hK k (by omega), Option.bind_some, if_pos (by simp), hL k (by omega)]
    simp only [Option.bind_some, List.nil_append, List.cons_append]
    unfold spec_l6Make.f makeF
    rw [if_neg (by decide), if_pos (by rfl)]
    simp only [PT.tidy]
    by_cases h1 : a.tidy.toS.f0 = 1
    · rw [if_pos h1, if_pos h1]
    rw [if_neg h1, if_neg h1]
    by_cases h2 : b.tidy.toS.f0 = 1
    · rw [if_pos h2, if_pos h2]
    rw [if_neg h2, if_neg h2, hM k (by omega), Option.bind_some]
    by_cases h3 : a.tidy = b.tidy
    · rw [if_pos h3, if_pos (decide_eq_true h3)]
    · rw [if_neg h3, if_neg (by simpa using h3)]; rfl
theorem TidyRegex_both (l : List S109) (hl : l.length ≤ 1048576) : ∃ b : List S109 × Bool, Ev (fun k => spec_TidyRegex.f k l) b ∧ Ev (fun k => impl_TidyRegex.f k l) b ∧ b.1.length ≤ 1000 := by
  obtain ⟨K1, h1⟩ := spec_l6Tree_is l
  obtain ⟨K2, h2⟩ := impl_GoodRegex_is l hl
  replace h1 : ∀ k, K1 ≤ k → spec_l6Tree.f k l = _ := h1
  replace h2 : ∀ k, K2 ≤ k → impl_GoodRegex.f k l = _ := h2
  by_cases h : (tree l).2.2.2 = true
  · have hp : l.length ≤ 30 ∧ ∃ t, parse l.length l = some (t, []) ∧ tree l = (t.f0, t.f1, t.f2, true) := by
      have h' := h
      unfold tree at h' ⊢
      by_cases g1 : l.length > 30
      · rw [if_pos g1] at h'; cases h'
      · rw [if_neg g1] at h' ⊢
        cases hp : parse l.length l with
        | none => rw [hp] at h'; cases h'
        | some x =>
          obtain ⟨t, r⟩ := x
          rw [hp] at h'
          simp only [List.isEmpty_iff] at h'
          subst h'
          exact ⟨by omega, t, rfl, rfl⟩
    obtain ⟨h30, t, hp, ht⟩ := hp
    obtain ⟨p, hok, rfl, hpl⟩ := parse_pt _ _ _ _ hp
    rw [List.append_nil] at hpl
    have hlen : p.flat.length ≤ 30 := by rw [← hpl]; exact h30
    obtain ⟨o2, l2⟩ := tidy_ok p hok
    obtain ⟨K3, h3⟩ := stidy_is p hok
    obtain ⟨K4, h4⟩ := tidy_is p hok (by omega)
    obtain ⟨K5, h5⟩ := sflat_is p.tidy [] (by simp only [List.length_nil]; omega)
    obtain ⟨K6, h6⟩ := cells_is p.tidy (by omega)
    have ht0 := treeOf_is _ _ _ hp
    have hmono : ∀ d, impl_treeOf.f (l.length + 1 + d) l = some (p.toS, []) := by
      intro d
      induction d with
      | zero => exact ht0
      | succ d ih => exact impl_treeOf.mono _ _ _ ih
    refine ⟨(p.tidy.flat, true), ⟨K1 + K3 + K5, fun k hk => ?_⟩, ⟨K2 + K4 + K6 + l.length + 1, fun k hk => ?_⟩, by dsimp only; omega⟩
    · simp only [spec_TidyRegex.f]
      rw [h1 k (by omega), Option.bind_some, ht]
      dsimp only
      rw [if_pos rfl, h3 k (by omega), Option.bind_some, h5 k (by omega)]
      rfl
    · simp only [impl_TidyRegex.f]
      have := hmono (k - (l.length + 1))
      rw [show l.length + 1 + (k - (l.length + 1)) = k by omega] at this
      rw [h2 k (by omega), Option.bind_some, if_pos h, this, Option.bind_some]
      dsimp only
      rw [h4 k (by omega), Option.bind_some, h6 k (by omega)]
      rfl
  · refine ⟨([], false), ⟨K1, fun k hk => ?_⟩, ⟨K2, fun k hk => ?_⟩, by simp⟩
    · simp only [spec_TidyRegex.f]
      rw [h1 k hk, Option.bind_some, if_neg h]
    · simp only [impl_TidyRegex.f]
      rw [h2 k hk, Option.bind_some, if_neg h]

end FnExactTidyRegexUses
open Go.RowKit Go.Proofs.Ytkkchcalhomgcaa.PFnExactTidyRegex Go.Proofs.YtkkchcalhomgcaaW.PrintWords Go.Proofs.YtkkchcalhomgcaaW.PrintLast Go.Proofs.YtkkchcalhomgcaaW.PrintMore Go.Proofs.Ytkkchcalhomgcaa.Pfx Go.Proofs.Ytkkchcalhomgcaa.Loop FnExactTidyRegexUses
set_option linter.unusedVariables false
theorem FnExactTidyRegex (l0 : List S111) (m0 : l0.length ≤ maxLen) (w0 : ∀ a, a ∈ l0 → ((Lit.int .i64 a.f0).wf = true ∧ (Lit.int .i64 a.f1).wf = true)) : ∃ k, laws_FnExactTidyRegex.f k l0 = some true := by
  obtain ⟨r, hr, hb⟩ := laws_szReCellS_is l0 m0
  by_cases h : r < 0
  · exact ⟨0, by unfold laws_FnExactTidyRegex.f; rw [hr, Option.bind_some, if_pos h]⟩
  · have hl := hb h
    have hl2 : (l0.map fun p => (⟨p.f0, p.f1⟩ : S109)).length = l0.length := by simp
    obtain ⟨q, ⟨K1, h1⟩, ⟨K2, h2⟩, hq⟩ := TidyRegex_both (l0.map fun p => (⟨p.f0, p.f1⟩ : S109)) (by omega)
    replace h1 : ∀ k, K1 ≤ k → spec_TidyRegex.f k _ = _ := h1
    replace h2 : ∀ k, K2 ≤ k → impl_TidyRegex.f k _ = _ := h2
    obtain ⟨K, hK⟩ : ∃ K : Nat, K1 + K2 + l0.length + q.1.length + 10 ≤ K := ⟨_, Nat.le_refl _⟩
    refine ⟨K + 1 + 1 + 1, ?_⟩
    unfold laws_FnExactTidyRegex.f
    rw [hr, Option.bind_some, if_neg h, laws_toReCellS_is _ l0 hl (by omega)]
    simp only [Option.bind_some]
    rw [h1 _ (by omega), h2 _ (by omega)]
    simp only [Option.bind_some]
    rw [laws_eqReCellS_refl _ _ (by simp only [maxLen]; omega) (by omega)]
    simp only [Option.bind_some, if_true, bne_self_eq_false]
    rw [laws_FnExactTidyRegex.j0, if_neg (by simp), laws_toReCellS_is _ l0 hl (by omega)]
    simp only [Option.bind_some]
    rw [laws_eqReCellS_refl _ _ (by simp only [maxLen]; omega) (by omega)]
    simp only [Option.bind_some, if_true]
    rw [laws_markReCellS_is _ (by omega) 1 (by omega) (by omega) _ (by omega)]
    simp only [Option.bind_some]
    rw [if_neg (by omega), laws_eqReCellS_refl _ _ (by simp only [maxLen]; omega) (by omega)]
    simp only [Option.bind_some, if_true, bne_self_eq_false]
    rw [laws_FnExactTidyRegex.j1, if_neg (by simp), laws_markReCellS_is q.1 (by omega) 1 (by omega) (by omega) _ (by omega)]
    simp only [Option.bind_some]
    rw [laws_heldReCellS_is q.1.length (by omega) 1 (by omega) (by omega) _ (by omega)]
    simp only [Option.bind_some]
    rw [if_neg (by omega), if_pos trivial, laws_toReCellS_is _ l0 hl (by omega)]
    simp only [Option.bind_some]
    rw [h2 _ (by omega)]
    simp only [Option.bind_some]
    rw [laws_eqReCellS_refl _ _ (by simp only [maxLen]; omega) (by omega)]
    simp only [Option.bind_some, if_true, bne_self_eq_false]
    rw [laws_FnExactTidyRegex.j2, if_neg (by simp), laws_heldReCellS_is q.1.length (by omega) 1 (by omega) (by omega) _ (by omega)]
    simp only [Option.bind_some]
    rw [if_neg (by omega), if_pos trivial]
end Go.Proofs.Ytkkchcalhomgcaa.Pure
