/- The pure statement of FnExactTakesEmpty: what the printed functions tell is what the reference tells. No condition but the arguments' own bounds. -/
import Derived.Test.YtkkchcalhomgcaaYFnExactTakesEmptyx4
import Derived.Test.YtkkchcalhomgcaaQFnExactTakesEmpty
namespace Go.Proofs.Ytkkchcalhomgcaa.Pure
namespace FnExactTakesEmptyUses
open Go.RowKit Go.Proofs.Ytkkchcalhomgcaa.PFnExactTakesEmpty Go.Proofs.YtkkchcalhomgcaaW.PrintWords Go.Proofs.YtkkchcalhomgcaaW.PrintLast Go.Proofs.YtkkchcalhomgcaaW.PrintMore Go.Proofs.Ytkkchcalhomgcaa.Pfx Go.Proofs.Ytkkchcalhomgcaa.Loop
set_option linter.unusedVariables false
set_option linter.unusedSimpArgs false

theorem spec_l1In_is (a lo hi : Int) : spec_l1In.f a lo hi = some (decide (lo ≤ a ∧ a ≤ hi)) := by
  unfold spec_l1In.f
  by_cases h : lo ≤ a
  · rw [if_pos h]; simp [h]
  · rw [if_neg h]; simp [h]
theorem impl_within_is (a lo hi : Int) : impl_within.f a lo hi = some (decide (lo ≤ a ∧ a ≤ hi)) := by
  unfold impl_within.f
  by_cases h : lo ≤ a
  · rw [if_pos h]; simp [h]
  · rw [if_neg h]; simp [h]
theorem rdm_ReCell (pre : List S109) (a : S109) (rest : List S109) : rd_T109 (pre ++ a :: rest) (pre.length : Int) = a := by unfold rd_T109; simp
theorem rdm_LReCell (pre : List S111) (a : S111) (rest : List S111) : rd_T111 (pre ++ a :: rest) (pre.length : Int) = a := by unfold rd_T111; simp
theorem laws_eqReCellS_refl (k : Nat) (l : List S109) (hl : l.length ≤ maxLen) (hk : l.length < k) : laws_eqReCellS.f k l l = some true := by
  unfold laws_eqReCellS.f
  rw [if_pos rfl]
  have key : ∀ (rest pre : List S109) (k : Nat), l = pre ++ rest → rest.length < k → laws_eqReCellS.l0 k l l (pre.length : Int) = some true := by
    intro rest
    induction rest with
    | nil =>
      intro pre k e hk
      obtain ⟨k, rfl⟩ : ∃ m, k = m + 1 := ⟨k - 1, by omega⟩
      simp only [laws_eqReCellS.l0]
      rw [if_neg (by rw [e]; simp)]
    | cons a rest ih =>
      intro pre k e hk
      obtain ⟨k, rfl⟩ : ∃ m, k = m + 1 := ⟨k - 1, by omega⟩
      simp only [laws_eqReCellS.l0, laws_eqReCell.f]
      rw [if_pos (by rw [e]; exact lt_mid _ _ _), if_pos (len_nn _), if_pos (by rw [e]; exact lt_mid _ _ _)]
      simp only [Option.bind_some, if_true]
      rw [wrap_mid (rest := rest) (by rw [← e]; exact hl)]
      exact ih (pre ++ [a]) k (by rw [e]; simp) (by simp at hk; omega)
  exact key l [] k rfl hk
theorem laws_szReCellS_is (l : List S111) (m0 : l.length ≤ maxLen) : ∃ r, laws_szReCellS.f l 1048576 = some r ∧ (¬ r < 0 → l.length ≤ 1048576) := by
  unfold laws_szReCellS.f
  by_cases h : wrap64 (1048576 - (l.length : Int)) < 0
  · exact ⟨_, if_pos h, fun h' => absurd (by omega) h'⟩
  · exact ⟨_, if_neg h, fun h' => sz_ok m0 (if_neg h) h'⟩
theorem laws_toReCellS_is (k : Nat) (l : List S111) (hl : l.length ≤ 1048576) (hk : l.length < k) : laws_toReCellS.f k l = some (l.map fun p => (⟨p.f0, p.f1⟩ : S109)) := by
  unfold laws_toReCellS.f
  rw [if_pos (len_nn _), if_pos (by simp; omega)]
  have key : ∀ (rest pre : List S111) (k : Nat), l = pre ++ rest → rest.length < k →
      laws_toReCellS.l0 k l ((pre.map fun p => (⟨p.f0, p.f1⟩ : S109)) ++ List.replicate rest.length z109) (pre.length : Int) = some (l.map fun p => (⟨p.f0, p.f1⟩ : S109)) := by
    intro rest
    induction rest with
    | nil =>
      intro pre k e hk
      obtain ⟨k, rfl⟩ : ∃ m, k = m + 1 := ⟨k - 1, by omega⟩
      simp only [laws_toReCellS.l0]
      rw [if_neg (by rw [e]; simp)]
      simp [e]
    | cons a rest ih =>
      intro pre k e hk
      obtain ⟨k, rfl⟩ : ∃ m, k = m + 1 := ⟨k - 1, by omega⟩
      simp only [laws_toReCellS.l0, laws_toReCell.f, Option.bind_some]
      rw [if_pos (by rw [e]; exact lt_mid _ _ _), if_pos (len_nn _), if_pos (by simp; omega), wrap_mid (rest := rest) (by rw [← e]; simp only [maxLen]; omega)]
      have h1 : rd_T111 l (pre.length : Int) = a := by rw [e]; exact rdm_LReCell _ _ _
      rw [h1, List.length_cons, List.replicate_succ]
      have h2 := ih (pre ++ [a]) k (by rw [e]; simp) (by simp at hk; omega)
      have h3 : ((pre.map fun p => (⟨p.f0, p.f1⟩ : S109)) ++ z109 :: List.replicate rest.length z109).set ((pre.length : Int)).toNat (⟨a.f0, a.f1⟩ : S109) = ((pre ++ [a]).map fun p => (⟨p.f0, p.f1⟩ : S109)) ++ List.replicate rest.length z109 := by
        have := set_mid (pre.map fun p => (⟨p.f0, p.f1⟩ : S109)) z109 ⟨a.f0, a.f1⟩ (List.replicate rest.length z109)
        rw [List.length_map] at this
        rw [this]; simp
      rw [h3]; exact h2
  have := key l [] k rfl hk
  simpa using this
def arity (x : Int) : Int := if x = 1 ∨ x = 2 ∨ x = 3 ∨ x = 4 then 0 else if x = 5 ∨ x = 6 then 2 else if x = 7 then 1 else -1
theorem arity_range (x : Int) : -1 ≤ arity x ∧ arity x ≤ 2 := by
  unfold arity
  by_cases h1 : x = 1 ∨ x = 2 ∨ x = 3 ∨ x = 4
  · rw [if_pos h1]; omega
  · rw [if_neg h1]
    by_cases h2 : x = 5 ∨ x = 6
    · rw [if_pos h2]; omega
    · rw [if_neg h2]
      by_cases h3 : x = 7
      · rw [if_pos h3]; omega
      · rw [if_neg h3]; omega
def numOk (c : S109) : Bool := if c.f0 = 3 then decide (1 ≤ c.f1 ∧ c.f1 ≤ 65535) else (c.f1 == 0)
def cellOk (c : S109) : Bool := decide (0 ≤ arity c.f0) && numOk c
def scan : Nat → List S109 → Option (List S109)
  | 0, r => some r
  | _ + 1, [] => none
  | n + 1, c :: r => if cellOk c = true then scan (n + (arity c.f0).toNat) r else none
  termination_by _ l => l.length
theorem scan_add (m : Nat) : ∀ (l : List S109) (n : Nat), scan (n + m) l = (scan n l).bind (scan m)
  | [], 0 => by simp [scan]
  | [], n + 1 => by
    rw [show n + 1 + m = (n + m) + 1 by omega]
    simp [scan]
  | c :: l, 0 => by simp [scan]
  | c :: l, n + 1 => by
    rw [show n + 1 + m = (n + m) + 1 by omega]
    simp only [scan]
    by_cases h : cellOk c = true
    · rw [if_pos h, if_pos h, show n + m + (arity c.f0).toNat = (n + (arity c.f0).toNat) + m by omega]
      exact scan_add m l _
    · rw [if_neg h, if_neg h]; rfl
theorem spec_l6Arity_is (x : Int) (k : Nat) : spec_l6Arity.f (k + 2) x = some (arity x) := by
  unfold spec_l6Arity.f arity
  simp only [spec_l6Arity.j0, spec_l6Arity.j1]
  by_cases h1 : x = 1
  · simp [h1]
  · by_cases h2 : x = 2
    · simp [h2]
    · by_cases h3 : x = 3
      · simp [h3]
      · by_cases h4 : x = 4
        · simp [h4]
        · by_cases h5 : x = 5
          · simp [h5]
          · by_cases h6 : x = 6
            · simp [h6]
            · by_cases h7 : x = 7
              · simp [h7]
              · simp [h1, h2, h3, h4, h5, h6, h7]
theorem impl_partsOf_is (x : Int) (k : Nat) : impl_partsOf.f (k + 1) x = some (arity x) := by
  unfold impl_partsOf.f arity
  simp only [impl_partsOf.j0]
  by_cases h1 : x = 1
  · simp [h1]
  · by_cases h2 : x = 2
    · simp [h2]
    · by_cases h3 : x = 3
      · simp [h3]
      · by_cases h4 : x = 4
        · simp [h4]
        · by_cases h5 : x = 5
          · simp [h5]
          · by_cases h6 : x = 6
            · simp [h6]
            · by_cases h7 : x = 7
              · simp [h7]
              · simp [h1, h2, h3, h4, h5, h6, h7]
def parseK (p : List S109 → Option (S105 × List S109)) : Nat → List S109 → Option (List S105 × List S109)
  | 0, r => some ([], r)
  | m + 1, r => (p r).bind fun q => (parseK p m q.2).bind fun s => some (q.1 :: s.1, s.2)
def parse : Nat → List S109 → Option (S105 × List S109)
  | 0, _ => none
  | _ + 1, [] => none
  | n + 1, c :: r => if cellOk c = true then (parseK (parse n) (arity c.f0).toNat r).bind fun s => some (⟨c.f0, c.f1, s.1⟩, s.2) else none
theorem parseK_cut {p : List S109 → Option (S105 × List S109)} (hp : ∀ r t q, p r = some (t, q) → ∃ u, r = u ++ q) : ∀ (m : Nat) (r : List S109) (t : List S105) (q : List S109), parseK p m r = some (t, q) → ∃ u, r = u ++ q
  | 0, r, t, q, h => by
    simp only [parseK, Option.some.injEq, Prod.mk.injEq] at h
    exact ⟨[], by simp [h.2]⟩
  | m + 1, r, t, q, h => by
    simp only [parseK] at h
    cases h1 : p r with
    | none => rw [h1] at h; cases h
    | some x =>
      obtain ⟨x1, x2⟩ := x
      rw [h1, Option.bind_some] at h
      dsimp only at h
      cases h2 : parseK p m x2 with
      | none => rw [h2] at h; cases h
      | some y =>
        obtain ⟨y1, y2⟩ := y
        rw [h2, Option.bind_some] at h
        simp only [Option.some.injEq, Prod.mk.injEq] at h
        obtain ⟨u, hu⟩ := hp _ _ _ h1
        obtain ⟨v, hv⟩ := parseK_cut hp m _ _ _ h2
        exact ⟨u ++ v, by rw [hu, hv, h.2]; simp⟩
theorem parse_cut : ∀ (n : Nat) (r : List S109) (t : S105) (q : List S109), parse n r = some (t, q) → ∃ c u, r = c :: u ++ q
  | 0, r, t, q, h => by simp [parse] at h
  | n + 1, [], t, q, h => by simp [parse] at h
  | n + 1, c :: r, t, q, h => by
    simp only [parse] at h
    by_cases hc : cellOk c = true
    · rw [if_pos hc] at h
      cases h1 : parseK (parse n) (arity c.f0).toNat r with
      | none => rw [h1] at h; cases h
      | some x =>
        obtain ⟨x1, x2⟩ := x
        rw [h1, Option.bind_some] at h
        simp only [Option.some.injEq, Prod.mk.injEq] at h
        obtain ⟨u, hu⟩ := parseK_cut (fun r t q h => by obtain ⟨c, u, e⟩ := parse_cut n r t q h; exact ⟨c :: u, e⟩) _ _ _ _ h1
        exact ⟨c, u, by rw [hu, h.2]; simp⟩
    · rw [if_neg hc] at h; cases h
theorem parse_scan : ∀ (n : Nat) (r : List S109), r.length ≤ n → (parse n r).map (·.2) = scan 1 r
  | 0, r, h => by
    have : r = [] := List.length_eq_zero_iff.mp (by omega)
    subst this
    simp [parse, scan]
  | n + 1, [], h => by simp [parse, scan]
  | n + 1, c :: r, h => by
    simp only [parse, scan]
    by_cases hc : cellOk c = true
    · rw [if_pos hc, if_pos hc, Nat.zero_add]
      have hk : ∀ (m : Nat) (r : List S109), r.length ≤ n → (parseK (parse n) m r).map (·.2) = scan m r := by
        intro m
        induction m with
        | zero => intro r _; simp [parseK, scan]
        | succ m ih =>
          intro r hr
          rw [show m + 1 = 1 + m by omega, scan_add m r 1, ← parse_scan n r hr, show 1 + m = m + 1 by omega]
          simp only [parseK]
          cases h1 : parse n r with
          | none => rfl
          | some x =>
            obtain ⟨x1, x2⟩ := x
            obtain ⟨c, u, e⟩ := parse_cut _ _ _ _ h1
            have hx : x2.length ≤ n := by rw [e] at hr; simp at hr; omega
            simp only [Option.bind_some, Option.map_some]
            rw [← ih x2 hx]
            cases parseK (parse n) m x2 with
            | none => rfl
            | some y => rfl
      rw [← hk _ r (by simpa using h)]
      cases parseK (parse n) (arity c.f0).toNat r with
      | none => rfl
      | some y => rfl
    · rw [if_neg hc, if_neg hc]; rfl
def outP (L : Nat) : Option (S105 × List S109) → Int × Int × List S105 × Int
  | none => (0, 0, [], 0)
  | some (t, r) => (t.f0, t.f1, t.f2, (L : Int) - (r.length : Int))
def outK (L : Nat) (a b : Int) (ts : List S105) : Option (List S105 × List S109) → Int × Int × List S105 × Int
  | none => (0, 0, [], 0)
  | some (t, r) => (a, b, ts ++ t, (L : Int) - (r.length : Int))
theorem read_is (l : List S109) (hl : l.length ≤ 1000000) : ∀ (n : Nat) (rest pre : List S109), l = pre ++ rest → rest.length ≤ n → Ev (fun k => spec_l6Read.f k l (pre.length : Int)) (outP l.length (parse n rest)) := by
  have nil : ∀ (rest pre : List S109), l = pre ++ rest → rest = [] → Ev (fun k => spec_l6Read.f k l (pre.length : Int)) (0, 0, [], 0) := by
    intro rest pre e h0
    refine ⟨1, fun k hk => ?_⟩
    obtain ⟨k, rfl⟩ : ∃ m, k = m + 1 := ⟨k - 1, by omega⟩
    simp only [spec_l6Read.f]
    rw [if_pos (by rw [e, h0]; simp)]
  intro n
  induction n with
  | zero =>
    intro rest pre e h
    exact nil rest pre e (List.length_eq_zero_iff.mp (by omega))
  | succ n ih =>
    intro rest pre e h
    cases rest with
    | nil => exact nil [] pre e rfl
    | cons c rest =>
      have hr : rd_T109 l (pre.length : Int) = c := by rw [e]; exact rdm_ReCell _ _ _
      have hlt : (pre.length : Int) < (l.length : Int) := by rw [e]; exact lt_mid _ _ _
      have hw := wrap_mid (pre := pre) (a := c) (rest := rest) (by rw [← e]; simp only [maxLen]; omega)
      have kids : ∀ (m : Nat) (rest pre : List S109) (ts : List S105) (a b : Int), l = pre ++ rest → rest.length ≤ n → ts.length + m ≤ 1000 →
          Ev (fun k => spec_l6Read.l0 k l (pre.length : Int) (m : Int) a b ts) (outK l.length a b ts (parseK (parse n) m rest)) := by
        intro m
        induction m with
        | zero =>
          intro rest pre ts a b e h _
          refine ⟨1, fun k hk => ?_⟩
          obtain ⟨k, rfl⟩ : ∃ m, k = m + 1 := ⟨k - 1, by omega⟩
          simp only [spec_l6Read.l0, parseK, outK]
          rw [if_neg (by omega), List.append_nil, show (l.length : Int) - (rest.length : Int) = (pre.length : Int) by rw [e]; simp]
        | succ m ihm =>
          intro rest pre ts a b e h hm
          obtain ⟨K, hK⟩ := ih rest pre e h
          replace hK : ∀ k, K ≤ k → spec_l6Read.f k l (pre.length : Int) = _ := hK
          cases h1 : parse n rest with
          | none =>
            refine ⟨K + 1, fun k hk => ?_⟩
            obtain ⟨k, rfl⟩ : ∃ m, k = m + 1 := ⟨k - 1, by omega⟩
            simp only [spec_l6Read.l0]
            rw [if_pos (by omega), hK k (by omega), Option.bind_some, h1]
            simp only [outP]
            rw [if_pos trivial]
            simp only [parseK, h1, Option.bind_none, outK]
          | some x =>
            obtain ⟨t, q⟩ := x
            obtain ⟨c2, u, e2⟩ := parse_cut _ _ _ _ h1
            have hq : q.length < l.length := by rw [e, e2]; simp; omega
            obtain ⟨K2, hK2⟩ := ihm q (pre ++ c2 :: u) (ts ++ [t]) a b (by rw [e, e2]; simp) (by rw [e2] at h; simp at h; omega) (by simp; omega)
            replace hK2 : ∀ k, K2 ≤ k → spec_l6Read.l0 k l ((pre ++ c2 :: u).length : Int) (m : Int) a b (ts ++ [t]) = _ := hK2
            have e3 : (l.length : Int) - (q.length : Int) = ((pre ++ c2 :: u).length : Int) := by rw [e, e2]; simp; omega
            refine ⟨K + K2 + 1, fun k hk => ?_⟩
            obtain ⟨k, rfl⟩ : ∃ m, k = m + 1 := ⟨k - 1, by omega⟩
            simp only [spec_l6Read.l0]
            rw [if_pos (by omega), hK k (by omega), Option.bind_some, h1]
            rw [show outP l.length (some (t, q)) = (t.f0, t.f1, t.f2, (l.length : Int) - (q.length : Int)) from rfl]
            dsimp only
            rw [if_neg (show ¬ ((l.length : Int) - (q.length : Int) = 0) by omega), if_pos (show ts.length < 3518437208883 by omega), wrap_id (x := ((m + 1 : Nat) : Int) - 1) (by omega) (by omega), show ((m + 1 : Nat) : Int) - 1 = (m : Int) by omega, e3]
            rw [show (⟨t.f0, t.f1, t.f2⟩ : S105) = t by cases t; rfl, hK2 k (by omega)]
            simp only [parseK, h1, Option.bind_some]
            cases parseK (parse n) m q with
            | none => rfl
            | some y => simp [outK]
      have ha := arity_range c.f0
      have j1 : ∀ k m x y, spec_l6Read.j0 (k + 1) l (pre.length : Int) m true x y = some (0, 0, [], 0) := by
        intro k m x y; simp only [spec_l6Read.j0]; rw [if_pos trivial]
      have j2 : ∀ k m x y, spec_l6Read.j0 (k + 1) l (pre.length : Int) m false x y = spec_l6Read.l0 k l (wrap64 ((pre.length : Int) + 1)) m x y [] := by
        intro k m x y; simp only [spec_l6Read.j0]; rw [if_neg (by simp)]
      obtain ⟨K, hK⟩ := kids (arity c.f0).toNat rest (pre ++ [c]) [] c.f0 c.f1 (by rw [e]; simp) (by simpa using h) (by simp; omega)
      replace hK : ∀ k, K ≤ k → spec_l6Read.l0 k l ((pre ++ [c]).length : Int) ((arity c.f0).toNat : Int) c.f0 c.f1 [] = _ := hK
      refine ⟨K + 3, fun k hk => ?_⟩
      obtain ⟨k, rfl⟩ : ∃ m, k = m + 3 := ⟨k - 3, by omega⟩
      show spec_l6Read.f (k + 2 + 1) l (pre.length : Int) = _
      simp only [spec_l6Read.f]
      rw [if_neg (by omega), if_pos (len_nn _), if_pos hlt, hr, spec_l6Arity_is, Option.bind_some]
      simp only [parse]
      by_cases h0 : arity c.f0 < 0
      · rw [if_pos h0, j1, if_neg (by unfold cellOk; rw [decide_eq_false (by omega)]; simp)]; rfl
      · have h0' : 0 ≤ arity c.f0 := by omega
        have good : numOk c = true → some (outK l.length c.f0 c.f1 [] (parseK (parse n) (arity c.f0).toNat rest)) = some (outP l.length (if cellOk c = true then (parseK (parse n) (arity c.f0).toNat rest).bind fun s => some (⟨c.f0, c.f1, s.1⟩, s.2) else none)) := by
          intro hn
          rw [if_pos (by unfold cellOk; rw [decide_eq_true h0', hn]; rfl)]
          cases parseK (parse n) (arity c.f0).toNat rest with
          | none => rfl
          | some y => simp [outK, outP]
        have bad : numOk c = false → some ((0 : Int), (0 : Int), ([] : List S105), (0 : Int)) = some (outP l.length (if cellOk c = true then (parseK (parse n) (arity c.f0).toNat rest).bind fun s => some (⟨c.f0, c.f1, s.1⟩, s.2) else none)) := by
          intro hn
          rw [if_neg (by unfold cellOk; rw [hn]; simp)]; rfl
        have hK' := hK (k + 1) (by omega)
        rw [show ((arity c.f0).toNat : Int) = arity c.f0 by omega, ← hw] at hK'
        rw [if_neg h0]
        by_cases h3 : c.f0 = 3
        · rw [if_pos h3, spec_l1In_is, Option.bind_some]
          by_cases h4 : 1 ≤ c.f1 ∧ c.f1 ≤ 65535
          · rw [if_pos (decide_eq_true h4), j2, hK']
            exact good (by unfold numOk; rw [if_pos h3, decide_eq_true h4])
          · rw [if_neg (by rw [decide_eq_false h4]; simp), j1]
            exact bad (by unfold numOk; rw [if_pos h3, decide_eq_false h4])
        · rw [if_neg h3]
          by_cases h4 : c.f1 = 0
          · rw [show (c.f1 != 0) = false by simp [h4], j2, hK']
            exact good (by unfold numOk; rw [if_neg h3, h4]; rfl)
          · rw [show (c.f1 != 0) = true by simp [h4], j1]
            exact bad (by unfold numOk; rw [if_neg h3]; simp [h4])
def tree (l : List S109) : Int × Int × List S105 × Bool := if l.length > 30 then (0, 0, [], false) else match parse l.length l with
  | none => (0, 0, [], false)
  | some (t, r) => (t.f0, t.f1, t.f2, r.isEmpty)
theorem spec_l6Tree_is (l : List S109) : Ev (fun k => spec_l6Tree.f k l) (tree l) := by
  unfold tree
  by_cases h : (l.length : Int) > 30
  · rw [if_pos (by omega)]
    exact Ev.congr (fun k => by unfold spec_l6Tree.f; rw [if_pos h]) (Ev.now _)
  · rw [if_neg (by omega)]
    obtain ⟨K, hK⟩ := read_is l (by omega) l.length l [] rfl (Nat.le_refl _)
    replace hK : ∀ k, K ≤ k → spec_l6Read.f k l 0 = _ := hK
    refine ⟨K, fun k hk => ?_⟩
    simp only [spec_l6Tree.f]
    rw [if_neg h, hK k hk, Option.bind_some]
    cases h1 : parse l.length l with
    | none =>
      rw [show outP l.length none = ((0 : Int), (0 : Int), ([] : List S105), (0 : Int)) from rfl]
      dsimp only
      rw [if_neg (by omega)]
    | some x =>
      obtain ⟨t, r⟩ := x
      obtain ⟨c, u, e⟩ := parse_cut _ _ _ _ h1
      have hr : r.length < l.length := by
        have := congrArg List.length e
        simp at this; omega
      rw [show outP l.length (some (t, r)) = (t.f0, t.f1, t.f2, (l.length : Int) - (r.length : Int)) from rfl]
      dsimp only
      rw [if_pos (by omega)]
      congr 4
      cases r with
      | nil => simp
      | cons a r => simp; omega
def scanA : Nat → List S109 → Option (List S109)
  | _, [] => none
  | n, c :: r => if arity c.f0 < 0 then none else if n + (arity c.f0).toNat = 1 then some r else scanA (n + (arity c.f0).toNat - 1) r
def outA (L : Nat) (a : Int) : Option (List S109) → Int
  | none => -1
  | some r => (L : Int) - (r.length : Int) - a
theorem impl_sizeAt_is (l : List S109) (hl : l.length ≤ 1000000) (a : Int) (ha : 0 ≤ a) (ha2 : a ≤ 1000000) : ∀ (rest pre : List S109) (n : Nat), l = pre ++ rest → 1 ≤ n → n + 2 * rest.length ≤ 4000000 → Ev (fun k => impl_sizeAt.l0 k l a (n : Int) (pre.length : Int)) (outA l.length a (scanA n rest)) := by
  intro rest
  induction rest with
  | nil =>
    intro pre n e h1 h2
    refine Ev.step (f := fun _ => some (-1)) (fun k => ?_) (Ev.now _)
    simp only [impl_sizeAt.l0]
    rw [if_neg (by rw [e]; simp)]
  | cons c rest ih =>
    intro pre n e h1 h2
    have hr : rd_T109 l (pre.length : Int) = c := by rw [e]; exact rdm_ReCell _ _ _
    have hlt : (pre.length : Int) < (l.length : Int) := by rw [e]; exact lt_mid _ _ _
    have hw := wrap_mid (pre := pre) (a := c) (rest := rest) (by rw [← e]; simp only [maxLen]; omega)
    have hc := arity_range c.f0
    simp only [List.length_cons] at h2
    simp only [scanA]
    by_cases h0 : arity c.f0 < 0
    · rw [if_pos h0]
      refine ⟨2, fun k hk => ?_⟩
      obtain ⟨k, rfl⟩ : ∃ m, k = m + 2 := ⟨k - 2, by omega⟩
      show impl_sizeAt.l0 (k + 1 + 1) l a (n : Int) (pre.length : Int) = _
      simp only [impl_sizeAt.l0]
      rw [if_pos hlt, if_pos (len_nn _), hr, impl_partsOf_is, Option.bind_some, if_pos h0]; rfl
    · rw [if_neg h0]
      have w1 : wrap64 (arity c.f0 - 1) = arity c.f0 - 1 := wrap_id (by omega) (by omega)
      have w2 : wrap64 ((n : Int) + (arity c.f0 - 1)) = (n : Int) + (arity c.f0 - 1) := wrap_id (by omega) (by omega)
      by_cases h3 : n + (arity c.f0).toNat = 1
      · rw [if_pos h3]
        refine ⟨2, fun k hk => ?_⟩
        obtain ⟨k, rfl⟩ : ∃ m, k = m + 2 := ⟨k - 2, by omega⟩
        show impl_sizeAt.l0 (k + 1 + 1) l a (n : Int) (pre.length : Int) = _
        simp only [impl_sizeAt.l0]
        rw [if_pos hlt, if_pos (len_nn _), hr, impl_partsOf_is, Option.bind_some, if_neg h0, w1, w2, if_pos (by omega), hw]
        rw [wrap_id (by simp; omega) (by rw [e] at hl; simp at hl ⊢; omega)]
        simp only [outA]
        rw [e]; simp; omega
      · rw [if_neg h3]
        obtain ⟨K, hK⟩ := ih (pre ++ [c]) (n + (arity c.f0).toNat - 1) (by rw [e]; simp) (by omega) (by omega)
        replace hK : ∀ k, K ≤ k → impl_sizeAt.l0 k l a ((n + (arity c.f0).toNat - 1 : Nat) : Int) ((pre ++ [c]).length : Int) = _ := hK
        refine ⟨K + 2, fun k hk => ?_⟩
        obtain ⟨k, rfl⟩ : ∃ m, k = m + 2 := ⟨k - 2, by omega⟩
        show impl_sizeAt.l0 (k + 1 + 1) l a (n : Int) (pre.length : Int) = _
        rw [impl_sizeAt.l0, if_pos hlt, if_pos (len_nn _), hr, impl_partsOf_is, Option.bind_some, if_neg h0, w1, w2, if_neg (by omega), hw, show (n : Int) + (arity c.f0 - 1) = ((n + (arity c.f0).toNat - 1 : Nat) : Int) by omega, hK (k + 1) (by omega)]
theorem scan_scanA : ∀ (rest : List S109) (n : Nat) (r : List S109), scan (n + 1) rest = some r → scanA (n + 1) rest = some r ∧ ∃ u, rest = u ++ r ∧ u.all numOk = true
  | [], n, r, h => by simp [scan] at h
  | c :: rest, n, r, h => by
    simp only [scan] at h
    by_cases hc : cellOk c = true
    · rw [if_pos hc] at h
      have hc' := hc
      unfold cellOk at hc
      simp only [Bool.and_eq_true, decide_eq_true_eq] at hc
      simp only [scanA]
      rw [if_neg (by omega)]
      by_cases h3 : n + 1 + (arity c.f0).toNat = 1
      · rw [if_pos h3]
        rw [show n + (arity c.f0).toNat = 0 by omega] at h
        simp only [scan, Option.some.injEq] at h
        exact ⟨by rw [h], [c], by rw [h]; rfl, by simp [hc.2]⟩
      · rw [if_neg h3]
        obtain ⟨m, hm⟩ : ∃ m, n + (arity c.f0).toNat = m + 1 := ⟨n + (arity c.f0).toNat - 1, by omega⟩
        rw [hm] at h
        obtain ⟨h4, u, h5, h6⟩ := scan_scanA rest m r h
        rw [show n + 1 + (arity c.f0).toNat - 1 = m + 1 by omega]
        exact ⟨h4, c :: u, by rw [h5]; rfl, by simp [hc.2]; simpa using h6⟩
    · rw [if_neg hc] at h; cases h
theorem scanA_scan : ∀ (rest : List S109) (n : Nat), rest.all numOk = true → scan (n + 1) rest = scanA (n + 1) rest
  | [], n, _ => by simp [scan, scanA]
  | c :: rest, n, h => by
    simp only [List.all_cons, Bool.and_eq_true] at h
    simp only [scan, scanA]
    by_cases h0 : arity c.f0 < 0
    · rw [if_pos h0, if_neg (by unfold cellOk; rw [decide_eq_false (by omega)]; simp)]
    · rw [if_neg h0, if_pos (by unfold cellOk; rw [decide_eq_true (by omega), h.1]; rfl)]
      by_cases h3 : n + 1 + (arity c.f0).toNat = 1
      · rw [if_pos h3, show n + (arity c.f0).toNat = 0 by omega]; simp [scan]
      · rw [if_neg h3]
        obtain ⟨m, hm⟩ : ∃ m, n + (arity c.f0).toNat = m + 1 := ⟨n + (arity c.f0).toNat - 1, by omega⟩
        rw [hm, show n + 1 + (arity c.f0).toNat - 1 = m + 1 by omega]
        exact scanA_scan rest m h.2
theorem idx_ReCell (l : List S109) (hl : l.length ≤ maxLen) : ∀ (rest pre : List S109), l = pre ++ rest →
    ∃ r : Int, Ev (fun k => slices_IndexFunc_impl_ReCell_impl_ReCell.l0 k l (l.length : Int) (pre.length : Int)) r ∧ (decide (r ≥ 0) = !rest.all numOk) := by
  intro rest
  induction rest with
  | nil =>
    intro pre e
    refine ⟨-1, Ev.step (f := fun _ => some (-1)) (fun k => ?_) (Ev.now _), by simp⟩
    simp only [slices_IndexFunc_impl_ReCell_impl_ReCell.l0]
    rw [if_neg (by rw [e]; simp)]
  | cons a rest ih =>
    intro pre e
    have hlt : (pre.length : Int) < (l.length : Int) := by rw [e]; exact lt_mid _ _ _
    have h1 : rd_T109 l (pre.length : Int) = a := by rw [e]; exact rdm_ReCell _ _ _
    have hb : impl_GoodRegex_1.f a.f0 a.f1 = some (!numOk a) := by
      unfold impl_GoodRegex_1.f numOk
      by_cases h3 : a.f0 = 3
      · rw [if_pos h3, if_pos h3]
        simp only [impl_isAsn.f, impl_within_is, Option.bind_some]
        by_cases h4 : 1 ≤ a.f1 ∧ a.f1 ≤ 65535
        · rw [if_pos (decide_eq_true h4), decide_eq_true h4]; rfl
        · rw [if_neg (by rw [decide_eq_false h4]; simp), decide_eq_false h4]; rfl
      · rw [if_neg h3, if_neg h3]; rfl
    by_cases hm : numOk a = true
    · obtain ⟨r, hr, hb2⟩ := ih (pre ++ [a]) (by rw [e]; simp)
      refine ⟨r, Ev.step (fun k => ?_) hr, by rw [hb2]; simp [hm]⟩
      simp only [slices_IndexFunc_impl_ReCell_impl_ReCell.l0]
      rw [if_pos hlt, if_pos (len_nn _), if_pos hlt, h1, hb, Option.bind_some, hm]
      rw [if_neg (by simp), wrap_mid (rest := rest) (by rw [← e]; exact hl)]
    · have hm' : numOk a = false := by simpa using hm
      refine ⟨(pre.length : Int), Ev.step (f := fun _ => some (pre.length : Int)) (fun k => ?_) (Ev.now _), by simp [hm']⟩
      simp only [slices_IndexFunc_impl_ReCell_impl_ReCell.l0]
      rw [if_pos hlt, if_pos (len_nn _), if_pos hlt, h1, hb, Option.bind_some, hm']
      rw [if_pos (by simp)]
def endsAll : Option (List S109) → Bool
  | some [] => true
  | _ => false
theorem tree_ok (l : List S109) : (tree l).2.2.2 = (decide (1 ≤ l.length ∧ l.length ≤ 30) && (endsAll (scanA 1 l) && l.all numOk)) := by
  unfold tree
  by_cases h : l.length > 30
  · rw [if_pos h, decide_eq_false (by omega)]; rfl
  · rw [if_neg h]
    have hs := parse_scan l.length l (Nat.le_refl _)
    cases l with
    | nil => simp [parse]
    | cons c l =>
      rw [decide_eq_true (by simp at h ⊢; omega), Bool.true_and]
      cases h1 : parse (c :: l).length (c :: l) with
      | none =>
        rw [h1] at hs
        by_cases h2 : (c :: l).all numOk = true
        · rw [← scanA_scan (c :: l) 0 h2, ← hs]; simp [endsAll]
        · have : (c :: l).all numOk = false := by simpa using h2
          rw [this]; simp
      | some x =>
        obtain ⟨t, r⟩ := x
        rw [h1] at hs
        have hs' : scan 1 (c :: l) = some r := hs.symm
        obtain ⟨h2, u, h3, h4⟩ := scan_scanA (c :: l) 0 r hs'
        rw [Nat.zero_add] at h2
        rw [h2]
        cases r with
        | nil =>
          rw [List.append_nil] at h3
          rw [h3, h4]; simp [endsAll]
        | cons a r => simp [endsAll]
theorem impl_GoodRegex_is (l : List S109) (hl : l.length ≤ 1048576) : Ev (fun k => impl_GoodRegex.f k l) (tree l).2.2.2 := by
  rw [tree_ok]
  by_cases h : 1 ≤ (l.length : Int) ∧ (l.length : Int) ≤ 30
  · rw [decide_eq_true (by omega), Bool.true_and]
    obtain ⟨K1, h1⟩ := impl_sizeAt_is l (by omega) 0 (by omega) (by omega) l [] 1 rfl (by omega) (by omega)
    obtain ⟨r, ⟨K2, h2⟩, h3⟩ := idx_ReCell l (by simp only [maxLen]; omega) l [] rfl
    replace h1 : ∀ k, K1 ≤ k → impl_sizeAt.f k l 0 = _ := h1
    replace h2 : ∀ k, K2 ≤ k → slices_IndexFunc_impl_ReCell_impl_ReCell.f k l = _ := h2
    refine ⟨K1 + K2, fun k hk => ?_⟩
    simp only [impl_GoodRegex.f, slices_ContainsFunc_impl_ReCell_impl_ReCell.f]
    rw [impl_within_is, Option.bind_some, if_pos (decide_eq_true h), h1 k (by omega), Option.bind_some, h2 k (by omega)]
    simp only [Option.bind_some]
    rw [h3]
    cases h4 : scanA 1 l with
    | none =>
      rw [show outA l.length 0 none = -1 from rfl, if_neg (by omega)]; simp [endsAll]
    | some r =>
      cases r with
      | nil => rw [show outA l.length 0 (some []) = (l.length : Int) from by simp [outA], if_pos rfl]; simp [endsAll]
      | cons a r => rw [if_neg (by simp [outA]; omega)]; simp [endsAll]
  · rw [decide_eq_false (by omega), Bool.false_and]
    refine ⟨0, fun k _ => ?_⟩
    simp only [impl_GoodRegex.f]
    rw [impl_within_is, Option.bind_some, if_neg (by rw [decide_eq_false h]; simp)]
theorem treeOf_is : ∀ (n : Nat) (l : List S109) (x : S105 × List S109), parse n l = some x → impl_treeOf.f (n + 1) l = some x
  | 0, l, x, h => by simp [parse] at h
  | n + 1, [], x, h => by simp [parse] at h
  | n + 1, c :: r, x, h => by
    simp only [parse] at h
    by_cases hc : cellOk c = true
    · rw [if_pos hc] at h
      cases h1 : parseK (parse n) (arity c.f0).toNat r with
      | none => rw [h1] at h; cases h
      | some y =>
        obtain ⟨ts, q⟩ := y
        rw [h1, Option.bind_some] at h
        have ha := arity_range c.f0
        have kids : ∀ (m : Nat) (r : List S109) (y : List S105 × List S109), parseK (parse n) m r = some y → kidsP (impl_treeOf.f (n + 1)) m r = some y ∧ y.1.length = m := by
          intro m
          induction m with
          | zero =>
            intro r y hy
            simp only [parseK, Option.some.injEq] at hy
            subst hy
            exact ⟨rfl, rfl⟩
          | succ m ih =>
            intro r y hy
            simp only [parseK] at hy
            obtain ⟨a, e1, hy⟩ := Option.bind_eq_some_iff.mp hy
            obtain ⟨b, e2, hy⟩ := Option.bind_eq_some_iff.mp hy
            simp only [Option.some.injEq] at hy
            subst hy
            obtain ⟨i1, i2⟩ := ih a.2 b e2
            simp only [kidsP]
            rw [treeOf_is n r a e1, Option.bind_some, i1, Option.bind_some]
            exact ⟨rfl, by simp [i2]⟩
        obtain ⟨k1, k2⟩ := kids _ _ _ h1
        rw [impl_treeOf.f, impl_partsOf_is, Option.bind_some, if_pos (by omega), k1, Option.bind_some, if_pos (by rw [k2]; omega)]
        exact h
    · rw [if_neg hc] at h; cases h
theorem empty_both : ∀ (n : Nat) (l : List S109) (t : S105) (q : List S109), parse n l = some (t, q) → ∃ b, Ev (fun k => spec_l6Empty.f k t.f0 t.f1 t.f2) b ∧ Ev (fun k => impl_empty.f k t) b
  | 0, l, t, q, h => by simp [parse] at h
  | n + 1, [], t, q, h => by simp [parse] at h
  | n + 1, c :: r, t, q, h => by
    simp only [parse] at h
    by_cases hc : cellOk c = true
    · rw [if_pos hc] at h
      obtain ⟨⟨ts, q1⟩, h1, h⟩ := Option.bind_eq_some_iff.mp h
      simp only [Option.some.injEq, Prod.mk.injEq] at h
      obtain ⟨rfl, rfl⟩ := h
      dsimp only
      have leaf : ∀ b : Bool, (∀ k, spec_l6Empty.f (k + 2) c.f0 c.f1 ts = some b) → (∀ k, impl_empty.f (k + 2) ⟨c.f0, c.f1, ts⟩ = some b) → ∃ b, Ev (fun k => spec_l6Empty.f k c.f0 c.f1 ts) b ∧ Ev (fun k => impl_empty.f k ⟨c.f0, c.f1, ts⟩) b := fun b e1 e2 => ⟨b, ⟨2, fun k hk => by
        obtain ⟨k, rfl⟩ : ∃ m, k = m + 2 := ⟨k - 2, by omega⟩
        exact e1 k⟩, ⟨2, fun k hk => by
        obtain ⟨k, rfl⟩ : ∃ m, k = m + 2 := ⟨k - 2, by omega⟩
        exact e2 k⟩⟩
      by_cases h2 : c.f0 = 2
      · refine leaf true (fun k => ?_) (fun k => ?_)
        · rw [show k + 2 = (k + 1) + 1 from rfl, spec_l6Empty.f, if_pos h2, spec_l6Empty.j0, if_pos (by simp [h2])]
        · rw [show k + 2 = (k + 1) + 1 from rfl, impl_empty.f, if_pos h2]
      by_cases h7 : c.f0 = 7
      · refine leaf true (fun k => ?_) (fun k => ?_)
        · rw [show k + 2 = (k + 1) + 1 from rfl, spec_l6Empty.f, if_neg h2, spec_l6Empty.j0, if_pos (by simp [h7])]
        · rw [show k + 2 = (k + 1) + 1 from rfl, impl_empty.f, if_neg h2, if_pos h7]
      have hb7 : ¬ ((c.f0 == 7) = true) := by simp [h7]
      by_cases h56 : c.f0 = 5 ∨ c.f0 = 6
      · have ha : (arity c.f0).toNat = 2 := by rcases h56 with e | e <;> (rw [e]; rfl)
        rw [ha] at h1
        simp only [parseK] at h1
        obtain ⟨⟨t1, q2⟩, e1, h1⟩ := Option.bind_eq_some_iff.mp h1
        obtain ⟨⟨u, q3⟩, e2, h1⟩ := Option.bind_eq_some_iff.mp h1
        obtain ⟨⟨t2, q4⟩, e3, e2⟩ := Option.bind_eq_some_iff.mp e2
        simp only [Option.bind_some, Option.some.injEq, Prod.mk.injEq] at e2 h1
        obtain ⟨rfl, rfl⟩ := e2
        obtain ⟨rfl, rfl⟩ := h1
        obtain ⟨b1, ⟨K1, s1⟩, ⟨L1, i1⟩⟩ := empty_both n r t1 q2 e1
        obtain ⟨b2, ⟨K2, s2⟩, ⟨L2, i2⟩⟩ := empty_both n q2 t2 q4 e3
        replace s1 : ∀ k, K1 ≤ k → spec_l6Empty.f k t1.f0 t1.f1 t1.f2 = some b1 := s1
        replace s2 : ∀ k, K2 ≤ k → spec_l6Empty.f k t2.f0 t2.f1 t2.f2 = some b2 := s2
        replace i1 : ∀ k, L1 ≤ k → impl_empty.f k t1 = some b1 := i1
        replace i2 : ∀ k, L2 ≤ k → impl_empty.f k t2 = some b2 := i2
        have r0 : rd_T105 [t1, t2] 0 = t1 := rfl
        have r1 : rd_T105 [t1, t2] 1 = t2 := rfl
        rcases h56 with h5 | h6
        · refine ⟨b1 && b2, ⟨K1 + K2 + 2, fun k hk => ?_⟩, ⟨L1 + L2 + 1, fun k hk => ?_⟩⟩
          · obtain ⟨k, rfl⟩ : ∃ m, k = m + 2 := ⟨k - 2, by omega⟩
            have x1 := s1 k (by omega)
            have x2 := s2 k (by omega)
            show spec_l6Empty.f (k + 1 + 1) c.f0 c.f1 [t1, t2] = _
            rw [spec_l6Empty.f, if_neg h2, spec_l6Empty.j0, if_neg hb7, if_pos h5, if_pos (by simp), r0, x1, Option.bind_some]
            cases b1 with
            | true => rw [if_pos rfl, if_pos (by simp), r1, x2]; rfl
            | false => rw [if_neg (by simp)]; rfl
          · obtain ⟨k, rfl⟩ : ∃ m, k = m + 1 := ⟨k - 1, by omega⟩
            have x1 := i1 k (by omega)
            have x2 := i2 k (by omega)
            show impl_empty.f (k + 1) ⟨c.f0, c.f1, [t1, t2]⟩ = _
            rw [impl_empty.f, if_neg h2, if_neg h7, if_pos h5, if_pos (by simp), r0, x1, Option.bind_some]
            cases b1 with
            | true => rw [if_pos rfl, r1, x2]; rfl
            | false => rw [if_neg (by simp)]; rfl
        · have h5 : ¬ c.f0 = 5 := by omega
          refine ⟨b1 || b2, ⟨K1 + K2 + 2, fun k hk => ?_⟩, ⟨L1 + L2 + 1, fun k hk => ?_⟩⟩
          · obtain ⟨k, rfl⟩ : ∃ m, k = m + 2 := ⟨k - 2, by omega⟩
            have x1 := s1 k (by omega)
            have x2 := s2 k (by omega)
            show spec_l6Empty.f (k + 1 + 1) c.f0 c.f1 [t1, t2] = _
            rw [spec_l6Empty.f, if_neg h2, spec_l6Empty.j0, if_neg hb7, if_neg h5, if_pos h6, if_pos (by simp), r0, x1, Option.bind_some]
            cases b1 with
            | true => rw [if_pos rfl]; rfl
            | false => rw [if_neg (by simp), if_pos (by simp), r1, x2]; rfl
          · obtain ⟨k, rfl⟩ : ∃ m, k = m + 1 := ⟨k - 1, by omega⟩
            have x1 := i1 k (by omega)
            have x2 := i2 k (by omega)
            show impl_empty.f (k + 1) ⟨c.f0, c.f1, [t1, t2]⟩ = _
            rw [impl_empty.f, if_neg h2, if_neg h7, if_neg h5, if_pos h6, if_pos (by simp), r0, x1, Option.bind_some]
            cases b1 with
            | true => rw [if_pos rfl]; rfl
            | false => rw [if_neg (by simp), r1, x2]; rfl
      · have h5 : ¬ c.f0 = 5 := fun e => h56 (.inl e)
        have h6 : ¬ c.f0 = 6 := fun e => h56 (.inr e)
        refine leaf false (fun k => ?_) (fun k => ?_)
        · rw [show k + 2 = (k + 1) + 1 from rfl, spec_l6Empty.f, if_neg h2, spec_l6Empty.j0, if_neg hb7, if_neg h5, if_neg h6]
        · rw [show k + 2 = (k + 1) + 1 from rfl, impl_empty.f, if_neg h2, if_neg h7, if_neg h5, if_neg h6]
    · rw [if_neg hc] at h; cases h
theorem TakesEmpty_both (l : List S109) (hl : l.length ≤ 1048576) : ∃ b : Bool × Bool, Ev (fun k => spec_TakesEmpty.f k l) b ∧ Ev (fun k => impl_TakesEmpty.f k l) b := by
  obtain ⟨K1, h1⟩ := spec_l6Tree_is l
  obtain ⟨K2, h2⟩ := impl_GoodRegex_is l hl
  replace h1 : ∀ k, K1 ≤ k → spec_l6Tree.f k l = _ := h1
  replace h2 : ∀ k, K2 ≤ k → impl_GoodRegex.f k l = _ := h2
  by_cases h : (tree l).2.2.2 = true
  · have hp : ∃ t, parse l.length l = some (t, []) ∧ tree l = (t.f0, t.f1, t.f2, true) := by
      have h' := h
      unfold tree at h' ⊢
      by_cases g1 : l.length > 30
      · rw [if_pos g1] at h'; cases h'
      · rw [if_neg g1] at h' ⊢
        cases hp : parse l.length l with
        | none => rw [hp] at h'; cases h'
        | some x =>
          obtain ⟨t, r⟩ := x
          rw [hp] at h'
          simp only [List.isEmpty_iff] at h'
          subst h'
          exact ⟨t, rfl, rfl⟩
    obtain ⟨t, hp, ht⟩ := hp
    obtain ⟨b, ⟨K3, h3⟩, ⟨K4, h4⟩⟩ := empty_both _ _ _ _ hp
    replace h3 : ∀ k, K3 ≤ k → spec_l6Empty.f k t.f0 t.f1 t.f2 = some b := h3
    replace h4 : ∀ k, K4 ≤ k → impl_empty.f k t = some b := h4
    have ht0 := treeOf_is _ _ _ hp
    have hmono : ∀ d, impl_treeOf.f (l.length + 1 + d) l = some (t, []) := by
      intro d
      induction d with
      | zero => exact ht0
      | succ d ih => exact impl_treeOf.mono _ _ _ ih
    refine ⟨(b, true), ⟨K1 + K3, fun k hk => ?_⟩, ⟨K2 + K4 + l.length + 1, fun k hk => ?_⟩⟩
    · simp only [spec_TakesEmpty.f]
      rw [h1 k (by omega), Option.bind_some, ht]
      dsimp only
      rw [if_pos rfl, h3 k (by omega)]; rfl
    · simp only [impl_TakesEmpty.f]
      have := hmono (k - (l.length + 1))
      rw [show l.length + 1 + (k - (l.length + 1)) = k by omega] at this
      rw [h2 k (by omega), Option.bind_some, if_pos h, this, Option.bind_some]
      dsimp only
      rw [h4 k (by omega)]; rfl
  · refine ⟨(false, false), ⟨K1, fun k hk => ?_⟩, ⟨K2, fun k hk => ?_⟩⟩
    · simp only [spec_TakesEmpty.f]
      rw [h1 k hk, Option.bind_some, if_neg h]
    · simp only [impl_TakesEmpty.f]
      rw [h2 k hk, Option.bind_some, if_neg h]

end FnExactTakesEmptyUses
open Go.RowKit Go.Proofs.Ytkkchcalhomgcaa.PFnExactTakesEmpty Go.Proofs.YtkkchcalhomgcaaW.PrintWords Go.Proofs.YtkkchcalhomgcaaW.PrintLast Go.Proofs.YtkkchcalhomgcaaW.PrintMore Go.Proofs.Ytkkchcalhomgcaa.Pfx Go.Proofs.Ytkkchcalhomgcaa.Loop FnExactTakesEmptyUses
set_option linter.unusedVariables false
theorem FnExactTakesEmpty (l0 : List S111) (m0 : l0.length ≤ maxLen) (w0 : ∀ a, a ∈ l0 → ((Lit.int .i64 a.f0).wf = true ∧ (Lit.int .i64 a.f1).wf = true)) : ∃ k, laws_FnExactTakesEmpty.f k l0 = some true := by
  obtain ⟨r, hr, hb⟩ := laws_szReCellS_is l0 m0
  by_cases h : r < 0
  · exact ⟨0, by unfold laws_FnExactTakesEmpty.f; rw [hr, Option.bind_some, if_pos h]⟩
  · have hl := hb h
    have hl2 : (l0.map fun p => (⟨p.f0, p.f1⟩ : S109)).length = l0.length := by simp
    obtain ⟨b, ⟨K1, h1⟩, ⟨K2, h2⟩⟩ := TakesEmpty_both (l0.map fun p => (⟨p.f0, p.f1⟩ : S109)) (by omega)
    replace h1 : ∀ k, K1 ≤ k → spec_TakesEmpty.f k _ = _ := h1
    replace h2 : ∀ k, K2 ≤ k → impl_TakesEmpty.f k _ = _ := h2
    obtain ⟨K, hK⟩ : ∃ K : Nat, K1 + K2 + l0.length + 10 ≤ K := ⟨_, Nat.le_refl _⟩
    refine ⟨K + 1 + 1 + 1, ?_⟩
    unfold laws_FnExactTakesEmpty.f
    rw [hr, Option.bind_some, if_neg h, laws_toReCellS_is _ l0 hl (by omega)]
    simp only [Option.bind_some]
    rw [h1 _ (by omega), h2 _ (by omega)]
    simp only [Option.bind_some, bne_self_eq_false]
    rw [if_neg (by simp), laws_FnExactTakesEmpty.j0, if_neg (by simp), laws_toReCellS_is _ l0 hl (by omega)]
    simp only [Option.bind_some]
    rw [laws_eqReCellS_refl _ _ (by simp only [maxLen]; omega) (by omega)]
    simp
end Go.Proofs.Ytkkchcalhomgcaa.Pure
