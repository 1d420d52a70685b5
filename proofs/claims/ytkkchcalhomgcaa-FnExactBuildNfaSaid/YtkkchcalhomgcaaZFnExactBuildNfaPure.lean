/- The pure statement of FnExactBuildNfa: what the printed functions tell is what the reference tells. No condition but the arguments' own bounds. -/
import Derived.Test.YtkkchcalhomgcaaYFnExactBuildNfax7
import Derived.Test.YtkkchcalhomgcaaQFnExactBuildNfa
namespace Go.Proofs.Ytkkchcalhomgcaa.Pure
namespace FnExactBuildNfaUses
open Go.RowKit Go.Proofs.Ytkkchcalhomgcaa.PFnExactBuildNfa Go.Proofs.YtkkchcalhomgcaaW.PrintWords Go.Proofs.YtkkchcalhomgcaaW.PrintLast Go.Proofs.YtkkchcalhomgcaaW.PrintMore Go.Proofs.Ytkkchcalhomgcaa.Pfx Go.Proofs.Ytkkchcalhomgcaa.Loop Go.Proofs.Ytkkchcalhomgcaa.Tbl
set_option linter.unusedVariables false
set_option linter.unusedSimpArgs false

theorem spec_l1In_is (a lo hi : Int) : spec_l1In.f a lo hi = some (decide (lo ≤ a ∧ a ≤ hi)) := by
  unfold spec_l1In.f
  by_cases h : lo ≤ a
  · rw [if_pos h]; simp [h]
  · rw [if_neg h]; simp [h]
theorem impl_within_is (a lo hi : Int) : impl_within.f a lo hi = some (decide (lo ≤ a ∧ a ≤ hi)) := by
  unfold impl_within.f
  by_cases h : lo ≤ a
  · rw [if_pos h]; simp [h]
  · rw [if_neg h]; simp [h]
theorem rdm_ReCell (pre : List S109) (a : S109) (rest : List S109) : rd_T109 (pre ++ a :: rest) (pre.length : Int) = a := by unfold rd_T109; simp
theorem rdm_LReCell (pre : List S111) (a : S111) (rest : List S111) : rd_T111 (pre ++ a :: rest) (pre.length : Int) = a := by unfold rd_T111; simp
theorem laws_eqReCellS_refl (k : Nat) (l : List S109) (hl : l.length ≤ maxLen) (hk : l.length < k) : laws_eqReCellS.f k l l = some true := by
  unfold laws_eqReCellS.f
  rw [if_pos rfl]
  have key : ∀ (rest pre : List S109) (k : Nat), l = pre ++ rest → rest.length < k → laws_eqReCellS.l0 k l l (pre.length : Int) = some true := by
    intro rest
    induction rest with
    | nil =>
      intro pre k e hk
      obtain ⟨k, rfl⟩ : ∃ m, k = m + 1 := ⟨k - 1, by omega⟩
      simp only [laws_eqReCellS.l0]
      rw [if_neg (by rw [e]; simp)]
    | cons a rest ih =>
      intro pre k e hk
      obtain ⟨k, rfl⟩ : ∃ m, k = m + 1 := ⟨k - 1, by omega⟩
      simp only [laws_eqReCellS.l0, laws_eqReCell.f]
      rw [if_pos (by rw [e]; exact lt_mid _ _ _), if_pos (len_nn _), if_pos (by rw [e]; exact lt_mid _ _ _)]
      simp only [Option.bind_some, if_true]
      rw [wrap_mid (rest := rest) (by rw [← e]; exact hl)]
      exact ih (pre ++ [a]) k (by rw [e]; simp) (by simp at hk; omega)
  exact key l [] k rfl hk
theorem laws_szReCellS_is (l : List S111) (m0 : l.length ≤ maxLen) : ∃ r, laws_szReCellS.f l 1048576 = some r ∧ (¬ r < 0 → l.length ≤ 1048576) := by
  unfold laws_szReCellS.f
  by_cases h : wrap64 (1048576 - (l.length : Int)) < 0
  · exact ⟨_, if_pos h, fun h' => absurd (by omega) h'⟩
  · exact ⟨_, if_neg h, fun h' => sz_ok m0 (if_neg h) h'⟩
theorem laws_toReCellS_is (k : Nat) (l : List S111) (hl : l.length ≤ 1048576) (hk : l.length < k) : laws_toReCellS.f k l = some (l.map fun p => (⟨p.f0, p.f1⟩ : S109)) := by
  unfold laws_toReCellS.f
  rw [if_pos (len_nn _), if_pos (by simp; omega)]
  have key : ∀ (rest pre : List S111) (k : Nat), l = pre ++ rest → rest.length < k →
      laws_toReCellS.l0 k l ((pre.map fun p => (⟨p.f0, p.f1⟩ : S109)) ++ List.replicate rest.length z109) (pre.length : Int) = some (l.map fun p => (⟨p.f0, p.f1⟩ : S109)) := by
    intro rest
    induction rest with
    | nil =>
      intro pre k e hk
      obtain ⟨k, rfl⟩ : ∃ m, k = m + 1 := ⟨k - 1, by omega⟩
      simp only [laws_toReCellS.l0]
      rw [if_neg (by rw [e]; simp)]
      simp [e]
    | cons a rest ih =>
      intro pre k e hk
      obtain ⟨k, rfl⟩ : ∃ m, k = m + 1 := ⟨k - 1, by omega⟩
      simp only [laws_toReCellS.l0, laws_toReCell.f, Option.bind_some]
      rw [if_pos (by rw [e]; exact lt_mid _ _ _), if_pos (len_nn _), if_pos (by simp; omega), wrap_mid (rest := rest) (by rw [← e]; simp only [maxLen]; omega)]
      have h1 : rd_T111 l (pre.length : Int) = a := by rw [e]; exact rdm_LReCell _ _ _
      rw [h1, List.length_cons, List.replicate_succ]
      have h2 := ih (pre ++ [a]) k (by rw [e]; simp) (by simp at hk; omega)
      have h3 : ((pre.map fun p => (⟨p.f0, p.f1⟩ : S109)) ++ z109 :: List.replicate rest.length z109).set ((pre.length : Int)).toNat (⟨a.f0, a.f1⟩ : S109) = ((pre ++ [a]).map fun p => (⟨p.f0, p.f1⟩ : S109)) ++ List.replicate rest.length z109 := by
        have := set_mid (pre.map fun p => (⟨p.f0, p.f1⟩ : S109)) z109 ⟨a.f0, a.f1⟩ (List.replicate rest.length z109)
        rw [List.length_map] at this
        rw [this]; simp
      rw [h3]; exact h2
  have := key l [] k rfl hk
  simpa using this
def arity (x : Int) : Int := if x = 1 ∨ x = 2 ∨ x = 3 ∨ x = 4 then 0 else if x = 5 ∨ x = 6 then 2 else if x = 7 then 1 else -1
theorem arity_range (x : Int) : -1 ≤ arity x ∧ arity x ≤ 2 := by
  unfold arity
  by_cases h1 : x = 1 ∨ x = 2 ∨ x = 3 ∨ x = 4
  · rw [if_pos h1]; omega
  · rw [if_neg h1]
    by_cases h2 : x = 5 ∨ x = 6
    · rw [if_pos h2]; omega
    · rw [if_neg h2]
      by_cases h3 : x = 7
      · rw [if_pos h3]; omega
      · rw [if_neg h3]; omega
def numOk (c : S109) : Bool := if c.f0 = 3 then decide (1 ≤ c.f1 ∧ c.f1 ≤ 65535) else (c.f1 == 0)
def cellOk (c : S109) : Bool := decide (0 ≤ arity c.f0) && numOk c
def scan : Nat → List S109 → Option (List S109)
  | 0, r => some r
  | _ + 1, [] => none
  | n + 1, c :: r => if cellOk c = true then scan (n + (arity c.f0).toNat) r else none
  termination_by _ l => l.length
theorem scan_add (m : Nat) : ∀ (l : List S109) (n : Nat), scan (n + m) l = (scan n l).bind (scan m)
  | [], 0 => by simp [scan]
  | [], n + 1 => by
    rw [show n + 1 + m = (n + m) + 1 by omega]
    simp [scan]
  | c :: l, 0 => by simp [scan]
  | c :: l, n + 1 => by
    rw [show n + 1 + m = (n + m) + 1 by omega]
    simp only [scan]
    by_cases h : cellOk c = true
    · rw [if_pos h, if_pos h, show n + m + (arity c.f0).toNat = (n + (arity c.f0).toNat) + m by omega]
      exact scan_add m l _
    · rw [if_neg h, if_neg h]; rfl
theorem spec_l6Arity_is (x : Int) (k : Nat) : spec_l6Arity.f (k + 2) x = some (arity x) := by
  unfold spec_l6Arity.f arity
  simp only [spec_l6Arity.j0, spec_l6Arity.j1]
  by_cases h1 : x = 1
  · simp [h1]
  · by_cases h2 : x = 2
    · simp [h2]
    · by_cases h3 : x = 3
      · simp [h3]
      · by_cases h4 : x = 4
        · simp [h4]
        · by_cases h5 : x = 5
          · simp [h5]
          · by_cases h6 : x = 6
            · simp [h6]
            · by_cases h7 : x = 7
              · simp [h7]
              · simp [h1, h2, h3, h4, h5, h6, h7]
theorem impl_partsOf_is (x : Int) (k : Nat) : impl_partsOf.f (k + 1) x = some (arity x) := by
  unfold impl_partsOf.f arity
  simp only [impl_partsOf.j0]
  by_cases h1 : x = 1
  · simp [h1]
  · by_cases h2 : x = 2
    · simp [h2]
    · by_cases h3 : x = 3
      · simp [h3]
      · by_cases h4 : x = 4
        · simp [h4]
        · by_cases h5 : x = 5
          · simp [h5]
          · by_cases h6 : x = 6
            · simp [h6]
            · by_cases h7 : x = 7
              · simp [h7]
              · simp [h1, h2, h3, h4, h5, h6, h7]
def parseK (p : List S109 → Option (S105 × List S109)) : Nat → List S109 → Option (List S105 × List S109)
  | 0, r => some ([], r)
  | m + 1, r => (p r).bind fun q => (parseK p m q.2).bind fun s => some (q.1 :: s.1, s.2)
def parse : Nat → List S109 → Option (S105 × List S109)
  | 0, _ => none
  | _ + 1, [] => none
  | n + 1, c :: r => if cellOk c = true then (parseK (parse n) (arity c.f0).toNat r).bind fun s => some (⟨c.f0, c.f1, s.1⟩, s.2) else none
theorem parseK_cut {p : List S109 → Option (S105 × List S109)} (hp : ∀ r t q, p r = some (t, q) → ∃ u, r = u ++ q) : ∀ (m : Nat) (r : List S109) (t : List S105) (q : List S109), parseK p m r = some (t, q) → ∃ u, r = u ++ q
  | 0, r, t, q, h => by
    simp only [parseK, Option.some.injEq, Prod.mk.injEq] at h
    exact ⟨[], by simp [h.2]⟩
  | m + 1, r, t, q, h => by
    simp only [parseK] at h
    cases h1 : p r with
    | none => rw [h1] at h; cases h
    | some x =>
      obtain ⟨x1, x2⟩ := x
      rw [h1, Option.bind_some] at h
      dsimp only at h
      cases h2 : parseK p m x2 with
      | none => rw [h2] at h; cases h
      | some y =>
        obtain ⟨y1, y2⟩ := y
        rw [h2, Option.bind_some] at h
        simp only [Option.some.injEq, Prod.mk.injEq] at h
        obtain ⟨u, hu⟩ := hp _ _ _ h1
        obtain ⟨v, hv⟩ := parseK_cut hp m _ _ _ h2
        exact ⟨u ++ v, by rw [hu, hv, h.2]; simp⟩
theorem parse_cut : ∀ (n : Nat) (r : List S109) (t : S105) (q : List S109), parse n r = some (t, q) → ∃ c u, r = c :: u ++ q
  | 0, r, t, q, h => by simp [parse] at h
  | n + 1, [], t, q, h => by simp [parse] at h
  | n + 1, c :: r, t, q, h => by
    simp only [parse] at h
    by_cases hc : cellOk c = true
    · rw [if_pos hc] at h
      cases h1 : parseK (parse n) (arity c.f0).toNat r with
      | none => rw [h1] at h; cases h
      | some x =>
        obtain ⟨x1, x2⟩ := x
        rw [h1, Option.bind_some] at h
        simp only [Option.some.injEq, Prod.mk.injEq] at h
        obtain ⟨u, hu⟩ := parseK_cut (fun r t q h => by obtain ⟨c, u, e⟩ := parse_cut n r t q h; exact ⟨c :: u, e⟩) _ _ _ _ h1
        exact ⟨c, u, by rw [hu, h.2]; simp⟩
    · rw [if_neg hc] at h; cases h
theorem parse_scan : ∀ (n : Nat) (r : List S109), r.length ≤ n → (parse n r).map (·.2) = scan 1 r
  | 0, r, h => by
    have : r = [] := List.length_eq_zero_iff.mp (by omega)
    subst this
    simp [parse, scan]
  | n + 1, [], h => by simp [parse, scan]
  | n + 1, c :: r, h => by
    simp only [parse, scan]
    by_cases hc : cellOk c = true
    · rw [if_pos hc, if_pos hc, Nat.zero_add]
      have hk : ∀ (m : Nat) (r : List S109), r.length ≤ n → (parseK (parse n) m r).map (·.2) = scan m r := by
        intro m
        induction m with
        | zero => intro r _; simp [parseK, scan]
        | succ m ih =>
          intro r hr
          rw [show m + 1 = 1 + m by omega, scan_add m r 1, ← parse_scan n r hr, show 1 + m = m + 1 by omega]
          simp only [parseK]
          cases h1 : parse n r with
          | none => rfl
          | some x =>
            obtain ⟨x1, x2⟩ := x
            obtain ⟨c, u, e⟩ := parse_cut _ _ _ _ h1
            have hx : x2.length ≤ n := by rw [e] at hr; simp at hr; omega
            simp only [Option.bind_some, Option.map_some]
            rw [← ih x2 hx]
            cases parseK (parse n) m x2 with
            | none => rfl
            | some y => rfl
      rw [← hk _ r (by simpa using h)]
      cases parseK (parse n) (arity c.f0).toNat r with
      | none => rfl
      | some y => rfl
    · rw [if_neg hc, if_neg hc]; rfl
def outP (L : Nat) : Option (S105 × List S109) → Int × Int × List S105 × Int
  | none => (0, 0, [], 0)
  | some (t, r) => (t.f0, t.f1, t.f2, (L : Int) - (r.length : Int))
def outK (L : Nat) (a b : Int) (ts : List S105) : Option (List S105 × List S109) → Int × Int × List S105 × Int
  | none => (0, 0, [], 0)
  | some (t, r) => (a, b, ts ++ t, (L : Int) - (r.length : Int))
theorem read_is (l : List S109) (hl : l.length ≤ 1000000) : ∀ (n : Nat) (rest pre : List S109), l = pre ++ rest → rest.length ≤ n → Ev (fun k => spec_l6Read.f k l (pre.length : Int)) (outP l.length (parse n rest)) := by
  have nil : ∀ (rest pre : List S109), l = pre ++ rest → rest = [] → Ev (fun k => spec_l6Read.f k l (pre.length : Int)) (0, 0, [], 0) := by
    intro rest pre e h0
    refine ⟨1, fun k hk => ?_⟩
    obtain ⟨k, rfl⟩ : ∃ m, k = m + 1 := ⟨k - 1, by omega⟩
    simp only [spec_l6Read.f]
    rw [if_pos (by rw [e, h0]; simp)]
  intro n
  induction n with
  | zero =>
    intro rest pre e h
    exact nil rest pre e (List.length_eq_zero_iff.mp (by omega))
  | succ n ih =>
    intro rest pre e h
    cases rest with
    | nil => exact nil [] pre e rfl
    | cons c rest =>
      have hr : rd_T109 l (pre.length : Int) = c := by rw [e]; exact rdm_ReCell _ _ _
      have hlt : (pre.length : Int) < (l.length : Int) := by rw [e]; exact lt_mid _ _ _
      have hw := wrap_mid (pre := pre) (a := c) (rest := rest) (by rw [← e]; simp only [maxLen]; omega)
      have kids : ∀ (m : Nat) (rest pre : List S109) (ts : List S105) (a b : Int), l = pre ++ rest → rest.length ≤ n → ts.length + m ≤ 1000 →
          Ev (fun k => spec_l6Read.l0 k l (pre.length : Int) (m : Int) a b ts) (outK l.length a b ts (parseK (parse n) m rest)) := by
        intro m
        induction m with
        | zero =>
          intro rest pre ts a b e h _
          refine ⟨1, fun k hk => ?_⟩
          obtain ⟨k, rfl⟩ : ∃ m, k = m + 1 := ⟨k - 1, by omega⟩
          simp only [spec_l6Read.l0, parseK, outK]
          rw [if_neg (by omega), List.append_nil, show (l.length : Int) - (rest.length : Int) = (pre.length : Int) by rw [e]; simp]
        | succ m ihm =>
          intro rest pre ts a b e h hm
          obtain ⟨K, hK⟩ := ih rest pre e h
          replace hK : ∀ k, K ≤ k → spec_l6Read.f k l (pre.length : Int) = _ := hK
          cases h1 : parse n rest with
          | none =>
            refine ⟨K + 1, fun k hk => ?_⟩
            obtain ⟨k, rfl⟩ : ∃ m, k = m + 1 := ⟨k - 1, by omega⟩
            simp only [spec_l6Read.l0]
            rw [if_pos (by omega), hK k (by omega), Option.bind_some, h1]
            simp only [outP]
            rw [if_pos trivial]
            simp only [parseK, h1, Option.bind_none, outK]
          | some x =>
            obtain ⟨t, q⟩ := x
            obtain ⟨c2, u, e2⟩ := parse_cut _ _ _ _ h1
            have hq : q.length < l.length := by rw [e, e2]; simp; omega
            obtain ⟨K2, hK2⟩ := ihm q (pre ++ c2 :: u) (ts ++ [t]) a b (by rw [e, e2]; simp) (by rw [e2] at h; simp at h; omega) (by simp; omega)
            replace hK2 : ∀ k, K2 ≤ k → spec_l6Read.l0 k l ((pre ++ c2 :: u).length : Int) (m : Int) a b (ts ++ [t]) = _ := hK2
            have e3 : (l.length : Int) - (q.length : Int) = ((pre ++ c2 :: u).length : Int) := by rw [e, e2]; simp; omega
            refine ⟨K + K2 + 1, fun k hk => ?_⟩
            obtain ⟨k, rfl⟩ : ∃ m, k = m + 1 := ⟨k - 1, by omega⟩
            simp only [spec_l6Read.l0]
            rw [if_pos (by omega), hK k (by omega), Option.bind_some, h1]
            rw [show outP l.length (some (t, q)) = (t.f0, t.f1, t.f2, (l.length : Int) - (q.length : Int)) from rfl]
            dsimp only
            rw [if_neg (show ¬ ((l.length : Int) - (q.length : Int) = 0) by omega), if_pos (show ts.length < 3518437208883 by omega), wrap_id (x := ((m + 1 : Nat) : Int) - 1) (by omega) (by omega), show ((m + 1 : Nat) : Int) - 1 = (m : Int) by omega, e3]
            rw [show (⟨t.f0, t.f1, t.f2⟩ : S105) = t by cases t; rfl, hK2 k (by omega)]
            simp only [parseK, h1, Option.bind_some]
            cases parseK (parse n) m q with
            | none => rfl
            | some y => simp [outK]
      have ha := arity_range c.f0
      have j1 : ∀ k m x y, spec_l6Read.j0 (k + 1) l (pre.length : Int) m true x y = some (0, 0, [], 0) := by
        intro k m x y; simp only [spec_l6Read.j0]; rw [if_pos trivial]
      have j2 : ∀ k m x y, spec_l6Read.j0 (k + 1) l (pre.length : Int) m false x y = spec_l6Read.l0 k l (wrap64 ((pre.length : Int) + 1)) m x y [] := by
        intro k m x y; simp only [spec_l6Read.j0]; rw [if_neg (by simp)]
      obtain ⟨K, hK⟩ := kids (arity c.f0).toNat rest (pre ++ [c]) [] c.f0 c.f1 (by rw [e]; simp) (by simpa using h) (by simp; omega)
      replace hK : ∀ k, K ≤ k → spec_l6Read.l0 k l ((pre ++ [c]).length : Int) ((arity c.f0).toNat : Int) c.f0 c.f1 [] = _ := hK
      refine ⟨K + 3, fun k hk => ?_⟩
      obtain ⟨k, rfl⟩ : ∃ m, k = m + 3 := ⟨k - 3, by omega⟩
      show spec_l6Read.f (k + 2 + 1) l (pre.length : Int) = _
      simp only [spec_l6Read.f]
      rw [if_neg (by omega), if_pos (len_nn _), if_pos hlt, hr, spec_l6Arity_is, Option.bind_some]
      simp only [parse]
      by_cases h0 : arity c.f0 < 0
      · rw [if_pos h0, j1, if_neg (by unfold cellOk; rw [decide_eq_false (by omega)]; simp)]; rfl
      · have h0' : 0 ≤ arity c.f0 := by omega
        have good : numOk c = true → some (outK l.length c.f0 c.f1 [] (parseK (parse n) (arity c.f0).toNat rest)) = some (outP l.length (if cellOk c = true then (parseK (parse n) (arity c.f0).toNat rest).bind fun s => some (⟨c.f0, c.f1, s.1⟩, s.2) else none)) := by
          intro hn
          rw [if_pos (by unfold cellOk; rw [decide_eq_true h0', hn]; rfl)]
          cases parseK (parse n) (arity c.f0).toNat rest with
          | none => rfl
          | some y => simp [outK, outP]
        have bad : numOk c = false → some ((0 : Int), (0 : Int), ([] : List S105), (0 : Int)) = some (outP l.length (if cellOk c = true then (parseK (parse n) (arity c.f0).toNat rest).bind fun s => some (⟨c.f0, c.f1, s.1⟩, s.2) else none)) := by
          intro hn
          rw [if_neg (by unfold cellOk; rw [hn]; simp)]; rfl
        have hK' := hK (k + 1) (by omega)
        rw [show ((arity c.f0).toNat : Int) = arity c.f0 by omega, ← hw] at hK'
        rw [if_neg h0]
        by_cases h3 : c.f0 = 3
        · rw [if_pos h3, spec_l1In_is, Option.bind_some]
          by_cases h4 : 1 ≤ c.f1 ∧ c.f1 ≤ 65535
          · rw [if_pos (decide_eq_true h4), j2, hK']
            exact good (by unfold numOk; rw [if_pos h3, decide_eq_true h4])
          · rw [if_neg (by rw [decide_eq_false h4]; simp), j1]
            exact bad (by unfold numOk; rw [if_pos h3, decide_eq_false h4])
        · rw [if_neg h3]
          by_cases h4 : c.f1 = 0
          · rw [show (c.f1 != 0) = false by simp [h4], j2, hK']
            exact good (by unfold numOk; rw [if_neg h3, h4]; rfl)
          · rw [show (c.f1 != 0) = true by simp [h4], j1]
            exact bad (by unfold numOk; rw [if_neg h3]; simp [h4])
def tree (l : List S109) : Int × Int × List S105 × Bool := if l.length > 30 then (0, 0, [], false) else match parse l.length l with
  | none => (0, 0, [], false)
  | some (t, r) => (t.f0, t.f1, t.f2, r.isEmpty)
theorem spec_l6Tree_is (l : List S109) : Ev (fun k => spec_l6Tree.f k l) (tree l) := by
  unfold tree
  by_cases h : (l.length : Int) > 30
  · rw [if_pos (by omega)]
    exact Ev.congr (fun k => by unfold spec_l6Tree.f; rw [if_pos h]) (Ev.now _)
  · rw [if_neg (by omega)]
    obtain ⟨K, hK⟩ := read_is l (by omega) l.length l [] rfl (Nat.le_refl _)
    replace hK : ∀ k, K ≤ k → spec_l6Read.f k l 0 = _ := hK
    refine ⟨K, fun k hk => ?_⟩
    simp only [spec_l6Tree.f]
    rw [if_neg h, hK k hk, Option.bind_some]
    cases h1 : parse l.length l with
    | none =>
      rw [show outP l.length none = ((0 : Int), (0 : Int), ([] : List S105), (0 : Int)) from rfl]
      dsimp only
      rw [if_neg (by omega)]
    | some x =>
      obtain ⟨t, r⟩ := x
      obtain ⟨c, u, e⟩ := parse_cut _ _ _ _ h1
      have hr : r.length < l.length := by
        have := congrArg List.length e
        simp at this; omega
      rw [show outP l.length (some (t, r)) = (t.f0, t.f1, t.f2, (l.length : Int) - (r.length : Int)) from rfl]
      dsimp only
      rw [if_pos (by omega)]
      congr 4
      cases r with
      | nil => simp
      | cons a r => simp; omega
theorem spec_GoodRegex_is (l : List S109) : Ev (fun k => spec_GoodRegex.f k l) (tree l).2.2.2 := Ev.bind (spec_l6Tree_is l) (Ev.now _)
def scanA : Nat → List S109 → Option (List S109)
  | _, [] => none
  | n, c :: r => if arity c.f0 < 0 then none else if n + (arity c.f0).toNat = 1 then some r else scanA (n + (arity c.f0).toNat - 1) r
def outA (L : Nat) (a : Int) : Option (List S109) → Int
  | none => -1
  | some r => (L : Int) - (r.length : Int) - a
theorem impl_sizeAt_is (l : List S109) (hl : l.length ≤ 1000000) (a : Int) (ha : 0 ≤ a) (ha2 : a ≤ 1000000) : ∀ (rest pre : List S109) (n : Nat), l = pre ++ rest → 1 ≤ n → n + 2 * rest.length ≤ 4000000 → Ev (fun k => impl_sizeAt.l0 k l a (n : Int) (pre.length : Int)) (outA l.length a (scanA n rest)) := by
  intro rest
  induction rest with
  | nil =>
    intro pre n e h1 h2
    refine Ev.step (f := fun _ => some (-1)) (fun k => ?_) (Ev.now _)
    simp only [impl_sizeAt.l0]
    rw [if_neg (by rw [e]; simp)]
  | cons c rest ih =>
    intro pre n e h1 h2
    have hr : rd_T109 l (pre.length : Int) = c := by rw [e]; exact rdm_ReCell _ _ _
    have hlt : (pre.length : Int) < (l.length : Int) := by rw [e]; exact lt_mid _ _ _
    have hw := wrap_mid (pre := pre) (a := c) (rest := rest) (by rw [← e]; simp only [maxLen]; omega)
    have hc := arity_range c.f0
    simp only [List.length_cons] at h2
    simp only [scanA]
    by_cases h0 : arity c.f0 < 0
    · rw [if_pos h0]
      refine ⟨2, fun k hk => ?_⟩
      obtain ⟨k, rfl⟩ : ∃ m, k = m + 2 := ⟨k - 2, by omega⟩
      show impl_sizeAt.l0 (k + 1 + 1) l a (n : Int) (pre.length : Int) = _
      simp only [impl_sizeAt.l0]
      rw [if_pos hlt, if_pos (len_nn _), hr, impl_partsOf_is, Option.bind_some, if_pos h0]; rfl
    · rw [if_neg h0]
      have w1 : wrap64 (arity c.f0 - 1) = arity c.f0 - 1 := wrap_id (by omega) (by omega)
      have w2 : wrap64 ((n : Int) + (arity c.f0 - 1)) = (n : Int) + (arity c.f0 - 1) := wrap_id (by omega) (by omega)
      by_cases h3 : n + (arity c.f0).toNat = 1
      · rw [if_pos h3]
        refine ⟨2, fun k hk => ?_⟩
        obtain ⟨k, rfl⟩ : ∃ m, k = m + 2 := ⟨k - 2, by omega⟩
        show impl_sizeAt.l0 (k + 1 + 1) l a (n : Int) (pre.length : Int) = _
        simp only [impl_sizeAt.l0]
        rw [if_pos hlt, if_pos (len_nn _), hr, impl_partsOf_is, Option.bind_some, if_neg h0, w1, w2, if_pos (by omega), hw]
        rw [wrap_id (by simp; omega) (by rw [e] at hl; simp at hl ⊢; omega)]
        simp only [outA]
        rw [e]; simp; omega
      · rw [if_neg h3]
        obtain ⟨K, hK⟩ := ih (pre ++ [c]) (n + (arity c.f0).toNat - 1) (by rw [e]; simp) (by omega) (by omega)
        replace hK : ∀ k, K ≤ k → impl_sizeAt.l0 k l a ((n + (arity c.f0).toNat - 1 : Nat) : Int) ((pre ++ [c]).length : Int) = _ := hK
        refine ⟨K + 2, fun k hk => ?_⟩
        obtain ⟨k, rfl⟩ : ∃ m, k = m + 2 := ⟨k - 2, by omega⟩
        show impl_sizeAt.l0 (k + 1 + 1) l a (n : Int) (pre.length : Int) = _
        rw [impl_sizeAt.l0, if_pos hlt, if_pos (len_nn _), hr, impl_partsOf_is, Option.bind_some, if_neg h0, w1, w2, if_neg (by omega), hw, show (n : Int) + (arity c.f0 - 1) = ((n + (arity c.f0).toNat - 1 : Nat) : Int) by omega, hK (k + 1) (by omega)]
theorem scan_scanA : ∀ (rest : List S109) (n : Nat) (r : List S109), scan (n + 1) rest = some r → scanA (n + 1) rest = some r ∧ ∃ u, rest = u ++ r ∧ u.all numOk = true
  | [], n, r, h => by simp [scan] at h
  | c :: rest, n, r, h => by
    simp only [scan] at h
    by_cases hc : cellOk c = true
    · rw [if_pos hc] at h
      have hc' := hc
      unfold cellOk at hc
      simp only [Bool.and_eq_true, decide_eq_true_eq] at hc
      simp only [scanA]
      rw [if_neg (by omega)]
      by_cases h3 : n + 1 + (arity c.f0).toNat = 1
      · rw [if_pos h3]
        rw [show n + (arity c.f0).toNat = 0 by omega] at h
        simp only [scan, Option.some.injEq] at h
        exact ⟨by rw [h], [c], by rw [h]; rfl, by simp [hc.2]⟩
      · rw [if_neg h3]
        obtain ⟨m, hm⟩ : ∃ m, n + (arity c.f0).toNat = m + 1 := ⟨n + (arity c.f0).toNat - 1, by omega⟩
        rw [hm] at h
        obtain ⟨h4, u, h5, h6⟩ := scan_scanA rest m r h
        rw [show n + 1 + (arity c.f0).toNat - 1 = m + 1 by omega]
        exact ⟨h4, c :: u, by rw [h5]; rfl, by simp [hc.2]; simpa using h6⟩
    · rw [if_neg hc] at h; cases h
theorem scanA_scan : ∀ (rest : List S109) (n : Nat), rest.all numOk = true → scan (n + 1) rest = scanA (n + 1) rest
  | [], n, _ => by simp [scan, scanA]
  | c :: rest, n, h => by
    simp only [List.all_cons, Bool.and_eq_true] at h
    simp only [scan, scanA]
    by_cases h0 : arity c.f0 < 0
    · rw [if_pos h0, if_neg (by unfold cellOk; rw [decide_eq_false (by omega)]; simp)]
    · rw [if_neg h0, if_pos (by unfold cellOk; rw [decide_eq_true (by omega), h.1]; rfl)]
      by_cases h3 : n + 1 + (arity c.f0).toNat = 1
      · rw [if_pos h3, show n + (arity c.f0).toNat = 0 by omega]; simp [scan]
      · rw [if_neg h3]
        obtain ⟨m, hm⟩ : ∃ m, n + (arity c.f0).toNat = m + 1 := ⟨n + (arity c.f0).toNat - 1, by omega⟩
        rw [hm, show n + 1 + (arity c.f0).toNat - 1 = m + 1 by omega]
        exact scanA_scan rest m h.2
theorem idx_ReCell (l : List S109) (hl : l.length ≤ maxLen) : ∀ (rest pre : List S109), l = pre ++ rest →
    ∃ r : Int, Ev (fun k => slices_IndexFunc_impl_ReCell_impl_ReCell.l0 k l (l.length : Int) (pre.length : Int)) r ∧ (decide (r ≥ 0) = !rest.all numOk) := by
  intro rest
  induction rest with
  | nil =>
    intro pre e
    refine ⟨-1, Ev.step (f := fun _ => some (-1)) (fun k => ?_) (Ev.now _), by simp⟩
    simp only [slices_IndexFunc_impl_ReCell_impl_ReCell.l0]
    rw [if_neg (by rw [e]; simp)]
  | cons a rest ih =>
    intro pre e
    have hlt : (pre.length : Int) < (l.length : Int) := by rw [e]; exact lt_mid _ _ _
    have h1 : rd_T109 l (pre.length : Int) = a := by rw [e]; exact rdm_ReCell _ _ _
    have hb : impl_GoodRegex_1.f a.f0 a.f1 = some (!numOk a) := by
      unfold impl_GoodRegex_1.f numOk
      by_cases h3 : a.f0 = 3
      · rw [if_pos h3, if_pos h3]
        simp only [impl_isAsn.f, impl_within_is, Option.bind_some]
        by_cases h4 : 1 ≤ a.f1 ∧ a.f1 ≤ 65535
        · rw [if_pos (decide_eq_true h4), decide_eq_true h4]; rfl
        · rw [if_neg (by rw [decide_eq_false h4]; simp), decide_eq_false h4]; rfl
      · rw [if_neg h3, if_neg h3]; rfl
    by_cases hm : numOk a = true
    · obtain ⟨r, hr, hb2⟩ := ih (pre ++ [a]) (by rw [e]; simp)
      refine ⟨r, Ev.step (fun k => ?_) hr, by rw [hb2]; simp [hm]⟩
      simp only [slices_IndexFunc_impl_ReCell_impl_ReCell.l0]
      rw [if_pos hlt, if_pos (len_nn _), if_pos hlt, h1, hb, Option.bind_some, hm]
      rw [if_neg (by simp), wrap_mid (rest := rest) (by rw [← e]; exact hl)]
    · have hm' : numOk a = false := by simpa using hm
      refine ⟨(pre.length : Int), Ev.step (f := fun _ => some (pre.length : Int)) (fun k => ?_) (Ev.now _), by simp [hm']⟩
      simp only [slices_IndexFunc_impl_ReCell_impl_ReCell.l0]
      rw [if_pos hlt, if_pos (len_nn _), if_pos hlt, h1, hb, Option.bind_some, hm']
      rw [if_pos (by simp)]
def endsAll : Option (List S109) → Bool
  | some [] => true
  | _ => false
theorem tree_ok (l : List S109) : (tree l).2.2.2 = (decide (1 ≤ l.length ∧ l.length ≤ 30) && (endsAll (scanA 1 l) && l.all numOk)) := by
  unfold tree
  by_cases h : l.length > 30
  · rw [if_pos h, decide_eq_false (by omega)]; rfl
  · rw [if_neg h]
    have hs := parse_scan l.length l (Nat.le_refl _)
    cases l with
    | nil => simp [parse]
    | cons c l =>
      rw [decide_eq_true (by simp at h ⊢; omega), Bool.true_and]
      cases h1 : parse (c :: l).length (c :: l) with
      | none =>
        rw [h1] at hs
        by_cases h2 : (c :: l).all numOk = true
        · rw [← scanA_scan (c :: l) 0 h2, ← hs]; simp [endsAll]
        · have : (c :: l).all numOk = false := by simpa using h2
          rw [this]; simp
      | some x =>
        obtain ⟨t, r⟩ := x
        rw [h1] at hs
        have hs' : scan 1 (c :: l) = some r := hs.symm
        obtain ⟨h2, u, h3, h4⟩ := scan_scanA (c :: l) 0 r hs'
        rw [Nat.zero_add] at h2
        rw [h2]
        cases r with
        | nil =>
          rw [List.append_nil] at h3
          rw [h3, h4]; simp [endsAll]
        | cons a r => simp [endsAll]
theorem impl_GoodRegex_is (l : List S109) (hl : l.length ≤ 1048576) : Ev (fun k => impl_GoodRegex.f k l) (tree l).2.2.2 := by
  rw [tree_ok]
  by_cases h : 1 ≤ (l.length : Int) ∧ (l.length : Int) ≤ 30
  · rw [decide_eq_true (by omega), Bool.true_and]
    obtain ⟨K1, h1⟩ := impl_sizeAt_is l (by omega) 0 (by omega) (by omega) l [] 1 rfl (by omega) (by omega)
    obtain ⟨r, ⟨K2, h2⟩, h3⟩ := idx_ReCell l (by simp only [maxLen]; omega) l [] rfl
    replace h1 : ∀ k, K1 ≤ k → impl_sizeAt.f k l 0 = _ := h1
    replace h2 : ∀ k, K2 ≤ k → slices_IndexFunc_impl_ReCell_impl_ReCell.f k l = _ := h2
    refine ⟨K1 + K2, fun k hk => ?_⟩
    simp only [impl_GoodRegex.f, slices_ContainsFunc_impl_ReCell_impl_ReCell.f]
    rw [impl_within_is, Option.bind_some, if_pos (decide_eq_true h), h1 k (by omega), Option.bind_some, h2 k (by omega)]
    simp only [Option.bind_some]
    rw [h3]
    cases h4 : scanA 1 l with
    | none =>
      rw [show outA l.length 0 none = -1 from rfl, if_neg (by omega)]; simp [endsAll]
    | some r =>
      cases r with
      | nil => rw [show outA l.length 0 (some []) = (l.length : Int) from by simp [outA], if_pos rfl]; simp [endsAll]
      | cons a r => rw [if_neg (by simp [outA]; omega)]; simp [endsAll]
  · rw [decide_eq_false (by omega), Bool.false_and]
    refine ⟨0, fun k _ => ?_⟩
    simp only [impl_GoodRegex.f]
    rw [impl_within_is, Option.bind_some, if_neg (by rw [decide_eq_false h]; simp)]
theorem rdm_Edge (pre : List S97) (a : S97) (rest : List S97) : rd_T97 (pre ++ a :: rest) (pre.length : Int) = a := by unfold rd_T97; simp
theorem laws_eqNfaEdge_self (a b : Int) (c d : Bool) (e : Int) : laws_eqNfaEdge.f a b c d e a b c d e = some true := by
  unfold laws_eqNfaEdge.f; simp
theorem laws_eqNfaEdgeS_refl (k : Nat) (l : List S97) (hl : l.length ≤ maxLen) (hk : l.length < k) : laws_eqNfaEdgeS.f k l l = some true := by
  unfold laws_eqNfaEdgeS.f
  rw [if_pos rfl]
  have key : ∀ (rest pre : List S97) (k : Nat), l = pre ++ rest → rest.length < k → laws_eqNfaEdgeS.l0 k l l (pre.length : Int) = some true := by
    intro rest
    induction rest with
    | nil =>
      intro pre k e hk
      obtain ⟨k, rfl⟩ : ∃ m, k = m + 1 := ⟨k - 1, by omega⟩
      simp only [laws_eqNfaEdgeS.l0]
      rw [if_neg (by rw [e]; simp)]
    | cons a rest ih =>
      intro pre k e hk
      obtain ⟨k, rfl⟩ : ∃ m, k = m + 1 := ⟨k - 1, by omega⟩
      simp only [laws_eqNfaEdgeS.l0]
      rw [if_pos (by rw [e]; exact lt_mid _ _ _), if_pos (len_nn _), if_pos (by rw [e]; exact lt_mid _ _ _), laws_eqNfaEdge_self]
      simp only [Option.bind_some, if_true]
      rw [wrap_mid (rest := rest) (by rw [← e]; exact hl)]
      exact ih (pre ++ [a]) k (by rw [e]; simp) (by simp at hk; omega)
  exact key l [] k rfl hk
theorem laws_eqNfa_refl (k : Nat) (s a b : Int) (l : List S97) (hl : l.length ≤ maxLen) (hk : l.length < k) : laws_eqNfa.f k s a b l s a b l = some true := by
  unfold laws_eqNfa.f
  rw [if_pos rfl, if_pos rfl, if_pos rfl, laws_eqNfaEdgeS_refl k l hl hk, Option.bind_some, if_pos rfl]
def mk_ReCell (q : Int) : Nat → List S109
  | 0 => []
  | n + 1 => ⟨q, q + 1⟩ :: mk_ReCell (q + 2) n
theorem laws_markReCellS_is (l : List S109) (hl : l.length ≤ 1000000000) (q : Int) (hq : 0 ≤ q) (hq2 : q ≤ 1000000000000) (k : Nat) (hk : l.length < k) : laws_markReCellS.f k l q = some (q + 2 * l.length, mk_ReCell q l.length) := by
  have key : ∀ (rest pre : List S109) (k : Nat) (q : Int), (pre ++ rest).length ≤ 1000000000 → 0 ≤ q → q + 2 * rest.length ≤ 20000000000000 → rest.length < k → laws_markReCellS.l0 k (pre ++ rest) q (pre.length : Int) = some (q + 2 * rest.length, pre ++ mk_ReCell q rest.length) := by
    intro rest
    induction rest with
    | nil =>
      intro pre k q _ _ _ hk
      obtain ⟨k, rfl⟩ : ∃ m, k = m + 1 := ⟨k - 1, by omega⟩
      rw [laws_markReCellS.l0, if_neg (by simp)]
      simp [mk_ReCell]
    | cons a rest ih =>
      intro pre k q hp h0 h1 hk
      obtain ⟨k, rfl⟩ : ∃ m, k = m + 1 := ⟨k - 1, by omega⟩
      simp only [List.length_cons] at h1 hk
      rw [laws_markReCellS.l0, if_pos (lt_mid _ _ _), if_pos (len_nn _)]
      simp only [Option.bind_some, set_mid, rdm_ReCell]
      rw [wrap_id (x := q + 1) (by omega) (by omega), wrap_id (x := q + 1 + 1) (by omega) (by omega), wrap_mid (pre := pre) (a := a) (rest := rest) (by simp only [maxLen]; omega)]
      have := ih (pre ++ [(⟨q, q + 1⟩ : S109)]) k (q + 2) (by simp at hp ⊢; omega) (by omega) (by omega) (by omega)
      simp only [List.append_assoc, List.singleton_append] at this
      rw [show q + 1 + 1 = q + 2 by omega, show ((pre ++ [a]).length : Int) = ((pre ++ [(⟨q, q + 1⟩ : S109)]).length : Int) by simp, this]
      simp only [List.length_cons, mk_ReCell]
      congr 2
      omega
  have := key l [] k q (by simpa using hl) hq (by omega) hk
  simpa [laws_markReCellS.f] using this
def mk_Edge (q : Int) : Nat → List S97
  | 0 => []
  | n + 1 => ⟨q, q + 1, (Int.tmod (q + 2) 3 == 0), (Int.tmod (q + 3) 3 == 0), q + 4⟩ :: mk_Edge (q + 5) n
theorem mk_Edge_len (q : Int) (n : Nat) : (mk_Edge q n).length = n := by
  induction n generalizing q with
  | zero => rfl
  | succ n ih => simp [mk_Edge, ih]
theorem laws_markNfaEdgeS_is (l : List S97) (hl : l.length ≤ 1000000000) (q : Int) (hq : 0 ≤ q) (hq2 : q ≤ 1000000000000) (k : Nat) (hk : l.length < k) : laws_markNfaEdgeS.f k l q = some (q + 5 * l.length, mk_Edge q l.length) := by
  have key : ∀ (rest pre : List S97) (k : Nat) (q : Int), (pre ++ rest).length ≤ 1000000000 → 0 ≤ q → q + 5 * rest.length ≤ 20000000000000 → rest.length < k → laws_markNfaEdgeS.l0 k (pre ++ rest) q (pre.length : Int) = some (q + 5 * rest.length, pre ++ mk_Edge q rest.length) := by
    intro rest
    induction rest with
    | nil =>
      intro pre k q _ _ _ hk
      obtain ⟨k, rfl⟩ : ∃ m, k = m + 1 := ⟨k - 1, by omega⟩
      rw [laws_markNfaEdgeS.l0, if_neg (by simp)]
      simp [mk_Edge]
    | cons a rest ih =>
      intro pre k q hp h0 h1 hk
      obtain ⟨k, rfl⟩ : ∃ m, k = m + 1 := ⟨k - 1, by omega⟩
      simp only [List.length_cons] at h1 hk
      rw [laws_markNfaEdgeS.l0, if_pos (lt_mid _ _ _), if_pos (len_nn _)]
      simp only [Option.bind_some, set_mid, rdm_Edge]
      rw [wrap_id (x := q + 1) (by omega) (by omega), wrap_id (x := q + 1 + 1) (by omega) (by omega), wrap_id (x := q + 1 + 1 + 1) (by omega) (by omega), wrap_id (x := q + 1 + 1 + 1 + 1) (by omega) (by omega), wrap_id (x := q + 1 + 1 + 1 + 1 + 1) (by omega) (by omega), wrap_mid (pre := pre) (a := a) (rest := rest) (by simp only [maxLen]; omega)]
      have := ih (pre ++ [(⟨q, q + 1, (Int.tmod (q + 2) 3 == 0), (Int.tmod (q + 3) 3 == 0), q + 4⟩ : S97)]) k (q + 5) (by simp at hp ⊢; omega) (by omega) (by omega) (by omega)
      simp only [List.append_assoc, List.singleton_append] at this
      rw [show q + 1 + 1 + 1 + 1 + 1 = q + 5 by omega, show q + 1 + 1 + 1 + 1 = q + 4 by omega, show q + 1 + 1 + 1 = q + 3 by omega, show q + 1 + 1 = q + 2 by omega, show ((pre ++ [a]).length : Int) = ((pre ++ [(⟨q, q + 1, (Int.tmod (q + 2) 3 == 0), (Int.tmod (q + 3) 3 == 0), q + 4⟩ : S97)]).length : Int) by simp, this]
      simp only [List.length_cons, mk_Edge]
      congr 2
      omega
  have := key l [] k q (by simpa using hl) hq (by omega) hk
  simpa [laws_markNfaEdgeS.f] using this
theorem laws_heldNfaEdgeS_is (n : Nat) (hn : n ≤ 1000000000) (q : Int) (hq : 0 ≤ q) (hq2 : q ≤ 1000000000000) (k : Nat) (hk : n < k) : laws_heldNfaEdgeS.f k (mk_Edge q n) q = some (q + 5 * n) := by
  have key : ∀ (n : Nat) (pre : List S97) (k : Nat) (q : Int), pre.length + n ≤ 1000000000 → 0 ≤ q → q + 5 * n ≤ 20000000000000 → n < k → laws_heldNfaEdgeS.l0 k (pre ++ mk_Edge q n) q (pre.length : Int) = some (q + 5 * n) := by
    intro n
    induction n with
    | zero =>
      intro pre k q _ _ _ hk
      obtain ⟨k, rfl⟩ : ∃ m, k = m + 1 := ⟨k - 1, by omega⟩
      rw [laws_heldNfaEdgeS.l0, if_neg (by simp [mk_Edge])]
      simp
    | succ n ih =>
      intro pre k q hp h0 h1 hk
      obtain ⟨k, rfl⟩ : ∃ m, k = m + 1 := ⟨k - 1, by omega⟩
      have hlen : (pre ++ (⟨q, q + 1, (Int.tmod (q + 2) 3 == 0), (Int.tmod (q + 3) 3 == 0), q + 4⟩ : S97) :: mk_Edge (q + 5) n).length ≤ maxLen := by simp [mk_Edge_len, maxLen]; omega
      simp only [mk_Edge]
      rw [laws_heldNfaEdgeS.l0, if_pos (lt_mid _ _ _), if_pos (len_nn _), rdm_Edge]
      dsimp only
      rw [if_pos rfl, wrap_id (x := q + 1) (by omega) (by omega), wrap_id (x := q + 1 + 1) (by omega) (by omega), wrap_id (x := q + 1 + 1 + 1) (by omega) (by omega), wrap_id (x := q + 1 + 1 + 1 + 1) (by omega) (by omega), wrap_id (x := q + 1 + 1 + 1 + 1 + 1) (by omega) (by omega), if_pos rfl, show q + 1 + 1 + 1 + 1 + 1 = q + 5 by omega, show q + 1 + 1 + 1 + 1 = q + 4 by omega, show q + 1 + 1 + 1 = q + 3 by omega, show q + 1 + 1 = q + 2 by omega, if_neg (by simp), if_neg (by simp), if_pos rfl, wrap_mid (rest := mk_Edge (q + 5) n) hlen]
      have := ih (pre ++ [(⟨q, q + 1, (Int.tmod (q + 2) 3 == 0), (Int.tmod (q + 3) 3 == 0), q + 4⟩ : S97)]) k (q + 5) (by simp; omega) (by omega) (by omega) (by omega)
      simp only [List.append_assoc, List.singleton_append] at this
      rw [this]
      congr 1
      omega
  have := key n [] k q (by simpa using hn) hq (by omega) hk
  simpa [laws_heldNfaEdgeS.f] using this
theorem laws_markNfa_is (s a b : Int) (l : List S97) (hl : l.length ≤ 1000000) (k : Nat) (hk : l.length < k) : laws_markNfa.f k s a b l 1 = some (1 + 5 * (l.length : Int), mk_Edge 1 l.length) := by
  unfold laws_markNfa.f
  rw [laws_markNfaEdgeS_is l (by omega) 1 (by omega) (by omega) k hk, Option.bind_some]
theorem laws_heldNfa_is (s a b : Int) (n : Nat) (hn : n ≤ 1000000) (k : Nat) (hk : n < k) : laws_heldNfa.f k s a b (mk_Edge 1 n) 1 = some (1 + 5 * (n : Int)) := by
  unfold laws_heldNfa.f
  rw [laws_heldNfaEdgeS_is n (by omega) 1 (by omega) (by omega) k hk, Option.bind_some, if_neg (by omega)]
def fe (a b : Int) : S97 := ⟨a, b, true, false, 0⟩
def secondAt (L : Nat) (rest : List S109) : Int := ((L : Int) - rest.length) + outA L ((L : Int) - rest.length) (scanA 1 rest)
def edgesAt (L : Nat) (c : S109) (rest : List S109) : List S97 :=
  if c.f0 = 2 then [fe (2 * ((L : Int) - rest.length - 1)) (2 * ((L : Int) - rest.length - 1) + 1)]
  else if c.f0 = 3 then [⟨2 * ((L : Int) - rest.length - 1), 2 * ((L : Int) - rest.length - 1) + 1, false, false, c.f1⟩]
  else if c.f0 = 4 then [⟨2 * ((L : Int) - rest.length - 1), 2 * ((L : Int) - rest.length - 1) + 1, false, true, 0⟩]
  else if c.f0 = 5 then [fe (2 * ((L : Int) - rest.length - 1)) (2 * ((L : Int) - rest.length)), fe (2 * ((L : Int) - rest.length) + 1) (2 * secondAt L rest), fe (2 * secondAt L rest + 1) (2 * ((L : Int) - rest.length - 1) + 1)]
  else if c.f0 = 6 then [fe (2 * ((L : Int) - rest.length - 1)) (2 * ((L : Int) - rest.length)), fe (2 * ((L : Int) - rest.length - 1)) (2 * secondAt L rest), fe (2 * ((L : Int) - rest.length) + 1) (2 * ((L : Int) - rest.length - 1) + 1), fe (2 * secondAt L rest + 1) (2 * ((L : Int) - rest.length - 1) + 1)]
  else if c.f0 = 7 then [fe (2 * ((L : Int) - rest.length - 1)) (2 * ((L : Int) - rest.length - 1) + 1), fe (2 * ((L : Int) - rest.length - 1)) (2 * ((L : Int) - rest.length)), fe (2 * ((L : Int) - rest.length) + 1) (2 * ((L : Int) - rest.length - 1) + 1), fe (2 * ((L : Int) - rest.length) + 1) (2 * ((L : Int) - rest.length))]
  else []
def flat (L : Nat) : List S109 → List S97
  | [] => []
  | c :: rest => edgesAt L c rest ++ flat L rest
theorem edgesAt_len (L : Nat) (c : S109) (rest : List S109) : (edgesAt L c rest).length ≤ 4 := by
  unfold edgesAt
  repeat' split
  all_goals simp
theorem flat_len (L : Nat) : ∀ l : List S109, (flat L l).length ≤ 4 * l.length
  | [] => by simp [flat]
  | c :: rest => by
    have := flat_len L rest
    have := edgesAt_len L c rest
    simp only [flat, List.length_append, List.length_cons]
    omega
theorem scanA_le : ∀ (rest : List S109) (n : Nat) (r : List S109), scanA n rest = some r → r.length < rest.length
  | [], n, r, h => by simp [scanA] at h
  | c :: rest, n, r, h => by
    simp only [scanA] at h
    by_cases h0 : arity c.f0 < 0
    · rw [if_pos h0] at h; cases h
    · rw [if_neg h0] at h
      by_cases h1 : n + (arity c.f0).toNat = 1
      · rw [if_pos h1] at h
        cases h
        simp
      · rw [if_neg h1] at h
        have := scanA_le rest _ r h
        simp; omega
theorem out_range (L : Nat) (rest : List S109) (hl : rest.length ≤ L) : -1 ≤ outA L ((L : Int) - rest.length) (scanA 1 rest) ∧ outA L ((L : Int) - rest.length) (scanA 1 rest) ≤ rest.length := by
  cases h : scanA 1 rest with
  | none => simp only [outA]; omega
  | some r =>
    have := scanA_le rest 1 r h
    simp only [outA]
    omega
theorem build_loop (l : List S109) (hl : l.length ≤ 30) : ∀ (rest pre : List S109) (out : List S97), l = pre ++ rest → out.length + 4 * rest.length ≤ 1000 →
    Ev (fun k => impl_BuildNfa.l0 k l l (l.length : Int) (pre.length : Int) (wrap64 (2 * (l.length : Int))) 0 1 out) (wrap64 (2 * (l.length : Int)), 0, 1, out ++ flat l.length rest, true)
  | [], pre, out, e, ho => by
    refine Ev.step (f := fun _ => some (wrap64 (2 * (l.length : Int)), 0, 1, out ++ flat l.length [], true)) (fun k => ?_) (Ev.now _)
    rw [impl_BuildNfa.l0, if_neg (by rw [e]; simp)]
    simp [flat]
  | c :: rest, pre, out, e, ho => by
    have hr : rd_T109 l (pre.length : Int) = c := by rw [e]; exact rdm_ReCell _ _ _
    have hlt : (pre.length : Int) < (l.length : Int) := by rw [e]; exact lt_mid _ _ _
    have hlen : pre.length + 1 + rest.length = l.length := by rw [e]; simp; omega
    simp only [List.length_cons] at ho
    have he := edgesAt_len l.length c rest
    have hP : ((l.length : Int) - rest.length) = (pre.length : Int) + 1 := by omega
    have hP1 : ((pre ++ [c]).length : Int) = (pre.length : Int) + 1 := by simp
    obtain ⟨K, hK⟩ := build_loop l hl rest (pre ++ [c]) (out ++ edgesAt l.length c rest) (by rw [e]; simp) (by rw [List.length_append]; omega)
    replace hK : ∀ k, K ≤ k → impl_BuildNfa.l0 k l l (l.length : Int) ((pre ++ [c]).length : Int) (wrap64 (2 * (l.length : Int))) 0 1 (out ++ edgesAt l.length c rest) = some (wrap64 (2 * (l.length : Int)), 0, 1, (out ++ edgesAt l.length c rest) ++ flat l.length rest, true) := hK
    obtain ⟨K2, hK2⟩ := impl_sizeAt_is l (by omega) ((pre.length : Int) + 1) (by omega) (by omega) rest (pre ++ [c]) 1 (by rw [e]; simp) (by omega) (by omega)
    replace hK2 : ∀ k, K2 ≤ k → impl_sizeAt.f k l ((pre.length : Int) + 1) = some (outA l.length ((pre.length : Int) + 1) (scanA 1 rest)) := fun k hk => by
      have := hK2 k hk
      rw [hP1] at this
      exact this
    have ot := out_range l.length rest (by omega)
    have hs : secondAt l.length rest = (pre.length : Int) + 1 + outA l.length ((pre.length : Int) + 1) (scanA 1 rest) := by unfold secondAt; rw [hP]
    rw [hP] at ot
    rw [hP1, List.append_assoc] at hK
    generalize hT : outA l.length ((pre.length : Int) + 1) (scanA 1 rest) = T at hK2 ot hs
    have hPE : (l.length : Int) - rest.length - 1 = (pre.length : Int) := by omega
    have hE : edgesAt l.length c rest = (if c.f0 = 2 then [fe (2 * (pre.length : Int)) (2 * (pre.length : Int) + 1)]
      else if c.f0 = 3 then [⟨2 * (pre.length : Int), 2 * (pre.length : Int) + 1, false, false, c.f1⟩]
      else if c.f0 = 4 then [⟨2 * (pre.length : Int), 2 * (pre.length : Int) + 1, false, true, 0⟩]
      else if c.f0 = 5 then [fe (2 * (pre.length : Int)) (2 * ((pre.length : Int) + 1)), fe (2 * ((pre.length : Int) + 1) + 1) (2 * ((pre.length : Int) + 1 + T)), fe (2 * ((pre.length : Int) + 1 + T) + 1) (2 * (pre.length : Int) + 1)]
      else if c.f0 = 6 then [fe (2 * (pre.length : Int)) (2 * ((pre.length : Int) + 1)), fe (2 * (pre.length : Int)) (2 * ((pre.length : Int) + 1 + T)), fe (2 * ((pre.length : Int) + 1) + 1) (2 * (pre.length : Int) + 1), fe (2 * ((pre.length : Int) + 1 + T) + 1) (2 * (pre.length : Int) + 1)]
      else if c.f0 = 7 then [fe (2 * (pre.length : Int)) (2 * (pre.length : Int) + 1), fe (2 * (pre.length : Int)) (2 * ((pre.length : Int) + 1)), fe (2 * ((pre.length : Int) + 1) + 1) (2 * (pre.length : Int) + 1), fe (2 * ((pre.length : Int) + 1) + 1) (2 * ((pre.length : Int) + 1))]
      else []) := by unfold edgesAt; rw [hPE, hP, hs]
    generalize hp : (pre.length : Int) = P at *
    have w1 : wrap64 (2 * P) = 2 * P := wrap_id (by omega) (by omega)
    have w2 : wrap64 (2 * P + 1) = 2 * P + 1 := wrap_id (by omega) (by omega)
    have w3 : wrap64 (P + 1) = P + 1 := wrap_id (by omega) (by omega)
    have w4 : wrap64 (2 * (P + 1)) = 2 * (P + 1) := wrap_id (by omega) (by omega)
    have w5 : wrap64 (2 * (P + 1) + 1) = 2 * (P + 1) + 1 := wrap_id (by omega) (by omega)
    have w6 : wrap64 (P + 1 + T) = P + 1 + T := wrap_id (by omega) (by omega)
    have w7 : wrap64 (2 * (P + 1 + T)) = 2 * (P + 1 + T) := wrap_id (by omega) (by omega)
    have w8 : wrap64 (2 * (P + 1 + T) + 1) = 2 * (P + 1 + T) + 1 := wrap_id (by omega) (by omega)
    simp only [flat]
    refine ⟨K + K2 + 1, fun k hk => ?_⟩
    obtain ⟨k, rfl⟩ : ∃ m, k = m + 1 := ⟨k - 1, by omega⟩
    have hK' := hK k (by omega)
    have hK2' := hK2 k (by omega)
    rw [hE] at hK' ⊢
    show impl_BuildNfa.l0 (k + 1) l l (l.length : Int) P (wrap64 (2 * (l.length : Int))) 0 1 out = _
    rw [impl_BuildNfa.l0, if_pos hlt, if_pos (by omega), if_pos hlt, hr, w3, w1, w2, w4, w5]
    by_cases h2 : c.f0 = 2
    · rw [if_pos h2] at hK' ⊢
      rw [if_pos h2, if_pos (by omega)]
      exact hK'
    rw [if_neg h2] at hK' ⊢
    rw [if_neg h2]
    by_cases h3 : c.f0 = 3
    · rw [if_pos h3] at hK' ⊢
      rw [if_pos h3, if_pos (by omega)]
      exact hK'
    rw [if_neg h3] at hK' ⊢
    rw [if_neg h3]
    by_cases h4 : c.f0 = 4
    · rw [if_pos h4] at hK' ⊢
      rw [if_pos h4, if_pos (by omega)]
      exact hK'
    rw [if_neg h4] at hK' ⊢
    rw [if_neg h4]
    by_cases h5 : c.f0 = 5
    · rw [if_pos h5] at hK' ⊢
      rw [if_pos h5, hK2', Option.bind_some, if_pos (by omega), Option.bind_some, if_pos (by simp; omega), w6, w7, w8, Option.bind_some, if_pos (by simp; omega)]
      rw [← hK']
      congr 1
      simp [fe]
    rw [if_neg h5] at hK' ⊢
    rw [if_neg h5]
    by_cases h6 : c.f0 = 6
    · rw [if_pos h6] at hK' ⊢
      rw [if_pos h6, hK2', Option.bind_some, if_pos (by omega), Option.bind_some, if_pos (by simp; omega), w6, w7, w8, Option.bind_some, if_pos (by simp; omega), Option.bind_some, if_pos (by simp; omega)]
      rw [← hK']
      congr 1
      simp [fe]
    rw [if_neg h6] at hK' ⊢
    rw [if_neg h6]
    by_cases h7 : c.f0 = 7
    · rw [if_pos h7] at hK' ⊢
      rw [if_pos h7, if_pos (by omega), Option.bind_some, if_pos (by simp; omega), Option.bind_some, if_pos (by simp; omega), Option.bind_some, if_pos (by simp; omega)]
      rw [← hK']
      congr 1
      simp [fe]
    rw [if_neg h7] at hK' ⊢
    rw [if_neg h7]
    simpa using hK'
theorem free_is (a b : Int) : spec_l6Free.f a b = some (a, b, true, false, 0) := rfl
theorem wraps5 (P : Int) (h0 : 0 ≤ P) (h1 : P ≤ 1000) : wrap64 (2 * P) = 2 * P ∧ wrap64 (2 * P + 1) = 2 * P + 1 ∧ wrap64 (P + 1) = P + 1 ∧ wrap64 (2 * (P + 1)) = 2 * (P + 1) ∧ wrap64 (2 * (P + 1) + 1) = 2 * (P + 1) + 1 :=
  ⟨wrap_id (by omega) (by omega), wrap_id (by omega) (by omega), wrap_id (by omega) (by omega), wrap_id (by omega) (by omega), wrap_id (by omega) (by omega)⟩
theorem nfa_is (l : List S109) (hl : l.length ≤ 30) : ∀ (n : Nat) (rest pre : List S109) (t : S105) (q : List S109) (out : List S97), l = pre ++ rest → rest.length ≤ n → parse n rest = some (t, q) → out.length + (flat l.length rest).length ≤ 1000 →
    ∃ X, flat l.length rest = X ++ flat l.length q ∧ Ev (fun k => spec_l6Nfa.f k l (pre.length : Int) out) (out ++ X, (l.length : Int) - q.length)
  | 0, rest, pre, t, q, out, e, hn, hp, ho => by simp [parse] at hp
  | n + 1, [], pre, t, q, out, e, hn, hp, ho => by simp [parse] at hp
  | n + 1, c :: rest, pre, t, q, out, e, hn, hp, ho => by
    have hr : rd_T109 l (pre.length : Int) = c := by rw [e]; exact rdm_ReCell _ _ _
    have hlt : (pre.length : Int) < (l.length : Int) := by rw [e]; exact lt_mid _ _ _
    have hlen : pre.length + 1 + rest.length = l.length := by rw [e]; simp; omega
    have hn' : rest.length ≤ n := by simpa using hn
    have hP : ((l.length : Int) - rest.length) = (pre.length : Int) + 1 := by omega
    have hP1 : ((pre ++ [c]).length : Int) = (pre.length : Int) + 1 := by simp
    have hPE : (l.length : Int) - rest.length - 1 = (pre.length : Int) := by omega
    have hP0 : 0 ≤ (pre.length : Int) := Int.natCast_nonneg _
    generalize hpp : (pre.length : Int) = P at *
    obtain ⟨w1, w2, w3, w4, w5⟩ := wraps5 P hP0 (by omega)
    simp only [parse] at hp
    by_cases hc : cellOk c = true
    · rw [if_pos hc] at hp
      have hc' := hc
      unfold cellOk at hc'
      simp only [Bool.and_eq_true, decide_eq_true_eq] at hc'
      simp only [flat, List.length_append] at ho
      simp only [flat]
      have hE : ∀ T, secondAt l.length rest = T → edgesAt l.length c rest = (if c.f0 = 2 then [fe (2 * P) (2 * P + 1)]
        else if c.f0 = 3 then [⟨2 * P, 2 * P + 1, false, false, c.f1⟩]
        else if c.f0 = 4 then [⟨2 * P, 2 * P + 1, false, true, 0⟩]
        else if c.f0 = 5 then [fe (2 * P) (2 * (P + 1)), fe (2 * (P + 1) + 1) (2 * T), fe (2 * T + 1) (2 * P + 1)]
        else if c.f0 = 6 then [fe (2 * P) (2 * (P + 1)), fe (2 * P) (2 * T), fe (2 * (P + 1) + 1) (2 * P + 1), fe (2 * T + 1) (2 * P + 1)]
        else if c.f0 = 7 then [fe (2 * P) (2 * P + 1), fe (2 * P) (2 * (P + 1)), fe (2 * (P + 1) + 1) (2 * P + 1), fe (2 * (P + 1) + 1) (2 * (P + 1))]
        else []) := fun T hs => by unfold edgesAt; rw [hPE, hP, hs]
      have leaf : arity c.f0 = 0 → ∀ X, edgesAt l.length c rest = X → (∀ k, spec_l6Nfa.f (k + 1) l P out = some (out ++ X, P + 1)) → ∃ X, edgesAt l.length c rest ++ flat l.length rest = X ++ flat l.length q ∧ Ev (fun k => spec_l6Nfa.f k l P out) (out ++ X, (l.length : Int) - q.length) := fun ha X hX hf => by
        rw [ha] at hp
        simp only [Int.toNat_zero, parseK, Option.bind_some, Option.some.injEq, Prod.mk.injEq] at hp
        obtain ⟨_, rfl⟩ := hp
        refine ⟨X, by rw [hX], Ev.step (f := fun _ => some (out ++ X, (l.length : Int) - rest.length)) (fun k => ?_) (Ev.now _)⟩
        rw [hf k, hP]
      have st : ∀ k, spec_l6Nfa.f (k + 1) l P out = spec_l6Nfa.f (k + 1) l P out := fun _ => rfl
      by_cases h1 : c.f0 = 1
      · refine leaf (by rw [h1]; rfl) [] (by rw [hE _ rfl, h1]; rfl) (fun k => ?_)
        rw [spec_l6Nfa.f, if_pos hP0, if_pos hlt, hr, if_pos h1, w3, List.append_nil]
      by_cases h2 : c.f0 = 2
      · refine leaf (by rw [h2]; rfl) _ (by rw [hE _ rfl, if_pos h2]) (fun k => ?_)
        rw [spec_l6Nfa.f, if_pos hP0, if_pos hlt, hr, if_neg h1, if_pos h2, w1, w2, w3, free_is, Option.bind_some, if_pos (by omega)]
        rfl
      by_cases h3 : c.f0 = 3
      · refine leaf (by rw [h3]; rfl) _ (by rw [hE _ rfl, if_neg h2, if_pos h3]) (fun k => ?_)
        rw [spec_l6Nfa.f, if_pos hP0, if_pos hlt, hr, if_neg h1, if_neg h2, if_pos h3, w1, w2, w3, if_pos (by omega)]
      by_cases h4 : c.f0 = 4
      · refine leaf (by rw [h4]; rfl) _ (by rw [hE _ rfl, if_neg h2, if_neg h3, if_pos h4]) (fun k => ?_)
        rw [spec_l6Nfa.f, if_pos hP0, if_pos hlt, hr, if_neg h1, if_neg h2, if_neg h3, if_pos h4, w1, w2, w3, if_pos (by omega)]
      by_cases h7 : c.f0 = 7
      · have ha : (arity c.f0).toNat = 1 := by rw [h7]; rfl
        have eE := hE _ rfl
        rw [if_neg h2, if_neg h3, if_neg h4, if_neg (by omega), if_neg (by omega), if_pos h7] at eE
        rw [ha] at hp
        simp only [parseK] at hp
        cases h1' : parse n rest with
        | none => rw [h1'] at hp; cases hp
        | some x =>
          obtain ⟨t1, q1⟩ := x
          rw [h1'] at hp
          simp only [Option.bind_some, Option.some.injEq, Prod.mk.injEq] at hp
          obtain ⟨_, rfl⟩ := hp
          obtain ⟨X1, f1, K, hK⟩ := nfa_is l hl n rest (pre ++ [c]) t1 q1 (out ++ edgesAt l.length c rest) (by rw [e]; simp) hn' h1' (by rw [List.length_append]; omega)
          replace hK : ∀ k, K ≤ k → spec_l6Nfa.f k l ((pre ++ [c]).length : Int) (out ++ edgesAt l.length c rest) = some ((out ++ edgesAt l.length c rest) ++ X1, (l.length : Int) - q1.length) := hK
          rw [hP1] at hK
          refine ⟨edgesAt l.length c rest ++ X1, by rw [f1, List.append_assoc], K + 1, fun k hk => ?_⟩
          obtain ⟨k, rfl⟩ : ∃ m, k = m + 1 := ⟨k - 1, by omega⟩
          show spec_l6Nfa.f (k + 1) l P out = _
          have hK' := hK k (by omega)
          rw [eE] at hK' ho ⊢
          rw [spec_l6Nfa.f, if_pos hP0, if_pos hlt, hr, if_neg h1, if_neg h2, if_neg h3, if_neg h4, if_pos h7, w1, w2, w3, w4, w5, free_is, Option.bind_some, free_is, Option.bind_some, free_is, Option.bind_some, free_is, Option.bind_some, Option.bind_some]
          dsimp only
          rw [if_pos (by simp at ho ⊢; omega)]
          have : spec_l6Nfa.f k l (P + 1) (out ++ [(⟨2 * P, 2 * P + 1, true, false, 0⟩ : S97), ⟨2 * P, 2 * (P + 1), true, false, 0⟩, ⟨2 * (P + 1) + 1, 2 * P + 1, true, false, 0⟩, ⟨2 * (P + 1) + 1, 2 * (P + 1), true, false, 0⟩]) = _ := hK'
          rw [this, Option.bind_some, List.append_assoc]
      have h56 : c.f0 = 5 ∨ c.f0 = 6 := by
        have := hc'.1
        unfold arity at this
        rw [if_neg (by omega)] at this
        by_cases h : c.f0 = 5 ∨ c.f0 = 6
        · exact h
        · rw [if_neg h, if_neg h7] at this; omega
      have ha : (arity c.f0).toNat = 2 := by rcases h56 with h | h <;> (rw [h]; rfl)
      rw [ha] at hp
      simp only [parseK] at hp
      cases h1' : parse n rest with
      | none => rw [h1'] at hp; cases hp
      | some x =>
        obtain ⟨t1, q1⟩ := x
        rw [h1'] at hp
        simp only [Option.bind_some] at hp
        cases h2' : parse n q1 with
        | none => rw [h2'] at hp; cases hp
        | some x2 =>
          obtain ⟨t2, q2⟩ := x2
          rw [h2'] at hp
          simp only [Option.bind_some, Option.some.injEq, Prod.mk.injEq] at hp
          obtain ⟨_, rfl⟩ := hp
          obtain ⟨c2, u, e2⟩ := parse_cut _ _ _ _ h1'
          have hq1 : q1.length < rest.length := by rw [e2]; simp; omega
          have hsc : scan 1 rest = some q1 := by rw [← parse_scan n rest hn', h1']; rfl
          have hsA := (scan_scanA rest 0 q1 hsc).1
          rw [Nat.zero_add] at hsA
          have hS : secondAt l.length rest = (l.length : Int) - q1.length := by
            unfold secondAt
            rw [hsA]
            simp only [outA]
            omega
          obtain ⟨Kr, hKr⟩ := read_is l (by omega) n rest (pre ++ [c]) (by rw [e]; simp) hn'
          replace hKr : ∀ k, Kr ≤ k → spec_l6Read.f k l ((pre ++ [c]).length : Int) = some (t1.f0, t1.f1, t1.f2, (l.length : Int) - q1.length) := fun k hk => by
            have := hKr k hk
            rw [h1'] at this
            exact this
          obtain ⟨X1, f1, K, hK⟩ := nfa_is l hl n rest (pre ++ [c]) t1 q1 (out ++ edgesAt l.length c rest) (by rw [e]; simp) hn' h1' (by rw [List.length_append]; omega)
          replace hK : ∀ k, K ≤ k → spec_l6Nfa.f k l ((pre ++ [c]).length : Int) (out ++ edgesAt l.length c rest) = some ((out ++ edgesAt l.length c rest) ++ X1, (l.length : Int) - q1.length) := hK
          have hf1 := congrArg List.length f1
          rw [List.length_append] at hf1
          obtain ⟨X2, f2, K2, hK2⟩ := nfa_is l hl n q1 (pre ++ c :: c2 :: u) t2 q2 ((out ++ edgesAt l.length c rest) ++ X1) (by rw [e, e2]; simp) (by omega) h2' (by rw [List.length_append, List.length_append]; omega)
          have hpos : ((pre ++ c :: c2 :: u).length : Int) = (l.length : Int) - q1.length := by rw [e, e2]; simp; omega
          replace hK2 : ∀ k, K2 ≤ k → spec_l6Nfa.f k l ((pre ++ c :: c2 :: u).length : Int) ((out ++ edgesAt l.length c rest) ++ X1) = some (((out ++ edgesAt l.length c rest) ++ X1) ++ X2, (l.length : Int) - q2.length) := hK2
          rw [hP1] at hK hKr
          rw [hpos] at hK2
          have eE := hE _ hS
          rw [if_neg h2, if_neg h3, if_neg h4] at eE
          generalize hT : (l.length : Int) - q1.length = T at *
          obtain ⟨w7, w8, _⟩ := wraps5 T (by omega) (by omega)
          refine ⟨edgesAt l.length c rest ++ X1 ++ X2, by rw [f1, f2]; simp, K + K2 + Kr + 1, fun k hk => ?_⟩
          obtain ⟨k, rfl⟩ : ∃ m, k = m + 1 := ⟨k - 1, by omega⟩
          show spec_l6Nfa.f (k + 1) l P out = _
          have hK' := hK k (by omega)
          have hK2' := hK2 k (by omega)
          have hKr' := hKr k (by omega)
          rw [spec_l6Nfa.f, if_pos hP0, if_pos hlt, hr, if_neg h1, if_neg h2, if_neg h3, if_neg h4, if_neg h7, w1, w2, w3, w4, w5, hKr', Option.bind_some]
          dsimp only
          rw [w7, w8]
          by_cases h5 : c.f0 = 5
          · rw [if_pos h5] at eE
            rw [eE] at hK' hK2' ho ⊢
            rw [if_pos h5, free_is, Option.bind_some, free_is, Option.bind_some, free_is, Option.bind_some, Option.bind_some]
            dsimp only
            rw [if_pos (by simp at ho ⊢; omega)]
            have : spec_l6Nfa.f k l (P + 1) (out ++ [(⟨2 * P, 2 * (P + 1), true, false, 0⟩ : S97), ⟨2 * (P + 1) + 1, 2 * T, true, false, 0⟩, ⟨2 * T + 1, 2 * P + 1, true, false, 0⟩]) = _ := hK'
            rw [this, Option.bind_some]
            dsimp only
            rw [hK2', Option.bind_some]
            simp
          · have h6 : c.f0 = 6 := by omega
            rw [if_neg h5, if_pos h6] at eE
            rw [eE] at hK' hK2' ho ⊢
            rw [if_neg h5, free_is, Option.bind_some, free_is, Option.bind_some, free_is, Option.bind_some, free_is, Option.bind_some, Option.bind_some]
            dsimp only
            rw [if_pos (by simp at ho ⊢; omega)]
            have : spec_l6Nfa.f k l (P + 1) (out ++ [(⟨2 * P, 2 * (P + 1), true, false, 0⟩ : S97), ⟨2 * P, 2 * T, true, false, 0⟩, ⟨2 * (P + 1) + 1, 2 * P + 1, true, false, 0⟩, ⟨2 * T + 1, 2 * P + 1, true, false, 0⟩]) = _ := hK'
            rw [this, Option.bind_some]
            dsimp only
            rw [hK2', Option.bind_some]
            simp
    · rw [if_neg hc] at hp; cases hp
def nfaR (l : List S109) : Int × Int × Int × List S97 × Bool := if (tree l).2.2.2 = true then (2 * (l.length : Int), 0, 1, flat l.length l, true) else (0, 0, 0, [], false)
theorem tree_good {l : List S109} (h : (tree l).2.2.2 = true) : l.length ≤ 30 ∧ ∃ t, parse l.length l = some (t, []) := by
  unfold tree at h
  by_cases h1 : l.length > 30
  · rw [if_pos h1] at h; cases h
  · rw [if_neg h1] at h
    refine ⟨by omega, ?_⟩
    cases hp : parse l.length l with
    | none => rw [hp] at h; cases h
    | some x =>
      obtain ⟨t, r⟩ := x
      rw [hp] at h
      simp only [List.isEmpty_iff] at h
      exact ⟨t, by rw [h]⟩
theorem spec_BuildNfa_is (l : List S109) : Ev (fun k => spec_BuildNfa.f k l) (nfaR l) := by
  obtain ⟨K1, h1⟩ := spec_GoodRegex_is l
  replace h1 : ∀ k, K1 ≤ k → spec_GoodRegex.f k l = _ := h1
  unfold nfaR
  by_cases h : (tree l).2.2.2 = true
  · obtain ⟨hl, t, hp⟩ := tree_good h
    have hf := flat_len l.length l
    obtain ⟨X, hX, K2, h2⟩ := nfa_is l hl l.length l [] t [] [] rfl (Nat.le_refl _) hp (by simp; omega)
    replace h2 : ∀ k, K2 ≤ k → spec_l6Nfa.f k l 0 [] = some (X, (l.length : Int) - 0) := h2
    have hX' : flat l.length l = X := by rw [hX]; simp [flat]
    refine ⟨K1 + K2, fun k hk => ?_⟩
    simp only [spec_BuildNfa.f]
    rw [h1 k (by omega), Option.bind_some, if_pos h, h2 k (by omega), Option.bind_some, if_pos h, hX', wrap_id (by omega) (by omega)]
  · refine ⟨K1, fun k hk => ?_⟩
    simp only [spec_BuildNfa.f]
    rw [h1 k hk, Option.bind_some, if_neg h, if_neg h]
theorem impl_BuildNfa_is (l : List S109) (hl : l.length ≤ 1048576) : Ev (fun k => impl_BuildNfa.f k l) (nfaR l) := by
  obtain ⟨K1, h1⟩ := impl_GoodRegex_is l hl
  replace h1 : ∀ k, K1 ≤ k → impl_GoodRegex.f k l = _ := h1
  unfold nfaR
  by_cases h : (tree l).2.2.2 = true
  · obtain ⟨hl, t, hp⟩ := tree_good h
    obtain ⟨K2, h2⟩ := build_loop l hl l [] [] rfl (by simp; omega)
    replace h2 : ∀ k, K2 ≤ k → impl_BuildNfa.l0 k l l (l.length : Int) 0 (wrap64 (2 * (l.length : Int))) 0 1 [] = some (wrap64 (2 * (l.length : Int)), 0, 1, flat l.length l, true) := h2
    refine ⟨K1 + K2 + 1, fun k hk => ?_⟩
    obtain ⟨k, rfl⟩ : ∃ m, k = m + 1 := ⟨k - 1, by omega⟩
    simp only [impl_BuildNfa.f]
    rw [h1 _ (by omega), Option.bind_some, if_pos h, impl_BuildNfa.j0, if_neg (by rw [wrap_id (by omega) (by omega), decide_eq_false (by omega)]; simp), h2 k (by omega), if_pos h, wrap_id (by omega) (by omega)]
  · refine ⟨K1 + 1, fun k hk => ?_⟩
    obtain ⟨k, rfl⟩ : ∃ m, k = m + 1 := ⟨k - 1, by omega⟩
    simp only [impl_BuildNfa.f]
    rw [h1 _ (by omega), Option.bind_some, if_neg h, impl_BuildNfa.j0, if_pos rfl, if_neg h]

end FnExactBuildNfaUses
open Go.RowKit Go.Proofs.Ytkkchcalhomgcaa.PFnExactBuildNfa Go.Proofs.YtkkchcalhomgcaaW.PrintWords Go.Proofs.YtkkchcalhomgcaaW.PrintLast Go.Proofs.YtkkchcalhomgcaaW.PrintMore Go.Proofs.Ytkkchcalhomgcaa.Pfx Go.Proofs.Ytkkchcalhomgcaa.Loop Go.Proofs.Ytkkchcalhomgcaa.Tbl FnExactBuildNfaUses
set_option linter.unusedVariables false
theorem FnExactBuildNfa (l0 : List S111) (m0 : l0.length ≤ maxLen) (w0 : ∀ a, a ∈ l0 → ((Lit.int .i64 a.f0).wf = true ∧ (Lit.int .i64 a.f1).wf = true)) : ∃ k, laws_FnExactBuildNfa.f k l0 = some true := by
  obtain ⟨r, hr, hb⟩ := laws_szReCellS_is l0 m0
  by_cases h : r < 0
  · exact ⟨0, by unfold laws_FnExactBuildNfa.f; rw [hr, Option.bind_some, if_pos h]⟩
  · have hl := hb h
    have hl2 : (l0.map fun p => (⟨p.f0, p.f1⟩ : S109)).length = l0.length := by simp
    obtain ⟨K1, h1⟩ := spec_BuildNfa_is (l0.map fun p => (⟨p.f0, p.f1⟩ : S109))
    obtain ⟨K2, h2⟩ := impl_BuildNfa_is (l0.map fun p => (⟨p.f0, p.f1⟩ : S109)) (by omega)
    have hq : (nfaR (l0.map fun p => (⟨p.f0, p.f1⟩ : S109))).2.2.2.1.length ≤ 120 := by
      unfold nfaR
      by_cases hg : (tree (l0.map fun p => (⟨p.f0, p.f1⟩ : S109))).2.2.2 = true
      · rw [if_pos hg]
        have := (tree_good hg).1
        have := flat_len (l0.map fun p => (⟨p.f0, p.f1⟩ : S109)).length (l0.map fun p => (⟨p.f0, p.f1⟩ : S109))
        dsimp only
        omega
      · rw [if_neg hg]; simp
    generalize nfaR (l0.map fun p => (⟨p.f0, p.f1⟩ : S109)) = q at h1 h2 hq
    replace h1 : ∀ k, K1 ≤ k → spec_BuildNfa.f k _ = _ := h1
    replace h2 : ∀ k, K2 ≤ k → impl_BuildNfa.f k _ = _ := h2
    obtain ⟨K, hK⟩ : ∃ K : Nat, K1 + K2 + l0.length + q.2.2.2.1.length + 10 ≤ K := ⟨_, Nat.le_refl _⟩
    refine ⟨K + 1 + 1 + 1, ?_⟩
    unfold laws_FnExactBuildNfa.f
    rw [hr, Option.bind_some, if_neg h, laws_toReCellS_is _ l0 hl (by omega)]
    simp only [Option.bind_some]
    rw [h1 _ (by omega), h2 _ (by omega)]
    simp only [Option.bind_some]
    rw [laws_eqNfa_refl _ _ _ _ _ (by simp only [maxLen]; omega) (by omega)]
    simp only [Option.bind_some, if_true, bne_self_eq_false]
    rw [laws_FnExactBuildNfa.j0, if_neg (by simp), laws_toReCellS_is _ l0 hl (by omega)]
    simp only [Option.bind_some]
    rw [laws_eqReCellS_refl _ _ (by simp only [maxLen]; omega) (by omega)]
    simp only [Option.bind_some, if_true]
    rw [laws_markReCellS_is _ (by omega) 1 (by omega) (by omega) _ (by omega)]
    simp only [Option.bind_some]
    rw [if_neg (by omega), laws_eqNfa_refl _ _ _ _ _ (by simp only [maxLen]; omega) (by omega)]
    simp only [Option.bind_some, if_true, bne_self_eq_false]
    rw [laws_FnExactBuildNfa.j1, if_neg (by simp), laws_markNfa_is _ _ _ q.2.2.2.1 (by omega) _ (by omega)]
    simp only [Option.bind_some]
    rw [laws_heldNfa_is _ _ _ q.2.2.2.1.length (by omega) _ (by omega)]
    simp only [Option.bind_some]
    rw [if_neg (by omega), if_pos trivial, laws_toReCellS_is _ l0 hl (by omega)]
    simp only [Option.bind_some]
    rw [h2 _ (by omega)]
    simp only [Option.bind_some]
    rw [laws_eqNfa_refl _ _ _ _ _ (by simp only [maxLen]; omega) (by omega)]
    simp only [Option.bind_some, if_true, bne_self_eq_false]
    rw [laws_FnExactBuildNfa.j2, if_neg (by simp), laws_heldNfa_is _ _ _ q.2.2.2.1.length (by omega) _ (by omega)]
    simp only [Option.bind_some]
    rw [if_neg (by omega), if_pos trivial]
end Go.Proofs.Ytkkchcalhomgcaa.Pure
