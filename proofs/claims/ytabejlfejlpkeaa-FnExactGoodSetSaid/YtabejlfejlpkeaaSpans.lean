/- Rows of addresses with gaps between, and the greedy walk that tells each by the fewest prefixes. Plain mathematics; no condition but what each lemma states. -/
import Derived.Test.YtabejlfejlpkeaaSets
namespace Go.Proofs.Ytabejlfejlpkeaa.Pfx
/-! ### Rows of addresses -/
abbrev Sp := Int × Int
def inS (l : List Sp) (x : Int) : Prop := ∃ s, s ∈ l ∧ s.1 ≤ x ∧ x ≤ s.2
structure Gapped (l : List Sp) : Prop where
  srt : l.Pairwise (fun s t => s.2 + 1 < t.1)
  ne : ∀ s, s ∈ l → s.1 ≤ s.2
theorem Gapped.tail {s : Sp} {l : List Sp} (h : Gapped (s :: l)) : Gapped l := ⟨(List.pairwise_cons.1 h.srt).2, fun t ht => h.ne t (by simp [ht])⟩
theorem pairwise_two {α : Type} {R : α → α → Prop} {l : List α} (h : l.Pairwise R) {a b : α} (ha : a ∈ l) (hb : b ∈ l) : a = b ∨ R a b ∨ R b a := by
  induction l with
  | nil => simp at ha
  | cons c t ih =>
    obtain ⟨hc, ht⟩ := List.pairwise_cons.1 h
    rcases List.mem_cons.1 ha with rfl | ha' <;> rcases List.mem_cons.1 hb with rfl | hb'
    · exact .inl rfl
    · exact .inr (.inl (hc b hb'))
    · exact .inr (.inr (hc a ha'))
    · exact ih ht ha' hb'
theorem Gapped.one {l : List Sp} (h : Gapped l) {s t : Sp} (hs : s ∈ l) (ht : t ∈ l) {x : Int} (h1 : s.1 ≤ x ∧ x ≤ s.2) (h2 : t.1 ≤ x ∧ x ≤ t.2) : s = t := by
  rcases pairwise_two h.srt hs ht with e | e | e
  · exact e
  · omega
  · omega
/-- A row that lies in gapped rows lies in one of them. -/
theorem Gapped.row {l : List Sp} (h : Gapped l) {a b : Int} (hab : a ≤ b) (hin : ∀ x, a ≤ x → x ≤ b → inS l x) : ∃ s, s ∈ l ∧ s.1 ≤ a ∧ b ≤ s.2 := by
  obtain ⟨s, hs, h1, h2⟩ := hin a (Int.le_refl _) hab
  by_cases hb : b ≤ s.2
  · exact ⟨s, hs, h1, hb⟩
  · exfalso
    obtain ⟨t, ht, h3, h4⟩ := hin (s.2 + 1) (by omega) (by omega)
    rcases pairwise_two h.srt hs ht with e | e | e
    · subst e; omega
    · omega
    · omega
theorem gapped_ext : ∀ {l l' : List Sp}, Gapped l → Gapped l' → (∀ p, p ∈ l ↔ p ∈ l') → l = l'
  | [], [], _, _, _ => rfl
  | [], b :: t, _, _, h => by simpa using (h b).2 (by simp)
  | a :: t, [], _, _, h => by simpa using (h a).1 (by simp)
  | a :: t, b :: t', h1, h2, h => by
    obtain ⟨ha, ht⟩ := List.pairwise_cons.1 h1.srt
    obtain ⟨hb, ht'⟩ := List.pairwise_cons.1 h2.srt
    have na := h1.ne a (by simp)
    have nb := h2.ne b (by simp)
    have e : a = b := by
      rcases List.mem_cons.1 ((h a).1 (by simp)) with e | hm
      · exact e
      · rcases List.mem_cons.1 ((h b).2 (by simp)) with e | hm'
        · exact e.symm
        · have := hb a hm
          have := ha b hm'
          omega
    subst e
    have hn : ∀ {s : List Sp}, (∀ q, q ∈ s → a.2 + 1 < q.1) → a ∉ s := fun hs hm => by have := hs a hm; omega
    have : t = t' := gapped_ext h1.tail h2.tail (fun p => by
      constructor
      · intro hp
        rcases List.mem_cons.1 ((h p).1 (by simp [hp])) with e | hm
        · exact absurd (e ▸ hp) (hn ha)
        · exact hm
      · intro hp
        rcases List.mem_cons.1 ((h p).2 (by simp [hp])) with e | hm
        · exact absurd (e ▸ hp) (hn hb)
        · exact hm)
    rw [this]
theorem Gapped.unique {l l' : List Sp} (h : Gapped l) (h' : Gapped l') (e : ∀ x, inS l x ↔ inS l' x) : l = l' := by
  have key : ∀ {l l' : List Sp}, Gapped l → Gapped l' → (∀ x, inS l x ↔ inS l' x) → ∀ p, p ∈ l → p ∈ l' := by
    intro l l' h h' e p hp
    obtain ⟨t, ht, h1, h2⟩ := h'.row (h.ne p hp) (fun x hx hx2 => (e x).1 ⟨p, hp, hx, hx2⟩)
    obtain ⟨s, hs, h3, h4⟩ := h.row (h'.ne t ht) (fun x hx hx2 => (e x).2 ⟨t, ht, hx, hx2⟩)
    have n1 := h.ne p hp
    have := h.one hp hs (x := p.1) ⟨by omega, by omega⟩ ⟨by omega, by omega⟩
    subst this
    have : t = p := Prod.ext (by omega) (by omega)
    rw [← this]; exact ht
  exact gapped_ext h h' (fun p => ⟨key h h' e p, key h' h (fun x => (e x).symm) p⟩)

/-- How many addresses prefixes have, and rows. -/
def total (l : List Pr) : Int := (l.map fun p => sz p.2).foldr (· + ·) 0
def totalS (l : List Sp) : Int := (l.map fun s => s.2 - s.1 + 1).foldr (· + ·) 0
theorem total_cons (p : Pr) (l : List Pr) : total (p :: l) = sz p.2 + total l := rfl
theorem total_append (l l' : List Pr) : total (l ++ l') = total l + total l' := by
  induction l with
  | nil => simp [total]
  | cons a t ih => rw [List.cons_append, total_cons, total_cons, ih]; omega
theorem totalS_cons (p : Sp) (l : List Sp) : totalS (p :: l) = (p.2 - p.1 + 1) + totalS l := rfl

/-- What the greedy walk through one row of addresses [a, b] tells from 'f' on. -/
structure Greedy (a b f : Int) (l : List Pr) : Prop where
  srt : Srt l
  max : ∀ p, p ∈ l → MaxP (fun x => a ≤ x ∧ x ≤ b) p
  low : ∀ p, p ∈ l → f ≤ p.1
  cover : ∀ x, f ≤ x → x ≤ b → inL l x
  sum : f ≤ b + 1 → total l = b + 1 - f
/-- No good prefix of the row lies over the place f. -/
def Clear (a b f : Int) : Prop := ∀ q, GoodP q → a ≤ q.1 → last q ≤ b → ¬ (q.1 < f ∧ f ≤ last q)
theorem clear_first (a b : Int) : Clear a b a := fun q _ h _ h2 => by omega
theorem greedy_nil {a b f : Int} (h : b < f) (hf : f ≤ b + 1) : Greedy a b f [] :=
  ⟨List.Pairwise.nil, fun p hp => by simp at hp, fun p hp => by simp at hp, fun x h1 h2 => by omega, fun _ => by simp [total]; omega⟩
/-- The greatest good prefix at f within b. -/
structure Best (b : Int) (p : Pr) : Prop where
  good : GoodP p
  fits : last p ≤ b
  least : ∀ n, 0 ≤ n → n < p.2 → GoodP (p.1, n) → ¬ last (p.1, n) ≤ b
theorem best_max {a b f : Int} {p : Pr} (hp : Best b p) (hf : p.1 = f) (ha : a ≤ f) (hc : Clear a b f) : MaxP (fun x => a ≤ x ∧ x ≤ b) p := by
  refine ⟨hp.good, fun x hx => ?_, fun hn hpar => ?_⟩
  · have := hp.fits
    unfold inP at hx
    omega
  · have hg := good_parent hp.good hn
    have h1 := hpar (parent p).1 first_in
    have h2 := hpar (last (parent p)) ⟨fst_le_last _, Int.le_refl _⟩
    have hcov := cov_parent hp.good hn
    rcases parent_cases hp.good with ⟨_, h3, _⟩ | ⟨_, h3, _⟩
    · have e : parent p = (p.1, p.2 - 1) := Prod.ext h3 rfl
      have f2 := hp.good.facts
      refine hp.least (p.2 - 1) (by omega) (by omega) (by rw [← e]; exact hg) ?_
      rw [← e]
      exact h2.2
    · have hs := sz_pos p.2
      refine hc (parent p) hg h1.1 h2.2 ⟨by omega, ?_⟩
      have := hcov.2.2
      omega
theorem best_clear {a b f : Int} {p : Pr} (hp : Best b p) (hf : p.1 = f) (hc : Clear a b f) : Clear a b (last p + 1) := by
  intro q hq h1 h2 ⟨h3, h4⟩
  have hpl := fst_le_last p
  by_cases hlt : q.1 < f
  · exact hc q hq h1 h2 ⟨hlt, by omega⟩
  · have hin : inP q (last p) := ⟨by omega, by omega⟩
    have hin2 : inP p (last p) := ⟨hpl, Int.le_refl _⟩
    rcases common hp.good hq hin2 hin with h | h
    · have := cov_last hp.good hq h
      omega
    · have e : q.1 = p.1 := by have := h.2.1; omega
      have e2 : q = (p.1, q.2) := Prod.ext e rfl
      by_cases hl : q.2 = p.2
      · have : q = p := Prod.ext e hl
        rw [this] at h4
        omega
      · have f2 := hq.facts
        have := h.1
        exact hp.least q.2 (by omega) (by omega) (by rw [← e2]; exact hq) (by rw [← e2]; exact h2)
theorem greedy_cons {a b f : Int} {p : Pr} {l : List Pr} (hp : Best b p) (hf : p.1 = f) (ha : a ≤ f) (hc : Clear a b f) (h : Greedy a b (last p + 1) l) : Greedy a b f (p :: l) := by
  have hpl := fst_le_last p
  refine ⟨List.pairwise_cons.2 ⟨fun q hq => by have := h.low q hq; omega, h.srt⟩, fun q hq => ?_, fun q hq => ?_, fun x h1 h2 => ?_, fun h1 => ?_⟩
  · rcases List.mem_cons.1 hq with rfl | hq
    · exact best_max hp hf ha hc
    · exact h.max q hq
  · rcases List.mem_cons.1 hq with rfl | hq
    · omega
    · have := h.low q hq
      omega
  · by_cases hx : x ≤ last p
    · exact ⟨p, by simp, ⟨by omega, hx⟩⟩
    · obtain ⟨q, hq, hx2⟩ := h.cover x (by omega) h2
      exact ⟨q, by simp [hq], hx2⟩
  · have := h.sum (by have := hp.fits; omega)
    rw [total_cons, this]
    unfold last
    omega
theorem Greedy.canon {a b : Int} {l : List Pr} (h : Greedy a b a l) : Canon (fun x => a ≤ x ∧ x ≤ b) l := ⟨h.srt, h.max, fun x hx => h.cover x hx.1 hx.2⟩
/-- All rows' prefixes. -/
theorem canon_rows : ∀ {l : List Sp} {r : List (List Pr)}, Gapped l → r.length = l.length → (∀ (i : Nat) (s : Sp) (g : List Pr), l[i]? = some s → r[i]? = some g → Canon (fun x => s.1 ≤ x ∧ x ≤ s.2) g) → Canon (inS l) r.flatten
  | [], [], _, _, _ => ⟨List.Pairwise.nil, fun p hp => by simp at hp, fun x ⟨s, hs, _⟩ => by simp at hs⟩
  | [], _ :: _, _, hl, _ => by simp at hl
  | _ :: _, [], _, hl, _ => by simp at hl
  | s :: l, g :: r, hg, hl, h => by
    have ih := canon_rows hg.tail (by simpa using hl) (fun i s' g' h1 h2 => h (i + 1) s' g' (by simpa using h1) (by simpa using h2))
    have h0 := h 0 s g rfl rfl
    have hsg := (List.pairwise_cons.1 hg.srt).1
    have inrest : ∀ p, p ∈ r.flatten → s.2 + 1 < p.1 := fun p hp => by
      obtain ⟨t, ht, h1, h2⟩ := (ih.max p hp).2.1 p.1 first_in
      have := hsg t ht
      omega
    have infirst : ∀ p, p ∈ g → last p ≤ s.2 := fun p hp => ((h0.max p hp).2.1 (last p) ⟨fst_le_last p, Int.le_refl _⟩).2
    have hone : ∀ (t : Sp), t ∈ s :: l → ∀ p, MaxP (fun x => t.1 ≤ x ∧ x ≤ t.2) p → MaxP (inS (s :: l)) p := fun t ht p hp => by
      refine ⟨hp.1, fun x hx => ⟨t, ht, hp.2.1 x hx⟩, fun hn hpar => ?_⟩
      obtain ⟨u, hu, h1, h2⟩ := hg.row (fst_le_last (parent p)) (fun x hx hx2 => hpar x ⟨hx, hx2⟩)
      have hcp := cov_parent hp.1 hn
      have h3 := hp.2.1 p.1 first_in
      have e : u = t := hg.one hu ht (x := p.1) ⟨by have := hcp.2.1; omega, by have := hcp.2.2; omega⟩ h3
      subst e
      exact hp.2.2 hn (fun x hx => by unfold inP at hx; omega)
    refine ⟨?_, fun p hp => ?_, fun x hx => ?_⟩
    · rw [List.flatten_cons]
      refine List.pairwise_append.2 ⟨h0.srt, ih.srt, fun p hp q hq => ?_⟩
      have := infirst p hp
      have := inrest q hq
      omega
    · rw [List.flatten_cons] at hp
      rcases List.mem_append.1 hp with hp | hp
      · exact hone s (by simp) p (h0.max p hp)
      · have hm := ih.max p hp
        obtain ⟨t, ht, h1, h2⟩ := hg.tail.row (fst_le_last p) (fun x hx hx2 => hm.2.1 x ⟨hx, hx2⟩)
        refine hone t (by simp [ht]) p ⟨hm.1, fun x hx => by unfold inP at hx; omega, fun hn hpar => hm.2.2 hn (fun x hx => ⟨t, ht, hpar x hx⟩)⟩
    · obtain ⟨t, ht, hx⟩ := hx
      rw [List.flatten_cons]
      rcases List.mem_cons.1 ht with rfl | ht
      · obtain ⟨p, hp, hx2⟩ := h0.cover x hx
        exact ⟨p, by simp [hp], hx2⟩
      · obtain ⟨p, hp, hx2⟩ := ih.cover x ⟨t, ht, hx⟩
        exact ⟨p, List.mem_append_right _ hp, hx2⟩
end Go.Proofs.Ytabejlfejlpkeaa.Pfx
