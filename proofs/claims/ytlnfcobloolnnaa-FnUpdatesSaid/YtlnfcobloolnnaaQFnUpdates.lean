/- Plain mathematics that the plain law of FnUpdates uses. No condition but what each lemma states. -/
import Derived.Test.YtlnfcobloolnnaaVFnUpdates
import Derived.Laws.Entries
namespace Go.Proofs.Ytlnfcobloolnnaa.Pfx
open Go.RowKit Go.Proofs.YtlnfcobloolnnaaW.PrintWords Go.Proofs.YtlnfcobloolnnaaW.PrintLast Go.Proofs.YtlnfcobloolnnaaW.PrintMore
def sz (n : Int) : Int := 2 ^ (32 - n).toNat

theorem pow_pos (m : Nat) : (1 : Int) ≤ 2 ^ m := by
  induction m with
  | zero => simp
  | succ m ih => rw [Int.pow_succ]; omega
theorem sz_pos (n : Int) : 1 ≤ sz n := pow_pos _
theorem pow_le (m k : Nat) (h : m ≤ k) : (2 : Int) ^ m ≤ 2 ^ k := by
  obtain ⟨d, rfl⟩ := Nat.le.dest h
  rw [Int.pow_add]
  have h1 := pow_pos m
  have h2 := pow_pos d
  calc (2 : Int) ^ m = 2 ^ m * 1 := by omega
    _ ≤ 2 ^ m * 2 ^ d := Int.mul_le_mul_of_nonneg_left h2 (by omega)
theorem sz_le {n : Int} (h0 : 0 ≤ n) : sz n ≤ 4294967296 := by
  have := pow_le (32 - n).toNat 32 (by omega)
  simpa [sz] using this
theorem sz_add {n m : Int} (h0 : 0 ≤ n) (h : n ≤ m) (hm : m ≤ 32) : sz n = sz m * 2 ^ (m - n).toNat := by
  unfold sz
  rw [← Int.pow_add]
  congr 1
  omega
theorem sz_dvd {n m : Int} (h0 : 0 ≤ n) (h : n ≤ m) (hm : m ≤ 32) : sz m ∣ sz n := ⟨_, sz_add h0 h hm⟩
def good (a n : Int) : Bool := decide (0 ≤ n ∧ n ≤ 32 ∧ 0 ≤ a ∧ a ≤ 4294967295 ∧ a % sz n = 0)
theorem good_iff {a n : Int} : good a n = true ↔ (0 ≤ n ∧ n ≤ 32 ∧ 0 ≤ a ∧ a ≤ 4294967295 ∧ a % sz n = 0) := by simp [good]

theorem beq_dec (a b : Int) : (a == b) = decide (a = b) := by by_cases h : a = b <;> simp [h]
theorem wrap_id {x : Int} (h0 : -9223372036854775808 ≤ x) (h1 : x ≤ 9223372036854775807) : wrap64 x = x := by
  unfold wrap64
  omega
theorem u64_id {x : Int} (h0 : 0 ≤ x) (h1 : x ≤ 9223372036854775807) : IntKind.u64.wrap x = x := by
  rw [IntKind.wrap_u64]
  omega
theorem shl_sz {n : Int} (h0 : 0 ≤ n) (h1 : n ≤ 32) : shl .i64 1 (wrap64 (32 - n)) = sz n := by
  rw [wrap_id (by omega) (by omega)]
  unfold shl
  have hb : IntKind.i64.bits = 64 := rfl
  rw [hb, Nat.min_eq_left (by omega), i64_w, Int.one_mul]
  have h2 := sz_pos n
  have h3 := sz_le h0
  show wrap64 (sz n) = sz n
  exact wrap_id (by omega) (by omega)
def cmpP (a n b m : Int) : Int := if a < b ∨ a = b ∧ n < m then -1 else if a = b ∧ n = m then 0 else 1
end Go.Proofs.Ytlnfcobloolnnaa.Pfx
namespace Go.Proofs.Ytlnfcobloolnnaa.Pfx
abbrev Pr := Int × Int
end Go.Proofs.Ytlnfcobloolnnaa.Pfx
namespace Go.Proofs.Ytlnfcobloolnnaa.Loop
open Go.RowKit Go.Proofs.YtlnfcobloolnnaaW.PrintWords Go.Proofs.YtlnfcobloolnnaaW.PrintLast Go.Proofs.YtlnfcobloolnnaaW.PrintMore Go.Proofs.Ytlnfcobloolnnaa.Pfx
variable {α : Type}
theorem lt_mid (pre : List α) (a : α) (rest : List α) : (pre.length : Int) < ((pre ++ a :: rest).length : Int) := by simp; omega
theorem not_lt_end (l : List α) : ¬ ((l.length : Int) < (l.length : Int)) := by omega
theorem wrap_mid {pre : List α} {a : α} {rest : List α} (h : (pre ++ a :: rest).length ≤ maxLen) : wrap64 ((pre.length : Int) + 1) = ((pre ++ [a]).length : Int) := by
  have h2 : maxLen = 9223372036854775807 := rfl
  rw [h2] at h
  simp at h
  rw [wrap_id (by omega) (by omega)]
  simp
theorem len_nn (l : List α) : (0 : Int) ≤ (l.length : Int) := Int.natCast_nonneg _
theorem rd_mid (pre : List Int) (a : Int) (rest : List Int) : rd (pre ++ a :: rest) (pre.length : Int) = a := by unfold rd; simp
theorem snoc_cases (l : List α) : l = [] ∨ ∃ p q, l = p ++ [q] := by
  rcases List.eq_nil_or_concat l with h | ⟨p, q, h⟩
  · exact .inl h
  · exact .inr ⟨p, q, by rw [h, List.concat_eq_append]⟩
theorem idx_gen (f : Nat → Int → Option Int) (l : List α) (p : α → Bool) (h0 : ∀ k, f (k + 1) (l.length : Int) = some (-1))
    (h1 : ∀ k pre a rest, l = pre ++ a :: rest → f (k + 1) (pre.length : Int) = if p a = true then some (pre.length : Int) else f k ((pre ++ [a]).length : Int)) :
    ∀ (rest pre : List α) (k : Nat), l = pre ++ rest → rest.length < k → ∃ r : Int, f k (pre.length : Int) = some r ∧ (0 ≤ r ↔ rest.any p = true) := by
  intro rest
  induction rest with
  | nil =>
    intro pre k e hk
    obtain ⟨k, rfl⟩ : ∃ m, k = m + 1 := ⟨k - 1, by omega⟩
    have e' : l = pre := by simpa using e
    exact ⟨-1, by rw [← e']; exact h0 k, by simp⟩
  | cons a rest ih =>
    intro pre k e hk
    obtain ⟨k, rfl⟩ : ∃ m, k = m + 1 := ⟨k - 1, by omega⟩
    rw [h1 k pre a rest e]
    by_cases hv : p a = true
    · rw [if_pos hv]
      exact ⟨_, rfl, by simp [hv]⟩
    · rw [if_neg hv]
      obtain ⟨r, hr, hi⟩ := ih (pre ++ [a]) k (by rw [e]; simp) (by simp at hk; omega)
      refine ⟨r, hr, ?_⟩
      rw [hi]; simp [hv]
theorem any_gen (f : Nat → Int → Option Int) (l : List α) (p : α → Bool) (h0 : ∀ k, f (k + 1) (l.length : Int) = some (-1))
    (h1 : ∀ k pre a rest, l = pre ++ a :: rest → f (k + 1) (pre.length : Int) = if p a = true then some (pre.length : Int) else f k ((pre ++ [a]).length : Int))
    (k : Nat) (hk : l.length < k) : ((f k 0).bind fun t => some (decide (t ≥ 0))) = some (l.any p) := by
  obtain ⟨r, hr, hi⟩ := idx_gen f l p h0 h1 l [] k rfl hk
  have hr' : f k 0 = some r := hr
  rw [hr', Option.bind_some]
  congr 1
  by_cases h : 0 ≤ r
  · rw [hi.1 h]; simp [h]
  · have : l.any p = false := by
      cases hb : l.any p with
      | false => rfl
      | true => exact absurd (hi.2 hb) h
    rw [this]; simp; omega
theorem idx_genK (K : Nat) (f : Nat → Int → Option Int) (l : List α) (p : α → Bool) (h0 : ∀ k, f (k + 1) (l.length : Int) = some (-1))
    (h1 : ∀ k, K ≤ k → ∀ pre a rest, l = pre ++ a :: rest → f (k + 1) (pre.length : Int) = if p a = true then some (pre.length : Int) else f k ((pre ++ [a]).length : Int)) :
    ∀ (rest pre : List α) (k : Nat), l = pre ++ rest → rest.length + K < k → ∃ r : Int, f k (pre.length : Int) = some r ∧ (0 ≤ r ↔ rest.any p = true) := by
  intro rest
  induction rest with
  | nil =>
    intro pre k e hk
    obtain ⟨k, rfl⟩ : ∃ m, k = m + 1 := ⟨k - 1, by omega⟩
    have e' : l = pre := by simpa using e
    exact ⟨-1, by rw [← e']; exact h0 k, by simp⟩
  | cons a rest ih =>
    intro pre k e hk
    obtain ⟨k, rfl⟩ : ∃ m, k = m + 1 := ⟨k - 1, by omega⟩
    rw [h1 k (by simp at hk; omega) pre a rest e]
    by_cases hv : p a = true
    · rw [if_pos hv]
      exact ⟨_, rfl, by simp [hv]⟩
    · rw [if_neg hv]
      obtain ⟨r, hr, hi⟩ := ih (pre ++ [a]) k (by rw [e]; simp) (by simp at hk; omega)
      refine ⟨r, hr, ?_⟩
      rw [hi]; simp [hv]
theorem any_genK (K : Nat) (f : Nat → Int → Option Int) (l : List α) (p : α → Bool) (h0 : ∀ k, f (k + 1) (l.length : Int) = some (-1))
    (h1 : ∀ k, K ≤ k → ∀ pre a rest, l = pre ++ a :: rest → f (k + 1) (pre.length : Int) = if p a = true then some (pre.length : Int) else f k ((pre ++ [a]).length : Int))
    (k : Nat) (hk : l.length + K < k) : ((f k 0).bind fun t => some (decide (t ≥ 0))) = some (l.any p) := by
  obtain ⟨r, hr, hi⟩ := idx_genK K f l p h0 h1 l [] k rfl hk
  have hr' : f k 0 = some r := hr
  rw [hr', Option.bind_some]
  congr 1
  by_cases h : 0 ≤ r
  · rw [hi.1 h]; simp [h]
  · have : l.any p = false := by
      cases hb : l.any p with
      | false => rfl
      | true => exact absurd (hi.2 hb) h
    rw [this]; simp; omega
end Go.Proofs.Ytlnfcobloolnnaa.Loop
namespace Go.Proofs.Ytlnfcobloolnnaa.Tbl
open Go.Proofs.Ytlnfcobloolnnaa.Pfx
abbrev Pr2 := Int × Int
def risingFrom : Option Pr2 → List Pr2 → Bool
  | _, [] => true
  | prev, p :: t => good p.1 p.2 && (match prev with | none => true | some q => decide (cmpP q.1 q.2 p.1 p.2 < 0)) && risingFrom (some p) t
def rising (l : List Pr2) : Bool := risingFrom none l
theorem risingFrom_good : ∀ (l : List Pr2) (o : Option Pr2), risingFrom o l = true → ∀ p, p ∈ l → good p.1 p.2 = true
  | [], _, _, p, hp => by simp at hp
  | q :: t, o, h, p, hp => by
    simp only [risingFrom, Bool.and_eq_true] at h
    rcases List.mem_cons.1 hp with rfl | hp
    · exact h.1.1
    · exact risingFrom_good t _ h.2 p hp
theorem rising_good {l : List Pr2} (h : rising l = true) : ∀ p, p ∈ l → good p.1 p.2 = true := risingFrom_good l none h
end Go.Proofs.Ytlnfcobloolnnaa.Tbl
