/- Plain mathematics that the plain law of FnExactTidyRegex uses. No condition but what each lemma states. -/
import Derived.Test.YtkkchcalhomgcaaVFnExactTidyRegex
import Derived.Laws.Entries
namespace Go.Proofs.Ytkkchcalhomgcaa.Pfx
open Go.RowKit Go.Proofs.YtkkchcalhomgcaaW.PrintWords Go.Proofs.YtkkchcalhomgcaaW.PrintLast Go.Proofs.YtkkchcalhomgcaaW.PrintMore
def sz (n : Int) : Int := 2 ^ (32 - n).toNat

theorem sz_lit : sz 0 = 4294967296 ∧ sz 32 = 1 := by decide

theorem sz_succ {n : Int} (h0 : 0 ≤ n) (h : n < 32) : sz n = 2 * sz (n + 1) := by
  unfold sz
  have e : (32 - n).toNat = (32 - (n + 1)).toNat + 1 := by omega
  rw [e, Int.pow_succ]
  omega
theorem pow_pos (m : Nat) : (1 : Int) ≤ 2 ^ m := by
  induction m with
  | zero => simp
  | succ m ih => rw [Int.pow_succ]; omega
theorem sz_pos (n : Int) : 1 ≤ sz n := pow_pos _
theorem pow_le (m k : Nat) (h : m ≤ k) : (2 : Int) ^ m ≤ 2 ^ k := by
  obtain ⟨d, rfl⟩ := Nat.le.dest h
  rw [Int.pow_add]
  have h1 := pow_pos m
  have h2 := pow_pos d
  calc (2 : Int) ^ m = 2 ^ m * 1 := by omega
    _ ≤ 2 ^ m * 2 ^ d := Int.mul_le_mul_of_nonneg_left h2 (by omega)
theorem sz_le {n : Int} (h0 : 0 ≤ n) : sz n ≤ 4294967296 := by
  have := pow_le (32 - n).toNat 32 (by omega)
  simpa [sz] using this
theorem sz_add {n m : Int} (h0 : 0 ≤ n) (h : n ≤ m) (hm : m ≤ 32) : sz n = sz m * 2 ^ (m - n).toNat := by
  unfold sz
  rw [← Int.pow_add]
  congr 1
  omega
theorem sz_dvd {n m : Int} (h0 : 0 ≤ n) (h : n ≤ m) (hm : m ≤ 32) : sz m ∣ sz n := ⟨_, sz_add h0 h hm⟩
theorem sz_mono {n m : Int} (h0 : 0 ≤ n) (h : n ≤ m) (hm : m ≤ 32) : sz m ≤ sz n := Int.le_of_dvd (by have := sz_pos n; omega) (sz_dvd h0 h hm)

def good (a n : Int) : Bool := decide (0 ≤ n ∧ n ≤ 32 ∧ 0 ≤ a ∧ a ≤ 4294967295 ∧ a % sz n = 0)
theorem good_iff {a n : Int} : good a n = true ↔ (0 ≤ n ∧ n ≤ 32 ∧ 0 ≤ a ∧ a ≤ 4294967295 ∧ a % sz n = 0) := by simp [good]

theorem in_row {a s x : Int} (hs : 0 < s) (ha : a % s = 0) : x - x % s = a ↔ (a ≤ x ∧ x ≤ a + s - 1) := by
  have h1 := Int.emod_nonneg x (show s ≠ 0 by omega)
  have h2 := Int.emod_lt_of_pos x hs
  constructor
  · intro h; omega
  · rintro ⟨h3, h4⟩
    have e1 := Int.mul_ediv_add_emod x s
    have e2 := Int.mul_ediv_add_emod a s
    rw [ha] at e2
    have e3 : x - a = s * (x / s - a / s) + x % s := by rw [Int.mul_sub]; omega
    have h5 : x / s - a / s = 0 := by
      by_cases h6 : x / s - a / s = 0
      · exact h6
      · exfalso
        rcases Int.lt_or_gt_of_ne h6 with h7 | h7
        · have : s * (x / s - a / s) ≤ s * (-1) := Int.mul_le_mul_of_nonneg_left (by omega) (by omega)
          omega
        · have : s * 1 ≤ s * (x / s - a / s) := Int.mul_le_mul_of_nonneg_left (by omega) (by omega)
          omega
    rw [h5, Int.mul_zero] at e3
    omega

theorem good_end {a n : Int} (h : good a n = true) : a + sz n - 1 ≤ 4294967295 := by
  obtain ⟨h0, h1, h2, h3, h4⟩ := good_iff.1 h
  have hd : sz n ∣ 4294967296 := by
    have := sz_dvd (n := 0) (m := n) (by omega) h0 h1
    rwa [sz_lit.1] at this
  obtain ⟨q, hq⟩ := hd
  obtain ⟨p, hp⟩ := Int.dvd_of_emod_eq_zero h4
  have hs := sz_pos n
  have hlt : p < q := by
    by_cases hlt : p < q
    · exact hlt
    · exfalso
      have : sz n * q ≤ sz n * p := Int.mul_le_mul_of_nonneg_left (by omega) (by omega)
      omega
  have : sz n * (p + 1) ≤ sz n * q := Int.mul_le_mul_of_nonneg_left (by omega) (by omega)
  rw [Int.mul_add] at this
  omega
theorem parent_rest {a s : Int} (hs : 0 < s) (ha : a % s = 0) : a % (2 * s) = 0 ∨ a % (2 * s) = s := by
  obtain ⟨p, rfl⟩ := Int.dvd_of_emod_eq_zero ha
  rw [Int.mul_comm 2 s, Int.mul_emod_mul_of_pos _ _ hs]
  have h : p % 2 = 0 ∨ p % 2 = 1 := by omega
  rcases h with h | h <;> rw [h]
  · left; omega
  · right; omega
theorem one_xor (p : Nat) : p ^^^ 1 = if p % 2 = 0 then p + 1 else p - 1 := by
  have h1 : (p ^^^ 1) / 2 = p / 2 := by rw [Nat.xor_div_two]; simp
  have h2 : (p ^^^ 1) % 2 = (p + 1) % 2 := by
    have h := @Nat.xor_mod_two_pow p 1 1
    simp only [Nat.pow_one] at h
    rw [h]
    rcases Nat.mod_two_eq_zero_or_one p with h1 | h1
    · rw [h1]; show 0 ^^^ 1 = _; simp; omega
    · rw [h1]; show 1 ^^^ 1 = _; simp; omega
  split <;> omega
theorem nat_xor (p j : Nat) : (p * 2 ^ j) ^^^ (2 ^ j) = if p % 2 = 0 then p * 2 ^ j + 2 ^ j else p * 2 ^ j - 2 ^ j := by
  have e1 : p * 2 ^ j = p <<< j := (Nat.shiftLeft_eq p j).symm
  have e2 : 2 ^ j = 1 <<< j := by rw [Nat.shiftLeft_eq]; omega
  have : (p * 2 ^ j) ^^^ (2 ^ j) = (p ^^^ 1) * 2 ^ j := by
    rw [e1]
    conv => lhs; rhs; rw [e2]
    rw [← Nat.shiftLeft_xor_distrib, Nat.shiftLeft_eq]
  rw [this, one_xor]
  split
  · rw [Nat.add_mul]; omega
  · rw [Nat.sub_mul]; omega
theorem bit_at (p j k : Nat) : (p * 2 ^ j).testBit k = (decide (k ≥ j) && p.testBit (k - j)) := by
  rw [← Nat.shiftLeft_eq, Nat.testBit_shiftLeft]
theorem one_at (j k : Nat) : (2 ^ j).testBit k = decide (j = k) := Nat.testBit_two_pow
theorem nat_andNot (p j m : Nat) (hj : 2 ^ j < 2 ^ m) (hp : p * 2 ^ j < 2 ^ m) : (p * 2 ^ j) &&& (2 ^ m - 1 - 2 ^ j) = if p % 2 = 0 then p * 2 ^ j else p * 2 ^ j - 2 ^ j := by
  have e : 2 ^ m - 1 - 2 ^ j = 2 ^ m - (2 ^ j + 1) := by omega
  have hx := nat_xor p j
  have hb : (p * 2 ^ j).testBit j = decide (p % 2 = 1) := by
    rw [bit_at]; simp [Nat.testBit_zero]
  rw [e]
  split
  · rename_i h
    apply Nat.eq_of_testBit_eq
    intro k
    rw [Nat.testBit_and, Nat.testBit_two_pow_sub_succ hj, one_at]
    by_cases hk : k < m
    · by_cases hjk : j = k
      · subst hjk; rw [hb]; simp [hk]; omega
      · simp [hk, hjk]
    · have : (p * 2 ^ j).testBit k = false := Nat.testBit_lt_two_pow (Nat.lt_of_lt_of_le hp (Nat.pow_le_pow_right (by omega) (by omega)))
      rw [this]; simp
  · rename_i h
    rw [if_neg h] at hx
    rw [← hx]
    apply Nat.eq_of_testBit_eq
    intro k
    rw [Nat.testBit_and, Nat.testBit_two_pow_sub_succ hj, Nat.testBit_xor, one_at]
    by_cases hk : k < m
    · by_cases hjk : j = k
      · subst hjk; rw [hb]; simp [hk]; omega
      · simp [hk, hjk]
    · have h1 : (p * 2 ^ j).testBit k = false := Nat.testBit_lt_two_pow (Nat.lt_of_lt_of_le hp (Nat.pow_le_pow_right (by omega) (by omega)))
      have h2 : (j = k) = False := by
        simp
        rintro rfl
        have : m ≤ j := by omega
        have := Nat.pow_le_pow_right (n := 2) (by omega) this
        omega
      rw [h1]; simp [h2]

theorem beq_dec (a b : Int) : (a == b) = decide (a = b) := by by_cases h : a = b <;> simp [h]
theorem i64_lo {x : Int} (h : (Lit.int .i64 x).wf = true) : -9223372036854775808 ≤ x ∧ x ≤ 9223372036854775807 := by
  have h' : IntKind.i64.min ≤ x ∧ x ≤ IntKind.i64.max := by simpa [Lit.wf] using h
  have e1 : IntKind.i64.min = -9223372036854775808 := by decide
  have e2 : IntKind.i64.max = 9223372036854775807 := by decide
  omega
theorem wrap_id {x : Int} (h0 : -9223372036854775808 ≤ x) (h1 : x ≤ 9223372036854775807) : wrap64 x = x := by
  unfold wrap64
  omega
theorem u64_id {x : Int} (h0 : 0 ≤ x) (h1 : x ≤ 9223372036854775807) : IntKind.u64.wrap x = x := by
  rw [IntKind.wrap_u64]
  omega
theorem shl_sz {n : Int} (h0 : 0 ≤ n) (h1 : n ≤ 32) : shl .i64 1 (wrap64 (32 - n)) = sz n := by
  rw [wrap_id (by omega) (by omega)]
  unfold shl
  have hb : IntKind.i64.bits = 64 := rfl
  rw [hb, Nat.min_eq_left (by omega), i64_w, Int.one_mul]
  have h2 := sz_pos n
  have h3 := sz_le h0
  show wrap64 (sz n) = sz n
  exact wrap_id (by omega) (by omega)
theorem ofInt_i64 (a : Nat) (ha : a < 18446744073709551616) : (BitVec.ofInt 64 (a : Int)).toNat = a := by
  rw [BitVec.ofInt_natCast, BitVec.toNat_ofNat]; exact Nat.mod_eq_of_lt (by omega)
theorem as_nat {a n : Int} (h0 : 0 ≤ n) (_h1 : n ≤ 32) (ha : 0 ≤ a) (ha2 : a ≤ 4294967295) (hd : a % sz n = 0) :
    ∃ p : Nat, a = ((p * 2 ^ (32 - n).toNat : Nat) : Int) ∧ sz n = ((2 ^ (32 - n).toNat : Nat) : Int) ∧ p * 2 ^ (32 - n).toNat < 4294967296 ∧ 2 ^ (32 - n).toNat ≤ 4294967296 ∧ (a % (2 * sz n) = 0 ↔ p % 2 = 0) := by
  have hs : sz n = ((2 ^ (32 - n).toNat : Nat) : Int) := by unfold sz; simp
  have hp := sz_pos n
  obtain ⟨q, hq⟩ := Int.dvd_of_emod_eq_zero hd
  have hq0 : 0 ≤ q := by
    by_cases h : 0 ≤ q
    · exact h
    · exfalso
      have : sz n * q ≤ sz n * (-1) := Int.mul_le_mul_of_nonneg_left (by omega) (by omega)
      omega
  obtain ⟨p, rfl⟩ := Int.eq_ofNat_of_zero_le hq0
  have ha' : a = ((p * 2 ^ (32 - n).toNat : Nat) : Int) := by rw [hq, hs, Int.mul_comm]; simp
  refine ⟨p, ha', hs, ?_, ?_, ?_⟩
  · generalize p * 2 ^ (32 - n).toNat = X at *
    omega
  · have := sz_le h0
    rw [hs] at this
    generalize 2 ^ (32 - n).toNat = X at *
    omega
  · rw [hq, Int.mul_comm 2 (sz n), Int.mul_emod_mul_of_pos _ _ (by omega)]
    constructor
    · intro h
      have : sz n * ((p : Int) % 2) = sz n * 0 := by omega
      have := Int.eq_of_mul_eq_mul_left (by omega) this
      omega
    · intro h
      have : (p : Int) % 2 = 0 := by omega
      rw [this]; simp
theorem xor_sz {a n : Int} (h0 : 0 ≤ n) (h1 : n ≤ 32) (ha : 0 ≤ a) (ha2 : a ≤ 4294967295) (hd : a % sz n = 0) : Go.bits .xor .i64 a (sz n) = if a % (2 * sz n) = 0 then a + sz n else a - sz n := by
  obtain ⟨p, rfl, hs, hp, hj, hiff⟩ := as_nat h0 h1 ha ha2 hd
  have hx := nat_xor p (32 - n).toNat
  have hge : p % 2 = 1 → 1 * 2 ^ (32 - n).toNat ≤ p * 2 ^ (32 - n).toNat := fun h => Nat.mul_le_mul_right _ (by omega)
  rw [hs] at hiff ⊢
  show IntKind.i64.wrap ((BitVec.ofInt 64 _ ^^^ BitVec.ofInt 64 _).toNat : Int) = _
  generalize p * 2 ^ (32 - n).toNat = X at *
  generalize 2 ^ (32 - n).toNat = Y at *
  rw [BitVec.toNat_xor, ofInt_i64 _ (by omega), ofInt_i64 _ (by omega), hx, i64_w]
  by_cases h : p % 2 = 0
  · rw [if_pos h, if_pos (hiff.2 h), wrap_id (by omega) (by omega)]; omega
  · have := hge (by omega)
    rw [if_neg h, if_neg (fun h' => h (hiff.1 h')), wrap_id (by omega) (by omega)]; omega
theorem andNot_sz {a n : Int} (h0 : 0 ≤ n) (h1 : n ≤ 32) (ha : 0 ≤ a) (ha2 : a ≤ 4294967295) (hd : a % sz n = 0) : Go.bits .andNot .i64 a (sz n) = a - a % (2 * sz n) := by
  have hr := parent_rest (a := a) (s := sz n) (by have := sz_pos n; omega) hd
  obtain ⟨p, rfl, hs, hp, hj, hiff⟩ := as_nat h0 h1 ha ha2 hd
  have hx := nat_andNot p (32 - n).toNat 64 (Nat.lt_of_le_of_lt hj (by decide)) (Nat.lt_trans hp (by decide))
  have hge : p % 2 = 1 → 1 * 2 ^ (32 - n).toNat ≤ p * 2 ^ (32 - n).toNat := fun h => Nat.mul_le_mul_right _ (by omega)
  rw [hs] at hiff hr ⊢
  show IntKind.i64.wrap ((BitVec.ofInt 64 _ &&& ~~~BitVec.ofInt 64 _).toNat : Int) = _
  generalize p * 2 ^ (32 - n).toNat = X at *
  generalize 2 ^ (32 - n).toNat = Y at *
  rw [BitVec.toNat_and, BitVec.toNat_not, ofInt_i64 _ (by omega), ofInt_i64 _ (by omega), hx, i64_w]
  by_cases h : p % 2 = 0
  · rw [if_pos h, wrap_id (by omega) (by omega)]
    have := hiff.2 h
    omega
  · have := hge (by omega)
    rw [if_neg h, wrap_id (by omega) (by omega)]
    have h3 : ¬ (X : Int) % (2 * (Y : Int)) = 0 := fun h' => h (hiff.1 h')
    rcases hr with hr | hr
    · exact absurd hr h3
    · rw [hr]; omega

def sib (a n : Int) : Int := if a % (2 * sz n) = 0 then a + sz n else a - sz n
def cmpP (a n b m : Int) : Int := if a < b ∨ a = b ∧ n < m then -1 else if a = b ∧ n = m then 0 else 1
def hasAddr (a n x : Int) : Bool × Bool := if good a n = true ∧ (0 ≤ x ∧ x ≤ 4294967295) then (decide (a ≤ x ∧ x ≤ a + sz n - 1), true) else (false, false)
def prefixHas (a n b m : Int) : Bool × Bool := if good a n = true ∧ good b m = true then (decide (n ≤ m ∧ a ≤ b ∧ b ≤ a + sz n - 1), true) else (false, false)
def compareP (a n b m : Int) : Int × Bool := if good a n = true ∧ good b m = true then (cmpP a n b m, true) else (0, false)
def parentOf (a n : Int) : Int × Int × Bool := if good a n = true ∧ ¬ n = 0 then (a - a % (2 * sz n), n - 1, true) else (0, 0, false)
def siblingOf (a n : Int) : Int × Int × Bool := if good a n = true ∧ ¬ n = 0 then (sib a n, n, true) else (0, 0, false)
def halvesOf (a n : Int) : Int × Int × Int × Int × Bool := if good a n = true ∧ ¬ n = 32 then (a, n + 1, a + sz (n + 1), n + 1, true) else (0, 0, 0, 0, false)
end Go.Proofs.Ytkkchcalhomgcaa.Pfx
namespace Go.Proofs.Ytkkchcalhomgcaa.Loop
open Go.RowKit Go.Proofs.YtkkchcalhomgcaaW.PrintWords Go.Proofs.YtkkchcalhomgcaaW.PrintLast Go.Proofs.YtkkchcalhomgcaaW.PrintMore Go.Proofs.Ytkkchcalhomgcaa.Pfx
variable {α : Type}
theorem lt_mid (pre : List α) (a : α) (rest : List α) : (pre.length : Int) < ((pre ++ a :: rest).length : Int) := by simp; omega
theorem not_lt_end (l : List α) : ¬ ((l.length : Int) < (l.length : Int)) := by omega
theorem wrap_mid {pre : List α} {a : α} {rest : List α} (h : (pre ++ a :: rest).length ≤ maxLen) : wrap64 ((pre.length : Int) + 1) = ((pre ++ [a]).length : Int) := by
  have h2 : maxLen = 9223372036854775807 := rfl
  rw [h2] at h
  simp at h
  rw [wrap_id (by omega) (by omega)]
  simp
theorem snoc_cons (pre : List α) (a : α) (rest : List α) : pre ++ a :: rest = (pre ++ [a]) ++ rest := by simp
theorem len_nn (l : List α) : (0 : Int) ≤ (l.length : Int) := Int.natCast_nonneg _
theorem getD_mid (pre : List α) (a : α) (rest : List α) (z : α) : (pre ++ a :: rest).getD ((pre.length : Int)).toNat z = a := by simp
theorem set_mid (pre : List α) (a b : α) (rest : List α) : (pre ++ a :: rest).set ((pre.length : Int)).toNat b = pre ++ b :: rest := by simp
theorem rd_mid (pre : List Int) (a : Int) (rest : List Int) : rd (pre ++ a :: rest) (pre.length : Int) = a := by unfold rd; simp
theorem snoc_cases (l : List α) : l = [] ∨ ∃ p q, l = p ++ [q] := by
  rcases List.eq_nil_or_concat l with h | ⟨p, q, h⟩
  · exact .inl h
  · exact .inr ⟨p, q, by rw [h, List.concat_eq_append]⟩
theorem sz_ok {n : Nat} {r : Int} (hn : n ≤ maxLen) (h : (if wrap64 (1048576 - (n : Int)) < 0 then some (-1) else some (wrap64 (1048576 - (n : Int)))) = some r) (hr : ¬ r < 0) : n ≤ 1048576 := by
  have h2 : maxLen = 9223372036854775807 := rfl
  rw [h2] at hn
  rw [wrap_id (by omega) (by omega)] at h
  by_cases hc : (1048576 : Int) - (n : Int) < 0
  · rw [if_pos hc] at h; cases h; omega
  · omega
theorem idx_gen (f : Nat → Int → Option Int) (l : List α) (p : α → Bool) (h0 : ∀ k, f (k + 1) (l.length : Int) = some (-1))
    (h1 : ∀ k pre a rest, l = pre ++ a :: rest → f (k + 1) (pre.length : Int) = if p a = true then some (pre.length : Int) else f k ((pre ++ [a]).length : Int)) :
    ∀ (rest pre : List α) (k : Nat), l = pre ++ rest → rest.length < k → ∃ r : Int, f k (pre.length : Int) = some r ∧ (0 ≤ r ↔ rest.any p = true) := by
  intro rest
  induction rest with
  | nil =>
    intro pre k e hk
    obtain ⟨k, rfl⟩ : ∃ m, k = m + 1 := ⟨k - 1, by omega⟩
    have e' : l = pre := by simpa using e
    exact ⟨-1, by rw [← e']; exact h0 k, by simp⟩
  | cons a rest ih =>
    intro pre k e hk
    obtain ⟨k, rfl⟩ : ∃ m, k = m + 1 := ⟨k - 1, by omega⟩
    rw [h1 k pre a rest e]
    by_cases hv : p a = true
    · rw [if_pos hv]
      exact ⟨_, rfl, by simp [hv]⟩
    · rw [if_neg hv]
      obtain ⟨r, hr, hi⟩ := ih (pre ++ [a]) k (by rw [e]; simp) (by simp at hk; omega)
      refine ⟨r, hr, ?_⟩
      rw [hi]; simp [hv]
theorem any_gen (f : Nat → Int → Option Int) (l : List α) (p : α → Bool) (h0 : ∀ k, f (k + 1) (l.length : Int) = some (-1))
    (h1 : ∀ k pre a rest, l = pre ++ a :: rest → f (k + 1) (pre.length : Int) = if p a = true then some (pre.length : Int) else f k ((pre ++ [a]).length : Int))
    (k : Nat) (hk : l.length < k) : ((f k 0).bind fun t => some (decide (t ≥ 0))) = some (l.any p) := by
  obtain ⟨r, hr, hi⟩ := idx_gen f l p h0 h1 l [] k rfl hk
  have hr' : f k 0 = some r := hr
  rw [hr', Option.bind_some]
  congr 1
  by_cases h : 0 ≤ r
  · rw [hi.1 h]; simp [h]
  · have : l.any p = false := by
      cases hb : l.any p with
      | false => rfl
      | true => exact absurd (hi.2 hb) h
    rw [this]; simp; omega
theorem idx_genK (K : Nat) (f : Nat → Int → Option Int) (l : List α) (p : α → Bool) (h0 : ∀ k, f (k + 1) (l.length : Int) = some (-1))
    (h1 : ∀ k, K ≤ k → ∀ pre a rest, l = pre ++ a :: rest → f (k + 1) (pre.length : Int) = if p a = true then some (pre.length : Int) else f k ((pre ++ [a]).length : Int)) :
    ∀ (rest pre : List α) (k : Nat), l = pre ++ rest → rest.length + K < k → ∃ r : Int, f k (pre.length : Int) = some r ∧ (0 ≤ r ↔ rest.any p = true) := by
  intro rest
  induction rest with
  | nil =>
    intro pre k e hk
    obtain ⟨k, rfl⟩ : ∃ m, k = m + 1 := ⟨k - 1, by omega⟩
    have e' : l = pre := by simpa using e
    exact ⟨-1, by rw [← e']; exact h0 k, by simp⟩
  | cons a rest ih =>
    intro pre k e hk
    obtain ⟨k, rfl⟩ : ∃ m, k = m + 1 := ⟨k - 1, by omega⟩
    rw [h1 k (by simp at hk; omega) pre a rest e]
    by_cases hv : p a = true
    · rw [if_pos hv]
      exact ⟨_, rfl, by simp [hv]⟩
    · rw [if_neg hv]
      obtain ⟨r, hr, hi⟩ := ih (pre ++ [a]) k (by rw [e]; simp) (by simp at hk; omega)
      refine ⟨r, hr, ?_⟩
      rw [hi]; simp [hv]
theorem any_genK (K : Nat) (f : Nat → Int → Option Int) (l : List α) (p : α → Bool) (h0 : ∀ k, f (k + 1) (l.length : Int) = some (-1))
    (h1 : ∀ k, K ≤ k → ∀ pre a rest, l = pre ++ a :: rest → f (k + 1) (pre.length : Int) = if p a = true then some (pre.length : Int) else f k ((pre ++ [a]).length : Int))
    (k : Nat) (hk : l.length + K < k) : ((f k 0).bind fun t => some (decide (t ≥ 0))) = some (l.any p) := by
  obtain ⟨r, hr, hi⟩ := idx_genK K f l p h0 h1 l [] k rfl hk
  have hr' : f k 0 = some r := hr
  rw [hr', Option.bind_some]
  congr 1
  by_cases h : 0 ≤ r
  · rw [hi.1 h]; simp [h]
  · have : l.any p = false := by
      cases hb : l.any p with
      | false => rfl
      | true => exact absurd (hi.2 hb) h
    rw [this]; simp; omega
end Go.Proofs.Ytkkchcalhomgcaa.Loop
