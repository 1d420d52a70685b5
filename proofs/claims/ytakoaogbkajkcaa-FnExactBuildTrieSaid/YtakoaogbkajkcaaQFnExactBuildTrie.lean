/- Plain mathematics that the plain law of FnExactBuildTrie uses. No condition but what each lemma states. -/
import Derived.Test.YtakoaogbkajkcaaVFnExactBuildTrie
import Derived.Laws.Entries
namespace Go.Proofs.Ytakoaogbkajkcaa.Pfx
open Go.RowKit Go.Proofs.YtakoaogbkajkcaaW.PrintWords Go.Proofs.YtakoaogbkajkcaaW.PrintLast Go.Proofs.YtakoaogbkajkcaaW.PrintMore
def sz (n : Int) : Int := 2 ^ (32 - n).toNat

theorem sz_lit : sz 0 = 4294967296 ∧ sz 32 = 1 := by decide

theorem sz_succ {n : Int} (h0 : 0 ≤ n) (h : n < 32) : sz n = 2 * sz (n + 1) := by
  unfold sz
  have e : (32 - n).toNat = (32 - (n + 1)).toNat + 1 := by omega
  rw [e, Int.pow_succ]
  omega
theorem pow_pos (m : Nat) : (1 : Int) ≤ 2 ^ m := by
  induction m with
  | zero => simp
  | succ m ih => rw [Int.pow_succ]; omega
theorem sz_pos (n : Int) : 1 ≤ sz n := pow_pos _
theorem pow_le (m k : Nat) (h : m ≤ k) : (2 : Int) ^ m ≤ 2 ^ k := by
  obtain ⟨d, rfl⟩ := Nat.le.dest h
  rw [Int.pow_add]
  have h1 := pow_pos m
  have h2 := pow_pos d
  calc (2 : Int) ^ m = 2 ^ m * 1 := by omega
    _ ≤ 2 ^ m * 2 ^ d := Int.mul_le_mul_of_nonneg_left h2 (by omega)
theorem sz_le {n : Int} (h0 : 0 ≤ n) : sz n ≤ 4294967296 := by
  have := pow_le (32 - n).toNat 32 (by omega)
  simpa [sz] using this
theorem sz_add {n m : Int} (h0 : 0 ≤ n) (h : n ≤ m) (hm : m ≤ 32) : sz n = sz m * 2 ^ (m - n).toNat := by
  unfold sz
  rw [← Int.pow_add]
  congr 1
  omega
theorem sz_dvd {n m : Int} (h0 : 0 ≤ n) (h : n ≤ m) (hm : m ≤ 32) : sz m ∣ sz n := ⟨_, sz_add h0 h hm⟩
theorem sz_mono {n m : Int} (h0 : 0 ≤ n) (h : n ≤ m) (hm : m ≤ 32) : sz m ≤ sz n := Int.le_of_dvd (by have := sz_pos n; omega) (sz_dvd h0 h hm)

def good (a n : Int) : Bool := decide (0 ≤ n ∧ n ≤ 32 ∧ 0 ≤ a ∧ a ≤ 4294967295 ∧ a % sz n = 0)
theorem good_iff {a n : Int} : good a n = true ↔ (0 ≤ n ∧ n ≤ 32 ∧ 0 ≤ a ∧ a ≤ 4294967295 ∧ a % sz n = 0) := by simp [good]

theorem in_row {a s x : Int} (hs : 0 < s) (ha : a % s = 0) : x - x % s = a ↔ (a ≤ x ∧ x ≤ a + s - 1) := by
  have h1 := Int.emod_nonneg x (show s ≠ 0 by omega)
  have h2 := Int.emod_lt_of_pos x hs
  constructor
  · intro h; omega
  · rintro ⟨h3, h4⟩
    have e1 := Int.mul_ediv_add_emod x s
    have e2 := Int.mul_ediv_add_emod a s
    rw [ha] at e2
    have e3 : x - a = s * (x / s - a / s) + x % s := by rw [Int.mul_sub]; omega
    have h5 : x / s - a / s = 0 := by
      by_cases h6 : x / s - a / s = 0
      · exact h6
      · exfalso
        rcases Int.lt_or_gt_of_ne h6 with h7 | h7
        · have : s * (x / s - a / s) ≤ s * (-1) := Int.mul_le_mul_of_nonneg_left (by omega) (by omega)
          omega
        · have : s * 1 ≤ s * (x / s - a / s) := Int.mul_le_mul_of_nonneg_left (by omega) (by omega)
          omega
    rw [h5, Int.mul_zero] at e3
    omega

theorem good_end {a n : Int} (h : good a n = true) : a + sz n - 1 ≤ 4294967295 := by
  obtain ⟨h0, h1, h2, h3, h4⟩ := good_iff.1 h
  have hd : sz n ∣ 4294967296 := by
    have := sz_dvd (n := 0) (m := n) (by omega) h0 h1
    rwa [sz_lit.1] at this
  obtain ⟨q, hq⟩ := hd
  obtain ⟨p, hp⟩ := Int.dvd_of_emod_eq_zero h4
  have hs := sz_pos n
  have hlt : p < q := by
    by_cases hlt : p < q
    · exact hlt
    · exfalso
      have : sz n * q ≤ sz n * p := Int.mul_le_mul_of_nonneg_left (by omega) (by omega)
      omega
  have : sz n * (p + 1) ≤ sz n * q := Int.mul_le_mul_of_nonneg_left (by omega) (by omega)
  rw [Int.mul_add] at this
  omega
theorem parent_rest {a s : Int} (hs : 0 < s) (ha : a % s = 0) : a % (2 * s) = 0 ∨ a % (2 * s) = s := by
  obtain ⟨p, rfl⟩ := Int.dvd_of_emod_eq_zero ha
  rw [Int.mul_comm 2 s, Int.mul_emod_mul_of_pos _ _ hs]
  have h : p % 2 = 0 ∨ p % 2 = 1 := by omega
  rcases h with h | h <;> rw [h]
  · left; omega
  · right; omega
theorem one_xor (p : Nat) : p ^^^ 1 = if p % 2 = 0 then p + 1 else p - 1 := by
  have h1 : (p ^^^ 1) / 2 = p / 2 := by rw [Nat.xor_div_two]; simp
  have h2 : (p ^^^ 1) % 2 = (p + 1) % 2 := by
    have h := @Nat.xor_mod_two_pow p 1 1
    simp only [Nat.pow_one] at h
    rw [h]
    rcases Nat.mod_two_eq_zero_or_one p with h1 | h1
    · rw [h1]; show 0 ^^^ 1 = _; simp; omega
    · rw [h1]; show 1 ^^^ 1 = _; simp; omega
  split <;> omega
theorem nat_xor (p j : Nat) : (p * 2 ^ j) ^^^ (2 ^ j) = if p % 2 = 0 then p * 2 ^ j + 2 ^ j else p * 2 ^ j - 2 ^ j := by
  have e1 : p * 2 ^ j = p <<< j := (Nat.shiftLeft_eq p j).symm
  have e2 : 2 ^ j = 1 <<< j := by rw [Nat.shiftLeft_eq]; omega
  have : (p * 2 ^ j) ^^^ (2 ^ j) = (p ^^^ 1) * 2 ^ j := by
    rw [e1]
    conv => lhs; rhs; rw [e2]
    rw [← Nat.shiftLeft_xor_distrib, Nat.shiftLeft_eq]
  rw [this, one_xor]
  split
  · rw [Nat.add_mul]; omega
  · rw [Nat.sub_mul]; omega
theorem bit_at (p j k : Nat) : (p * 2 ^ j).testBit k = (decide (k ≥ j) && p.testBit (k - j)) := by
  rw [← Nat.shiftLeft_eq, Nat.testBit_shiftLeft]
theorem one_at (j k : Nat) : (2 ^ j).testBit k = decide (j = k) := Nat.testBit_two_pow
theorem nat_andNot (p j m : Nat) (hj : 2 ^ j < 2 ^ m) (hp : p * 2 ^ j < 2 ^ m) : (p * 2 ^ j) &&& (2 ^ m - 1 - 2 ^ j) = if p % 2 = 0 then p * 2 ^ j else p * 2 ^ j - 2 ^ j := by
  have e : 2 ^ m - 1 - 2 ^ j = 2 ^ m - (2 ^ j + 1) := by omega
  have hx := nat_xor p j
  have hb : (p * 2 ^ j).testBit j = decide (p % 2 = 1) := by
    rw [bit_at]; simp [Nat.testBit_zero]
  rw [e]
  split
  · rename_i h
    apply Nat.eq_of_testBit_eq
    intro k
    rw [Nat.testBit_and, Nat.testBit_two_pow_sub_succ hj, one_at]
    by_cases hk : k < m
    · by_cases hjk : j = k
      · subst hjk; rw [hb]; simp [hk]; omega
      · simp [hk, hjk]
    · have : (p * 2 ^ j).testBit k = false := Nat.testBit_lt_two_pow (Nat.lt_of_lt_of_le hp (Nat.pow_le_pow_right (by omega) (by omega)))
      rw [this]; simp
  · rename_i h
    rw [if_neg h] at hx
    rw [← hx]
    apply Nat.eq_of_testBit_eq
    intro k
    rw [Nat.testBit_and, Nat.testBit_two_pow_sub_succ hj, Nat.testBit_xor, one_at]
    by_cases hk : k < m
    · by_cases hjk : j = k
      · subst hjk; rw [hb]; simp [hk]; omega
      · simp [hk, hjk]
    · have h1 : (p * 2 ^ j).testBit k = false := Nat.testBit_lt_two_pow (Nat.lt_of_lt_of_le hp (Nat.pow_le_pow_right (by omega) (by omega)))
      have h2 : (j = k) = False := by
        simp
        rintro rfl
        have : m ≤ j := by omega
        have := Nat.pow_le_pow_right (n := 2) (by omega) this
        omega
      rw [h1]; simp [h2]

theorem beq_dec (a b : Int) : (a == b) = decide (a = b) := by by_cases h : a = b <;> simp [h]
theorem i64_lo {x : Int} (h : (Lit.int .i64 x).wf = true) : -9223372036854775808 ≤ x ∧ x ≤ 9223372036854775807 := by
  have h' : IntKind.i64.min ≤ x ∧ x ≤ IntKind.i64.max := by simpa [Lit.wf] using h
  have e1 : IntKind.i64.min = -9223372036854775808 := by decide
  have e2 : IntKind.i64.max = 9223372036854775807 := by decide
  omega
theorem wrap_id {x : Int} (h0 : -9223372036854775808 ≤ x) (h1 : x ≤ 9223372036854775807) : wrap64 x = x := by
  unfold wrap64
  omega
theorem u64_id {x : Int} (h0 : 0 ≤ x) (h1 : x ≤ 9223372036854775807) : IntKind.u64.wrap x = x := by
  rw [IntKind.wrap_u64]
  omega
theorem shl_sz {n : Int} (h0 : 0 ≤ n) (h1 : n ≤ 32) : shl .i64 1 (wrap64 (32 - n)) = sz n := by
  rw [wrap_id (by omega) (by omega)]
  unfold shl
  have hb : IntKind.i64.bits = 64 := rfl
  rw [hb, Nat.min_eq_left (by omega), i64_w, Int.one_mul]
  have h2 := sz_pos n
  have h3 := sz_le h0
  show wrap64 (sz n) = sz n
  exact wrap_id (by omega) (by omega)
theorem ofInt_i64 (a : Nat) (ha : a < 18446744073709551616) : (BitVec.ofInt 64 (a : Int)).toNat = a := by
  rw [BitVec.ofInt_natCast, BitVec.toNat_ofNat]; exact Nat.mod_eq_of_lt (by omega)
theorem as_nat {a n : Int} (h0 : 0 ≤ n) (_h1 : n ≤ 32) (ha : 0 ≤ a) (ha2 : a ≤ 4294967295) (hd : a % sz n = 0) :
    ∃ p : Nat, a = ((p * 2 ^ (32 - n).toNat : Nat) : Int) ∧ sz n = ((2 ^ (32 - n).toNat : Nat) : Int) ∧ p * 2 ^ (32 - n).toNat < 4294967296 ∧ 2 ^ (32 - n).toNat ≤ 4294967296 ∧ (a % (2 * sz n) = 0 ↔ p % 2 = 0) := by
  have hs : sz n = ((2 ^ (32 - n).toNat : Nat) : Int) := by unfold sz; simp
  have hp := sz_pos n
  obtain ⟨q, hq⟩ := Int.dvd_of_emod_eq_zero hd
  have hq0 : 0 ≤ q := by
    by_cases h : 0 ≤ q
    · exact h
    · exfalso
      have : sz n * q ≤ sz n * (-1) := Int.mul_le_mul_of_nonneg_left (by omega) (by omega)
      omega
  obtain ⟨p, rfl⟩ := Int.eq_ofNat_of_zero_le hq0
  have ha' : a = ((p * 2 ^ (32 - n).toNat : Nat) : Int) := by rw [hq, hs, Int.mul_comm]; simp
  refine ⟨p, ha', hs, ?_, ?_, ?_⟩
  · generalize p * 2 ^ (32 - n).toNat = X at *
    omega
  · have := sz_le h0
    rw [hs] at this
    generalize 2 ^ (32 - n).toNat = X at *
    omega
  · rw [hq, Int.mul_comm 2 (sz n), Int.mul_emod_mul_of_pos _ _ (by omega)]
    constructor
    · intro h
      have : sz n * ((p : Int) % 2) = sz n * 0 := by omega
      have := Int.eq_of_mul_eq_mul_left (by omega) this
      omega
    · intro h
      have : (p : Int) % 2 = 0 := by omega
      rw [this]; simp
theorem xor_sz {a n : Int} (h0 : 0 ≤ n) (h1 : n ≤ 32) (ha : 0 ≤ a) (ha2 : a ≤ 4294967295) (hd : a % sz n = 0) : Go.bits .xor .i64 a (sz n) = if a % (2 * sz n) = 0 then a + sz n else a - sz n := by
  obtain ⟨p, rfl, hs, hp, hj, hiff⟩ := as_nat h0 h1 ha ha2 hd
  have hx := nat_xor p (32 - n).toNat
  have hge : p % 2 = 1 → 1 * 2 ^ (32 - n).toNat ≤ p * 2 ^ (32 - n).toNat := fun h => Nat.mul_le_mul_right _ (by omega)
  rw [hs] at hiff ⊢
  show IntKind.i64.wrap ((BitVec.ofInt 64 _ ^^^ BitVec.ofInt 64 _).toNat : Int) = _
  generalize p * 2 ^ (32 - n).toNat = X at *
  generalize 2 ^ (32 - n).toNat = Y at *
  rw [BitVec.toNat_xor, ofInt_i64 _ (by omega), ofInt_i64 _ (by omega), hx, i64_w]
  by_cases h : p % 2 = 0
  · rw [if_pos h, if_pos (hiff.2 h), wrap_id (by omega) (by omega)]; omega
  · have := hge (by omega)
    rw [if_neg h, if_neg (fun h' => h (hiff.1 h')), wrap_id (by omega) (by omega)]; omega
theorem andNot_sz {a n : Int} (h0 : 0 ≤ n) (h1 : n ≤ 32) (ha : 0 ≤ a) (ha2 : a ≤ 4294967295) (hd : a % sz n = 0) : Go.bits .andNot .i64 a (sz n) = a - a % (2 * sz n) := by
  have hr := parent_rest (a := a) (s := sz n) (by have := sz_pos n; omega) hd
  obtain ⟨p, rfl, hs, hp, hj, hiff⟩ := as_nat h0 h1 ha ha2 hd
  have hx := nat_andNot p (32 - n).toNat 64 (Nat.lt_of_le_of_lt hj (by decide)) (Nat.lt_trans hp (by decide))
  have hge : p % 2 = 1 → 1 * 2 ^ (32 - n).toNat ≤ p * 2 ^ (32 - n).toNat := fun h => Nat.mul_le_mul_right _ (by omega)
  rw [hs] at hiff hr ⊢
  show IntKind.i64.wrap ((BitVec.ofInt 64 _ &&& ~~~BitVec.ofInt 64 _).toNat : Int) = _
  generalize p * 2 ^ (32 - n).toNat = X at *
  generalize 2 ^ (32 - n).toNat = Y at *
  rw [BitVec.toNat_and, BitVec.toNat_not, ofInt_i64 _ (by omega), ofInt_i64 _ (by omega), hx, i64_w]
  by_cases h : p % 2 = 0
  · rw [if_pos h, wrap_id (by omega) (by omega)]
    have := hiff.2 h
    omega
  · have := hge (by omega)
    rw [if_neg h, wrap_id (by omega) (by omega)]
    have h3 : ¬ (X : Int) % (2 * (Y : Int)) = 0 := fun h' => h (hiff.1 h')
    rcases hr with hr | hr
    · exact absurd hr h3
    · rw [hr]; omega

def sib (a n : Int) : Int := if a % (2 * sz n) = 0 then a + sz n else a - sz n
def cmpP (a n b m : Int) : Int := if a < b ∨ a = b ∧ n < m then -1 else if a = b ∧ n = m then 0 else 1
def hasAddr (a n x : Int) : Bool × Bool := if good a n = true ∧ (0 ≤ x ∧ x ≤ 4294967295) then (decide (a ≤ x ∧ x ≤ a + sz n - 1), true) else (false, false)
def prefixHas (a n b m : Int) : Bool × Bool := if good a n = true ∧ good b m = true then (decide (n ≤ m ∧ a ≤ b ∧ b ≤ a + sz n - 1), true) else (false, false)
def compareP (a n b m : Int) : Int × Bool := if good a n = true ∧ good b m = true then (cmpP a n b m, true) else (0, false)
def parentOf (a n : Int) : Int × Int × Bool := if good a n = true ∧ ¬ n = 0 then (a - a % (2 * sz n), n - 1, true) else (0, 0, false)
def siblingOf (a n : Int) : Int × Int × Bool := if good a n = true ∧ ¬ n = 0 then (sib a n, n, true) else (0, 0, false)
def halvesOf (a n : Int) : Int × Int × Int × Int × Bool := if good a n = true ∧ ¬ n = 32 then (a, n + 1, a + sz (n + 1), n + 1, true) else (0, 0, 0, 0, false)
end Go.Proofs.Ytakoaogbkajkcaa.Pfx
namespace Go.Proofs.Ytakoaogbkajkcaa.Pfx
abbrev Pr := Int × Int
def GoodP (p : Pr) : Prop := good p.1 p.2 = true
def last (p : Pr) : Int := p.1 + sz p.2 - 1
def inP (p : Pr) (x : Int) : Prop := p.1 ≤ x ∧ x ≤ last p
def cov (p q : Pr) : Prop := p.2 ≤ q.2 ∧ p.1 ≤ q.1 ∧ q.1 ≤ last p
instance (p q : Pr) : Decidable (cov p q) := by unfold cov; infer_instance
def parent (p : Pr) : Pr := (p.1 - p.1 % (2 * sz p.2), p.2 - 1)
def sibp (p : Pr) : Pr := (sib p.1 p.2, p.2)

theorem GoodP.facts {p : Pr} (h : GoodP p) : 0 ≤ p.2 ∧ p.2 ≤ 32 ∧ 0 ≤ p.1 ∧ p.1 ≤ 4294967295 ∧ p.1 % sz p.2 = 0 := good_iff.1 h
theorem good_mk {p : Pr} (h : 0 ≤ p.2 ∧ p.2 ≤ 32 ∧ 0 ≤ p.1 ∧ p.1 ≤ 4294967295 ∧ p.1 % sz p.2 = 0) : GoodP p := good_iff.2 h
theorem first_in {p : Pr} : inP p p.1 := by have := sz_pos p.2; unfold inP last; omega

theorem nest {a s b t : Int} (hs : 0 < s) (ht : 0 < t) (hd : t ∣ s) (ha : a % s = 0) (hb : b % t = 0) (h1 : a ≤ b) (h2 : b ≤ a + s - 1) : b + t - 1 ≤ a + s - 1 := by
  obtain ⟨c, rfl⟩ := hd
  have ha' : a % t = 0 := Int.emod_eq_zero_of_dvd (Int.dvd_trans (Int.dvd_mul_right t c) (Int.dvd_of_emod_eq_zero ha))
  obtain ⟨x, rfl⟩ := Int.dvd_of_emod_eq_zero ha'
  obtain ⟨y, rfl⟩ := Int.dvd_of_emod_eq_zero hb
  have h : y < x + c := by
    by_cases h : y < x + c
    · exact h
    · exfalso
      have : t * (x + c) ≤ t * y := Int.mul_le_mul_of_nonneg_left (by omega) (by omega)
      rw [Int.mul_add] at this
      omega
  have : t * (y + 1) ≤ t * (x + c) := Int.mul_le_mul_of_nonneg_left (by omega) (by omega)
  rw [Int.mul_add, Int.mul_add] at this
  omega

theorem cov_last {p q : Pr} (hp : GoodP p) (hq : GoodP q) (h : cov p q) : last q ≤ last p := by
  obtain ⟨p0, p1, p2, p3, p4⟩ := hp.facts
  obtain ⟨q0, q1, q2, q3, q4⟩ := hq.facts
  exact nest (by have := sz_pos p.2; omega) (by have := sz_pos q.2; omega) (sz_dvd p0 h.1 q1) p4 q4 h.2.1 h.2.2
theorem cov_in {p q : Pr} (hp : GoodP p) (hq : GoodP q) (h : cov p q) {x : Int} (hx : inP q x) : inP p x := by
  have := cov_last hp hq h
  exact ⟨Int.le_trans h.2.1 hx.1, Int.le_trans hx.2 this⟩
theorem cov_of_common {p q : Pr} (hp : GoodP p) (hq : GoodP q) {x : Int} (h1 : inP p x) (h2 : inP q x) (hl : p.2 ≤ q.2) : cov p q := by
  obtain ⟨p0, p1, p2, p3, p4⟩ := hp.facts
  obtain ⟨q0, q1, q2, q3, q4⟩ := hq.facts
  refine ⟨hl, ?_, Int.le_trans h2.1 h1.2⟩
  by_cases h : p.1 ≤ q.1
  · exact h
  · exfalso
    have hd := sz_dvd p0 hl q1
    have hps := sz_pos p.2
    have hqs := sz_pos q.2
    have hq' : p.1 % sz q.2 = 0 := Int.emod_eq_zero_of_dvd (Int.dvd_trans hd (Int.dvd_of_emod_eq_zero p4))
    have := nest (a := q.1) (s := sz q.2) (b := p.1) (t := sz q.2) (by omega) (by omega) (Int.dvd_refl _) q4 hq' (by omega) (by unfold inP last at h1 h2; omega)
    omega
theorem common {p q : Pr} (hp : GoodP p) (hq : GoodP q) {x : Int} (h1 : inP p x) (h2 : inP q x) : cov p q ∨ cov q p := by
  rcases Int.le_total p.2 q.2 with h | h
  · exact .inl (cov_of_common hp hq h1 h2 h)
  · exact .inr (cov_of_common hq hp h2 h1 h)
theorem cov_trans {p q r : Pr} (hp : GoodP p) (hq : GoodP q) (h1 : cov p q) (h2 : cov q r) : cov p r := by
  have := cov_last hp hq h1
  exact ⟨Int.le_trans h1.1 h2.1, Int.le_trans h1.2.1 h2.2.1, Int.le_trans h2.2.2 this⟩
theorem cov_refl (p : Pr) : cov p p := ⟨Int.le_refl _, Int.le_refl _, by have := sz_pos p.2; unfold last; omega⟩
theorem cov_antisymm {p q : Pr} (h1 : cov p q) (h2 : cov q p) : p = q := by
  have := h1.1; have := h2.1; have := h1.2.1; have := h2.2.1
  exact Prod.ext (by omega) (by omega)

theorem good_parent {p : Pr} (hp : GoodP p) (hn : 0 < p.2) : GoodP (parent p) := by
  obtain ⟨p0, p1, p2, p3, p4⟩ := hp.facts
  have hs := sz_pos p.2
  have e := sz_succ (n := p.2 - 1) (by omega) (by omega)
  rw [show p.2 - 1 + 1 = p.2 by omega] at e
  have h7 := Int.emod_nonneg p.1 (show 2 * sz p.2 ≠ 0 by omega)
  have hr := parent_rest (a := p.1) (s := sz p.2) (by omega) p4
  have ht := Int.mul_ediv_add_emod p.1 (2 * sz p.2)
  have hq := Int.ediv_nonneg p2 (show 0 ≤ 2 * sz p.2 by omega)
  have hm := Int.mul_nonneg (show 0 ≤ 2 * sz p.2 by omega) hq
  refine good_mk ⟨by simp [parent]; omega, by simp [parent]; omega, by simp [parent]; omega, by simp [parent]; omega, ?_⟩
  simp only [parent, e]
  have : p.1 - p.1 % (2 * sz p.2) = 2 * sz p.2 * (p.1 / (2 * sz p.2)) := by omega
  rw [this]
  exact Int.mul_emod_right _ _
theorem size_parent {p : Pr} (hp : GoodP p) (hn : 0 < p.2) : sz (parent p).2 = 2 * sz p.2 := by
  obtain ⟨p0, p1, _⟩ := hp.facts
  have e := sz_succ (n := p.2 - 1) (by omega) (by omega)
  rw [show p.2 - 1 + 1 = p.2 by omega] at e
  exact e
theorem parent_cases {p : Pr} (hp : GoodP p) : (p.1 % (2 * sz p.2) = 0 ∧ (parent p).1 = p.1 ∧ (sibp p).1 = p.1 + sz p.2) ∨ (p.1 % (2 * sz p.2) = sz p.2 ∧ (parent p).1 = p.1 - sz p.2 ∧ (sibp p).1 = p.1 - sz p.2) := by
  have hs := sz_pos p.2
  rcases parent_rest (a := p.1) (s := sz p.2) (by omega) hp.facts.2.2.2.2 with h | h
  · left; simp [parent, sibp, sib, h]
  · right; simp [parent, sibp, sib, h]; omega
theorem cov_parent {p : Pr} (hp : GoodP p) (hn : 0 < p.2) : cov (parent p) p := by
  have hs := sz_pos p.2
  have e := size_parent hp hn
  unfold cov last
  rw [e]
  have : (parent p).2 = p.2 - 1 := rfl
  rcases parent_cases hp with ⟨_, h, _⟩ | ⟨_, h, _⟩ <;> rw [h] <;> omega
theorem good_sib {p : Pr} (hp : GoodP p) (hn : 0 < p.2) : GoodP (sibp p) := by
  have hs := sz_pos p.2
  obtain ⟨p0, p1, p2, p3, p4⟩ := hp.facts
  have hg := good_parent hp hn
  have e := size_parent hp hn
  have hl := good_end hg
  obtain ⟨q0, q1, q2, q3, q4⟩ := hg.facts
  have e2 : (sibp p).2 = p.2 := rfl
  have hd : sz p.2 ∣ (sibp p).1 := by
    have h := Int.dvd_of_emod_eq_zero p4
    rcases parent_cases hp with ⟨_, _, h2⟩ | ⟨_, _, h2⟩ <;> rw [h2]
    · exact Int.dvd_add h (Int.dvd_refl _)
    · exact Int.dvd_sub h (Int.dvd_refl _)
  refine good_mk ⟨p0, p1, ?_, ?_, Int.emod_eq_zero_of_dvd hd⟩
  · rcases parent_cases hp with ⟨_, h1, h2⟩ | ⟨_, h1, h2⟩ <;> omega
  · rcases parent_cases hp with ⟨_, h1, h2⟩ | ⟨_, h1, h2⟩ <;> omega
theorem parent_split {p : Pr} (hp : GoodP p) (hn : 0 < p.2) (x : Int) : inP (parent p) x ↔ inP p x ∨ inP (sibp p) x := by
  have hs := sz_pos p.2
  have e := size_parent hp hn
  have e2 : (sibp p).2 = p.2 := rfl
  unfold inP last
  rw [e, e2]
  rcases parent_cases hp with ⟨_, h1, h2⟩ | ⟨_, h1, h2⟩ <;> rw [h1, h2] <;> omega
theorem parent_least {p q : Pr} (hp : GoodP p) (hq : GoodP q) (h : cov q p) (hne : q ≠ p) : 0 < p.2 ∧ cov q (parent p) := by
  obtain ⟨p0, p1, p2, p3, p4⟩ := hp.facts
  obtain ⟨q0, q1, q2, q3, q4⟩ := hq.facts
  have hlt : q.2 < p.2 := by
    have := h.1
    by_cases hl : q.2 = p.2
    · exfalso
      have h2 : cov p q := cov_of_common hp hq (x := p.1) first_in ⟨h.2.1, h.2.2⟩ (by omega)
      exact hne (cov_antisymm h h2)
    · omega
  have hn : 0 < p.2 := by omega
  refine ⟨hn, cov_of_common hq (good_parent hp hn) (x := p.1) ⟨h.2.1, h.2.2⟩ ⟨(cov_parent hp hn).2.1, (cov_parent hp hn).2.2⟩ ?_⟩
  show q.2 ≤ p.2 - 1
  omega
def lowH (p : Pr) : Pr := (p.1, p.2 + 1)
def highH (p : Pr) : Pr := (p.1 + sz (p.2 + 1), p.2 + 1)
theorem halves_good {p : Pr} (hp : GoodP p) (hn : p.2 < 32) : GoodP (lowH p) ∧ GoodP (highH p) := by
  obtain ⟨p0, p1, p2, p3, p4⟩ := hp.facts
  have hl := good_end hp
  have e := sz_succ p0 hn
  have hs := sz_pos (p.2 + 1)
  have hd : sz (p.2 + 1) ∣ p.1 := Int.dvd_trans (by rw [e]; exact Int.dvd_mul_left _ _) (Int.dvd_of_emod_eq_zero p4)
  exact ⟨good_mk ⟨by show 0 ≤ p.2 + 1; omega, by show p.2 + 1 ≤ 32; omega, p2, p3, Int.emod_eq_zero_of_dvd hd⟩,
    good_mk ⟨by show 0 ≤ p.2 + 1; omega, by show p.2 + 1 ≤ 32; omega, by show 0 ≤ p.1 + sz (p.2 + 1); omega, by show p.1 + sz (p.2 + 1) ≤ 4294967295; omega, Int.emod_eq_zero_of_dvd (Int.dvd_add hd (Int.dvd_refl _))⟩⟩
theorem halves_split {p : Pr} (hp : GoodP p) (hn : p.2 < 32) (x : Int) : inP p x ↔ inP (lowH p) x ∨ inP (highH p) x := by
  have e := sz_succ hp.facts.1 hn
  have hs := sz_pos (p.2 + 1)
  unfold inP last lowH highH
  rw [e]
  simp only
  omega
theorem halves_parent {p : Pr} (hp : GoodP p) (hn : p.2 < 32) : parent (lowH p) = p ∧ parent (highH p) = p ∧ sibp (lowH p) = highH p ∧ sibp (highH p) = lowH p := by
  obtain ⟨p0, p1, p2, p3, p4⟩ := hp.facts
  have e := sz_succ p0 hn
  have hs := sz_pos (p.2 + 1)
  have h1 : p.1 % (2 * sz (p.2 + 1)) = 0 := by rw [← e]; exact p4
  have h2 : (p.1 + sz (p.2 + 1)) % (2 * sz (p.2 + 1)) = sz (p.2 + 1) := by
    rw [Int.add_emod, h1, Int.zero_add, Int.emod_emod, Int.emod_eq_of_lt (by omega) (by omega)]
  refine ⟨?_, ?_, ?_, ?_⟩
  · simp only [parent, lowH, h1]; exact Prod.ext (by simp) (by simp)
  · simp only [parent, highH, h2]; exact Prod.ext (by simp) (by simp)
  · simp only [sibp, sib, lowH, highH, h1]; simp
  · simp only [sibp, sib, lowH, highH, h2]; rw [if_neg (by omega)]; exact Prod.ext (by simp) (by simp)

def inL (l : List Pr) (x : Int) : Prop := ∃ p, p ∈ l ∧ inP p x
def MaxP (S : Int → Prop) (p : Pr) : Prop := GoodP p ∧ (∀ x, inP p x → S x) ∧ (0 < p.2 → ¬ ∀ x, inP (parent p) x → S x)
def Srt (l : List Pr) : Prop := l.Pairwise (fun p q => last p < q.1)
structure Canon (S : Int → Prop) (l : List Pr) : Prop where
  srt : Srt l
  max : ∀ p, p ∈ l → MaxP S p
  cover : ∀ x, S x → inL l x
theorem fst_le_last (p : Pr) : p.1 ≤ last p := by have := sz_pos p.2; unfold last; omega
theorem srt_unique {l : List Pr} (h : Srt l) {p q : Pr} (hp : p ∈ l) (hq : q ∈ l) {x : Int} (h1 : inP p x) (h2 : inP q x) : p = q := by
  induction l with
  | nil => simp at hp
  | cons a t ih =>
    obtain ⟨ha, ht⟩ := List.pairwise_cons.1 h
    rcases List.mem_cons.1 hp with rfl | hp' <;> rcases List.mem_cons.1 hq with rfl | hq'
    · rfl
    · have := ha q hq'; unfold inP at h1 h2; omega
    · have := ha p hp'; unfold inP at h1 h2; omega
    · exact ih ht hp' hq'
theorem srt_ext : ∀ {l l' : List Pr}, Srt l → Srt l' → (∀ p, p ∈ l ↔ p ∈ l') → l = l'
  | [], [], _, _, _ => rfl
  | [], b :: t, _, _, h => by simpa using (h b).2 (by simp)
  | a :: t, [], _, _, h => by simpa using (h a).1 (by simp)
  | a :: t, b :: t', h1, h2, h => by
    obtain ⟨ha, ht⟩ := List.pairwise_cons.1 h1
    obtain ⟨hb, ht'⟩ := List.pairwise_cons.1 h2
    have e : a = b := by
      rcases List.mem_cons.1 ((h a).1 (by simp)) with e | hm
      · exact e
      · rcases List.mem_cons.1 ((h b).2 (by simp)) with e | hm'
        · exact e.symm
        · have := hb a hm
          have := ha b hm'
          have := fst_le_last a
          have := fst_le_last b
          omega
    subst e
    have hn : ∀ {s : List Pr}, (∀ q, q ∈ s → last a < q.1) → a ∉ s := fun hs hm => by have := hs a hm; have := fst_le_last a; omega
    have : t = t' := srt_ext ht ht' (fun p => by
      constructor
      · intro hp
        rcases List.mem_cons.1 ((h p).1 (by simp [hp])) with e | hm
        · exact absurd (e ▸ hp) (hn ha)
        · exact hm
      · intro hp
        rcases List.mem_cons.1 ((h p).2 (by simp [hp])) with e | hm
        · exact absurd (e ▸ hp) (hn hb)
        · exact hm)
    rw [this]
theorem max_common {S : Int → Prop} {p q : Pr} (hp : MaxP S p) (hq : MaxP S q) {x : Int} (h1 : inP p x) (h2 : inP q x) : p = q := by
  have key : ∀ {p q : Pr}, MaxP S p → MaxP S q → cov q p → q = p := by
    intro p q hp hq h
    by_cases e : q = p
    · exact e
    · exfalso
      obtain ⟨hn, hc⟩ := parent_least hp.1 hq.1 h e
      exact hp.2.2 hn (fun y hy => hq.2.1 y (cov_in hq.1 (good_parent hp.1 hn) hc hy))
  rcases common hp.1 hq.1 h1 h2 with h | h
  · exact key hq hp h
  · exact (key hp hq h).symm
theorem Canon.mem {S : Int → Prop} {l : List Pr} (h : Canon S l) {p : Pr} : p ∈ l ↔ MaxP S p := by
  refine ⟨h.max p, fun hp => ?_⟩
  obtain ⟨q, hq, hx⟩ := h.cover p.1 (hp.2.1 _ first_in)
  have := max_common hp (h.max q hq) first_in hx
  rw [this]; exact hq
theorem Canon.inL {S : Int → Prop} {l : List Pr} (h : Canon S l) (x : Int) : Pfx.inL l x ↔ S x :=
  ⟨fun ⟨p, hp, hx⟩ => (h.max p hp).2.1 x hx, h.cover x⟩
theorem Canon.unique {S : Int → Prop} {l l' : List Pr} (h : Canon S l) (h' : Canon S l') : l = l' := srt_ext h.srt h'.srt (fun p => by rw [h.mem, h'.mem])
theorem Canon.congr {S S' : Int → Prop} {l : List Pr} (h : Canon S l) (e : ∀ x, S x ↔ S' x) : Canon S' l := by
  have : S = S' := funext fun x => propext (e x)
  rw [← this]; exact h
theorem Canon.noSib {S : Int → Prop} {l : List Pr} (h : Canon S l) {p : Pr} (hp : p ∈ l) (hn : 0 < p.2) : sibp p ∉ l := fun hs =>
  (h.max p hp).2.2 hn (fun x hx => by
    rcases (parent_split (h.max p hp).1 hn x).1 hx with h1 | h1
    · exact (h.max p hp).2.1 x h1
    · exact (h.max _ hs).2.1 x h1)
theorem one_covers {l : List Pr} (hg : ∀ p, p ∈ l → GoodP p) (hn : ∀ p, p ∈ l → 0 < p.2 → sibp p ∉ l) : ∀ (d : Nat) (q : Pr), GoodP q → (32 - q.2).toNat = d → (∀ x, inP q x → inL l x) → ∃ p, p ∈ l ∧ cov p q
  | 0, q, hq, hd, h => by
    obtain ⟨p, hp, hx⟩ := h q.1 first_in
    have := (hg p hp).facts
    have := hq.facts
    exact ⟨p, hp, cov_of_common (hg p hp) hq hx first_in (by omega)⟩
  | d + 1, q, hq, hd, h => by
    have q2 := hq.facts
    have hlt : q.2 < 32 := by omega
    obtain ⟨g1, g2⟩ := halves_good hq hlt
    have hsp := halves_split hq hlt
    obtain ⟨e1, e2, e3, e4⟩ := halves_parent hq hlt
    obtain ⟨pa, ha, ca⟩ := one_covers hg hn d (lowH q) g1 (by simp [lowH]; omega) (fun x hx => h x ((hsp x).2 (.inl hx)))
    obtain ⟨pb, hb, cb⟩ := one_covers hg hn d (highH q) g2 (by simp [highH]; omega) (fun x hx => h x ((hsp x).2 (.inr hx)))
    by_cases ea : pa = lowH q
    · by_cases eb : pb = highH q
      · exfalso
        subst ea; subst eb
        exact hn _ ha (by show 0 < q.2 + 1; omega) (by rw [e3]; exact hb)
      · obtain ⟨_, hc⟩ := parent_least g2 (hg _ hb) cb eb
        exact ⟨pb, hb, by rw [e2] at hc; exact hc⟩
    · obtain ⟨_, hc⟩ := parent_least g1 (hg _ ha) ca ea
      exact ⟨pa, ha, by rw [e1] at hc; exact hc⟩
theorem canon_of {l : List Pr} (hs : Srt l) (hg : ∀ p, p ∈ l → GoodP p) (hn : ∀ p, p ∈ l → 0 < p.2 → sibp p ∉ l) : Canon (inL l) l := by
  refine ⟨hs, fun p hp => ⟨hg p hp, fun x hx => ⟨p, hp, hx⟩, fun h0 hpar => ?_⟩, fun x hx => hx⟩
  obtain ⟨q, hq, hc⟩ := one_covers hg hn _ (parent p) (good_parent (hg p hp) h0) rfl hpar
  have hc2 := cov_trans (hg q hq) (good_parent (hg p hp) h0) hc (cov_parent (hg p hp) h0)
  have e := srt_unique hs hq hp (x := p.1) ⟨hc2.2.1, hc2.2.2⟩ first_in
  subst e
  have h1 := hc.1
  have h2 : (parent q).2 = q.2 - 1 := rfl
  omega
theorem length_le {α β : Type} (R : α → β → Prop) : ∀ (l : List α) (a : List β), l.Nodup → (∀ p, p ∈ l → ∃ q, q ∈ a ∧ R p q) → (∀ p p' q, p ∈ l → p' ∈ l → R p q → R p' q → p = p') → l.length ≤ a.length
  | [], a, _, _, _ => Nat.zero_le _
  | p :: t, a, hnd, h, hinj => by
    obtain ⟨hp, ht⟩ := List.nodup_cons.1 hnd
    obtain ⟨q, hq, hr⟩ := h p (by simp)
    obtain ⟨s, s', rfl⟩ := List.append_of_mem hq
    have := length_le R t (s ++ s') ht (fun p' hp' => by
      obtain ⟨q', hq', hr'⟩ := h p' (by simp [hp'])
      have hne : q' ≠ q := by
        rintro rfl
        have := hinj p p' q' (by simp) (by simp [hp']) hr hr'
        exact hp (this ▸ hp')
      refine ⟨q', ?_, hr'⟩
      simp only [List.mem_append, List.mem_cons] at hq' ⊢
      rcases hq' with h1 | h1 | h1
      · exact .inl h1
      · exact absurd h1 hne
      · exact .inr h1) (fun p1 p2 q hp1 hp2 => hinj p1 p2 q (by simp [hp1]) (by simp [hp2]))
    simp only [List.length_append, List.length_cons] at this ⊢
    omega
theorem srt_nodup {l : List Pr} (h : Srt l) : l.Nodup := h.imp (fun {a b} hab => by
  rintro rfl
  have := fst_le_last a
  omega)
theorem Canon.length_le {S : Int → Prop} {l a : List Pr} (h : Canon S l) (hg : ∀ p, p ∈ a → GoodP p) (he : ∀ x, S x ↔ Pfx.inL a x) : l.length ≤ a.length := by
  refine Pfx.length_le (fun p q => cov p q ∧ GoodP q) l a (srt_nodup h.srt) (fun p hp => ?_) (fun p p' q hp hp' h1 h2 => ?_)
  · have hm := h.max p hp
    obtain ⟨q, hq, hx⟩ := (he p.1).1 (hm.2.1 _ first_in)
    refine ⟨q, hq, ?_, hg q hq⟩
    rcases common hm.1 (hg q hq) first_in hx with hc | hc
    · exact hc
    · by_cases e : q = p
      · rw [e]; exact cov_refl p
      · exfalso
        obtain ⟨hn, hc'⟩ := parent_least hm.1 (hg q hq) hc e
        exact hm.2.2 hn (fun y hy => (he y).2 ⟨q, hq, cov_in (hg q hq) (good_parent hm.1 hn) hc' hy⟩)
  · exact srt_unique h.srt hp hp' (x := q.1) ⟨h1.1.2.1, h1.1.2.2⟩ ⟨h2.1.2.1, h2.1.2.2⟩
theorem range_le {a b : Int} {l : List Pr} (h : Canon (fun x => a ≤ x ∧ x ≤ b) l) : l.length ≤ 64 := by
  by_cases h0 : ∃ p, p ∈ l ∧ p.2 = 0
  · obtain ⟨p, hp, hp0⟩ := h0
    have : l.length ≤ [p].length := by
      refine Pfx.length_le (fun q r => q = r) l [p] (srt_nodup h.srt) (fun q hq => ⟨p, by simp, ?_⟩) (fun _ _ _ _ _ h1 h2 => h1.trans h2.symm)
      have hg := (h.max p hp).1
      have hgq := (h.max q hq).1
      have hc : cov p q := by
        have h2 := hg.facts
        have h3 := hgq.facts
        have h4 := good_end hg
        rw [hp0] at h2 h4
        have h5 := sz_lit.1
        rw [h5] at h2 h4
        refine ⟨by omega, by omega, ?_⟩
        show q.1 ≤ p.1 + sz p.2 - 1
        rw [hp0, h5]; omega
      exact srt_unique h.srt hq hp (x := q.1) first_in ⟨hc.2.1, hc.2.2⟩
    simp at this
    omega
  · have := Pfx.length_le (fun (p : Pr) (c : Nat) => c < 64 ∧ ((c : Int) = 2 * (p.2 - 1) ∧ (parent p).1 < a ∨ (c : Int) = 2 * (p.2 - 1) + 1 ∧ b < last (parent p))) l (List.range 64) (srt_nodup h.srt) (fun p hp => by
      have hm := h.max p hp
      have h1 := hm.1.facts
      have hn : 0 < p.2 := by
        have : p.2 ≠ 0 := fun e => h0 ⟨p, hp, e⟩
        omega
      have h2 := hm.2.2 hn
      by_cases hl : (parent p).1 < a
      · exact ⟨(2 * (p.2 - 1)).toNat, by simp; omega, by omega, .inl ⟨by omega, hl⟩⟩
      · by_cases hr : b < last (parent p)
        · exact ⟨(2 * (p.2 - 1) + 1).toNat, by simp; omega, by omega, .inr ⟨by omega, hr⟩⟩
        · exact absurd (fun x hx => by unfold inP at hx; omega) h2) (fun p p' c hp hp' h1 h2 => by
      have hm := h.max p hp
      have hm' := h.max p' hp'
      have f := hm.1.facts
      have f' := hm'.1.facts
      have hn : 0 < p.2 := by
        have : p.2 ≠ 0 := fun e => h0 ⟨p, hp, e⟩
        omega
      have hn' : 0 < p'.2 := by
        have : p'.2 ≠ 0 := fun e => h0 ⟨p', hp', e⟩
        omega
      have e2 : p.2 = p'.2 := by omega
      have s1 := hm.2.1 p.1 first_in
      have s2 := hm.2.1 (last p) ⟨fst_le_last p, Int.le_refl _⟩
      have s1' := hm'.2.1 p'.1 first_in
      have s2' := hm'.2.1 (last p') ⟨fst_le_last p', Int.le_refl _⟩
      have g1 := parent_cases hm.1
      have g2 := parent_cases hm'.1
      have z1 := size_parent hm.1 hn
      have z2 := size_parent hm'.1 hn'
      have d1 := Int.dvd_of_emod_eq_zero f.2.2.2.2
      have d2 := Int.dvd_of_emod_eq_zero f'.2.2.2.2
      have hs := sz_pos p.2
      have es : sz p'.2 = sz p.2 := by rw [e2]
      unfold last at h1 h2 s1 s2 s1' s2'
      rw [z1] at h1
      rw [z2, es] at h2
      rw [es] at g2 d2 s2'
      have dd := Int.dvd_sub d1 d2
      have e1 : p.1 - p'.1 = 0 := by
        by_cases h : p.1 - p'.1 = 0
        · exact h
        · exfalso
          have h3 : p.1 - p'.1 < sz p.2 ∧ -(sz p.2) < p.1 - p'.1 := by omega
          rcases Int.lt_or_gt_of_ne h with h5 | h5
          · have h6 := Int.le_of_dvd (a := sz p.2) (b := -(p.1 - p'.1)) (by omega) (Int.dvd_neg.2 dd)
            omega
          · have h6 := Int.le_of_dvd (a := sz p.2) (b := p.1 - p'.1) (by omega) dd
            omega
      exact Prod.ext (by omega) e2)
    simpa using this
end Go.Proofs.Ytakoaogbkajkcaa.Pfx
namespace Go.Proofs.Ytakoaogbkajkcaa.Loop
open Go.RowKit Go.Proofs.YtakoaogbkajkcaaW.PrintWords Go.Proofs.YtakoaogbkajkcaaW.PrintLast Go.Proofs.YtakoaogbkajkcaaW.PrintMore Go.Proofs.Ytakoaogbkajkcaa.Pfx
variable {α : Type}
theorem lt_mid (pre : List α) (a : α) (rest : List α) : (pre.length : Int) < ((pre ++ a :: rest).length : Int) := by simp; omega
theorem not_lt_end (l : List α) : ¬ ((l.length : Int) < (l.length : Int)) := by omega
theorem wrap_mid {pre : List α} {a : α} {rest : List α} (h : (pre ++ a :: rest).length ≤ maxLen) : wrap64 ((pre.length : Int) + 1) = ((pre ++ [a]).length : Int) := by
  have h2 : maxLen = 9223372036854775807 := rfl
  rw [h2] at h
  simp at h
  rw [wrap_id (by omega) (by omega)]
  simp
theorem snoc_cons (pre : List α) (a : α) (rest : List α) : pre ++ a :: rest = (pre ++ [a]) ++ rest := by simp
theorem len_nn (l : List α) : (0 : Int) ≤ (l.length : Int) := Int.natCast_nonneg _
theorem getD_mid (pre : List α) (a : α) (rest : List α) (z : α) : (pre ++ a :: rest).getD ((pre.length : Int)).toNat z = a := by simp
theorem set_mid (pre : List α) (a b : α) (rest : List α) : (pre ++ a :: rest).set ((pre.length : Int)).toNat b = pre ++ b :: rest := by simp
theorem rd_mid (pre : List Int) (a : Int) (rest : List Int) : rd (pre ++ a :: rest) (pre.length : Int) = a := by unfold rd; simp
theorem snoc_cases (l : List α) : l = [] ∨ ∃ p q, l = p ++ [q] := by
  rcases List.eq_nil_or_concat l with h | ⟨p, q, h⟩
  · exact .inl h
  · exact .inr ⟨p, q, by rw [h, List.concat_eq_append]⟩
theorem sz_ok {n : Nat} {r : Int} (hn : n ≤ maxLen) (h : (if wrap64 (1048576 - (n : Int)) < 0 then some (-1) else some (wrap64 (1048576 - (n : Int)))) = some r) (hr : ¬ r < 0) : n ≤ 1048576 := by
  have h2 : maxLen = 9223372036854775807 := rfl
  rw [h2] at hn
  rw [wrap_id (by omega) (by omega)] at h
  by_cases hc : (1048576 : Int) - (n : Int) < 0
  · rw [if_pos hc] at h; cases h; omega
  · omega
theorem idx_gen (f : Nat → Int → Option Int) (l : List α) (p : α → Bool) (h0 : ∀ k, f (k + 1) (l.length : Int) = some (-1))
    (h1 : ∀ k pre a rest, l = pre ++ a :: rest → f (k + 1) (pre.length : Int) = if p a = true then some (pre.length : Int) else f k ((pre ++ [a]).length : Int)) :
    ∀ (rest pre : List α) (k : Nat), l = pre ++ rest → rest.length < k → ∃ r : Int, f k (pre.length : Int) = some r ∧ (0 ≤ r ↔ rest.any p = true) := by
  intro rest
  induction rest with
  | nil =>
    intro pre k e hk
    obtain ⟨k, rfl⟩ : ∃ m, k = m + 1 := ⟨k - 1, by omega⟩
    have e' : l = pre := by simpa using e
    exact ⟨-1, by rw [← e']; exact h0 k, by simp⟩
  | cons a rest ih =>
    intro pre k e hk
    obtain ⟨k, rfl⟩ : ∃ m, k = m + 1 := ⟨k - 1, by omega⟩
    rw [h1 k pre a rest e]
    by_cases hv : p a = true
    · rw [if_pos hv]
      exact ⟨_, rfl, by simp [hv]⟩
    · rw [if_neg hv]
      obtain ⟨r, hr, hi⟩ := ih (pre ++ [a]) k (by rw [e]; simp) (by simp at hk; omega)
      refine ⟨r, hr, ?_⟩
      rw [hi]; simp [hv]
theorem any_gen (f : Nat → Int → Option Int) (l : List α) (p : α → Bool) (h0 : ∀ k, f (k + 1) (l.length : Int) = some (-1))
    (h1 : ∀ k pre a rest, l = pre ++ a :: rest → f (k + 1) (pre.length : Int) = if p a = true then some (pre.length : Int) else f k ((pre ++ [a]).length : Int))
    (k : Nat) (hk : l.length < k) : ((f k 0).bind fun t => some (decide (t ≥ 0))) = some (l.any p) := by
  obtain ⟨r, hr, hi⟩ := idx_gen f l p h0 h1 l [] k rfl hk
  have hr' : f k 0 = some r := hr
  rw [hr', Option.bind_some]
  congr 1
  by_cases h : 0 ≤ r
  · rw [hi.1 h]; simp [h]
  · have : l.any p = false := by
      cases hb : l.any p with
      | false => rfl
      | true => exact absurd (hi.2 hb) h
    rw [this]; simp; omega
theorem idx_genK (K : Nat) (f : Nat → Int → Option Int) (l : List α) (p : α → Bool) (h0 : ∀ k, f (k + 1) (l.length : Int) = some (-1))
    (h1 : ∀ k, K ≤ k → ∀ pre a rest, l = pre ++ a :: rest → f (k + 1) (pre.length : Int) = if p a = true then some (pre.length : Int) else f k ((pre ++ [a]).length : Int)) :
    ∀ (rest pre : List α) (k : Nat), l = pre ++ rest → rest.length + K < k → ∃ r : Int, f k (pre.length : Int) = some r ∧ (0 ≤ r ↔ rest.any p = true) := by
  intro rest
  induction rest with
  | nil =>
    intro pre k e hk
    obtain ⟨k, rfl⟩ : ∃ m, k = m + 1 := ⟨k - 1, by omega⟩
    have e' : l = pre := by simpa using e
    exact ⟨-1, by rw [← e']; exact h0 k, by simp⟩
  | cons a rest ih =>
    intro pre k e hk
    obtain ⟨k, rfl⟩ : ∃ m, k = m + 1 := ⟨k - 1, by omega⟩
    rw [h1 k (by simp at hk; omega) pre a rest e]
    by_cases hv : p a = true
    · rw [if_pos hv]
      exact ⟨_, rfl, by simp [hv]⟩
    · rw [if_neg hv]
      obtain ⟨r, hr, hi⟩ := ih (pre ++ [a]) k (by rw [e]; simp) (by simp at hk; omega)
      refine ⟨r, hr, ?_⟩
      rw [hi]; simp [hv]
theorem any_genK (K : Nat) (f : Nat → Int → Option Int) (l : List α) (p : α → Bool) (h0 : ∀ k, f (k + 1) (l.length : Int) = some (-1))
    (h1 : ∀ k, K ≤ k → ∀ pre a rest, l = pre ++ a :: rest → f (k + 1) (pre.length : Int) = if p a = true then some (pre.length : Int) else f k ((pre ++ [a]).length : Int))
    (k : Nat) (hk : l.length + K < k) : ((f k 0).bind fun t => some (decide (t ≥ 0))) = some (l.any p) := by
  obtain ⟨r, hr, hi⟩ := idx_genK K f l p h0 h1 l [] k rfl hk
  have hr' : f k 0 = some r := hr
  rw [hr', Option.bind_some]
  congr 1
  by_cases h : 0 ≤ r
  · rw [hi.1 h]; simp [h]
  · have : l.any p = false := by
      cases hb : l.any p with
      | false => rfl
      | true => exact absurd (hi.2 hb) h
    rw [this]; simp; omega
end Go.Proofs.Ytakoaogbkajkcaa.Loop
namespace Go.Proofs.Ytakoaogbkajkcaa.Tbl
open Go.Proofs.Ytakoaogbkajkcaa.Pfx
abbrev Pr2 := Int × Int
def risingFrom : Option Pr2 → List Pr2 → Bool
  | _, [] => true
  | prev, p :: t => good p.1 p.2 && (match prev with | none => true | some q => decide (cmpP q.1 q.2 p.1 p.2 < 0)) && risingFrom (some p) t
def rising (l : List Pr2) : Bool := risingFrom none l
def isVal (n : Int) : Bool := decide (0 ≤ n ∧ n ≤ 1000000)
theorem risingFrom_good : ∀ (l : List Pr2) (o : Option Pr2), risingFrom o l = true → ∀ p, p ∈ l → good p.1 p.2 = true
  | [], _, _, p, hp => by simp at hp
  | q :: t, o, h, p, hp => by
    simp only [risingFrom, Bool.and_eq_true] at h
    rcases List.mem_cons.1 hp with rfl | hp
    · exact h.1.1
    · exact risingFrom_good t _ h.2 p hp
theorem rising_good {l : List Pr2} (h : rising l = true) : ∀ p, p ∈ l → good p.1 p.2 = true := risingFrom_good l none h
def badAt (i : Nat) (p : Pr2) : Nat → List Pr2 → Bool
  | _, [] => false
  | k, q :: t => (!decide (i = k) && (decide (p.2 ≤ q.2 ∧ p.1 ≤ q.1 ∧ q.1 ≤ p.1 + sz p.2 - 1) || (decide (0 < p.2) && (q.1 == sib p.1 p.2 && q.2 == p.2)))) || badAt i p (k + 1) t
def outI (l : List Pr2) : Nat → List Pr2 → Bool
  | _, [] => true
  | i, p :: t => !badAt i p 0 l && outI l (i + 1) t
def outS (l : List Pr2) : Option Pr2 → Nat → List Pr2 → Bool
  | _, _, [] => true
  | prev, i, p :: t => !badAt i p 0 l && (match prev with | none => true | some q => decide (cmpP q.1 q.2 p.1 p.2 < 0)) && outS l (some p) (i + 1) t
theorem out_same (l : List Pr2) : ∀ (t : List Pr2) (prev : Option Pr2) (i : Nat), (t.all (fun p => good p.1 p.2) && outS l prev i t) = (risingFrom prev t && outI l i t)
  | [], _, _ => rfl
  | p :: t, prev, i => by
    simp only [List.all_cons, outS, risingFrom, outI]
    have ih := out_same l t (some p) (i + 1)
    cases h1 : good p.1 p.2 <;> cases h2 : badAt i p 0 l <;> simp
    have e : ∀ x y z w u : Bool, (y && z) = (w && u) → (y && (x && z)) = ((x && w) && u) := by decide
    exact e _ _ _ _ _ ih
def goodSet (l : List Pr2) : Bool := decide (l.length ≤ 64) && rising l && outI l 0 l
end Go.Proofs.Ytakoaogbkajkcaa.Tbl
