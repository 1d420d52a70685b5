/- Plain mathematics that the plain law of FnRanges uses. No condition but what each lemma states. -/
import Derived.Test.YtabejlfejlpkeaaVFnRanges
import Derived.Laws.Entries
namespace Go.Proofs.Ytabejlfejlpkeaa.Pfx
open Go.RowKit Go.Proofs.YtabejlfejlpkeaaW.PrintWords Go.Proofs.YtabejlfejlpkeaaW.PrintLast Go.Proofs.YtabejlfejlpkeaaW.PrintMore
def sz (n : Int) : Int := 2 ^ (32 - n).toNat

theorem sz_lit : sz 0 = 4294967296 ∧ sz 32 = 1 := by decide

theorem sz_succ {n : Int} (h0 : 0 ≤ n) (h : n < 32) : sz n = 2 * sz (n + 1) := by
  unfold sz
  have e : (32 - n).toNat = (32 - (n + 1)).toNat + 1 := by omega
  rw [e, Int.pow_succ]
  omega
theorem pow_pos (m : Nat) : (1 : Int) ≤ 2 ^ m := by
  induction m with
  | zero => simp
  | succ m ih => rw [Int.pow_succ]; omega
theorem sz_pos (n : Int) : 1 ≤ sz n := pow_pos _
theorem pow_le (m k : Nat) (h : m ≤ k) : (2 : Int) ^ m ≤ 2 ^ k := by
  obtain ⟨d, rfl⟩ := Nat.le.dest h
  rw [Int.pow_add]
  have h1 := pow_pos m
  have h2 := pow_pos d
  calc (2 : Int) ^ m = 2 ^ m * 1 := by omega
    _ ≤ 2 ^ m * 2 ^ d := Int.mul_le_mul_of_nonneg_left h2 (by omega)
theorem sz_le {n : Int} (h0 : 0 ≤ n) : sz n ≤ 4294967296 := by
  have := pow_le (32 - n).toNat 32 (by omega)
  simpa [sz] using this
theorem sz_add {n m : Int} (h0 : 0 ≤ n) (h : n ≤ m) (hm : m ≤ 32) : sz n = sz m * 2 ^ (m - n).toNat := by
  unfold sz
  rw [← Int.pow_add]
  congr 1
  omega
theorem sz_dvd {n m : Int} (h0 : 0 ≤ n) (h : n ≤ m) (hm : m ≤ 32) : sz m ∣ sz n := ⟨_, sz_add h0 h hm⟩
def good (a n : Int) : Bool := decide (0 ≤ n ∧ n ≤ 32 ∧ 0 ≤ a ∧ a ≤ 4294967295 ∧ a % sz n = 0)
theorem good_iff {a n : Int} : good a n = true ↔ (0 ≤ n ∧ n ≤ 32 ∧ 0 ≤ a ∧ a ≤ 4294967295 ∧ a % sz n = 0) := by simp [good]

theorem in_row {a s x : Int} (hs : 0 < s) (ha : a % s = 0) : x - x % s = a ↔ (a ≤ x ∧ x ≤ a + s - 1) := by
  have h1 := Int.emod_nonneg x (show s ≠ 0 by omega)
  have h2 := Int.emod_lt_of_pos x hs
  constructor
  · intro h; omega
  · rintro ⟨h3, h4⟩
    have e1 := Int.mul_ediv_add_emod x s
    have e2 := Int.mul_ediv_add_emod a s
    rw [ha] at e2
    have e3 : x - a = s * (x / s - a / s) + x % s := by rw [Int.mul_sub]; omega
    have h5 : x / s - a / s = 0 := by
      by_cases h6 : x / s - a / s = 0
      · exact h6
      · exfalso
        rcases Int.lt_or_gt_of_ne h6 with h7 | h7
        · have : s * (x / s - a / s) ≤ s * (-1) := Int.mul_le_mul_of_nonneg_left (by omega) (by omega)
          omega
        · have : s * 1 ≤ s * (x / s - a / s) := Int.mul_le_mul_of_nonneg_left (by omega) (by omega)
          omega
    rw [h5, Int.mul_zero] at e3
    omega

theorem good_end {a n : Int} (h : good a n = true) : a + sz n - 1 ≤ 4294967295 := by
  obtain ⟨h0, h1, h2, h3, h4⟩ := good_iff.1 h
  have hd : sz n ∣ 4294967296 := by
    have := sz_dvd (n := 0) (m := n) (by omega) h0 h1
    rwa [sz_lit.1] at this
  obtain ⟨q, hq⟩ := hd
  obtain ⟨p, hp⟩ := Int.dvd_of_emod_eq_zero h4
  have hs := sz_pos n
  have hlt : p < q := by
    by_cases hlt : p < q
    · exact hlt
    · exfalso
      have : sz n * q ≤ sz n * p := Int.mul_le_mul_of_nonneg_left (by omega) (by omega)
      omega
  have : sz n * (p + 1) ≤ sz n * q := Int.mul_le_mul_of_nonneg_left (by omega) (by omega)
  rw [Int.mul_add] at this
  omega
theorem parent_rest {a s : Int} (hs : 0 < s) (ha : a % s = 0) : a % (2 * s) = 0 ∨ a % (2 * s) = s := by
  obtain ⟨p, rfl⟩ := Int.dvd_of_emod_eq_zero ha
  rw [Int.mul_comm 2 s, Int.mul_emod_mul_of_pos _ _ hs]
  have h : p % 2 = 0 ∨ p % 2 = 1 := by omega
  rcases h with h | h <;> rw [h]
  · left; omega
  · right; omega
theorem one_xor (p : Nat) : p ^^^ 1 = if p % 2 = 0 then p + 1 else p - 1 := by
  have h1 : (p ^^^ 1) / 2 = p / 2 := by rw [Nat.xor_div_two]; simp
  have h2 : (p ^^^ 1) % 2 = (p + 1) % 2 := by
    have h := @Nat.xor_mod_two_pow p 1 1
    simp only [Nat.pow_one] at h
    rw [h]
    rcases Nat.mod_two_eq_zero_or_one p with h1 | h1
    · rw [h1]; show 0 ^^^ 1 = _; simp; omega
    · rw [h1]; show 1 ^^^ 1 = _; simp; omega
  split <;> omega
theorem nat_xor (p j : Nat) : (p * 2 ^ j) ^^^ (2 ^ j) = if p % 2 = 0 then p * 2 ^ j + 2 ^ j else p * 2 ^ j - 2 ^ j := by
  have e1 : p * 2 ^ j = p <<< j := (Nat.shiftLeft_eq p j).symm
  have e2 : 2 ^ j = 1 <<< j := by rw [Nat.shiftLeft_eq]; omega
  have : (p * 2 ^ j) ^^^ (2 ^ j) = (p ^^^ 1) * 2 ^ j := by
    rw [e1]
    conv => lhs; rhs; rw [e2]
    rw [← Nat.shiftLeft_xor_distrib, Nat.shiftLeft_eq]
  rw [this, one_xor]
  split
  · rw [Nat.add_mul]; omega
  · rw [Nat.sub_mul]; omega
theorem beq_dec (a b : Int) : (a == b) = decide (a = b) := by by_cases h : a = b <;> simp [h]
theorem wrap_id {x : Int} (h0 : -9223372036854775808 ≤ x) (h1 : x ≤ 9223372036854775807) : wrap64 x = x := by
  unfold wrap64
  omega
theorem u64_id {x : Int} (h0 : 0 ≤ x) (h1 : x ≤ 9223372036854775807) : IntKind.u64.wrap x = x := by
  rw [IntKind.wrap_u64]
  omega
theorem shl_sz {n : Int} (h0 : 0 ≤ n) (h1 : n ≤ 32) : shl .i64 1 (wrap64 (32 - n)) = sz n := by
  rw [wrap_id (by omega) (by omega)]
  unfold shl
  have hb : IntKind.i64.bits = 64 := rfl
  rw [hb, Nat.min_eq_left (by omega), i64_w, Int.one_mul]
  have h2 := sz_pos n
  have h3 := sz_le h0
  show wrap64 (sz n) = sz n
  exact wrap_id (by omega) (by omega)
theorem ofInt_i64 (a : Nat) (ha : a < 18446744073709551616) : (BitVec.ofInt 64 (a : Int)).toNat = a := by
  rw [BitVec.ofInt_natCast, BitVec.toNat_ofNat]; exact Nat.mod_eq_of_lt (by omega)
theorem as_nat {a n : Int} (h0 : 0 ≤ n) (_h1 : n ≤ 32) (ha : 0 ≤ a) (ha2 : a ≤ 4294967295) (hd : a % sz n = 0) :
    ∃ p : Nat, a = ((p * 2 ^ (32 - n).toNat : Nat) : Int) ∧ sz n = ((2 ^ (32 - n).toNat : Nat) : Int) ∧ p * 2 ^ (32 - n).toNat < 4294967296 ∧ 2 ^ (32 - n).toNat ≤ 4294967296 ∧ (a % (2 * sz n) = 0 ↔ p % 2 = 0) := by
  have hs : sz n = ((2 ^ (32 - n).toNat : Nat) : Int) := by unfold sz; simp
  have hp := sz_pos n
  obtain ⟨q, hq⟩ := Int.dvd_of_emod_eq_zero hd
  have hq0 : 0 ≤ q := by
    by_cases h : 0 ≤ q
    · exact h
    · exfalso
      have : sz n * q ≤ sz n * (-1) := Int.mul_le_mul_of_nonneg_left (by omega) (by omega)
      omega
  obtain ⟨p, rfl⟩ := Int.eq_ofNat_of_zero_le hq0
  have ha' : a = ((p * 2 ^ (32 - n).toNat : Nat) : Int) := by rw [hq, hs, Int.mul_comm]; simp
  refine ⟨p, ha', hs, ?_, ?_, ?_⟩
  · generalize p * 2 ^ (32 - n).toNat = X at *
    omega
  · have := sz_le h0
    rw [hs] at this
    generalize 2 ^ (32 - n).toNat = X at *
    omega
  · rw [hq, Int.mul_comm 2 (sz n), Int.mul_emod_mul_of_pos _ _ (by omega)]
    constructor
    · intro h
      have : sz n * ((p : Int) % 2) = sz n * 0 := by omega
      have := Int.eq_of_mul_eq_mul_left (by omega) this
      omega
    · intro h
      have : (p : Int) % 2 = 0 := by omega
      rw [this]; simp
theorem xor_sz {a n : Int} (h0 : 0 ≤ n) (h1 : n ≤ 32) (ha : 0 ≤ a) (ha2 : a ≤ 4294967295) (hd : a % sz n = 0) : Go.bits .xor .i64 a (sz n) = if a % (2 * sz n) = 0 then a + sz n else a - sz n := by
  obtain ⟨p, rfl, hs, hp, hj, hiff⟩ := as_nat h0 h1 ha ha2 hd
  have hx := nat_xor p (32 - n).toNat
  have hge : p % 2 = 1 → 1 * 2 ^ (32 - n).toNat ≤ p * 2 ^ (32 - n).toNat := fun h => Nat.mul_le_mul_right _ (by omega)
  rw [hs] at hiff ⊢
  show IntKind.i64.wrap ((BitVec.ofInt 64 _ ^^^ BitVec.ofInt 64 _).toNat : Int) = _
  generalize p * 2 ^ (32 - n).toNat = X at *
  generalize 2 ^ (32 - n).toNat = Y at *
  rw [BitVec.toNat_xor, ofInt_i64 _ (by omega), ofInt_i64 _ (by omega), hx, i64_w]
  by_cases h : p % 2 = 0
  · rw [if_pos h, if_pos (hiff.2 h), wrap_id (by omega) (by omega)]; omega
  · have := hge (by omega)
    rw [if_neg h, if_neg (fun h' => h (hiff.1 h')), wrap_id (by omega) (by omega)]; omega
def sib (a n : Int) : Int := if a % (2 * sz n) = 0 then a + sz n else a - sz n
def cmpP (a n b m : Int) : Int := if a < b ∨ a = b ∧ n < m then -1 else if a = b ∧ n = m then 0 else 1
def hasAddr (a n x : Int) : Bool × Bool := if good a n = true ∧ (0 ≤ x ∧ x ≤ 4294967295) then (decide (a ≤ x ∧ x ≤ a + sz n - 1), true) else (false, false)
def halvesOf (a n : Int) : Int × Int × Int × Int × Bool := if good a n = true ∧ ¬ n = 32 then (a, n + 1, a + sz (n + 1), n + 1, true) else (0, 0, 0, 0, false)
end Go.Proofs.Ytabejlfejlpkeaa.Pfx
namespace Go.Proofs.Ytabejlfejlpkeaa.Pfx
abbrev Pr := Int × Int
def GoodP (p : Pr) : Prop := good p.1 p.2 = true
def last (p : Pr) : Int := p.1 + sz p.2 - 1
def inP (p : Pr) (x : Int) : Prop := p.1 ≤ x ∧ x ≤ last p
def cov (p q : Pr) : Prop := p.2 ≤ q.2 ∧ p.1 ≤ q.1 ∧ q.1 ≤ last p
instance (p q : Pr) : Decidable (cov p q) := by unfold cov; infer_instance
def parent (p : Pr) : Pr := (p.1 - p.1 % (2 * sz p.2), p.2 - 1)
def sibp (p : Pr) : Pr := (sib p.1 p.2, p.2)

theorem GoodP.facts {p : Pr} (h : GoodP p) : 0 ≤ p.2 ∧ p.2 ≤ 32 ∧ 0 ≤ p.1 ∧ p.1 ≤ 4294967295 ∧ p.1 % sz p.2 = 0 := good_iff.1 h
theorem good_mk {p : Pr} (h : 0 ≤ p.2 ∧ p.2 ≤ 32 ∧ 0 ≤ p.1 ∧ p.1 ≤ 4294967295 ∧ p.1 % sz p.2 = 0) : GoodP p := good_iff.2 h
theorem first_in {p : Pr} : inP p p.1 := by have := sz_pos p.2; unfold inP last; omega

theorem nest {a s b t : Int} (hs : 0 < s) (ht : 0 < t) (hd : t ∣ s) (ha : a % s = 0) (hb : b % t = 0) (h1 : a ≤ b) (h2 : b ≤ a + s - 1) : b + t - 1 ≤ a + s - 1 := by
  obtain ⟨c, rfl⟩ := hd
  have ha' : a % t = 0 := Int.emod_eq_zero_of_dvd (Int.dvd_trans (Int.dvd_mul_right t c) (Int.dvd_of_emod_eq_zero ha))
  obtain ⟨x, rfl⟩ := Int.dvd_of_emod_eq_zero ha'
  obtain ⟨y, rfl⟩ := Int.dvd_of_emod_eq_zero hb
  have h : y < x + c := by
    by_cases h : y < x + c
    · exact h
    · exfalso
      have : t * (x + c) ≤ t * y := Int.mul_le_mul_of_nonneg_left (by omega) (by omega)
      rw [Int.mul_add] at this
      omega
  have : t * (y + 1) ≤ t * (x + c) := Int.mul_le_mul_of_nonneg_left (by omega) (by omega)
  rw [Int.mul_add, Int.mul_add] at this
  omega

theorem cov_last {p q : Pr} (hp : GoodP p) (hq : GoodP q) (h : cov p q) : last q ≤ last p := by
  obtain ⟨p0, p1, p2, p3, p4⟩ := hp.facts
  obtain ⟨q0, q1, q2, q3, q4⟩ := hq.facts
  exact nest (by have := sz_pos p.2; omega) (by have := sz_pos q.2; omega) (sz_dvd p0 h.1 q1) p4 q4 h.2.1 h.2.2
theorem cov_in {p q : Pr} (hp : GoodP p) (hq : GoodP q) (h : cov p q) {x : Int} (hx : inP q x) : inP p x := by
  have := cov_last hp hq h
  exact ⟨Int.le_trans h.2.1 hx.1, Int.le_trans hx.2 this⟩
theorem cov_of_common {p q : Pr} (hp : GoodP p) (hq : GoodP q) {x : Int} (h1 : inP p x) (h2 : inP q x) (hl : p.2 ≤ q.2) : cov p q := by
  obtain ⟨p0, p1, p2, p3, p4⟩ := hp.facts
  obtain ⟨q0, q1, q2, q3, q4⟩ := hq.facts
  refine ⟨hl, ?_, Int.le_trans h2.1 h1.2⟩
  by_cases h : p.1 ≤ q.1
  · exact h
  · exfalso
    have hd := sz_dvd p0 hl q1
    have hps := sz_pos p.2
    have hqs := sz_pos q.2
    have hq' : p.1 % sz q.2 = 0 := Int.emod_eq_zero_of_dvd (Int.dvd_trans hd (Int.dvd_of_emod_eq_zero p4))
    have := nest (a := q.1) (s := sz q.2) (b := p.1) (t := sz q.2) (by omega) (by omega) (Int.dvd_refl _) q4 hq' (by omega) (by unfold inP last at h1 h2; omega)
    omega
theorem common {p q : Pr} (hp : GoodP p) (hq : GoodP q) {x : Int} (h1 : inP p x) (h2 : inP q x) : cov p q ∨ cov q p := by
  rcases Int.le_total p.2 q.2 with h | h
  · exact .inl (cov_of_common hp hq h1 h2 h)
  · exact .inr (cov_of_common hq hp h2 h1 h)
theorem cov_trans {p q r : Pr} (hp : GoodP p) (hq : GoodP q) (h1 : cov p q) (h2 : cov q r) : cov p r := by
  have := cov_last hp hq h1
  exact ⟨Int.le_trans h1.1 h2.1, Int.le_trans h1.2.1 h2.2.1, Int.le_trans h2.2.2 this⟩
theorem cov_antisymm {p q : Pr} (h1 : cov p q) (h2 : cov q p) : p = q := by
  have := h1.1; have := h2.1; have := h1.2.1; have := h2.2.1
  exact Prod.ext (by omega) (by omega)

theorem good_parent {p : Pr} (hp : GoodP p) (hn : 0 < p.2) : GoodP (parent p) := by
  obtain ⟨p0, p1, p2, p3, p4⟩ := hp.facts
  have hs := sz_pos p.2
  have e := sz_succ (n := p.2 - 1) (by omega) (by omega)
  rw [show p.2 - 1 + 1 = p.2 by omega] at e
  have h7 := Int.emod_nonneg p.1 (show 2 * sz p.2 ≠ 0 by omega)
  have hr := parent_rest (a := p.1) (s := sz p.2) (by omega) p4
  have ht := Int.mul_ediv_add_emod p.1 (2 * sz p.2)
  have hq := Int.ediv_nonneg p2 (show 0 ≤ 2 * sz p.2 by omega)
  have hm := Int.mul_nonneg (show 0 ≤ 2 * sz p.2 by omega) hq
  refine good_mk ⟨by simp [parent]; omega, by simp [parent]; omega, by simp [parent]; omega, by simp [parent]; omega, ?_⟩
  simp only [parent, e]
  have : p.1 - p.1 % (2 * sz p.2) = 2 * sz p.2 * (p.1 / (2 * sz p.2)) := by omega
  rw [this]
  exact Int.mul_emod_right _ _
theorem size_parent {p : Pr} (hp : GoodP p) (hn : 0 < p.2) : sz (parent p).2 = 2 * sz p.2 := by
  obtain ⟨p0, p1, _⟩ := hp.facts
  have e := sz_succ (n := p.2 - 1) (by omega) (by omega)
  rw [show p.2 - 1 + 1 = p.2 by omega] at e
  exact e
theorem parent_cases {p : Pr} (hp : GoodP p) : (p.1 % (2 * sz p.2) = 0 ∧ (parent p).1 = p.1 ∧ (sibp p).1 = p.1 + sz p.2) ∨ (p.1 % (2 * sz p.2) = sz p.2 ∧ (parent p).1 = p.1 - sz p.2 ∧ (sibp p).1 = p.1 - sz p.2) := by
  have hs := sz_pos p.2
  rcases parent_rest (a := p.1) (s := sz p.2) (by omega) hp.facts.2.2.2.2 with h | h
  · left; simp [parent, sibp, sib, h]
  · right; simp [parent, sibp, sib, h]; omega
theorem cov_parent {p : Pr} (hp : GoodP p) (hn : 0 < p.2) : cov (parent p) p := by
  have hs := sz_pos p.2
  have e := size_parent hp hn
  unfold cov last
  rw [e]
  have : (parent p).2 = p.2 - 1 := rfl
  rcases parent_cases hp with ⟨_, h, _⟩ | ⟨_, h, _⟩ <;> rw [h] <;> omega
theorem good_sib {p : Pr} (hp : GoodP p) (hn : 0 < p.2) : GoodP (sibp p) := by
  have hs := sz_pos p.2
  obtain ⟨p0, p1, p2, p3, p4⟩ := hp.facts
  have hg := good_parent hp hn
  have e := size_parent hp hn
  have hl := good_end hg
  obtain ⟨q0, q1, q2, q3, q4⟩ := hg.facts
  have e2 : (sibp p).2 = p.2 := rfl
  have hd : sz p.2 ∣ (sibp p).1 := by
    have h := Int.dvd_of_emod_eq_zero p4
    rcases parent_cases hp with ⟨_, _, h2⟩ | ⟨_, _, h2⟩ <;> rw [h2]
    · exact Int.dvd_add h (Int.dvd_refl _)
    · exact Int.dvd_sub h (Int.dvd_refl _)
  refine good_mk ⟨p0, p1, ?_, ?_, Int.emod_eq_zero_of_dvd hd⟩
  · rcases parent_cases hp with ⟨_, h1, h2⟩ | ⟨_, h1, h2⟩ <;> omega
  · rcases parent_cases hp with ⟨_, h1, h2⟩ | ⟨_, h1, h2⟩ <;> omega
theorem parent_split {p : Pr} (hp : GoodP p) (hn : 0 < p.2) (x : Int) : inP (parent p) x ↔ inP p x ∨ inP (sibp p) x := by
  have hs := sz_pos p.2
  have e := size_parent hp hn
  have e2 : (sibp p).2 = p.2 := rfl
  unfold inP last
  rw [e, e2]
  rcases parent_cases hp with ⟨_, h1, h2⟩ | ⟨_, h1, h2⟩ <;> rw [h1, h2] <;> omega
theorem parent_least {p q : Pr} (hp : GoodP p) (hq : GoodP q) (h : cov q p) (hne : q ≠ p) : 0 < p.2 ∧ cov q (parent p) := by
  obtain ⟨p0, p1, p2, p3, p4⟩ := hp.facts
  obtain ⟨q0, q1, q2, q3, q4⟩ := hq.facts
  have hlt : q.2 < p.2 := by
    have := h.1
    by_cases hl : q.2 = p.2
    · exfalso
      have h2 : cov p q := cov_of_common hp hq (x := p.1) first_in ⟨h.2.1, h.2.2⟩ (by omega)
      exact hne (cov_antisymm h h2)
    · omega
  have hn : 0 < p.2 := by omega
  refine ⟨hn, cov_of_common hq (good_parent hp hn) (x := p.1) ⟨h.2.1, h.2.2⟩ ⟨(cov_parent hp hn).2.1, (cov_parent hp hn).2.2⟩ ?_⟩
  show q.2 ≤ p.2 - 1
  omega
def lowH (p : Pr) : Pr := (p.1, p.2 + 1)
def highH (p : Pr) : Pr := (p.1 + sz (p.2 + 1), p.2 + 1)
theorem halves_good {p : Pr} (hp : GoodP p) (hn : p.2 < 32) : GoodP (lowH p) ∧ GoodP (highH p) := by
  obtain ⟨p0, p1, p2, p3, p4⟩ := hp.facts
  have hl := good_end hp
  have e := sz_succ p0 hn
  have hs := sz_pos (p.2 + 1)
  have hd : sz (p.2 + 1) ∣ p.1 := Int.dvd_trans (by rw [e]; exact Int.dvd_mul_left _ _) (Int.dvd_of_emod_eq_zero p4)
  exact ⟨good_mk ⟨by show 0 ≤ p.2 + 1; omega, by show p.2 + 1 ≤ 32; omega, p2, p3, Int.emod_eq_zero_of_dvd hd⟩,
    good_mk ⟨by show 0 ≤ p.2 + 1; omega, by show p.2 + 1 ≤ 32; omega, by show 0 ≤ p.1 + sz (p.2 + 1); omega, by show p.1 + sz (p.2 + 1) ≤ 4294967295; omega, Int.emod_eq_zero_of_dvd (Int.dvd_add hd (Int.dvd_refl _))⟩⟩
theorem halves_split {p : Pr} (hp : GoodP p) (hn : p.2 < 32) (x : Int) : inP p x ↔ inP (lowH p) x ∨ inP (highH p) x := by
  have e := sz_succ hp.facts.1 hn
  have hs := sz_pos (p.2 + 1)
  unfold inP last lowH highH
  rw [e]
  simp only
  omega
theorem halves_parent {p : Pr} (hp : GoodP p) (hn : p.2 < 32) : parent (lowH p) = p ∧ parent (highH p) = p ∧ sibp (lowH p) = highH p ∧ sibp (highH p) = lowH p := by
  obtain ⟨p0, p1, p2, p3, p4⟩ := hp.facts
  have e := sz_succ p0 hn
  have hs := sz_pos (p.2 + 1)
  have h1 : p.1 % (2 * sz (p.2 + 1)) = 0 := by rw [← e]; exact p4
  have h2 : (p.1 + sz (p.2 + 1)) % (2 * sz (p.2 + 1)) = sz (p.2 + 1) := by
    rw [Int.add_emod, h1, Int.zero_add, Int.emod_emod, Int.emod_eq_of_lt (by omega) (by omega)]
  refine ⟨?_, ?_, ?_, ?_⟩
  · simp only [parent, lowH, h1]; exact Prod.ext (by simp) (by simp)
  · simp only [parent, highH, h2]; exact Prod.ext (by simp) (by simp)
  · simp only [sibp, sib, lowH, highH, h1]; simp
  · simp only [sibp, sib, lowH, highH, h2]; rw [if_neg (by omega)]; exact Prod.ext (by simp) (by simp)

def inL (l : List Pr) (x : Int) : Prop := ∃ p, p ∈ l ∧ inP p x
def MaxP (S : Int → Prop) (p : Pr) : Prop := GoodP p ∧ (∀ x, inP p x → S x) ∧ (0 < p.2 → ¬ ∀ x, inP (parent p) x → S x)
def Srt (l : List Pr) : Prop := l.Pairwise (fun p q => last p < q.1)
structure Canon (S : Int → Prop) (l : List Pr) : Prop where
  srt : Srt l
  max : ∀ p, p ∈ l → MaxP S p
  cover : ∀ x, S x → inL l x
theorem fst_le_last (p : Pr) : p.1 ≤ last p := by have := sz_pos p.2; unfold last; omega
theorem srt_unique {l : List Pr} (h : Srt l) {p q : Pr} (hp : p ∈ l) (hq : q ∈ l) {x : Int} (h1 : inP p x) (h2 : inP q x) : p = q := by
  induction l with
  | nil => simp at hp
  | cons a t ih =>
    obtain ⟨ha, ht⟩ := List.pairwise_cons.1 h
    rcases List.mem_cons.1 hp with rfl | hp' <;> rcases List.mem_cons.1 hq with rfl | hq'
    · rfl
    · have := ha q hq'; unfold inP at h1 h2; omega
    · have := ha p hp'; unfold inP at h1 h2; omega
    · exact ih ht hp' hq'
theorem srt_ext : ∀ {l l' : List Pr}, Srt l → Srt l' → (∀ p, p ∈ l ↔ p ∈ l') → l = l'
  | [], [], _, _, _ => rfl
  | [], b :: t, _, _, h => by simpa using (h b).2 (by simp)
  | a :: t, [], _, _, h => by simpa using (h a).1 (by simp)
  | a :: t, b :: t', h1, h2, h => by
    obtain ⟨ha, ht⟩ := List.pairwise_cons.1 h1
    obtain ⟨hb, ht'⟩ := List.pairwise_cons.1 h2
    have e : a = b := by
      rcases List.mem_cons.1 ((h a).1 (by simp)) with e | hm
      · exact e
      · rcases List.mem_cons.1 ((h b).2 (by simp)) with e | hm'
        · exact e.symm
        · have := hb a hm
          have := ha b hm'
          have := fst_le_last a
          have := fst_le_last b
          omega
    subst e
    have hn : ∀ {s : List Pr}, (∀ q, q ∈ s → last a < q.1) → a ∉ s := fun hs hm => by have := hs a hm; have := fst_le_last a; omega
    have : t = t' := srt_ext ht ht' (fun p => by
      constructor
      · intro hp
        rcases List.mem_cons.1 ((h p).1 (by simp [hp])) with e | hm
        · exact absurd (e ▸ hp) (hn ha)
        · exact hm
      · intro hp
        rcases List.mem_cons.1 ((h p).2 (by simp [hp])) with e | hm
        · exact absurd (e ▸ hp) (hn hb)
        · exact hm)
    rw [this]
theorem max_common {S : Int → Prop} {p q : Pr} (hp : MaxP S p) (hq : MaxP S q) {x : Int} (h1 : inP p x) (h2 : inP q x) : p = q := by
  have key : ∀ {p q : Pr}, MaxP S p → MaxP S q → cov q p → q = p := by
    intro p q hp hq h
    by_cases e : q = p
    · exact e
    · exfalso
      obtain ⟨hn, hc⟩ := parent_least hp.1 hq.1 h e
      exact hp.2.2 hn (fun y hy => hq.2.1 y (cov_in hq.1 (good_parent hp.1 hn) hc hy))
  rcases common hp.1 hq.1 h1 h2 with h | h
  · exact key hq hp h
  · exact (key hp hq h).symm
theorem Canon.mem {S : Int → Prop} {l : List Pr} (h : Canon S l) {p : Pr} : p ∈ l ↔ MaxP S p := by
  refine ⟨h.max p, fun hp => ?_⟩
  obtain ⟨q, hq, hx⟩ := h.cover p.1 (hp.2.1 _ first_in)
  have := max_common hp (h.max q hq) first_in hx
  rw [this]; exact hq
theorem Canon.inL {S : Int → Prop} {l : List Pr} (h : Canon S l) (x : Int) : Pfx.inL l x ↔ S x :=
  ⟨fun ⟨p, hp, hx⟩ => (h.max p hp).2.1 x hx, h.cover x⟩
theorem Canon.unique {S : Int → Prop} {l l' : List Pr} (h : Canon S l) (h' : Canon S l') : l = l' := srt_ext h.srt h'.srt (fun p => by rw [h.mem, h'.mem])
theorem Canon.congr {S S' : Int → Prop} {l : List Pr} (h : Canon S l) (e : ∀ x, S x ↔ S' x) : Canon S' l := by
  have : S = S' := funext fun x => propext (e x)
  rw [← this]; exact h
theorem Canon.noSib {S : Int → Prop} {l : List Pr} (h : Canon S l) {p : Pr} (hp : p ∈ l) (hn : 0 < p.2) : sibp p ∉ l := fun hs =>
  (h.max p hp).2.2 hn (fun x hx => by
    rcases (parent_split (h.max p hp).1 hn x).1 hx with h1 | h1
    · exact (h.max p hp).2.1 x h1
    · exact (h.max _ hs).2.1 x h1)
theorem one_covers {l : List Pr} (hg : ∀ p, p ∈ l → GoodP p) (hn : ∀ p, p ∈ l → 0 < p.2 → sibp p ∉ l) : ∀ (d : Nat) (q : Pr), GoodP q → (32 - q.2).toNat = d → (∀ x, inP q x → inL l x) → ∃ p, p ∈ l ∧ cov p q
  | 0, q, hq, hd, h => by
    obtain ⟨p, hp, hx⟩ := h q.1 first_in
    have := (hg p hp).facts
    have := hq.facts
    exact ⟨p, hp, cov_of_common (hg p hp) hq hx first_in (by omega)⟩
  | d + 1, q, hq, hd, h => by
    have q2 := hq.facts
    have hlt : q.2 < 32 := by omega
    obtain ⟨g1, g2⟩ := halves_good hq hlt
    have hsp := halves_split hq hlt
    obtain ⟨e1, e2, e3, e4⟩ := halves_parent hq hlt
    obtain ⟨pa, ha, ca⟩ := one_covers hg hn d (lowH q) g1 (by simp [lowH]; omega) (fun x hx => h x ((hsp x).2 (.inl hx)))
    obtain ⟨pb, hb, cb⟩ := one_covers hg hn d (highH q) g2 (by simp [highH]; omega) (fun x hx => h x ((hsp x).2 (.inr hx)))
    by_cases ea : pa = lowH q
    · by_cases eb : pb = highH q
      · exfalso
        subst ea; subst eb
        exact hn _ ha (by show 0 < q.2 + 1; omega) (by rw [e3]; exact hb)
      · obtain ⟨_, hc⟩ := parent_least g2 (hg _ hb) cb eb
        exact ⟨pb, hb, by rw [e2] at hc; exact hc⟩
    · obtain ⟨_, hc⟩ := parent_least g1 (hg _ ha) ca ea
      exact ⟨pa, ha, by rw [e1] at hc; exact hc⟩
theorem canon_of {l : List Pr} (hs : Srt l) (hg : ∀ p, p ∈ l → GoodP p) (hn : ∀ p, p ∈ l → 0 < p.2 → sibp p ∉ l) : Canon (inL l) l := by
  refine ⟨hs, fun p hp => ⟨hg p hp, fun x hx => ⟨p, hp, hx⟩, fun h0 hpar => ?_⟩, fun x hx => hx⟩
  obtain ⟨q, hq, hc⟩ := one_covers hg hn _ (parent p) (good_parent (hg p hp) h0) rfl hpar
  have hc2 := cov_trans (hg q hq) (good_parent (hg p hp) h0) hc (cov_parent (hg p hp) h0)
  have e := srt_unique hs hq hp (x := p.1) ⟨hc2.2.1, hc2.2.2⟩ first_in
  subst e
  have h1 := hc.1
  have h2 : (parent q).2 = q.2 - 1 := rfl
  omega
theorem length_le {α β : Type} (R : α → β → Prop) : ∀ (l : List α) (a : List β), l.Nodup → (∀ p, p ∈ l → ∃ q, q ∈ a ∧ R p q) → (∀ p p' q, p ∈ l → p' ∈ l → R p q → R p' q → p = p') → l.length ≤ a.length
  | [], a, _, _, _ => Nat.zero_le _
  | p :: t, a, hnd, h, hinj => by
    obtain ⟨hp, ht⟩ := List.nodup_cons.1 hnd
    obtain ⟨q, hq, hr⟩ := h p (by simp)
    obtain ⟨s, s', rfl⟩ := List.append_of_mem hq
    have := length_le R t (s ++ s') ht (fun p' hp' => by
      obtain ⟨q', hq', hr'⟩ := h p' (by simp [hp'])
      have hne : q' ≠ q := by
        rintro rfl
        have := hinj p p' q' (by simp) (by simp [hp']) hr hr'
        exact hp (this ▸ hp')
      refine ⟨q', ?_, hr'⟩
      simp only [List.mem_append, List.mem_cons] at hq' ⊢
      rcases hq' with h1 | h1 | h1
      · exact .inl h1
      · exact absurd h1 hne
      · exact .inr h1) (fun p1 p2 q hp1 hp2 => hinj p1 p2 q (by simp [hp1]) (by simp [hp2]))
    simp only [List.length_append, List.length_cons] at this ⊢
    omega
theorem srt_nodup {l : List Pr} (h : Srt l) : l.Nodup := h.imp (fun {a b} hab => by
  rintro rfl
  have := fst_le_last a
  omega)
theorem range_le {a b : Int} {l : List Pr} (h : Canon (fun x => a ≤ x ∧ x ≤ b) l) : l.length ≤ 64 := by
  by_cases h0 : ∃ p, p ∈ l ∧ p.2 = 0
  · obtain ⟨p, hp, hp0⟩ := h0
    have : l.length ≤ [p].length := by
      refine Pfx.length_le (fun q r => q = r) l [p] (srt_nodup h.srt) (fun q hq => ⟨p, by simp, ?_⟩) (fun _ _ _ _ _ h1 h2 => h1.trans h2.symm)
      have hg := (h.max p hp).1
      have hgq := (h.max q hq).1
      have hc : cov p q := by
        have h2 := hg.facts
        have h3 := hgq.facts
        have h4 := good_end hg
        rw [hp0] at h2 h4
        have h5 := sz_lit.1
        rw [h5] at h2 h4
        refine ⟨by omega, by omega, ?_⟩
        show q.1 ≤ p.1 + sz p.2 - 1
        rw [hp0, h5]; omega
      exact srt_unique h.srt hq hp (x := q.1) first_in ⟨hc.2.1, hc.2.2⟩
    simp at this
    omega
  · have := Pfx.length_le (fun (p : Pr) (c : Nat) => c < 64 ∧ ((c : Int) = 2 * (p.2 - 1) ∧ (parent p).1 < a ∨ (c : Int) = 2 * (p.2 - 1) + 1 ∧ b < last (parent p))) l (List.range 64) (srt_nodup h.srt) (fun p hp => by
      have hm := h.max p hp
      have h1 := hm.1.facts
      have hn : 0 < p.2 := by
        have : p.2 ≠ 0 := fun e => h0 ⟨p, hp, e⟩
        omega
      have h2 := hm.2.2 hn
      by_cases hl : (parent p).1 < a
      · exact ⟨(2 * (p.2 - 1)).toNat, by simp; omega, by omega, .inl ⟨by omega, hl⟩⟩
      · by_cases hr : b < last (parent p)
        · exact ⟨(2 * (p.2 - 1) + 1).toNat, by simp; omega, by omega, .inr ⟨by omega, hr⟩⟩
        · exact absurd (fun x hx => by unfold inP at hx; omega) h2) (fun p p' c hp hp' h1 h2 => by
      have hm := h.max p hp
      have hm' := h.max p' hp'
      have f := hm.1.facts
      have f' := hm'.1.facts
      have hn : 0 < p.2 := by
        have : p.2 ≠ 0 := fun e => h0 ⟨p, hp, e⟩
        omega
      have hn' : 0 < p'.2 := by
        have : p'.2 ≠ 0 := fun e => h0 ⟨p', hp', e⟩
        omega
      have e2 : p.2 = p'.2 := by omega
      have s1 := hm.2.1 p.1 first_in
      have s2 := hm.2.1 (last p) ⟨fst_le_last p, Int.le_refl _⟩
      have s1' := hm'.2.1 p'.1 first_in
      have s2' := hm'.2.1 (last p') ⟨fst_le_last p', Int.le_refl _⟩
      have g1 := parent_cases hm.1
      have g2 := parent_cases hm'.1
      have z1 := size_parent hm.1 hn
      have z2 := size_parent hm'.1 hn'
      have d1 := Int.dvd_of_emod_eq_zero f.2.2.2.2
      have d2 := Int.dvd_of_emod_eq_zero f'.2.2.2.2
      have hs := sz_pos p.2
      have es : sz p'.2 = sz p.2 := by rw [e2]
      unfold last at h1 h2 s1 s2 s1' s2'
      rw [z1] at h1
      rw [z2, es] at h2
      rw [es] at g2 d2 s2'
      have dd := Int.dvd_sub d1 d2
      have e1 : p.1 - p'.1 = 0 := by
        by_cases h : p.1 - p'.1 = 0
        · exact h
        · exfalso
          have h3 : p.1 - p'.1 < sz p.2 ∧ -(sz p.2) < p.1 - p'.1 := by omega
          rcases Int.lt_or_gt_of_ne h with h5 | h5
          · have h6 := Int.le_of_dvd (a := sz p.2) (b := -(p.1 - p'.1)) (by omega) (Int.dvd_neg.2 dd)
            omega
          · have h6 := Int.le_of_dvd (a := sz p.2) (b := p.1 - p'.1) (by omega) dd
            omega
      exact Prod.ext (by omega) e2)
    simpa using this
end Go.Proofs.Ytabejlfejlpkeaa.Pfx
namespace Go.Proofs.Ytabejlfejlpkeaa.Pfx
abbrev Sp := Int × Int
def inS (l : List Sp) (x : Int) : Prop := ∃ s, s ∈ l ∧ s.1 ≤ x ∧ x ≤ s.2
structure Gapped (l : List Sp) : Prop where
  srt : l.Pairwise (fun s t => s.2 + 1 < t.1)
  ne : ∀ s, s ∈ l → s.1 ≤ s.2
theorem Gapped.tail {s : Sp} {l : List Sp} (h : Gapped (s :: l)) : Gapped l := ⟨(List.pairwise_cons.1 h.srt).2, fun t ht => h.ne t (by simp [ht])⟩
theorem pairwise_two {α : Type} {R : α → α → Prop} {l : List α} (h : l.Pairwise R) {a b : α} (ha : a ∈ l) (hb : b ∈ l) : a = b ∨ R a b ∨ R b a := by
  induction l with
  | nil => simp at ha
  | cons c t ih =>
    obtain ⟨hc, ht⟩ := List.pairwise_cons.1 h
    rcases List.mem_cons.1 ha with rfl | ha' <;> rcases List.mem_cons.1 hb with rfl | hb'
    · exact .inl rfl
    · exact .inr (.inl (hc b hb'))
    · exact .inr (.inr (hc a ha'))
    · exact ih ht ha' hb'
theorem Gapped.one {l : List Sp} (h : Gapped l) {s t : Sp} (hs : s ∈ l) (ht : t ∈ l) {x : Int} (h1 : s.1 ≤ x ∧ x ≤ s.2) (h2 : t.1 ≤ x ∧ x ≤ t.2) : s = t := by
  rcases pairwise_two h.srt hs ht with e | e | e
  · exact e
  · omega
  · omega
theorem Gapped.row {l : List Sp} (h : Gapped l) {a b : Int} (hab : a ≤ b) (hin : ∀ x, a ≤ x → x ≤ b → inS l x) : ∃ s, s ∈ l ∧ s.1 ≤ a ∧ b ≤ s.2 := by
  obtain ⟨s, hs, h1, h2⟩ := hin a (Int.le_refl _) hab
  by_cases hb : b ≤ s.2
  · exact ⟨s, hs, h1, hb⟩
  · exfalso
    obtain ⟨t, ht, h3, h4⟩ := hin (s.2 + 1) (by omega) (by omega)
    rcases pairwise_two h.srt hs ht with e | e | e
    · subst e; omega
    · omega
    · omega
def total (l : List Pr) : Int := (l.map fun p => sz p.2).foldr (· + ·) 0
def totalS (l : List Sp) : Int := (l.map fun s => s.2 - s.1 + 1).foldr (· + ·) 0
theorem total_cons (p : Pr) (l : List Pr) : total (p :: l) = sz p.2 + total l := rfl
theorem total_append (l l' : List Pr) : total (l ++ l') = total l + total l' := by
  induction l with
  | nil => simp [total]
  | cons a t ih => rw [List.cons_append, total_cons, total_cons, ih]; omega
theorem totalS_cons (p : Sp) (l : List Sp) : totalS (p :: l) = (p.2 - p.1 + 1) + totalS l := rfl

structure Greedy (a b f : Int) (l : List Pr) : Prop where
  srt : Srt l
  max : ∀ p, p ∈ l → MaxP (fun x => a ≤ x ∧ x ≤ b) p
  low : ∀ p, p ∈ l → f ≤ p.1
  cover : ∀ x, f ≤ x → x ≤ b → inL l x
  sum : f ≤ b + 1 → total l = b + 1 - f
def Clear (a b f : Int) : Prop := ∀ q, GoodP q → a ≤ q.1 → last q ≤ b → ¬ (q.1 < f ∧ f ≤ last q)
theorem clear_first (a b : Int) : Clear a b a := fun q _ h _ h2 => by omega
theorem greedy_nil {a b f : Int} (h : b < f) (hf : f ≤ b + 1) : Greedy a b f [] :=
  ⟨List.Pairwise.nil, fun p hp => by simp at hp, fun p hp => by simp at hp, fun x h1 h2 => by omega, fun _ => by simp [total]; omega⟩
structure Best (b : Int) (p : Pr) : Prop where
  good : GoodP p
  fits : last p ≤ b
  least : ∀ n, 0 ≤ n → n < p.2 → GoodP (p.1, n) → ¬ last (p.1, n) ≤ b
theorem best_max {a b f : Int} {p : Pr} (hp : Best b p) (hf : p.1 = f) (ha : a ≤ f) (hc : Clear a b f) : MaxP (fun x => a ≤ x ∧ x ≤ b) p := by
  refine ⟨hp.good, fun x hx => ?_, fun hn hpar => ?_⟩
  · have := hp.fits
    unfold inP at hx
    omega
  · have hg := good_parent hp.good hn
    have h1 := hpar (parent p).1 first_in
    have h2 := hpar (last (parent p)) ⟨fst_le_last _, Int.le_refl _⟩
    have hcov := cov_parent hp.good hn
    rcases parent_cases hp.good with ⟨_, h3, _⟩ | ⟨_, h3, _⟩
    · have e : parent p = (p.1, p.2 - 1) := Prod.ext h3 rfl
      have f2 := hp.good.facts
      refine hp.least (p.2 - 1) (by omega) (by omega) (by rw [← e]; exact hg) ?_
      rw [← e]
      exact h2.2
    · have hs := sz_pos p.2
      refine hc (parent p) hg h1.1 h2.2 ⟨by omega, ?_⟩
      have := hcov.2.2
      omega
theorem best_clear {a b f : Int} {p : Pr} (hp : Best b p) (hf : p.1 = f) (hc : Clear a b f) : Clear a b (last p + 1) := by
  intro q hq h1 h2 ⟨h3, h4⟩
  have hpl := fst_le_last p
  by_cases hlt : q.1 < f
  · exact hc q hq h1 h2 ⟨hlt, by omega⟩
  · have hin : inP q (last p) := ⟨by omega, by omega⟩
    have hin2 : inP p (last p) := ⟨hpl, Int.le_refl _⟩
    rcases common hp.good hq hin2 hin with h | h
    · have := cov_last hp.good hq h
      omega
    · have e : q.1 = p.1 := by have := h.2.1; omega
      have e2 : q = (p.1, q.2) := Prod.ext e rfl
      by_cases hl : q.2 = p.2
      · have : q = p := Prod.ext e hl
        rw [this] at h4
        omega
      · have f2 := hq.facts
        have := h.1
        exact hp.least q.2 (by omega) (by omega) (by rw [← e2]; exact hq) (by rw [← e2]; exact h2)
theorem greedy_cons {a b f : Int} {p : Pr} {l : List Pr} (hp : Best b p) (hf : p.1 = f) (ha : a ≤ f) (hc : Clear a b f) (h : Greedy a b (last p + 1) l) : Greedy a b f (p :: l) := by
  have hpl := fst_le_last p
  refine ⟨List.pairwise_cons.2 ⟨fun q hq => by have := h.low q hq; omega, h.srt⟩, fun q hq => ?_, fun q hq => ?_, fun x h1 h2 => ?_, fun h1 => ?_⟩
  · rcases List.mem_cons.1 hq with rfl | hq
    · exact best_max hp hf ha hc
    · exact h.max q hq
  · rcases List.mem_cons.1 hq with rfl | hq
    · omega
    · have := h.low q hq
      omega
  · by_cases hx : x ≤ last p
    · exact ⟨p, by simp, ⟨by omega, hx⟩⟩
    · obtain ⟨q, hq, hx2⟩ := h.cover x (by omega) h2
      exact ⟨q, by simp [hq], hx2⟩
  · have := h.sum (by have := hp.fits; omega)
    rw [total_cons, this]
    unfold last
    omega
theorem Greedy.canon {a b : Int} {l : List Pr} (h : Greedy a b a l) : Canon (fun x => a ≤ x ∧ x ≤ b) l := ⟨h.srt, h.max, fun x hx => h.cover x hx.1 hx.2⟩
theorem canon_rows : ∀ {l : List Sp} {r : List (List Pr)}, Gapped l → r.length = l.length → (∀ (i : Nat) (s : Sp) (g : List Pr), l[i]? = some s → r[i]? = some g → Canon (fun x => s.1 ≤ x ∧ x ≤ s.2) g) → Canon (inS l) r.flatten
  | [], [], _, _, _ => ⟨List.Pairwise.nil, fun p hp => by simp at hp, fun x ⟨s, hs, _⟩ => by simp at hs⟩
  | [], _ :: _, _, hl, _ => by simp at hl
  | _ :: _, [], _, hl, _ => by simp at hl
  | s :: l, g :: r, hg, hl, h => by
    have ih := canon_rows hg.tail (by simpa using hl) (fun i s' g' h1 h2 => h (i + 1) s' g' (by simpa using h1) (by simpa using h2))
    have h0 := h 0 s g rfl rfl
    have hsg := (List.pairwise_cons.1 hg.srt).1
    have inrest : ∀ p, p ∈ r.flatten → s.2 + 1 < p.1 := fun p hp => by
      obtain ⟨t, ht, h1, h2⟩ := (ih.max p hp).2.1 p.1 first_in
      have := hsg t ht
      omega
    have infirst : ∀ p, p ∈ g → last p ≤ s.2 := fun p hp => ((h0.max p hp).2.1 (last p) ⟨fst_le_last p, Int.le_refl _⟩).2
    have hone : ∀ (t : Sp), t ∈ s :: l → ∀ p, MaxP (fun x => t.1 ≤ x ∧ x ≤ t.2) p → MaxP (inS (s :: l)) p := fun t ht p hp => by
      refine ⟨hp.1, fun x hx => ⟨t, ht, hp.2.1 x hx⟩, fun hn hpar => ?_⟩
      obtain ⟨u, hu, h1, h2⟩ := hg.row (fst_le_last (parent p)) (fun x hx hx2 => hpar x ⟨hx, hx2⟩)
      have hcp := cov_parent hp.1 hn
      have h3 := hp.2.1 p.1 first_in
      have e : u = t := hg.one hu ht (x := p.1) ⟨by have := hcp.2.1; omega, by have := hcp.2.2; omega⟩ h3
      subst e
      exact hp.2.2 hn (fun x hx => by unfold inP at hx; omega)
    refine ⟨?_, fun p hp => ?_, fun x hx => ?_⟩
    · rw [List.flatten_cons]
      refine List.pairwise_append.2 ⟨h0.srt, ih.srt, fun p hp q hq => ?_⟩
      have := infirst p hp
      have := inrest q hq
      omega
    · rw [List.flatten_cons] at hp
      rcases List.mem_append.1 hp with hp | hp
      · exact hone s (by simp) p (h0.max p hp)
      · have hm := ih.max p hp
        obtain ⟨t, ht, h1, h2⟩ := hg.tail.row (fst_le_last p) (fun x hx hx2 => hm.2.1 x ⟨hx, hx2⟩)
        refine hone t (by simp [ht]) p ⟨hm.1, fun x hx => by unfold inP at hx; omega, fun hn hpar => hm.2.2 hn (fun x hx => ⟨t, ht, hpar x hx⟩)⟩
    · obtain ⟨t, ht, hx⟩ := hx
      rw [List.flatten_cons]
      rcases List.mem_cons.1 ht with rfl | ht
      · obtain ⟨p, hp, hx2⟩ := h0.cover x hx
        exact ⟨p, by simp [hp], hx2⟩
      · obtain ⟨p, hp, hx2⟩ := ih.cover x ⟨t, ht, hx⟩
        exact ⟨p, List.mem_append_right _ hp, hx2⟩
end Go.Proofs.Ytabejlfejlpkeaa.Pfx
namespace Go.Proofs.Ytabejlfejlpkeaa.Pfx
def rowPut (out : List Sp) (p : Pr) : List Sp :=
  match out.getLast? with
  | none => [(p.1, last p)]
  | some s => if p.1 ≤ s.2 + 1 then out.dropLast ++ [(s.1, max s.2 (last p))] else out ++ [(p.1, last p)]
structure RowInv (out : List Sp) (S : Int → Prop) (b : Int) : Prop where
  gap : Gapped out
  eq : ∀ x, inS out x ↔ S x
  le : ∀ s, s ∈ out → s.1 ≤ b
theorem inS_append (l l' : List Sp) (x : Int) : inS (l ++ l') x ↔ inS l x ∨ inS l' x := by
  unfold inS
  constructor
  · rintro ⟨s, hs, h⟩
    rcases List.mem_append.1 hs with h1 | h1
    · exact .inl ⟨s, h1, h⟩
    · exact .inr ⟨s, h1, h⟩
  · rintro (⟨s, hs, h⟩ | ⟨s, hs, h⟩)
    · exact ⟨s, List.mem_append.2 (.inl hs), h⟩
    · exact ⟨s, List.mem_append.2 (.inr hs), h⟩
theorem inS_one (s : Sp) (x : Int) : inS [s] x ↔ s.1 ≤ x ∧ x ≤ s.2 := by
  unfold inS
  constructor
  · rintro ⟨t, ht, h⟩
    rcases List.mem_singleton.1 ht with rfl
    exact h
  · exact fun h => ⟨s, by simp, h⟩
theorem rowPut_inv {out : List Sp} {S : Int → Prop} {b : Int} (h : RowInv out S b) {p : Pr} (hp : b ≤ p.1) : RowInv (rowPut out p) (fun x => S x ∨ inP p x) p.1 := by
  have hl := fst_le_last p
  unfold rowPut
  rcases List.eq_nil_or_concat out with rfl | ⟨init, s, rfl⟩
  · simp only [List.getLast?_nil]
    refine ⟨⟨by simp, fun t ht => ?_⟩, fun x => ?_, fun t ht => ?_⟩
    · rcases List.mem_singleton.1 ht with rfl; exact hl
    · rw [inS_one, ← h.eq x]
      have : ¬ inS [] x := by rintro ⟨t, ht, _⟩; simp at ht
      unfold inP
      constructor
      · exact fun hx => .inr hx
      · rintro (hx | hx)
        · exact absurd hx this
        · exact hx
    · rcases List.mem_singleton.1 ht with rfl; exact Int.le_refl _
  · rw [List.concat_eq_append] at h ⊢
    have hs1 := h.le s (by simp)
    have hs2 := h.gap.ne s (by simp)
    have hpw := List.pairwise_append.1 h.gap.srt
    have hI : ∀ t, t ∈ init → t.2 + 1 < s.1 := fun t ht => hpw.2.2 t ht s (by simp)
    simp only [List.getLast?_append, List.getLast?_singleton, Option.some_or, List.dropLast_concat]
    split
    · rename_i hc
      have hm1 := Int.le_max_left s.2 (last p)
      have hm2 := Int.le_max_right s.2 (last p)
      have hm3 : max s.2 (last p) = s.2 ∨ max s.2 (last p) = last p := by omega
      refine ⟨⟨List.pairwise_append.2 ⟨hpw.1, by simp, fun t ht u hu => ?_⟩, fun t ht => ?_⟩, fun x => ?_, fun t ht => ?_⟩
      · rcases List.mem_singleton.1 hu with rfl; exact hI t ht
      · rcases List.mem_append.1 ht with h1 | h1
        · exact h.gap.ne t (List.mem_append.2 (.inl h1))
        · rcases List.mem_singleton.1 h1 with rfl; show s.1 ≤ max s.2 (last p); omega
      · have he := h.eq x
        rw [inS_append, inS_one] at he
        rw [inS_append, inS_one, ← he]
        unfold inP
        dsimp only
        constructor
        · rintro (h1 | h1)
          · exact .inl (.inl h1)
          · by_cases hx : x ≤ s.2
            · exact .inl (.inr ⟨h1.1, hx⟩)
            · exact .inr ⟨by omega, by omega⟩
        · rintro ((h1 | h1) | h1)
          · exact .inl h1
          · exact .inr ⟨h1.1, by omega⟩
          · exact .inr ⟨by omega, by omega⟩
      · rcases List.mem_append.1 ht with h1 | h1
        · exact Int.le_trans (h.le t (List.mem_append.2 (.inl h1))) hp
        · rcases List.mem_singleton.1 h1 with rfl; exact Int.le_trans hs1 hp
    · rename_i hc
      refine ⟨⟨List.pairwise_append.2 ⟨h.gap.srt, by simp, fun t ht u hu => ?_⟩, fun t ht => ?_⟩, fun x => ?_, fun t ht => ?_⟩
      · rcases List.mem_singleton.1 hu with rfl
        dsimp only
        rcases List.mem_append.1 ht with h1 | h1
        · have := hI t h1; omega
        · rcases List.mem_singleton.1 h1 with rfl; omega
      · rcases List.mem_append.1 ht with h1 | h1
        · exact h.gap.ne t h1
        · rcases List.mem_singleton.1 h1 with rfl; exact hl
      · rw [inS_append, inS_one, h.eq x]
        rfl
      · rcases List.mem_append.1 ht with h1 | h1
        · exact Int.le_trans (h.le t h1) hp
        · rcases List.mem_singleton.1 h1 with rfl; exact Int.le_refl _
theorem rows_fold : ∀ (l : List Pr) (out : List Sp) (S : Int → Prop) (b : Int), RowInv out S b → l.Pairwise (fun p q => p.1 ≤ q.1) → (∀ p, p ∈ l → b ≤ p.1) → ∃ b', RowInv (l.foldl rowPut out) (fun x => S x ∨ inL l x) b'
  | [], out, S, b, h, _, _ => ⟨b, ⟨h.gap, fun x => by
      show inS out x ↔ _
      rw [h.eq x]
      constructor
      · exact .inl
      · rintro (h1 | ⟨p, hp, _⟩)
        · exact h1
        · simp at hp, h.le⟩⟩
  | p :: l, out, S, b, h, hs, hb => by
    obtain ⟨h1, h2⟩ := List.pairwise_cons.1 hs
    obtain ⟨b', hr⟩ := rows_fold l (rowPut out p) _ p.1 (rowPut_inv h (hb p (by simp))) h2 h1
    refine ⟨b', ⟨hr.gap, fun x => ?_, hr.le⟩⟩
    rw [List.foldl_cons, hr.eq x]
    unfold inL
    constructor
    · rintro ((h3 | h3) | ⟨q, hq, h3⟩)
      · exact .inl h3
      · exact .inr ⟨p, by simp, h3⟩
      · exact .inr ⟨q, by simp [hq], h3⟩
    · rintro (h3 | ⟨q, hq, h3⟩)
      · exact .inl (.inl h3)
      · rcases List.mem_cons.1 hq with rfl | hq
        · exact .inl (.inr h3)
        · exact .inr ⟨q, hq, h3⟩
theorem rows_start (b : Int) : RowInv [] (fun _ => False) b := ⟨⟨by simp, fun s hs => by simp at hs⟩, fun x => ⟨fun ⟨s, hs, _⟩ => by simp at hs, fun h => h.elim⟩, fun s hs => by simp at hs⟩
end Go.Proofs.Ytabejlfejlpkeaa.Pfx
namespace Go.Proofs.Ytabejlfejlpkeaa.Pfx
theorem put_in {S : Int → Prop} {l : List Pr} (h : Canon S l) {p q : Pr} (hp : GoodP p) (hq : q ∈ l) (hc : cov q p) : Canon (fun x => S x ∨ inP p x) l :=
  h.congr (fun x => ⟨.inl, fun h' => h'.elim id (fun hx => (h.mem.1 hq).2.1 x (cov_in (h.mem.1 hq).1 hp hc hx))⟩)
theorem put_rest {S : Int → Prop} {l : List Pr} (h : Canon S l) (f : Pr → Bool) : Canon (inL (l.filter f)) (l.filter f) :=
  canon_of (h.srt.filter f) (fun _ hp => (h.mem.1 (List.mem_filter.1 hp).1).1) (fun _ hp hn hs => h.noSib (List.mem_filter.1 hp).1 hn (List.mem_filter.1 hs).1)
theorem put_pair {S : Int → Prop} {l : List Pr} (h : Canon S l) {p : Pr} (hp : GoodP p) (hn : 0 < p.2) (hs : sibp p ∈ l) {f : Pr → Bool} (hf : ∀ q, f q = false → cov p q ∨ q = sibp p) (x : Int) :
    (inL (l.filter f) x ∨ inP (parent p) x) ↔ (S x ∨ inP p x) := by
  rw [parent_split hp hn]
  constructor
  · rintro (⟨q, hq, hx⟩ | hx | hx)
    · exact .inl ((h.mem.1 (List.mem_filter.1 hq).1).2.1 x hx)
    · exact .inr hx
    · exact .inl ((h.mem.1 hs).2.1 x hx)
  · rintro (hx | hx)
    · obtain ⟨q, hq, hqx⟩ := (h.inL x).2 hx
      cases hfq : f q with
      | true => exact .inl ⟨q, List.mem_filter.2 ⟨hq, hfq⟩, hqx⟩
      | false =>
        rcases hf q hfq with hc | rfl
        · exact .inr (.inl (cov_in hp (h.mem.1 hq).1 hc hqx))
        · exact .inr (.inr hqx)
    · exact .inr (.inl hx)
theorem put_new {S : Int → Prop} {l : List Pr} (h : Canon S l) {p : Pr} (hp : GoodP p) (hno : ∀ q, q ∈ l → ¬ cov q p) (hs : 0 < p.2 → sibp p ∉ l) {f : Pr → Bool} (hf : ∀ q, q ∈ l → (f q = true ↔ ¬ cov p q)) {l1 l2 : List Pr} (e : l.filter f = l1 ++ l2) (h1 : ∀ q, q ∈ l1 → q.1 ≤ p.1) (h2 : ∀ q, q ∈ l2 → p.1 ≤ q.1) :
    Canon (fun x => S x ∨ inP p x) (l1 ++ p :: l2) := by
  have hmem : ∀ q, q ∈ l1 ++ l2 → q ∈ l ∧ ¬ cov p q := fun q hq => by
    rw [← e] at hq
    obtain ⟨h3, h4⟩ := List.mem_filter.1 hq
    exact ⟨h3, (hf q h3).1 h4⟩
  have hapart : ∀ q, q ∈ l1 ++ l2 → ∀ x, inP q x → inP p x → False := fun q hq x hx hy => by
    obtain ⟨h3, h4⟩ := hmem q hq
    rcases common (h.mem.1 h3).1 hp hx hy with h5 | h5
    · exact hno q h3 h5
    · exact h4 h5
  have hb1 : ∀ q, q ∈ l1 → last q < p.1 := fun q hq => by
    by_cases hc : p.1 ≤ last q
    · exact (hapart q (List.mem_append.2 (.inl hq)) p.1 ⟨h1 q hq, hc⟩ first_in).elim
    · omega
  have hb2 : ∀ q, q ∈ l2 → last p < q.1 := fun q hq => by
    by_cases hc : q.1 ≤ last p
    · exact (hapart q (List.mem_append.2 (.inr hq)) q.1 first_in ⟨h2 q hq, hc⟩).elim
    · omega
  have hsr : Srt (l1 ++ l2) := by rw [← e]; exact h.srt.filter f
  obtain ⟨s1, s2, s3⟩ := List.pairwise_append.1 hsr
  have hsrt : Srt (l1 ++ p :: l2) := List.pairwise_append.2 ⟨s1, List.pairwise_cons.2 ⟨hb2, s2⟩, fun a ha b hb => by
    rcases List.mem_cons.1 hb with rfl | hb
    · exact hb1 a ha
    · exact s3 a ha b hb⟩
  have hcase : ∀ q, q ∈ l1 ++ p :: l2 ↔ q = p ∨ q ∈ l1 ++ l2 := fun q => by
    simp only [List.mem_append, List.mem_cons]
    constructor
    · rintro (h | h | h)
      · exact .inr (.inl h)
      · exact .inl h
      · exact .inr (.inr h)
    · rintro (h | h | h)
      · exact .inr (.inl h)
      · exact .inl h
      · exact .inr (.inr h)
  have hgood : ∀ q, q ∈ l1 ++ p :: l2 → GoodP q := fun q hq => by
    rcases (hcase q).1 hq with rfl | h3
    · exact hp
    · exact (h.mem.1 (hmem q h3).1).1
  have hC : Canon (inL (l1 ++ p :: l2)) (l1 ++ p :: l2) := canon_of hsrt hgood (fun q hq hn hsib => by
    rcases (hcase q).1 hq with rfl | h3
    · rcases (hcase _).1 hsib with h4 | h4
      · have h5 := parent_cases hp
        have h6 := sz_pos q.2
        have : (sibp q).1 = q.1 := by rw [h4]
        omega
      · exact hs hn (hmem _ h4).1
    · rcases (hcase _).1 hsib with h4 | h4
      · have hq2 := hmem q h3
        have hqg := (h.mem.1 hq2.1).1
        have : sibp p = q := by
          rw [← h4]
          have a1 := parent_cases hqg
          have a2 := parent_cases (good_sib hqg hn)
          have e2 : (sibp q).2 = q.2 := rfl
          rw [e2] at a2
          refine Prod.ext ?_ rfl
          have hsz := sz_pos q.2
          have hd := hqg.facts.2.2.2.2
          show (sibp (sibp q)).1 = q.1
          have hm : (q.1 + sz q.2) % (2 * sz q.2) = (q.1 % (2 * sz q.2) + sz q.2) % (2 * sz q.2) := (Int.emod_add_emod _ _ _).symm
          have hm2 : (q.1 - sz q.2) % (2 * sz q.2) = (q.1 % (2 * sz q.2) - sz q.2) % (2 * sz q.2) := by rw [Int.sub_eq_add_neg, Int.sub_eq_add_neg]; exact (Int.emod_add_emod _ _ _).symm
          rcases a1 with ⟨b1, _, b3⟩ | ⟨b1, _, b3⟩
          · rcases a2 with ⟨c1, _, c3⟩ | ⟨c1, _, c3⟩
            · rw [b3, hm, b1, Int.zero_add, Int.emod_eq_of_lt (by omega) (by omega)] at c1; omega
            · omega
          · rcases a2 with ⟨c1, _, c3⟩ | ⟨c1, _, c3⟩
            · omega
            · rw [b3, hm2, b1, Int.sub_self, Int.zero_emod] at c1; omega
        exact hs (by rw [← h4]; exact hn) (this ▸ hq2.1)
      · exact h.noSib (hmem q h3).1 hn (hmem _ h4).1)
  refine hC.congr (fun x => ?_)
  constructor
  · rintro ⟨q, hq, hx⟩
    rcases (hcase q).1 hq with rfl | h3
    · exact .inr hx
    · exact .inl ((h.mem.1 (hmem q h3).1).2.1 x hx)
  · rintro (hx | hx)
    · obtain ⟨q, hq, hqx⟩ := (h.inL x).2 hx
      cases hfq : f q with
      | true => exact ⟨q, (hcase q).2 (.inr (by rw [← e]; exact List.mem_filter.2 ⟨hq, hfq⟩)), hqx⟩
      | false =>
        by_cases hc : cov p q
        · exact ⟨p, (hcase p).2 (.inl rfl), cov_in hp (h.mem.1 hq).1 hc hqx⟩
        · rw [(hf q hq).2 hc] at hfq; cases hfq
    · exact ⟨p, (hcase p).2 (.inl rfl), hx⟩
end Go.Proofs.Ytabejlfejlpkeaa.Pfx
namespace Go.Proofs.Ytabejlfejlpkeaa.Pfx
def meetOne (x : Sp) (b : List Sp) : List Sp := b.filterMap (fun y => if max x.1 y.1 ≤ min x.2 y.2 then some (max x.1 y.1, min x.2 y.2) else none)
def meetS (a b : List Sp) : List Sp := a.flatMap (fun x => meetOne x b)
theorem mem_meetOne {x z : Sp} {b : List Sp} : z ∈ meetOne x b ↔ ∃ y, y ∈ b ∧ max x.1 y.1 ≤ min x.2 y.2 ∧ z = (max x.1 y.1, min x.2 y.2) := by
  unfold meetOne
  rw [List.mem_filterMap]
  constructor
  · rintro ⟨y, hy, h⟩
    split at h
    · rename_i hc
      exact ⟨y, hy, hc, (Option.some.inj h).symm⟩
    · cases h
  · rintro ⟨y, hy, hc, rfl⟩
    exact ⟨y, hy, by rw [if_pos hc]⟩
def Gaps (l : List Sp) : Prop := l.Pairwise (fun s t => s.2 + 1 < t.1)
theorem meetOne_gaps {x : Sp} {b : List Sp} (hb : Gaps b) : Gaps (meetOne x b) := by
  unfold Gaps meetOne
  rw [List.pairwise_filterMap]
  refine List.Pairwise.imp (fun {s t} h u hu v hv => ?_) hb
  split at hu
  · split at hv
    · have e1 := Option.some.inj hu; have e2 := Option.some.inj hv
      subst e1; subst e2
      dsimp only; omega
    · cases hv
  · cases hu
theorem meet_gapped {a b : List Sp} (ha : Gaps a) (hb : Gaps b) : Gapped (meetS a b) := by
  refine ⟨?_, fun s hs => ?_⟩
  · unfold meetS
    rw [List.pairwise_flatMap]
    refine ⟨fun x _ => meetOne_gaps hb, List.Pairwise.imp (fun {s t} h u hu v hv => ?_) ha⟩
    obtain ⟨_, _, _, rfl⟩ := mem_meetOne.1 hu
    obtain ⟨_, _, _, rfl⟩ := mem_meetOne.1 hv
    dsimp only; omega
  · obtain ⟨x, hx, h⟩ := List.mem_flatMap.1 hs
    obtain ⟨_, _, hc, rfl⟩ := mem_meetOne.1 h
    exact hc
theorem meet_in (a b : List Sp) (x : Int) : inS (meetS a b) x ↔ inS a x ∧ inS b x := by
  unfold inS meetS
  constructor
  · rintro ⟨z, hz, h1, h2⟩
    obtain ⟨s, hs, h⟩ := List.mem_flatMap.1 hz
    obtain ⟨t, ht, hc, rfl⟩ := mem_meetOne.1 h
    dsimp only at h1 h2
    exact ⟨⟨s, hs, by omega, by omega⟩, ⟨t, ht, by omega, by omega⟩⟩
  · rintro ⟨⟨s, hs, h1, h2⟩, ⟨t, ht, h3, h4⟩⟩
    exact ⟨(max s.1 t.1, min s.2 t.2), List.mem_flatMap.2 ⟨s, hs, mem_meetOne.2 ⟨t, ht, by omega, rfl⟩⟩, by dsimp only; omega, by dsimp only; omega⟩
theorem meetOne_len (x : Sp) (b : List Sp) : (meetOne x b).length ≤ b.length := List.length_filterMap_le _ _
theorem meet_len : ∀ (a b : List Sp), (meetS a b).length ≤ a.length * b.length
  | [], b => by simp [meetS]
  | x :: a, b => by
    have h := meet_len a b
    have h1 := meetOne_len x b
    unfold meetS at h ⊢
    rw [List.flatMap_cons, List.length_append, List.length_cons, Nat.succ_mul]
    omega
def inW (q p : Pr) (x : Int) : Prop := inP q x ∧ ¬ inP p x
theorem without_in {q p : Pr} (hq : GoodP q) (hp : GoodP p) (h : cov p q) (x : Int) : ¬ inW q p x := fun ⟨h1, h2⟩ => h2 (cov_in hp hq h h1)
theorem without_apart {q p : Pr} (hq : GoodP q) (hp : GoodP p) (h : ¬ cov p q) (h' : ¬ cov q p) (x : Int) : inW q p x ↔ inP q x :=
  ⟨fun h => h.1, fun h1 => ⟨h1, fun h2 => (common hp hq h2 h1).elim h h'⟩⟩
theorem without_halves {q p : Pr} (hq : GoodP q) (hn : q.2 < 32) (x : Int) : inW q p x ↔ inW (lowH q) p x ∨ inW (highH q) p x := by
  unfold inW
  rw [halves_split hq hn]
  constructor
  · rintro ⟨h | h, h2⟩
    · exact .inl ⟨h, h2⟩
    · exact .inr ⟨h, h2⟩
  · rintro (⟨h, h2⟩ | ⟨h, h2⟩)
    · exact ⟨.inl h, h2⟩
    · exact ⟨.inr h, h2⟩
theorem without_one {q p : Pr} (hq : GoodP q) (hp : GoodP p) (h : cov q p) (hne : ¬ cov p q) : q.2 < 32 ∧ ((cov (lowH q) p ∧ ¬ cov (highH q) p ∧ ¬ cov p (highH q)) ∨ (cov (highH q) p ∧ ¬ cov (lowH q) p ∧ ¬ cov p (lowH q))) := by
  have f1 := hq.facts
  have f2 := hp.facts
  have hlt : q.2 < p.2 := by
    have := h.1
    by_cases e : q.2 = p.2
    · exact (hne (cov_of_common hp hq (x := p.1) first_in ⟨h.2.1, h.2.2⟩ (by omega))).elim
    · omega
  have hn : q.2 < 32 := by omega
  obtain ⟨g1, g2⟩ := halves_good hq hn
  have hs := halves_split hq hn p.1
  have hin : inP q p.1 := ⟨h.2.1, h.2.2⟩
  have hl : (lowH q).2 = q.2 + 1 := rfl
  have hh : (highH q).2 = q.2 + 1 := rfl
  have apart : ∀ x, inP (lowH q) x → inP (highH q) x → False := fun x h1 h2 => by
    have := h1.2; have := h2.1
    unfold last lowH at *
    unfold highH at *
    dsimp only at *
    omega
  refine ⟨hn, ?_⟩
  rcases hs.1 hin with h1 | h1
  · have c1 := cov_of_common g1 hp h1 first_in (by omega)
    refine .inl ⟨c1, fun h2 => apart _ h1 ⟨h2.2.1, h2.2.2⟩, fun h2 => ?_⟩
    have : inP (lowH q) (highH q).1 := cov_in g1 hp c1 ⟨h2.2.1, h2.2.2⟩
    exact apart _ this first_in
  · have c1 := cov_of_common g2 hp h1 first_in (by omega)
    refine .inr ⟨c1, fun h2 => apart _ ⟨h2.2.1, h2.2.2⟩ h1, fun h2 => ?_⟩
    have : inP (highH q) (lowH q).1 := cov_in g2 hp c1 ⟨h2.2.1, h2.2.2⟩
    exact apart _ first_in this
theorem both_in {p q : Pr} (hp : GoodP p) (hq : GoodP q) (x : Int) : (inP p x ∧ inP q x) ↔ (if cov p q then inP q x else if cov q p then inP p x else False) := by
  split
  · rename_i h
    exact ⟨fun h1 => h1.2, fun h1 => ⟨cov_in hp hq h h1, h1⟩⟩
  · rename_i h
    split
    · rename_i h'
      exact ⟨fun h1 => h1.1, fun h1 => ⟨h1, cov_in hq hp h' h1⟩⟩
    · rename_i h'
      exact ⟨fun h1 => (common hp hq h1.1 h1.2).elim h h', False.elim⟩
theorem best_at {f b : Int} (h0 : 0 ≤ f) (h1 : f ≤ b) (hb : b ≤ 4294967295) : ∃ n : Int, Best b (f, n) := by
  have key : ∀ d : Nat, d ≤ 32 → (∃ n : Int, Best b (f, n)) ∨ ∀ n : Int, 0 ≤ n → n < d → GoodP (f, n) → ¬ last (f, n) ≤ b := by
    intro d
    induction d with
    | zero => intro _; exact .inr (fun n h h' => by omega)
    | succ d ih =>
      intro hd
      rcases ih (by omega) with h | h
      · exact .inl h
      · by_cases hg : GoodP (f, (d : Int)) ∧ last (f, (d : Int)) ≤ b
        · exact .inl ⟨d, ⟨hg.1, hg.2, fun n hn hlt => h n hn hlt⟩⟩
        · refine .inr (fun n hn hlt hgn hln => ?_)
          by_cases e : n = (d : Int)
          · subst e; exact hg ⟨hgn, hln⟩
          · exact h n hn (by omega) hgn hln
  rcases key 32 (by omega) with h | h
  · exact h
  · have hg : GoodP (f, 32) := good_mk ⟨by simp, by simp, h0, by simp; omega, by show f % sz 32 = 0; rw [sz_lit.2]; omega⟩
    have hl : last (f, 32) = f := by unfold last; rw [sz_lit.2]; simp
    exact ⟨32, ⟨hg, by omega, fun n hn hlt hgn hln => h n hn hlt hgn hln⟩⟩
theorem greedy_ex {a b : Int} (h0 : 0 ≤ a) (hb : b ≤ 4294967295) : ∀ (n : Nat) (f : Int), (b + 1 - f).toNat ≤ n → a ≤ f → f ≤ b + 1 → Clear a b f → ∃ l, Greedy a b f l := by
  intro n
  induction n with
  | zero => intro f h1 h2 h3 _; exact ⟨[], greedy_nil (by omega) h3⟩
  | succ n ih =>
    intro f h1 h2 h3 hc
    by_cases hf : b < f
    · exact ⟨[], greedy_nil hf h3⟩
    · obtain ⟨m, hB⟩ := best_at (f := f) (b := b) (by omega) (by omega) hb
      have h4 := fst_le_last (f, m)
      have h5 := hB.fits
      dsimp only at h4
      obtain ⟨l, hl⟩ := ih (last (f, m) + 1) (by omega) (by omega) (by omega) (best_clear hB rfl hc)
      exact ⟨(f, m) :: l, greedy_cons hB rfl h2 hc hl⟩
theorem rows_ex : ∀ {l : List Sp}, (∀ s, s ∈ l → 0 ≤ s.1 ∧ s.1 ≤ s.2 ∧ s.2 ≤ 4294967295) → ∃ r : List (List Pr), r.length = l.length ∧ (∀ (i : Nat) (s : Sp) (g : List Pr), l[i]? = some s → r[i]? = some g → Greedy s.1 s.2 s.1 g) ∧ total r.flatten = totalS l
  | [], _ => ⟨[], rfl, fun i s g h => by simp at h, rfl⟩
  | s :: l, h => by
    obtain ⟨r, h1, h2, h3⟩ := rows_ex (l := l) (fun t ht => h t (by simp [ht]))
    obtain ⟨a1, a2, a3⟩ := h s (by simp)
    obtain ⟨g, hg⟩ := greedy_ex (a := s.1) (b := s.2) a1 a3 (s.2 + 1 - s.1).toNat s.1 (Nat.le_refl _) (Int.le_refl _) (by omega) (clear_first _ _)
    refine ⟨g :: r, by simp [h1], fun i s' g' e1 e2 => ?_, ?_⟩
    · cases i with
      | zero =>
        simp only [List.getElem?_cons_zero, Option.some.injEq] at e1 e2
        subst e1; subst e2; exact hg
      | succ i => exact h2 i s' g' (by simpa using e1) (by simpa using e2)
    · rw [List.flatten_cons, total_append, totalS_cons, h3, hg.sum (by omega)]
      omega
theorem canon_total {l : List Sp} {q : List Pr} (hg : Gapped l) (hb : ∀ s, s ∈ l → 0 ≤ s.1 ∧ s.2 ≤ 4294967295) (hq : Canon (inS l) q) : total q = totalS l := by
  obtain ⟨r, h1, h2, h3⟩ := rows_ex (l := l) (fun s hs => ⟨(hb s hs).1, hg.ne s hs, (hb s hs).2⟩)
  have := canon_rows hg h1 (fun i s g e1 e2 => (h2 i s g e1 e2).canon)
  rw [hq.unique this, h3]
end Go.Proofs.Ytabejlfejlpkeaa.Pfx
namespace Go.Proofs.Ytabejlfejlpkeaa.Loop
open Go.RowKit Go.Proofs.YtabejlfejlpkeaaW.PrintWords Go.Proofs.YtabejlfejlpkeaaW.PrintLast Go.Proofs.YtabejlfejlpkeaaW.PrintMore Go.Proofs.Ytabejlfejlpkeaa.Pfx
variable {α : Type}
theorem lt_mid (pre : List α) (a : α) (rest : List α) : (pre.length : Int) < ((pre ++ a :: rest).length : Int) := by simp; omega
theorem not_lt_end (l : List α) : ¬ ((l.length : Int) < (l.length : Int)) := by omega
theorem wrap_mid {pre : List α} {a : α} {rest : List α} (h : (pre ++ a :: rest).length ≤ maxLen) : wrap64 ((pre.length : Int) + 1) = ((pre ++ [a]).length : Int) := by
  have h2 : maxLen = 9223372036854775807 := rfl
  rw [h2] at h
  simp at h
  rw [wrap_id (by omega) (by omega)]
  simp
theorem len_nn (l : List α) : (0 : Int) ≤ (l.length : Int) := Int.natCast_nonneg _
theorem set_mid (pre : List α) (a b : α) (rest : List α) : (pre ++ a :: rest).set ((pre.length : Int)).toNat b = pre ++ b :: rest := by simp
theorem rd_mid (pre : List Int) (a : Int) (rest : List Int) : rd (pre ++ a :: rest) (pre.length : Int) = a := by unfold rd; simp
theorem snoc_cases (l : List α) : l = [] ∨ ∃ p q, l = p ++ [q] := by
  rcases List.eq_nil_or_concat l with h | ⟨p, q, h⟩
  · exact .inl h
  · exact .inr ⟨p, q, by rw [h, List.concat_eq_append]⟩
theorem idx_gen (f : Nat → Int → Option Int) (l : List α) (p : α → Bool) (h0 : ∀ k, f (k + 1) (l.length : Int) = some (-1))
    (h1 : ∀ k pre a rest, l = pre ++ a :: rest → f (k + 1) (pre.length : Int) = if p a = true then some (pre.length : Int) else f k ((pre ++ [a]).length : Int)) :
    ∀ (rest pre : List α) (k : Nat), l = pre ++ rest → rest.length < k → ∃ r : Int, f k (pre.length : Int) = some r ∧ (0 ≤ r ↔ rest.any p = true) := by
  intro rest
  induction rest with
  | nil =>
    intro pre k e hk
    obtain ⟨k, rfl⟩ : ∃ m, k = m + 1 := ⟨k - 1, by omega⟩
    have e' : l = pre := by simpa using e
    exact ⟨-1, by rw [← e']; exact h0 k, by simp⟩
  | cons a rest ih =>
    intro pre k e hk
    obtain ⟨k, rfl⟩ : ∃ m, k = m + 1 := ⟨k - 1, by omega⟩
    rw [h1 k pre a rest e]
    by_cases hv : p a = true
    · rw [if_pos hv]
      exact ⟨_, rfl, by simp [hv]⟩
    · rw [if_neg hv]
      obtain ⟨r, hr, hi⟩ := ih (pre ++ [a]) k (by rw [e]; simp) (by simp at hk; omega)
      refine ⟨r, hr, ?_⟩
      rw [hi]; simp [hv]
theorem any_gen (f : Nat → Int → Option Int) (l : List α) (p : α → Bool) (h0 : ∀ k, f (k + 1) (l.length : Int) = some (-1))
    (h1 : ∀ k pre a rest, l = pre ++ a :: rest → f (k + 1) (pre.length : Int) = if p a = true then some (pre.length : Int) else f k ((pre ++ [a]).length : Int))
    (k : Nat) (hk : l.length < k) : ((f k 0).bind fun t => some (decide (t ≥ 0))) = some (l.any p) := by
  obtain ⟨r, hr, hi⟩ := idx_gen f l p h0 h1 l [] k rfl hk
  have hr' : f k 0 = some r := hr
  rw [hr', Option.bind_some]
  congr 1
  by_cases h : 0 ≤ r
  · rw [hi.1 h]; simp [h]
  · have : l.any p = false := by
      cases hb : l.any p with
      | false => rfl
      | true => exact absurd (hi.2 hb) h
    rw [this]; simp; omega
end Go.Proofs.Ytabejlfejlpkeaa.Loop
namespace Go.Proofs.Ytabejlfejlpkeaa.Tbl
open Go.Proofs.Ytabejlfejlpkeaa.Pfx
abbrev Pr2 := Int × Int
def risingFrom : Option Pr2 → List Pr2 → Bool
  | _, [] => true
  | prev, p :: t => good p.1 p.2 && (match prev with | none => true | some q => decide (cmpP q.1 q.2 p.1 p.2 < 0)) && risingFrom (some p) t
def rising (l : List Pr2) : Bool := risingFrom none l
theorem risingFrom_good : ∀ (l : List Pr2) (o : Option Pr2), risingFrom o l = true → ∀ p, p ∈ l → good p.1 p.2 = true
  | [], _, _, p, hp => by simp at hp
  | q :: t, o, h, p, hp => by
    simp only [risingFrom, Bool.and_eq_true] at h
    rcases List.mem_cons.1 hp with rfl | hp
    · exact h.1.1
    · exact risingFrom_good t _ h.2 p hp
theorem rising_good {l : List Pr2} (h : rising l = true) : ∀ p, p ∈ l → good p.1 p.2 = true := risingFrom_good l none h
def badAt (i : Nat) (p : Pr2) : Nat → List Pr2 → Bool
  | _, [] => false
  | k, q :: t => (!decide (i = k) && (decide (p.2 ≤ q.2 ∧ p.1 ≤ q.1 ∧ q.1 ≤ p.1 + sz p.2 - 1) || (decide (0 < p.2) && (q.1 == sib p.1 p.2 && q.2 == p.2)))) || badAt i p (k + 1) t
def outI (l : List Pr2) : Nat → List Pr2 → Bool
  | _, [] => true
  | i, p :: t => !badAt i p 0 l && outI l (i + 1) t
def goodSet (l : List Pr2) : Bool := decide (l.length ≤ 64) && rising l && outI l 0 l
end Go.Proofs.Ytabejlfejlpkeaa.Tbl
namespace Go.Proofs.Ytabejlfejlpkeaa.Tbl
open Go.Proofs.Ytabejlfejlpkeaa.Pfx
theorem badAt_false (i : Nat) (p : Pr) : ∀ (s : List Pr) (k : Nat), (∀ (j : Nat) (q : Pr), s[j]? = some q → k + j ≠ i → ¬ cov p q ∧ ¬ (0 < p.2 ∧ q = sibp p)) → badAt i p k s = false
  | [], _, _ => rfl
  | q :: t, k, h => by
    have ih := badAt_false i p t (k + 1) (fun j q' hj hne => h (j + 1) q' (by simpa using hj) (by omega))
    rw [badAt, ih, Bool.or_false]
    by_cases e : i = k
    · simp [e]
    · obtain ⟨h1, h2⟩ := h 0 q rfl (by omega)
      have b1 : decide (p.2 ≤ q.2 ∧ p.1 ≤ q.1 ∧ q.1 ≤ p.1 + sz p.2 - 1) = false := decide_eq_false h1
      have b2 : (decide (0 < p.2) && (q.1 == sib p.1 p.2 && q.2 == p.2)) = false := by
        rw [Bool.eq_false_iff]
        intro hb
        simp only [Bool.and_eq_true, decide_eq_true_eq, beq_iff_eq] at hb
        exact h2 ⟨hb.1, Prod.ext hb.2.1 hb.2.2⟩
      rw [b1, b2]; simp
theorem outI_canon {l : List Pr} (hC : Canon (inL l) l) : ∀ (t pre : List Pr), l = pre ++ t → outI l pre.length t = true
  | [], _, _ => rfl
  | p :: t, pre, e => by
    have hp : p ∈ l := by rw [e]; simp
    have hpw := List.pairwise_iff_getElem.1 hC.srt
    have hlen : pre.length < l.length := by rw [e]; simp
    have hpi : l[pre.length] = p := by simp [e]
    have hb : badAt pre.length p 0 l = false := badAt_false _ _ _ _ (fun j q hj hne => by
      obtain ⟨hj1, hj2⟩ := List.getElem?_eq_some_iff.1 hj
      refine ⟨fun hc => ?_, fun hs => ?_⟩
      · by_cases hlt : j < pre.length
        · have := hpw j pre.length hj1 hlen hlt
          rw [hj2, hpi] at this
          have h1 := hc.2.1
          have h2 := fst_le_last q
          omega
        · have := hpw pre.length j hlen hj1 (by omega)
          rw [hj2, hpi] at this
          have h1 := hc.2.2
          omega
      · exact hC.noSib hp hs.1 (hs.2 ▸ (hj2 ▸ List.getElem_mem hj1)))
    have ih := outI_canon hC t (pre ++ [p]) (by rw [e]; simp)
    rw [outI, hb, Bool.not_false, Bool.true_and]
    simpa using ih
theorem risingFrom_srt : ∀ (l : List Pr) (o : Option Pr), (∀ q, o = some q → ∀ p, p ∈ l → q.1 < p.1) → Srt l → (∀ p, p ∈ l → GoodP p) → risingFrom o l = true
  | [], _, _, _, _ => rfl
  | p :: t, o, ho, hs, hg => by
    obtain ⟨h1, h2⟩ := List.pairwise_cons.1 hs
    have ih := risingFrom_srt t (some p) (fun q hq r hr => by
      cases hq
      have := h1 r hr
      have := fst_le_last p
      omega) h2 (fun q hq => hg q (by simp [hq]))
    have g : good p.1 p.2 = true := hg p (by simp)
    cases o with
    | none =>
      simp only [risingFrom]
      rw [ih, g]; rfl
    | some q =>
      have := ho q rfl p (by simp)
      have hc : decide (cmpP q.1 q.2 p.1 p.2 < 0) = true := by
        refine decide_eq_true ?_
        unfold cmpP
        rw [if_pos (.inl this)]
        decide
      simp only [risingFrom]
      rw [ih, g, hc]; rfl
theorem goodSet_canon {l : List Pr} (hC : Canon (inL l) l) (h64 : l.length ≤ 64) : goodSet l = true := by
  unfold goodSet
  have h1 : rising l = true := risingFrom_srt l none (fun q hq => by cases hq) hC.srt (fun p hp => (hC.max p hp).1)
  have h2 : outI l 0 l = true := outI_canon hC l [] rfl
  rw [h1, h2, decide_eq_true h64]
  rfl
theorem canon_self {S : Int → Prop} {l : List Pr} (h : Canon S l) : Canon (inL l) l := h.congr (fun x => (h.inL x).symm)
end Go.Proofs.Ytabejlfejlpkeaa.Tbl
