/- Plain mathematics that the plain law of FnTrieSteps uses. No condition but what each lemma states. -/
import Derived.Test.YtakoaogbkajkcaaVFnTrieSteps
import Derived.Laws.Entries
namespace Go.Proofs.Ytakoaogbkajkcaa.Pfx
open Go.RowKit Go.Proofs.YtakoaogbkajkcaaW.PrintWords Go.Proofs.YtakoaogbkajkcaaW.PrintLast Go.Proofs.YtakoaogbkajkcaaW.PrintMore
def sz (n : Int) : Int := 2 ^ (32 - n).toNat

theorem sz_lit : sz 0 = 4294967296 ∧ sz 32 = 1 := by decide

theorem sz_succ {n : Int} (h0 : 0 ≤ n) (h : n < 32) : sz n = 2 * sz (n + 1) := by
  unfold sz
  have e : (32 - n).toNat = (32 - (n + 1)).toNat + 1 := by omega
  rw [e, Int.pow_succ]
  omega
theorem pow_pos (m : Nat) : (1 : Int) ≤ 2 ^ m := by
  induction m with
  | zero => simp
  | succ m ih => rw [Int.pow_succ]; omega
theorem sz_pos (n : Int) : 1 ≤ sz n := pow_pos _
theorem pow_le (m k : Nat) (h : m ≤ k) : (2 : Int) ^ m ≤ 2 ^ k := by
  obtain ⟨d, rfl⟩ := Nat.le.dest h
  rw [Int.pow_add]
  have h1 := pow_pos m
  have h2 := pow_pos d
  calc (2 : Int) ^ m = 2 ^ m * 1 := by omega
    _ ≤ 2 ^ m * 2 ^ d := Int.mul_le_mul_of_nonneg_left h2 (by omega)
theorem sz_le {n : Int} (h0 : 0 ≤ n) : sz n ≤ 4294967296 := by
  have := pow_le (32 - n).toNat 32 (by omega)
  simpa [sz] using this
theorem sz_add {n m : Int} (h0 : 0 ≤ n) (h : n ≤ m) (hm : m ≤ 32) : sz n = sz m * 2 ^ (m - n).toNat := by
  unfold sz
  rw [← Int.pow_add]
  congr 1
  omega
theorem sz_dvd {n m : Int} (h0 : 0 ≤ n) (h : n ≤ m) (hm : m ≤ 32) : sz m ∣ sz n := ⟨_, sz_add h0 h hm⟩
theorem sz_mono {n m : Int} (h0 : 0 ≤ n) (h : n ≤ m) (hm : m ≤ 32) : sz m ≤ sz n := Int.le_of_dvd (by have := sz_pos n; omega) (sz_dvd h0 h hm)

def good (a n : Int) : Bool := decide (0 ≤ n ∧ n ≤ 32 ∧ 0 ≤ a ∧ a ≤ 4294967295 ∧ a % sz n = 0)
theorem good_iff {a n : Int} : good a n = true ↔ (0 ≤ n ∧ n ≤ 32 ∧ 0 ≤ a ∧ a ≤ 4294967295 ∧ a % sz n = 0) := by simp [good]

theorem good_end {a n : Int} (h : good a n = true) : a + sz n - 1 ≤ 4294967295 := by
  obtain ⟨h0, h1, h2, h3, h4⟩ := good_iff.1 h
  have hd : sz n ∣ 4294967296 := by
    have := sz_dvd (n := 0) (m := n) (by omega) h0 h1
    rwa [sz_lit.1] at this
  obtain ⟨q, hq⟩ := hd
  obtain ⟨p, hp⟩ := Int.dvd_of_emod_eq_zero h4
  have hs := sz_pos n
  have hlt : p < q := by
    by_cases hlt : p < q
    · exact hlt
    · exfalso
      have : sz n * q ≤ sz n * p := Int.mul_le_mul_of_nonneg_left (by omega) (by omega)
      omega
  have : sz n * (p + 1) ≤ sz n * q := Int.mul_le_mul_of_nonneg_left (by omega) (by omega)
  rw [Int.mul_add] at this
  omega
theorem beq_dec (a b : Int) : (a == b) = decide (a = b) := by by_cases h : a = b <;> simp [h]
theorem wrap_id {x : Int} (h0 : -9223372036854775808 ≤ x) (h1 : x ≤ 9223372036854775807) : wrap64 x = x := by
  unfold wrap64
  omega
theorem u64_id {x : Int} (h0 : 0 ≤ x) (h1 : x ≤ 9223372036854775807) : IntKind.u64.wrap x = x := by
  rw [IntKind.wrap_u64]
  omega
theorem shl_sz {n : Int} (h0 : 0 ≤ n) (h1 : n ≤ 32) : shl .i64 1 (wrap64 (32 - n)) = sz n := by
  rw [wrap_id (by omega) (by omega)]
  unfold shl
  have hb : IntKind.i64.bits = 64 := rfl
  rw [hb, Nat.min_eq_left (by omega), i64_w, Int.one_mul]
  have h2 := sz_pos n
  have h3 := sz_le h0
  show wrap64 (sz n) = sz n
  exact wrap_id (by omega) (by omega)
def cmpP (a n b m : Int) : Int := if a < b ∨ a = b ∧ n < m then -1 else if a = b ∧ n = m then 0 else 1
end Go.Proofs.Ytakoaogbkajkcaa.Pfx
namespace Go.Proofs.Ytakoaogbkajkcaa.Pfx
abbrev Pr := Int × Int
end Go.Proofs.Ytakoaogbkajkcaa.Pfx
namespace Go.Proofs.Ytakoaogbkajkcaa.Loop
open Go.RowKit Go.Proofs.YtakoaogbkajkcaaW.PrintWords Go.Proofs.YtakoaogbkajkcaaW.PrintLast Go.Proofs.YtakoaogbkajkcaaW.PrintMore Go.Proofs.Ytakoaogbkajkcaa.Pfx
variable {α : Type}
theorem lt_mid (pre : List α) (a : α) (rest : List α) : (pre.length : Int) < ((pre ++ a :: rest).length : Int) := by simp; omega
theorem wrap_mid {pre : List α} {a : α} {rest : List α} (h : (pre ++ a :: rest).length ≤ maxLen) : wrap64 ((pre.length : Int) + 1) = ((pre ++ [a]).length : Int) := by
  have h2 : maxLen = 9223372036854775807 := rfl
  rw [h2] at h
  simp at h
  rw [wrap_id (by omega) (by omega)]
  simp
theorem len_nn (l : List α) : (0 : Int) ≤ (l.length : Int) := Int.natCast_nonneg _
theorem snoc_cases (l : List α) : l = [] ∨ ∃ p q, l = p ++ [q] := by
  rcases List.eq_nil_or_concat l with h | ⟨p, q, h⟩
  · exact .inl h
  · exact .inr ⟨p, q, by rw [h, List.concat_eq_append]⟩
end Go.Proofs.Ytakoaogbkajkcaa.Loop
namespace Go.Proofs.Ytakoaogbkajkcaa.Tbl
open Go.Proofs.Ytakoaogbkajkcaa.Pfx
abbrev Pr2 := Int × Int
def risingFrom : Option Pr2 → List Pr2 → Bool
  | _, [] => true
  | prev, p :: t => good p.1 p.2 && (match prev with | none => true | some q => decide (cmpP q.1 q.2 p.1 p.2 < 0)) && risingFrom (some p) t
def rising (l : List Pr2) : Bool := risingFrom none l
def isVal (n : Int) : Bool := decide (0 ≤ n ∧ n ≤ 1000000)
theorem risingFrom_good : ∀ (l : List Pr2) (o : Option Pr2), risingFrom o l = true → ∀ p, p ∈ l → good p.1 p.2 = true
  | [], _, _, p, hp => by simp at hp
  | q :: t, o, h, p, hp => by
    simp only [risingFrom, Bool.and_eq_true] at h
    rcases List.mem_cons.1 hp with rfl | hp
    · exact h.1.1
    · exact risingFrom_good t _ h.2 p hp
theorem rising_good {l : List Pr2} (h : rising l = true) : ∀ p, p ∈ l → good p.1 p.2 = true := risingFrom_good l none h
end Go.Proofs.Ytakoaogbkajkcaa.Tbl
