/- The pure statement of FnExactPrefixBytes: what the printed functions tell is what the reference tells. No condition but the arguments' own bounds. -/
import Derived.Test.YtlnfcobloolnnaaPFnExactPrefixBytesx2
import Derived.Test.YtlnfcobloolnnaaPfx
import Derived.Test.YtlnfcobloolnnaaLoop
namespace Go.Proofs.Ytlnfcobloolnnaa.Pure
namespace FnExactPrefixBytesUses
open Go.RowKit Go.Proofs.Ytlnfcobloolnnaa.PFnExactPrefixBytes Go.Proofs.YtlnfcobloolnnaaW.PrintWords Go.Proofs.YtlnfcobloolnnaaW.PrintLast Go.Proofs.YtlnfcobloolnnaaW.PrintMore Go.Proofs.Ytlnfcobloolnnaa.Pfx Go.Proofs.Ytlnfcobloolnnaa.Loop
set_option linter.unusedVariables false
set_option linter.unusedSimpArgs false

theorem spec_l1In_is (a lo hi : Int) : spec_l1In.f a lo hi = some (decide (lo ≤ a ∧ a ≤ hi)) := by
  unfold spec_l1In.f
  by_cases h : lo ≤ a
  · rw [if_pos h]; simp [h]
  · rw [if_neg h]; simp [h]
theorem impl_within_is (a lo hi : Int) : impl_within.f a lo hi = some (decide (lo ≤ a ∧ a ≤ hi)) := by
  unfold impl_within.f
  by_cases h : lo ≤ a
  · rw [if_pos h]; simp [h]
  · rw [if_neg h]; simp [h]
theorem spec_l1Addr_is (a : Int) : spec_l1Addr.f a = some (decide (0 ≤ a ∧ a ≤ 4294967295)) := by
  unfold spec_l1Addr.f; rw [spec_l1In_is]; rfl
theorem impl_isAddr_is (a : Int) : impl_isAddr.f a = some (decide (0 ≤ a ∧ a ≤ 4294967295)) := by
  unfold impl_isAddr.f; rw [impl_within_is]; rfl
theorem impl_sizeOf_is {n : Int} (h0 : 0 ≤ n) (h1 : n ≤ 32) : impl_sizeOf.f n = some (sz n) := by
  unfold impl_sizeOf.f
  rw [shl_sz h0 h1, if_pos (by rw [wrap_id (by omega) (by omega)]; omega)]
theorem spec_l1Size_is (a : Int) {n : Int} (h0 : 0 ≤ n) (h1 : n ≤ 32) : spec_l1Size.f a n = some (sz n) := by
  unfold spec_l1Size.f
  have e : IntKind.u64.wrap (wrap64 (32 - n)) = wrap64 (32 - n) := by rw [wrap_id (by omega) (by omega), u64_id (by omega) (by omega)]
  rw [e, shl_sz h0 h1, if_pos (by rw [wrap_id (by omega) (by omega)]; omega)]
theorem impl_GoodPrefix_is (a n : Int) : impl_GoodPrefix.f a n = some (good a n) := by
  unfold impl_GoodPrefix.f
  rw [impl_within_is, Option.bind_some]
  by_cases h : 0 ≤ n ∧ n ≤ 32
  · rw [if_pos (decide_eq_true h), impl_isAddr_is, Option.bind_some]
    by_cases h' : 0 ≤ a ∧ a ≤ 4294967295
    · rw [if_pos (decide_eq_true h'), impl_sizeOf_is h.1 h.2, Option.bind_some, if_neg (by have := sz_pos n; omega), Int.tmod_eq_emod_of_nonneg h'.1]
      simp [good, h.1, h.2, h'.1, h'.2, beq_dec]
    · rw [if_neg (by simpa using h')]
      have : good a n = false := by simp [good]; omega
      rw [this]
  · rw [if_neg (by simpa using h)]
    have : good a n = false := by simp [good]; omega
    rw [this]
theorem spec_GoodPrefix_is (a n : Int) : spec_GoodPrefix.f a n = some (good a n) := by
  unfold spec_GoodPrefix.f
  rw [spec_l1In_is, Option.bind_some]
  by_cases h : 0 ≤ n ∧ n ≤ 32
  · rw [if_pos (decide_eq_true h), spec_l1Addr_is, Option.bind_some]
    by_cases h' : 0 ≤ a ∧ a ≤ 4294967295
    · rw [if_pos (decide_eq_true h'), spec_l1Size_is a h.1 h.2, Option.bind_some, if_neg (by have := sz_pos n; omega), Int.tmod_eq_emod_of_nonneg h'.1]
      simp [good, h.1, h.2, h'.1, h'.2, beq_dec]
    · rw [if_neg (by simpa using h')]
      have : good a n = false := by simp [good]; omega
      rw [this]
  · rw [if_neg (by simpa using h)]
    have : good a n = false := by simp [good]; omega
    rw [this]
def be : Nat → Int → List Int
  | 0, _ => []
  | n + 1, x => be n (x / 256) ++ [x % 256]
theorem be_len (n : Nat) (x : Int) : (be n x).length = n := by
  induction n generalizing x with
  | zero => rfl
  | succ n ih => simp [be, ih]
theorem spec_l4Bytes_l0 : ∀ (n k : Nat) (x : Int) (tl : List Int), n < k → n + tl.length ≤ 1000000 → spec_l4Bytes.l0 k x (List.replicate n 0 ++ tl) ((n : Int) - 1) = some (strOfNums (be n x ++ tl))
  | 0, k + 1, x, tl, _, _ => by
    simp only [spec_l4Bytes.l0]
    rw [if_neg (by omega)]
    simp [be]
  | n + 1, k + 1, x, tl, hk, hl => by
    simp only [spec_l4Bytes.l0]
    rw [show ((n + 1 : Nat) : Int) - 1 = (n : Int) by omega, if_pos (by omega), if_pos (by omega), if_pos (by simp; omega), wrap_id (by omega) (by omega)]
    have e : (List.replicate (n + 1) (0 : Int) ++ tl).set ((n : Int)).toNat (x % 256) = List.replicate n 0 ++ ([x % 256] ++ tl) := by
      rw [List.replicate_succ', List.append_assoc]
      simp
    rw [e, spec_l4Bytes_l0 n k (x / 256) ([x % 256] ++ tl) (by omega) (by simp; omega)]
    simp [be]
theorem spec_l4Bytes_is (k n : Nat) (x : Int) (hk : n < k) (hn : n ≤ 100000) : spec_l4Bytes.f k x (n : Int) = some (strOfNums (be n x)) := by
  unfold spec_l4Bytes.f
  rw [if_pos (by omega), if_pos (by omega), wrap_id (by omega) (by omega)]
  have := spec_l4Bytes_l0 n k x [] hk (by simp; omega)
  simpa using this
def hb (x : Int) : Nat → List Int
  | 0 => []
  | n + 1 => (shr .i64 x (8 * (n : Int))) % 256 :: hb x n
theorem impl_bytesOf_l0 : ∀ (n k : Nat) (x : Int) (acc : List Int), n < k → n + acc.length ≤ 1000000 → impl_bytesOf.l0 k x acc ((n : Int) - 1) = some (strOfNums (acc ++ hb x n))
  | 0, k + 1, x, acc, _, _ => by
    simp only [impl_bytesOf.l0]
    rw [if_neg (by omega)]
    simp [hb]
  | n + 1, k + 1, x, acc, hk, hl => by
    simp only [impl_bytesOf.l0]
    rw [show ((n + 1 : Nat) : Int) - 1 = (n : Int) by omega, if_pos (by omega), wrap_id (x := 8 * (n : Int)) (by omega) (by omega), if_pos (by omega), if_pos (by omega), wrap_id (by omega) (by omega)]
    rw [impl_bytesOf_l0 n k x _ (by omega) (by simp; omega)]
    simp [hb]
theorem impl_bytesOf_is (k n : Nat) (x : Int) (hk : n < k) (hn : n ≤ 100000) : impl_bytesOf.f k x (n : Int) = some (strOfNums (hb x n)) := by
  unfold impl_bytesOf.f
  rw [wrap_id (by omega) (by omega)]
  have := impl_bytesOf_l0 n k x [] hk (by simp; omega)
  simpa using this
theorem strOfNums_take (xs : List Int) (m : Nat) : (strOfNums xs).extract 0 m = strOfNums (xs.take m) := by
  apply ByteArray.ext
  simp [strOfNums, ByteArray.data_extract, List.map_take]
theorem size_strOf (xs : List Int) : (strOfNums xs).size = xs.length := by simp [strOfNums, ByteArray.size]
theorem shr_is (x : Int) (n : Nat) (h : n ≤ 64) : shr .i64 x (n : Int) = x / 2 ^ n := by
  unfold shr
  rw [show min (n : Int).toNat IntKind.i64.bits = n by show min (n : Int).toNat 64 = n; omega]
theorem octs_is {n : Int} (h0 : 0 ≤ n) (h1 : n ≤ 32) : ∃ m : Nat, wrap64 (Int.tdiv (wrap64 (n + 7)) 8) = (m : Int) ∧ m ≤ 4 := by
  have e : Int.tdiv (n + 7) 8 = (n + 7) / 8 := Int.tdiv_eq_ediv_of_nonneg (by omega)
  rw [wrap_id (x := n + 7) (by omega) (by omega), e, wrap_id (by omega) (by omega)]
  exact ⟨((n + 7) / 8).toNat, by omega, by omega⟩
theorem be_take (a : Int) (m : Nat) (hm : m ≤ 4) : be m (shr .i64 a (32 - 8 * (m : Int))) = (hb a 4).take m := by
  have e0 := shr_is a 0 (by omega)
  have e8 := shr_is a 8 (by omega)
  have e16 := shr_is a 16 (by omega)
  have e24 := shr_is a 24 (by omega)
  rw [show ((0 : Nat) : Int) = 0 from rfl] at e0
  rw [show ((8 : Nat) : Int) = 8 from rfl] at e8
  rw [show ((16 : Nat) : Int) = 16 from rfl] at e16
  rw [show ((24 : Nat) : Int) = 24 from rfl] at e24
  have hl : hb a 4 = [shr .i64 a 24 % 256, shr .i64 a 16 % 256, shr .i64 a 8 % 256, shr .i64 a 0 % 256] := rfl
  rw [hl, e0, e8, e16, e24]
  have hc : m = 0 ∨ m = 1 ∨ m = 2 ∨ m = 3 ∨ m = 4 := by omega
  rcases hc with rfl | rfl | rfl | rfl | rfl
  · rfl
  · rw [show (32 : Int) - 8 * ((1 : Nat) : Int) = 24 by omega, e24]; rfl
  · rw [show (32 : Int) - 8 * ((2 : Nat) : Int) = 16 by omega, e16]
    simp only [be, List.nil_append, List.take, List.cons_append, List.cons.injEq, and_true]
    omega
  · rw [show (32 : Int) - 8 * ((3 : Nat) : Int) = 8 by omega, e8]
    simp only [be, List.nil_append, List.take, List.cons_append, List.cons.injEq, and_true]
    omega
  · rw [show (32 : Int) - 8 * ((4 : Nat) : Int) = 0 by omega, e0]
    simp only [be, List.nil_append, List.take, List.cons_append, List.cons.injEq, and_true]
    omega
def prefB (a n : Int) : ByteArray := strOfNums [n % 256] ++ strOfNums ((hb a 4).take (Int.tdiv (n + 7) 8).toNat)
theorem prefB_same (k : Nat) (hk : 10 ≤ k) (a n : Int) (h0 : 0 ≤ n) (h1 : n ≤ 32) : ∃ r, spec_l4Prefix.f k a n = some r ∧ impl_prefixBytes.f k a n = some r := by
  obtain ⟨m, hm, hm4⟩ := octs_is h0 h1
  unfold spec_l4Prefix.f impl_prefixBytes.f
  have s1 := spec_l4Bytes_is k 1 n (by omega) (by omega)
  have i1 := impl_bytesOf_is k 1 n (by omega) (by omega)
  have i4 := impl_bytesOf_is k 4 a (by omega) (by omega)
  rw [show ((1 : Nat) : Int) = 1 from rfl] at s1 i1
  rw [show ((4 : Nat) : Int) = 4 from rfl] at i4
  have e1 : hb n 1 = be 1 n := by
    have e0 := shr_is n 0 (by omega)
    rw [show ((0 : Nat) : Int) = 0 from rfl] at e0
    show [shr .i64 n 0 % 256] = [n % 256]
    rw [e0]; simp
  rw [s1, i1, i4, hm, wrap_id (x := 8 * (m : Int)) (by omega) (by omega), wrap_id (x := 32 - 8 * (m : Int)) (by omega) (by omega), u64_id (by omega) (by omega)]
  simp only [Option.bind_some]
  rw [if_pos (by omega), spec_l4Bytes_is k m _ (by omega) (by omega), be_take a m hm4, e1, Option.bind_some]
  have hsz : (strOfNums (hb a 4)).size = 4 := by rw [size_strOf]; rfl
  rw [if_pos (by simp only [size_strOf, be_len, List.length_take]; omega), if_pos (by omega), if_pos (by rw [hsz]; omega), show ((m : Int)).toNat = m by omega, strOfNums_take, if_pos (by simp only [size_strOf, be_len, List.length_take]; omega)]
  exact ⟨_, rfl, rfl⟩
theorem good_len {a n : Int} (h : good a n = true) : 0 ≤ n ∧ n ≤ 32 := by
  unfold good at h
  simp only [Bool.and_eq_true, decide_eq_true_eq] at h
  omega
theorem PrefixBytes_same (k : Nat) (hk : 10 ≤ k) (a n : Int) : ∃ r, spec_PrefixBytes.f k a n = some r ∧ impl_PrefixBytes.f k a n = some r := by
  unfold spec_PrefixBytes.f impl_PrefixBytes.f
  rw [spec_GoodPrefix_is, impl_GoodPrefix_is]
  simp only [Option.bind_some]
  by_cases h : good a n = true
  · obtain ⟨r, h1, h2⟩ := prefB_same k hk a n (good_len h).1 (good_len h).2
    rw [if_pos h, if_pos h, h1, h2]
    exact ⟨_, rfl, rfl⟩
  · rw [if_neg h, if_neg h]; exact ⟨_, rfl, rfl⟩

end FnExactPrefixBytesUses
open Go.RowKit Go.Proofs.Ytlnfcobloolnnaa.PFnExactPrefixBytes Go.Proofs.YtlnfcobloolnnaaW.PrintWords Go.Proofs.YtlnfcobloolnnaaW.PrintLast Go.Proofs.YtlnfcobloolnnaaW.PrintMore Go.Proofs.Ytlnfcobloolnnaa.Pfx Go.Proofs.Ytlnfcobloolnnaa.Loop FnExactPrefixBytesUses
set_option linter.unusedVariables false
theorem FnExactPrefixBytes (a0_0 : Int) (a0_1 : Int) (w0_0 : (Lit.int .i64 a0_0).wf = true) (w0_1 : (Lit.int .i64 a0_1).wf = true) : ∃ k, laws_FnExactPrefixBytes.f k a0_0 a0_1 = some true := by
  obtain ⟨r, h1, h2⟩ := PrefixBytes_same 10 (Nat.le_refl _) a0_0 a0_1
  refine ⟨10, ?_⟩
  unfold laws_FnExactPrefixBytes.f laws_toPrefix.f
  simp only [Option.bind_some]
  rw [h1, h2]
  simp
end Go.Proofs.Ytlnfcobloolnnaa.Pure
