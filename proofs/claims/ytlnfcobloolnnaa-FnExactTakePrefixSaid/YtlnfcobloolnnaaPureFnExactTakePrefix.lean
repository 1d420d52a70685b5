/- The pure statement of FnExactTakePrefix: what the printed functions tell is what the reference tells. No condition but the arguments' own bounds. -/
import Derived.Test.YtlnfcobloolnnaaPFnExactTakePrefixx4
import Derived.Test.YtlnfcobloolnnaaPfx
import Derived.Test.YtlnfcobloolnnaaLoop
namespace Go.Proofs.Ytlnfcobloolnnaa.Pure
namespace FnExactTakePrefixUses
open Go.RowKit Go.Proofs.Ytlnfcobloolnnaa.PFnExactTakePrefix Go.Proofs.YtlnfcobloolnnaaW.PrintWords Go.Proofs.YtlnfcobloolnnaaW.PrintLast Go.Proofs.YtlnfcobloolnnaaW.PrintMore Go.Proofs.Ytlnfcobloolnnaa.Pfx Go.Proofs.Ytlnfcobloolnnaa.Loop
set_option linter.unusedVariables false
set_option linter.unusedSimpArgs false

theorem spec_l1In_is (a lo hi : Int) : spec_l1In.f a lo hi = some (decide (lo ≤ a ∧ a ≤ hi)) := by
  unfold spec_l1In.f
  by_cases h : lo ≤ a
  · rw [if_pos h]; simp [h]
  · rw [if_neg h]; simp [h]
theorem impl_within_is (a lo hi : Int) : impl_within.f a lo hi = some (decide (lo ≤ a ∧ a ≤ hi)) := by
  unfold impl_within.f
  by_cases h : lo ≤ a
  · rw [if_pos h]; simp [h]
  · rw [if_neg h]; simp [h]
theorem spec_l1Addr_is (a : Int) : spec_l1Addr.f a = some (decide (0 ≤ a ∧ a ≤ 4294967295)) := by
  unfold spec_l1Addr.f; rw [spec_l1In_is]; rfl
theorem impl_isAddr_is (a : Int) : impl_isAddr.f a = some (decide (0 ≤ a ∧ a ≤ 4294967295)) := by
  unfold impl_isAddr.f; rw [impl_within_is]; rfl
theorem impl_sizeOf_is {n : Int} (h0 : 0 ≤ n) (h1 : n ≤ 32) : impl_sizeOf.f n = some (sz n) := by
  unfold impl_sizeOf.f
  rw [shl_sz h0 h1, if_pos (by rw [wrap_id (by omega) (by omega)]; omega)]
theorem spec_l1Size_is (a : Int) {n : Int} (h0 : 0 ≤ n) (h1 : n ≤ 32) : spec_l1Size.f a n = some (sz n) := by
  unfold spec_l1Size.f
  have e : IntKind.u64.wrap (wrap64 (32 - n)) = wrap64 (32 - n) := by rw [wrap_id (by omega) (by omega), u64_id (by omega) (by omega)]
  rw [e, shl_sz h0 h1, if_pos (by rw [wrap_id (by omega) (by omega)]; omega)]
theorem impl_GoodPrefix_is (a n : Int) : impl_GoodPrefix.f a n = some (good a n) := by
  unfold impl_GoodPrefix.f
  rw [impl_within_is, Option.bind_some]
  by_cases h : 0 ≤ n ∧ n ≤ 32
  · rw [if_pos (decide_eq_true h), impl_isAddr_is, Option.bind_some]
    by_cases h' : 0 ≤ a ∧ a ≤ 4294967295
    · rw [if_pos (decide_eq_true h'), impl_sizeOf_is h.1 h.2, Option.bind_some, if_neg (by have := sz_pos n; omega), Int.tmod_eq_emod_of_nonneg h'.1]
      simp [good, h.1, h.2, h'.1, h'.2, beq_dec]
    · rw [if_neg (by simpa using h')]
      have : good a n = false := by simp [good]; omega
      rw [this]
  · rw [if_neg (by simpa using h)]
    have : good a n = false := by simp [good]; omega
    rw [this]
theorem spec_GoodPrefix_is (a n : Int) : spec_GoodPrefix.f a n = some (good a n) := by
  unfold spec_GoodPrefix.f
  rw [spec_l1In_is, Option.bind_some]
  by_cases h : 0 ≤ n ∧ n ≤ 32
  · rw [if_pos (decide_eq_true h), spec_l1Addr_is, Option.bind_some]
    by_cases h' : 0 ≤ a ∧ a ≤ 4294967295
    · rw [if_pos (decide_eq_true h'), spec_l1Size_is a h.1 h.2, Option.bind_some, if_neg (by have := sz_pos n; omega), Int.tmod_eq_emod_of_nonneg h'.1]
      simp [good, h.1, h.2, h'.1, h'.2, beq_dec]
    · rw [if_neg (by simpa using h')]
      have : good a n = false := by simp [good]; omega
      rw [this]
  · rw [if_neg (by simpa using h)]
    have : good a n = false := by simp [good]; omega
    rw [this]
theorem laws_eqPrefix_is (a n b m : Int) : laws_eqPrefix.f a n b m = some (decide (a = b ∧ n = m)) := by
  unfold laws_eqPrefix.f
  by_cases h : a = b
  · by_cases h' : n = m
    · rw [if_pos h, if_pos h']; simp [h, h']
    · rw [if_pos h, if_neg h']; simp [h']
  · rw [if_neg h]; simp [h]
def readN (s : ByteArray) : Nat → Int → Int → Int
  | 0, _, x => x
  | n + 1, i, x => readN s n (i + 1) (Go.bits .or .i64 (wrap64 (x * 256)) (wrap64 (bt s i)))
theorem spec_number_l0 (s : ByteArray) (hs : s.size ≤ 1000000000) : ∀ (n k : Nat) (i x e : Int), n < k → 0 ≤ i → i + n ≤ s.size → spec_l4R_number.l0 k n x s i e = some (readN s n i x, s, i + n, e)
  | 0, k + 1, i, x, e, _, _, _ => by
    simp only [spec_l4R_number.l0]
    rw [if_neg (by omega)]
    simp [readN]
  | n + 1, k + 1, i, x, e, hk, h0, h1 => by
    simp only [spec_l4R_number.l0]
    rw [if_pos (by omega), if_pos h0, if_pos (by omega), wrap_id (x := ((n + 1 : Nat) : Int) - 1) (by omega) (by omega), wrap_id (x := i + 1) (by omega) (by omega)]
    rw [show ((n + 1 : Nat) : Int) - 1 = (n : Int) by omega, spec_number_l0 s hs n k (i + 1) _ e (by omega) (by omega) (by omega)]
    rw [show i + 1 + (n : Int) = i + ((n + 1 : Nat) : Int) by omega]
    rfl
theorem impl_number_l0 (s : ByteArray) (hs : s.size ≤ 1000000000) : ∀ (n k : Nat) (i x e j : Int), n < k → 0 ≤ i → i + n ≤ s.size → 0 ≤ j → j + n ≤ 1000000000 → impl_input_number.l0 k x (j + n) j s i e = some (readN s n i x, s, i + n, e)
  | 0, k + 1, i, x, e, j, _, _, _, _, _ => by
    simp only [impl_input_number.l0]
    rw [if_neg (by omega)]
    simp [readN]
  | n + 1, k + 1, i, x, e, j, hk, h0, h1, h2, h3 => by
    simp only [impl_input_number.l0]
    rw [if_pos (by omega), if_pos h0, if_pos (by omega), wrap_id (x := j + 1) (by omega) (by omega), wrap_id (x := i + 1) (by omega) (by omega)]
    rw [show j + ((n + 1 : Nat) : Int) = (j + 1) + (n : Int) by omega, impl_number_l0 s hs n k (i + 1) _ e (j + 1) (by omega) (by omega) (by omega) (by omega) (by omega)]
    rw [show i + 1 + (n : Int) = i + ((n + 1 : Nat) : Int) by omega]
    rfl
theorem spec_number_is (s : ByteArray) (hs : s.size ≤ 1000000000) (n k : Nat) (i : Int) (hk : n + 2 ≤ k) (hn : n ≤ 1000000) (h0 : 0 ≤ i) (h1 : i ≤ s.size) : spec_l4R_number.f k s i 0 n = some (if i + n ≤ s.size then (readN s n i 0, s, i + n, 0) else (0, s, i, 1)) := by
  obtain ⟨k, rfl⟩ : ∃ m, k = m + 1 := ⟨k - 1, by omega⟩
  unfold spec_l4R_number.f
  rw [if_pos rfl]
  simp only [spec_l4R_number.j0]
  rw [wrap_id (x := (s.size : Int) - i) (by omega) (by omega)]
  by_cases h : i + n ≤ s.size
  · rw [if_neg (by simp; omega), if_pos h, spec_number_l0 s hs n k i 0 0 (by omega) h0 h]
  · rw [if_pos (by simp; omega), if_neg h, if_pos trivial]
theorem impl_number_is (s : ByteArray) (hs : s.size ≤ 1000000000) (n k : Nat) (i : Int) (hk : n + 3 ≤ k) (hn : n ≤ 1000000) (h0 : 0 ≤ i) (h1 : i ≤ s.size) : impl_input_number.f k s i 0 n = some (if i + n ≤ s.size then (readN s n i 0, s, i + n, 0) else (0, s, i, 1)) := by
  obtain ⟨k, rfl⟩ : ∃ m, k = m + 2 := ⟨k - 2, by omega⟩
  unfold impl_input_number.f
  rw [if_pos rfl]
  simp only [impl_input_number.j0, impl_input_number.j1]
  rw [wrap_id (x := i + (n : Int)) (by omega) (by omega)]
  by_cases h : i + n ≤ s.size
  · have := impl_number_l0 s hs n k i 0 0 0 (by omega) h0 h (by omega) (by omega)
    rw [show (0 : Int) + (n : Int) = n by omega] at this
    rw [if_neg (by simp; omega), if_pos trivial, if_pos h, this]
  · rw [if_pos (by simp; omega), if_neg h, if_neg (by omega)]
theorem or_zero (n : Nat) (h : n < 256) : Go.bits .or .i64 0 (n : Int) = (n : Int) := by
  have e1 : (BitVec.ofInt 64 0 ||| BitVec.ofInt 64 (n : Int)).toNat = n := by
    rw [BitVec.toNat_or, BitVec.ofInt_natCast, BitVec.toNat_ofNat]
    have e0 : (BitVec.ofInt 64 0).toNat = 0 := rfl
    rw [e0, Nat.zero_or]
    exact Nat.mod_eq_of_lt (by omega)
  show IntKind.i64.wrap ((BitVec.ofInt 64 0 ||| BitVec.ofInt 64 (n : Int)).toNat : Int) = _
  rw [e1]
  have e : (n : Int) % 2 ^ 64 = n := Int.emod_eq_of_lt (by omega) (by omega)
  simp only [IntKind.wrap, IntKind.bits, IntKind.signed, e]
  rw [if_neg]
  simp
  omega
theorem readN_one (s : ByteArray) (i : Int) : readN s 1 i 0 = bt s i := by
  have hb := bt_range s i
  simp only [readN]
  rw [show (0 : Int) * 256 = 0 by omega, show wrap64 0 = 0 from wrap_id (by omega) (by omega), wrap_id (x := bt s i) (by omega) (by omega)]
  obtain ⟨n, hn⟩ := Int.eq_ofNat_of_zero_le hb.1
  rw [hn]
  exact or_zero n (by omega)
def octets (L : Int) : Nat := ((L + 7) / 8).toNat
def takeP (s : ByteArray) (i : Int) : Option (Int × Int × Int) :=
  if i + 1 ≤ s.size then
    if bt s i > 32 then none else
    if i + 1 + octets (bt s i) ≤ s.size then some (shl .i64 (readN s (octets (bt s i)) (i + 1) 0) (32 - 8 * (octets (bt s i) : Int)), bt s i, i + 1 + octets (bt s i)) else none
  else none
theorem octets_is {L : Int} (h0 : 0 ≤ L) (h1 : L ≤ 255) : wrap64 (Int.tdiv (wrap64 (L + 7)) 8) = (octets L : Int) ∧ ((octets L : Nat) : Int) = (L + 7) / 8 := by
  unfold octets
  have e : Int.tdiv (L + 7) 8 = (L + 7) / 8 := Int.tdiv_eq_ediv_of_nonneg (by omega)
  rw [wrap_id (x := L + 7) (by omega) (by omega), e, wrap_id (by omega) (by omega)]
  omega
theorem spec_prefix_is (s : ByteArray) (hs : s.size ≤ 1000000000) (k : Nat) (hk : 100 ≤ k) (i : Int) (h0 : 0 ≤ i) (h1 : i ≤ s.size) : ∃ q, spec_l4R_prefix.f k s i 0 = some q ∧ (∀ t, takeP s i = some t → q = (t.1, t.2.1, s, t.2.2, 0)) ∧ (takeP s i = none → q.2.2.2.2 ≠ 0) := by
  obtain ⟨k, rfl⟩ : ∃ m, k = m + 1 := ⟨k - 1, by omega⟩
  have hn := spec_number_is s hs 1 (k + 1) i (by omega) (by omega) h0 h1
  unfold spec_l4R_prefix.f takeP
  rw [show ((1 : Nat) : Int) = 1 from rfl] at hn
  rw [hn, Option.bind_some, readN_one]
  have hb := bt_range s i
  have ho := octets_is hb.1 hb.2
  by_cases h2 : i + 1 ≤ (s.size : Int)
  · rw [if_pos h2, if_pos h2]
    simp only [if_true, spec_l4R_prefix.j0]
    by_cases h3 : bt s i > 32
    · rw [if_pos (decide_eq_true h3), if_pos h3]
      have hz : ∀ n, spec_l4R_number.f k s (i + 1) 3 n = some (0, s, i + 1, 3) := by
        intro n
        obtain ⟨k, rfl⟩ : ∃ m, k = m + 1 := ⟨k - 1, by omega⟩
        unfold spec_l4R_number.f
        rw [if_neg (by omega)]
        simp only [spec_l4R_number.j0]
        simp
      rw [hz]
      simp only [Option.bind_some]
      rw [if_neg (by omega)]
      exact ⟨_, rfl, fun t h => by simp at h, fun _ => by simp⟩
    · rw [if_neg (by simpa using h3), if_neg h3, ho.1, spec_number_is s hs (octets (bt s i)) k (i + 1) (by omega) (by omega) (by omega) h2]
      simp only [Option.bind_some]
      by_cases h4 : i + 1 + (octets (bt s i) : Int) ≤ s.size
      · rw [if_pos h4, if_pos h4]
        simp only [if_true]
        rw [wrap_id (x := 8 * (octets (bt s i) : Int)) (by omega) (by omega), wrap_id (x := 32 - 8 * (octets (bt s i) : Int)) (by omega) (by omega), u64_id (by omega) (by omega), if_pos (by omega)]
        exact ⟨_, rfl, fun t h => by cases h; rfl, fun h => by simp at h⟩
      · rw [if_neg h4, if_neg h4]
        simp only []
        rw [if_neg (by omega)]
        exact ⟨_, rfl, fun t h => by simp at h, fun _ => by simp⟩
  · rw [if_neg h2, if_neg h2]
    simp only []
    rw [if_neg (by omega)]
    simp only [spec_l4R_prefix.j0]
    rw [if_neg (by simp)]
    have hz : spec_l4R_number.f k s i 1 (wrap64 (Int.tdiv (wrap64 (0 + 7)) 8)) = some (0, s, i, 1) := by
      obtain ⟨k, rfl⟩ : ∃ m, k = m + 1 := ⟨k - 1, by omega⟩
      unfold spec_l4R_number.f
      rw [if_neg (by omega)]
      simp only [spec_l4R_number.j0]
      simp
    rw [hz]
    simp only [Option.bind_some]
    rw [if_neg (by omega)]
    exact ⟨_, rfl, fun t h => by simp at h, fun _ => by simp⟩
theorem impl_prefix_is (s : ByteArray) (hs : s.size ≤ 1000000000) (k : Nat) (hk : 100 ≤ k) (i : Int) (h0 : 0 ≤ i) (h1 : i ≤ s.size) : ∃ q, impl_input_prefix.f k s i 0 = some q ∧ (∀ t, takeP s i = some t → q = (t.1, t.2.1, s, t.2.2, 0)) ∧ (takeP s i = none → q.2.2.2.2 ≠ 0) := by
  obtain ⟨k, rfl⟩ : ∃ m, k = m + 1 := ⟨k - 1, by omega⟩
  have hn := impl_number_is s hs 1 (k + 1) i (by omega) (by omega) h0 h1
  unfold impl_input_prefix.f takeP
  rw [show ((1 : Nat) : Int) = 1 from rfl] at hn
  rw [hn, Option.bind_some, readN_one]
  have hb := bt_range s i
  have ho := octets_is hb.1 hb.2
  by_cases h2 : i + 1 ≤ (s.size : Int)
  · rw [if_pos h2, if_pos h2]
    simp only [if_true, impl_input_prefix.j0]
    by_cases h3 : bt s i > 32
    · rw [if_pos (decide_eq_true h3), if_pos h3]
      exact ⟨_, rfl, fun t h => by simp at h, fun _ => by simp⟩
    · rw [if_neg (by simpa using h3), if_neg h3, ho.1, impl_number_is s hs (octets (bt s i)) k (i + 1) (by omega) (by omega) (by omega) h2]
      rw [Option.bind_some]
      have w1 : wrap64 (8 * (octets (bt s i) : Int)) = 8 * (octets (bt s i) : Int) := wrap_id (by omega) (by omega)
      have w2 : wrap64 (32 - 8 * (octets (bt s i) : Int)) = 32 - 8 * (octets (bt s i) : Int) := wrap_id (by omega) (by omega)
      have w3 : 0 ≤ 32 - 8 * (octets (bt s i) : Int) := by omega
      by_cases h4 : i + 1 + (octets (bt s i) : Int) ≤ s.size
      · rw [if_pos h4, if_pos h4]
        rw [w1, w2, if_pos w3]
        dsimp only
        exact ⟨_, rfl, fun t h => by cases h; rfl, fun h => by simp at h⟩
      · rw [if_neg h4, if_neg h4]
        rw [w1, w2, if_pos w3]
        dsimp only
        exact ⟨_, rfl, fun t h => by simp at h, fun _ => by simp⟩
  · rw [if_neg h2, if_neg h2]
    simp only []
    rw [if_neg (by omega)]
    simp only [impl_input_prefix.j0]
    rw [if_neg (by simp), if_neg (by omega)]
    exact ⟨_, rfl, fun t h => by simp at h, fun _ => by simp⟩
theorem TakePrefix_is (s : ByteArray) (i : Int) : ∃ r, Ev (fun k => spec_TakePrefix.f k s i) r ∧ Ev (fun k => impl_TakePrefix.f k s i) r := by
  have fs : ∀ k, spec_TakePrefix.j0 (k + 1) s i true = some (0, 0, 0, false) := fun k => by simp only [spec_TakePrefix.j0]; rw [if_pos trivial]
  have fi : ∀ k, impl_TakePrefix.j0 (k + 1) s i true = some (0, 0, 0, false) := fun k => by simp only [impl_TakePrefix.j0]; rw [if_pos trivial]
  have gs : ∀ g : Nat → Option (Int × Int × Int × Bool), (∀ k, g k = spec_TakePrefix.j0 k s i true) → Ev g (0, 0, 0, false) := fun g hg => Ev.step (f := fun _ => some (0, 0, 0, false)) (fun k => by rw [hg, fs]) (Ev.now _)
  have gi : ∀ g : Nat → Option (Int × Int × Int × Bool), (∀ k, g k = impl_TakePrefix.j0 k s i true) → Ev g (0, 0, 0, false) := fun g hg => Ev.step (f := fun _ => some (0, 0, 0, false)) (fun k => by rw [hg, fi]) (Ev.now _)
  by_cases h1 : (s.size : Int) > 1000
  · exact ⟨_, gs _ (fun k => by unfold spec_TakePrefix.f; rw [if_pos h1]), gi _ (fun k => by unfold impl_TakePrefix.f; rw [if_pos h1])⟩
  · by_cases h2 : 0 ≤ i ∧ i ≤ s.size
    · have hs : Ev (fun k => spec_TakePrefix.j0 k s i false) (match takeP s i with | some t => if good t.1 t.2.1 = true then (t.1, t.2.1, t.2.2, true) else (0, 0, 0, false) | none => (0, 0, 0, false)) := by
        refine ⟨101, fun k hk => ?_⟩
        obtain ⟨k, rfl⟩ : ∃ m, k = m + 1 := ⟨k - 1, by omega⟩
        obtain ⟨q, hq, ha, hb⟩ := spec_prefix_is s (by omega) k (by omega) i h2.1 h2.2
        simp only [spec_TakePrefix.j0]
        rw [if_neg (by simp), hq, Option.bind_some]
        cases ht : takeP s i with
        | none => rw [if_neg (hb ht)]
        | some t =>
          rw [ha t ht]
          simp only [if_true, spec_GoodPrefix_is, Option.bind_some]
          by_cases hg : good t.1 t.2.1 = true
          · rw [if_pos hg, if_pos hg]
          · rw [if_neg hg, if_neg hg]
      have hi : Ev (fun k => impl_TakePrefix.j0 k s i false) (match takeP s i with | some t => if good t.1 t.2.1 = true then (t.1, t.2.1, t.2.2, true) else (0, 0, 0, false) | none => (0, 0, 0, false)) := by
        refine ⟨101, fun k hk => ?_⟩
        obtain ⟨k, rfl⟩ : ∃ m, k = m + 1 := ⟨k - 1, by omega⟩
        obtain ⟨q, hq, ha, hb⟩ := impl_prefix_is s (by omega) k (by omega) i h2.1 h2.2
        simp only [impl_TakePrefix.j0]
        rw [if_neg (by simp), hq, Option.bind_some]
        cases ht : takeP s i with
        | none => rw [if_neg (hb ht)]
        | some t =>
          rw [ha t ht]
          simp only [if_true, impl_GoodPrefix_is, Option.bind_some]
          by_cases hg : good t.1 t.2.1 = true
          · rw [if_pos hg, if_pos hg]
          · rw [if_neg hg, if_neg hg]
      by_cases h3 : i ≥ (s.size : Int)
      · have ht : takeP s i = none := by unfold takeP; rw [if_neg (by omega)]
        rw [ht] at hi
        refine ⟨_, gs _ (fun k => ?_), Ev.congr (fun k => ?_) hi⟩
        · unfold spec_TakePrefix.f
          rw [if_neg h1, if_neg (by omega), decide_eq_true h3]
        · unfold impl_TakePrefix.f
          rw [if_neg h1, impl_within_is, Option.bind_some, decide_eq_true h2]
          rfl
      · refine ⟨_, Ev.congr (fun k => ?_) hs, Ev.congr (fun k => ?_) hi⟩
        · unfold spec_TakePrefix.f
          rw [if_neg h1, if_neg (by omega), decide_eq_false h3]
        · unfold impl_TakePrefix.f
          rw [if_neg h1, impl_within_is, Option.bind_some, decide_eq_true h2]
          rfl
    · refine ⟨_, gs _ (fun k => ?_), gi _ (fun k => ?_)⟩
      · unfold spec_TakePrefix.f
        rw [if_neg h1]
        by_cases h3 : i < 0
        · rw [if_pos h3]
        · rw [if_neg h3, decide_eq_true (by omega)]
      · unfold impl_TakePrefix.f
        rw [if_neg h1, impl_within_is, Option.bind_some, decide_eq_false h2]
        rfl

end FnExactTakePrefixUses
open Go.RowKit Go.Proofs.Ytlnfcobloolnnaa.PFnExactTakePrefix Go.Proofs.YtlnfcobloolnnaaW.PrintWords Go.Proofs.YtlnfcobloolnnaaW.PrintLast Go.Proofs.YtlnfcobloolnnaaW.PrintMore Go.Proofs.Ytlnfcobloolnnaa.Pfx Go.Proofs.Ytlnfcobloolnnaa.Loop FnExactTakePrefixUses
set_option linter.unusedVariables false
theorem FnExactTakePrefix : laws_FnExactTakePrefix.Pure := by
  intro a0 a1 _ _
  by_cases h : (a0.size : Int) > 1048576
  · exact ⟨0, by unfold laws_FnExactTakePrefix.f; rw [if_pos h]⟩
  · obtain ⟨r, ⟨K1, h1⟩, ⟨K2, h2⟩⟩ := TakePrefix_is a0 a1
    replace h1 : ∀ k, K1 ≤ k → spec_TakePrefix.f k a0 a1 = _ := h1
    replace h2 : ∀ k, K2 ≤ k → impl_TakePrefix.f k a0 a1 = _ := h2
    refine ⟨K1 + K2, ?_⟩
    unfold laws_FnExactTakePrefix.f
    rw [if_neg h, h1 _ (by omega), Option.bind_some, h2 _ (by omega), Option.bind_some, laws_eqPrefix_is]
    simp
end Go.Proofs.Ytlnfcobloolnnaa.Pure
