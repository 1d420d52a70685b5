/- The pure statement of FnExactPrefixText: what the printed functions tell is what the reference tells. No condition but the arguments' own bounds. -/
import Derived.Test.YtkollihfejkklaaDoorYFnExactPrefixTextx2
namespace Go.Proofs.YtkollihfejkklaaDoor.Pure
namespace FnExactPrefixTextUses
open Go.RowKit Go.Proofs.YtkollihfejkklaaDoor.PFnExactPrefixText Go.Proofs.YtkollihfejkklaaDoorW.PrintWords Go.Proofs.YtkollihfejkklaaDoorW.PrintLast Go.Proofs.YtkollihfejkklaaDoorW.PrintMore Go.Proofs.YtkollihfejkklaaDoor.Pfx Go.Proofs.YtkollihfejkklaaDoor.Loop
set_option linter.unusedVariables false
set_option linter.unusedSimpArgs false

theorem spec_l1In_is (a lo hi : Int) : spec_l1In.f a lo hi = some (decide (lo ≤ a ∧ a ≤ hi)) := by
  unfold spec_l1In.f
  by_cases h : lo ≤ a
  · rw [if_pos h]; simp [h]
  · rw [if_neg h]; simp [h]
theorem impl_within_is (a lo hi : Int) : impl_within.f a lo hi = some (decide (lo ≤ a ∧ a ≤ hi)) := by
  unfold impl_within.f
  by_cases h : lo ≤ a
  · rw [if_pos h]; simp [h]
  · rw [if_neg h]; simp [h]
theorem spec_l1Addr_is (a : Int) : spec_l1Addr.f a = some (decide (0 ≤ a ∧ a ≤ 4294967295)) := by
  unfold spec_l1Addr.f; rw [spec_l1In_is]; rfl
theorem impl_isAddr_is (a : Int) : impl_isAddr.f a = some (decide (0 ≤ a ∧ a ≤ 4294967295)) := by
  unfold impl_isAddr.f; rw [impl_within_is]; rfl
theorem impl_sizeOf_is {n : Int} (h0 : 0 ≤ n) (h1 : n ≤ 32) : impl_sizeOf.f n = some (sz n) := by
  unfold impl_sizeOf.f
  rw [shl_sz h0 h1, if_pos (by rw [wrap_id (by omega) (by omega)]; omega)]
theorem spec_l1Size_is (a : Int) {n : Int} (h0 : 0 ≤ n) (h1 : n ≤ 32) : spec_l1Size.f a n = some (sz n) := by
  unfold spec_l1Size.f
  have e : IntKind.u64.wrap (wrap64 (32 - n)) = wrap64 (32 - n) := by rw [wrap_id (by omega) (by omega), u64_id (by omega) (by omega)]
  rw [e, shl_sz h0 h1, if_pos (by rw [wrap_id (by omega) (by omega)]; omega)]
theorem impl_GoodPrefix_is (a n : Int) : impl_GoodPrefix.f a n = some (good a n) := by
  unfold impl_GoodPrefix.f
  rw [impl_within_is, Option.bind_some]
  by_cases h : 0 ≤ n ∧ n ≤ 32
  · rw [if_pos (decide_eq_true h), impl_isAddr_is, Option.bind_some]
    by_cases h' : 0 ≤ a ∧ a ≤ 4294967295
    · rw [if_pos (decide_eq_true h'), impl_sizeOf_is h.1 h.2, Option.bind_some, if_neg (by have := sz_pos n; omega), Int.tmod_eq_emod_of_nonneg h'.1]
      simp [good, h.1, h.2, h'.1, h'.2, beq_dec]
    · rw [if_neg (by simpa using h')]
      have : good a n = false := by simp [good]; omega
      rw [this]
  · rw [if_neg (by simpa using h)]
    have : good a n = false := by simp [good]; omega
    rw [this]
theorem spec_GoodPrefix_is (a n : Int) : spec_GoodPrefix.f a n = some (good a n) := by
  unfold spec_GoodPrefix.f
  rw [spec_l1In_is, Option.bind_some]
  by_cases h : 0 ≤ n ∧ n ≤ 32
  · rw [if_pos (decide_eq_true h), spec_l1Addr_is, Option.bind_some]
    by_cases h' : 0 ≤ a ∧ a ≤ 4294967295
    · rw [if_pos (decide_eq_true h'), spec_l1Size_is a h.1 h.2, Option.bind_some, if_neg (by have := sz_pos n; omega), Int.tmod_eq_emod_of_nonneg h'.1]
      simp [good, h.1, h.2, h'.1, h'.2, beq_dec]
    · rw [if_neg (by simpa using h')]
      have : good a n = false := by simp [good]; omega
      rw [this]
  · rw [if_neg (by simpa using h)]
    have : good a n = false := by simp [good]; omega
    rw [this]
theorem bytes_app (a b : List UInt8) : (⟨a.toArray⟩ : ByteArray) ++ ⟨b.toArray⟩ = ⟨(a ++ b).toArray⟩ := by
  apply ByteArray.ext
  rw [ByteArray.data_append]
  simp
theorem one_byte (x : Int) : strOfNums [x] = ⟨[UInt8.ofNat x.toNat].toArray⟩ := by
  apply ByteArray.ext
  simp [strOfNums]
theorem size_mk (l : List UInt8) : (⟨l.toArray⟩ : ByteArray).size = l.length := by simp [ByteArray.size]
theorem l1Num_dec : ∀ (m u : Nat), u < 10 ^ (m + 1) → m ≤ 8 → ∀ k, spec_l1Num.f (k + m + 1) (u : Int) = some ⟨(Lib.decDigits u).toArray⟩ ∧ (Lib.decDigits u).length ≤ m + 1
  | 0, u, hu, _, k => by
    have hu' : u < 10 := by simpa using hu
    have e : Lib.decDigits u = [UInt8.ofNat (48 + u)] := by unfold Lib.decDigits; rw [dif_pos hu']
    rw [show k + 0 + 1 = k + 1 by omega, spec_l1Num.f, if_pos (by omega), one_byte, e, wrap_id (by omega) (by omega), show ((48 + (u : Int)) % 256).toNat = 48 + u by omega]
    exact ⟨rfl, by simp⟩
  | m + 1, u, hu, hm, k => by
    by_cases h : u < 10
    · have e : Lib.decDigits u = [UInt8.ofNat (48 + u)] := by unfold Lib.decDigits; rw [dif_pos h]
      rw [show k + (m + 1) + 1 = (k + m + 1) + 1 by omega, spec_l1Num.f, if_pos (by omega), one_byte, e, wrap_id (by omega) (by omega), show ((48 + (u : Int)) % 256).toNat = 48 + u by omega]
      exact ⟨rfl, by simp⟩
    · have e : Lib.decDigits u = Lib.decDigits (u / 10) ++ [UInt8.ofNat (48 + u % 10)] := by rw [Lib.decDigits, dif_neg h]
      have hb : u < 10 ^ 10 := Nat.lt_of_lt_of_le hu (Nat.pow_le_pow_right (by omega) (by omega))
      obtain ⟨i1, i2⟩ := l1Num_dec m (u / 10) (by rw [Nat.pow_succ] at hu; omega) (by omega) k
      have d1 : wrap64 (Int.tdiv (u : Int) 10) = ((u / 10 : Nat) : Int) := by
        rw [Int.tdiv_eq_ediv_of_nonneg (by omega), wrap_id (by omega) (by omega)]; omega
      have d2 : (wrap64 (48 + Int.tmod (u : Int) 10) % 256).toNat = 48 + u % 10 := by
        rw [Int.tmod_eq_emod_of_nonneg (by omega), wrap_id (by omega) (by omega)]; omega
      rw [show k + (m + 1) + 1 = (k + m + 1) + 1 by omega, spec_l1Num.f, if_neg (by omega), d1, i1, Option.bind_some, Option.bind_some, one_byte, d2, if_pos (by rw [size_mk, size_mk]; simp; omega), bytes_app, e]
      exact ⟨rfl, by simp; omega⟩
theorem l1Num_is {x : Int} (h0 : 0 ≤ x) (h1 : x < 1000) (k : Nat) : spec_l1Num.f (k + 3) x = some ⟨(Lib.itoa x).toArray⟩ ∧ (Lib.itoa x).length ≤ 3 := by
  have e : Lib.itoa x = Lib.decDigits x.toNat := by unfold Lib.itoa; rw [if_neg (by omega)]
  have := l1Num_dec 2 x.toNat (by omega) (by omega) k
  rw [e]
  rwa [show ((x.toNat : Nat) : Int) = x by omega] at this
def oct (a s : Int) : Int := Go.bits .and .i64 (shr .i64 a s) 255
theorem oct_range {a : Int} (s : Int) (a0 : 0 ≤ a) (a1 : a ≤ 4294967295) : 0 ≤ oct a s ∧ oct a s < 256 := by
  have hx : 0 ≤ shr .i64 a s ∧ shr .i64 a s ≤ a := by
    unfold shr
    exact ⟨Int.ediv_nonneg a0 (by exact_mod_cast Nat.zero_le _), Int.ediv_le_self _ a0⟩
  unfold oct
  have : Go.bits .and .i64 (shr .i64 a s) 255 = shr .i64 a s % 256 := bits_mask .i64 62 (by decide) (fun n h2 h3 => by rw [i64_w]; exact wrap_id (by omega) (by omega)) 8 (by decide) _ hx.1 (by omega)
  rw [this]
  omega
theorem text_step (L : List UInt8) {s a : Int} (n : Int) (k : Nat) (hL : L.length ≤ 100) (h0 : 0 < s) (h1 : s ≤ 24) (a0 : 0 ≤ a) (a1 : a ≤ 4294967295) : spec_l1Text.l0 (k + 4) ⟨L.toArray⟩ s a n = spec_l1Text.l0 (k + 3) ⟨(L ++ Lib.itoa (oct a s) ++ [46]).toArray⟩ (s - 8) a n := by
  obtain ⟨r0, r1⟩ := oct_range s a0 a1
  obtain ⟨e, hl⟩ := l1Num_is r0 (by omega) k
  have hu : IntKind.u64.wrap s = s := u64_id (by omega) (by omega)
  have e' : spec_l1Num.f (k + 3) (Go.bits .and .i64 (shr .i64 a s) 255) = some ⟨(Lib.itoa (oct a s)).toArray⟩ := e
  rw [show k + 4 = (k + 3) + 1 by omega, spec_l1Text.l0, if_pos (by omega), hu, if_pos (by omega), e', Option.bind_some, if_pos (by rw [size_mk, size_mk]; omega), if_pos (by omega), bytes_app, if_pos (by rw [size_mk, List.length_append]; omega), show (⟨#[46]⟩ : ByteArray) = ⟨[46].toArray⟩ from rfl, bytes_app, wrap_id (by omega) (by omega)]
theorem text_last (L : List UInt8) {a : Int} (n : Int) (k : Nat) (hL : L.length ≤ 100) (a0 : 0 ≤ a) (a1 : a ≤ 4294967295) : spec_l1Text.l0 (k + 4) ⟨L.toArray⟩ 0 a n = spec_l1Text.l0 (k + 3) ⟨(L ++ Lib.itoa (oct a 0)).toArray⟩ (-8) a n := by
  obtain ⟨r0, r1⟩ := oct_range 0 a0 a1
  obtain ⟨e, hl⟩ := l1Num_is r0 (by omega) k
  have hu : IntKind.u64.wrap 0 = 0 := u64_id (by omega) (by omega)
  have e' : spec_l1Num.f (k + 3) (Go.bits .and .i64 (shr .i64 a 0) 255) = some ⟨(Lib.itoa (oct a 0)).toArray⟩ := e
  rw [show k + 4 = (k + 3) + 1 by omega, spec_l1Text.l0, if_pos (by omega), hu, if_pos (by omega), e', Option.bind_some, if_pos (by rw [size_mk, size_mk]; omega), if_neg (by omega), bytes_app, wrap_id (by omega) (by omega)]
  rfl
theorem text_end (L : List UInt8) (a : Int) {n : Int} (k : Nat) (hL : L.length ≤ 100) (n0 : 0 ≤ n) (n1 : n ≤ 32) : spec_l1Text.l0 (k + 4) ⟨L.toArray⟩ (-8) a n = some ⟨(L ++ [47] ++ Lib.itoa n).toArray⟩ := by
  obtain ⟨e, hl⟩ := l1Num_is n0 (by omega) k
  rw [show k + 4 = (k + 3) + 1 by omega, spec_l1Text.l0, if_neg (by omega), if_pos (by rw [size_mk]; omega), e, Option.bind_some, show (⟨#[47]⟩ : ByteArray) = ⟨[47].toArray⟩ from rfl, bytes_app, if_pos (by rw [size_mk, size_mk, List.length_append]; simp; omega), bytes_app]
def textL (a n : Int) : List UInt8 := Lib.itoa (oct a 24) ++ [46] ++ Lib.itoa (oct a 16) ++ [46] ++ Lib.itoa (oct a 8) ++ [46] ++ Lib.itoa (oct a 0) ++ [47] ++ Lib.itoa n
theorem oct_len {a : Int} (s : Int) (a0 : 0 ≤ a) (a1 : a ≤ 4294967295) : (Lib.itoa (oct a s)).length ≤ 3 := by
  obtain ⟨r0, r1⟩ := oct_range s a0 a1
  exact (l1Num_is r0 (by omega) 0).2
theorem l1Text_is {a n : Int} (a0 : 0 ≤ a) (a1 : a ≤ 4294967295) (n0 : 0 ≤ n) (n1 : n ≤ 32) (k : Nat) : spec_l1Text.f (k + 8) a n = some ⟨(textL a n).toArray⟩ := by
  have h24 := oct_len 24 a0 a1
  have h16 := oct_len 16 a0 a1
  have h8 := oct_len 8 a0 a1
  have h0 := oct_len 0 a0 a1
  unfold spec_l1Text.f
  rw [show (⟨#[]⟩ : ByteArray) = ⟨([] : List UInt8).toArray⟩ from rfl, show k + 8 = (k + 4) + 4 by omega, text_step [] n (k + 4) (by simp) (by omega) (by omega) a0 a1, show (24 : Int) - 8 = 16 by omega, show k + 4 + 3 = (k + 3) + 4 by omega, text_step _ n (k + 3) (by simp; omega) (by omega) (by omega) a0 a1, show (16 : Int) - 8 = 8 by omega, show k + 3 + 3 = (k + 2) + 4 by omega, text_step _ n (k + 2) (by simp; omega) (by omega) (by omega) a0 a1, show (8 : Int) - 8 = 0 by omega, show k + 2 + 3 = (k + 1) + 4 by omega, text_last _ n (k + 1) (by simp; omega) a0 a1, show k + 1 + 3 = k + 4 by omega, text_end _ a k (by simp; omega) n0 n1]
  congr 3
theorem itoa_is {x : Int} (h0 : 0 ≤ x) (h1 : x < 1000) : strconv_Itoa.f x = some ⟨(Lib.itoa x).toArray⟩ := by
  unfold strconv_Itoa.f
  rw [if_pos ⟨by omega, by omega⟩]
theorem impl_Text_is {a n : Int} (a0 : 0 ≤ a) (a1 : a ≤ 4294967295) (n0 : 0 ≤ n) (n1 : n ≤ 32) (k : Nat) : impl_PrefixText.l0 (k + 5) [] 24 a n = some (⟨(textL a n).toArray⟩, true) := by
  have h24 := oct_len 24 a0 a1
  have h16 := oct_len 16 a0 a1
  have h8 := oct_len 8 a0 a1
  have h0 := oct_len 0 a0 a1
  have hn := (l1Num_is n0 (by omega) 0).2
  have it : ∀ s, strconv_Itoa.f (Go.bits .and .i64 (shr .i64 a s) 255) = some ⟨(Lib.itoa (oct a s)).toArray⟩ := fun s => by
    obtain ⟨r0, r1⟩ := oct_range s a0 a1
    exact itoa_is (x := oct a s) r0 (by omega)
  have w1 : wrap64 (24 - 8) = 16 := wrap_id (by omega) (by omega)
  have w2 : wrap64 (16 - 8) = 8 := wrap_id (by omega) (by omega)
  have w3 : wrap64 (8 - 8) = 0 := wrap_id (by omega) (by omega)
  have w4 : wrap64 (0 - 8) = -8 := wrap_id (by omega) (by omega)
  have hj : Lib.join ((([] ++ [(⟨(Lib.itoa (oct a 24)).toArray⟩ : ByteArray)] ++ [⟨(Lib.itoa (oct a 16)).toArray⟩] ++ [⟨(Lib.itoa (oct a 8)).toArray⟩] ++ [⟨(Lib.itoa (oct a 0)).toArray⟩]) : List ByteArray).map (·.data.toList)) (⟨#[46]⟩ : ByteArray).data.toList = Lib.itoa (oct a 24) ++ [46] ++ Lib.itoa (oct a 16) ++ [46] ++ Lib.itoa (oct a 8) ++ [46] ++ Lib.itoa (oct a 0) := by
    simp [Lib.join_cons, Lib.joinTail]
  rw [show k + 5 = (k + 4) + 1 by omega, impl_PrefixText.l0, if_pos (by omega), if_pos (by omega), it, Option.bind_some, if_pos (by simp), w1, show k + 4 = (k + 3) + 1 by omega, impl_PrefixText.l0, if_pos (by omega), if_pos (by omega), it, Option.bind_some, if_pos (by simp), w2, show k + 3 = (k + 2) + 1 by omega, impl_PrefixText.l0, if_pos (by omega), if_pos (by omega), it, Option.bind_some, if_pos (by simp), w3, show k + 2 = (k + 1) + 1 by omega, impl_PrefixText.l0, if_pos (by omega), if_pos (by omega), it, Option.bind_some, if_pos (by simp), w4, impl_PrefixText.l0, if_neg (by omega)]
  unfold strings_Join.f
  rw [hj, if_pos ⟨by simp, by simp; omega⟩, Option.bind_some, if_pos (by rw [size_mk]; simp; omega), itoa_is n0 (by omega), Option.bind_some, show (⟨#[47]⟩ : ByteArray) = ⟨[47].toArray⟩ from rfl, bytes_app, if_pos (by rw [size_mk, size_mk]; simp; omega), bytes_app]
  rfl

end FnExactPrefixTextUses
open Go.RowKit Go.Proofs.YtkollihfejkklaaDoor.PFnExactPrefixText Go.Proofs.YtkollihfejkklaaDoorW.PrintWords Go.Proofs.YtkollihfejkklaaDoorW.PrintLast Go.Proofs.YtkollihfejkklaaDoorW.PrintMore Go.Proofs.YtkollihfejkklaaDoor.Pfx Go.Proofs.YtkollihfejkklaaDoor.Loop FnExactPrefixTextUses
set_option linter.unusedVariables false
theorem FnExactPrefixText (a0_0 : Int) (a0_1 : Int) (w0_0 : (Lit.int .i64 a0_0).wf = true) (w0_1 : (Lit.int .i64 a0_1).wf = true) : ∃ k, laws_FnExactPrefixText.f k a0_0 a0_1 = some true := by
  refine ⟨20, ?_⟩
  unfold laws_FnExactPrefixText.f laws_toPrefix.f
  rw [Option.bind_some]
  dsimp only
  by_cases h : good a0_0 a0_1 = true
  · obtain ⟨n0, n1, a0, a1, _⟩ := good_iff.1 h
    have h1 : spec_PrefixText.f 20 a0_0 a0_1 = some (⟨(textL a0_0 a0_1).toArray⟩, true) := by
      unfold spec_PrefixText.f
      rw [spec_GoodPrefix_is, Option.bind_some, if_pos h, l1Text_is a0 a1 n0 n1 12, Option.bind_some]
    have h2 : impl_PrefixText.f 20 a0_0 a0_1 = some (⟨(textL a0_0 a0_1).toArray⟩, true) := by
      unfold impl_PrefixText.f
      rw [impl_GoodPrefix_is, Option.bind_some, if_pos h, impl_Text_is a0 a1 n0 n1 15]
    rw [h1, Option.bind_some, Option.bind_some]
    dsimp only
    rw [h2, Option.bind_some, if_pos rfl, if_neg (by simp)]
  · have h1 : spec_PrefixText.f 20 a0_0 a0_1 = some (⟨#[]⟩, false) := by
      unfold spec_PrefixText.f
      rw [spec_GoodPrefix_is, Option.bind_some, if_neg h]
    have h2 : impl_PrefixText.f 20 a0_0 a0_1 = some (⟨#[]⟩, false) := by
      unfold impl_PrefixText.f
      rw [impl_GoodPrefix_is, Option.bind_some, if_neg h]
    rw [h1, Option.bind_some, Option.bind_some]
    dsimp only
    rw [h2, Option.bind_some, if_pos rfl, if_neg (by simp)]
end Go.Proofs.YtkollihfejkklaaDoor.Pure
