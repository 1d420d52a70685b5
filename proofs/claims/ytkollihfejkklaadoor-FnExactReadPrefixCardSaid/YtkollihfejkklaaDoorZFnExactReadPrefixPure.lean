/- The pure statement of FnExactReadPrefix: what the printed functions tell is what the reference tells. No condition but the arguments' own bounds. -/
import Derived.Test.YtkollihfejkklaaDoorYFnExactReadPrefixx3
namespace Go.Proofs.YtkollihfejkklaaDoor.Pure
namespace FnExactReadPrefixUses
open Go.RowKit Go.Proofs.YtkollihfejkklaaDoor.PFnExactReadPrefix Go.Proofs.YtkollihfejkklaaDoorW.PrintWords Go.Proofs.YtkollihfejkklaaDoorW.PrintLast Go.Proofs.YtkollihfejkklaaDoorW.PrintMore Go.Proofs.YtkollihfejkklaaDoor.Pfx Go.Proofs.YtkollihfejkklaaDoor.Loop
set_option linter.unusedVariables false
set_option linter.unusedSimpArgs false

theorem spec_l1In_is (a lo hi : Int) : spec_l1In.f a lo hi = some (decide (lo ≤ a ∧ a ≤ hi)) := by
  unfold spec_l1In.f
  by_cases h : lo ≤ a
  · rw [if_pos h]; simp [h]
  · rw [if_neg h]; simp [h]
theorem impl_within_is (a lo hi : Int) : impl_within.f a lo hi = some (decide (lo ≤ a ∧ a ≤ hi)) := by
  unfold impl_within.f
  by_cases h : lo ≤ a
  · rw [if_pos h]; simp [h]
  · rw [if_neg h]; simp [h]
theorem spec_l1Addr_is (a : Int) : spec_l1Addr.f a = some (decide (0 ≤ a ∧ a ≤ 4294967295)) := by
  unfold spec_l1Addr.f; rw [spec_l1In_is]; rfl
theorem impl_isAddr_is (a : Int) : impl_isAddr.f a = some (decide (0 ≤ a ∧ a ≤ 4294967295)) := by
  unfold impl_isAddr.f; rw [impl_within_is]; rfl
theorem impl_sizeOf_is {n : Int} (h0 : 0 ≤ n) (h1 : n ≤ 32) : impl_sizeOf.f n = some (sz n) := by
  unfold impl_sizeOf.f
  rw [shl_sz h0 h1, if_pos (by rw [wrap_id (by omega) (by omega)]; omega)]
theorem spec_l1Size_is (a : Int) {n : Int} (h0 : 0 ≤ n) (h1 : n ≤ 32) : spec_l1Size.f a n = some (sz n) := by
  unfold spec_l1Size.f
  have e : IntKind.u64.wrap (wrap64 (32 - n)) = wrap64 (32 - n) := by rw [wrap_id (by omega) (by omega), u64_id (by omega) (by omega)]
  rw [e, shl_sz h0 h1, if_pos (by rw [wrap_id (by omega) (by omega)]; omega)]
theorem impl_GoodPrefix_is (a n : Int) : impl_GoodPrefix.f a n = some (good a n) := by
  unfold impl_GoodPrefix.f
  rw [impl_within_is, Option.bind_some]
  by_cases h : 0 ≤ n ∧ n ≤ 32
  · rw [if_pos (decide_eq_true h), impl_isAddr_is, Option.bind_some]
    by_cases h' : 0 ≤ a ∧ a ≤ 4294967295
    · rw [if_pos (decide_eq_true h'), impl_sizeOf_is h.1 h.2, Option.bind_some, if_neg (by have := sz_pos n; omega), Int.tmod_eq_emod_of_nonneg h'.1]
      simp [good, h.1, h.2, h'.1, h'.2, beq_dec]
    · rw [if_neg (by simpa using h')]
      have : good a n = false := by simp [good]; omega
      rw [this]
  · rw [if_neg (by simpa using h)]
    have : good a n = false := by simp [good]; omega
    rw [this]
theorem spec_GoodPrefix_is (a n : Int) : spec_GoodPrefix.f a n = some (good a n) := by
  unfold spec_GoodPrefix.f
  rw [spec_l1In_is, Option.bind_some]
  by_cases h : 0 ≤ n ∧ n ≤ 32
  · rw [if_pos (decide_eq_true h), spec_l1Addr_is, Option.bind_some]
    by_cases h' : 0 ≤ a ∧ a ≤ 4294967295
    · rw [if_pos (decide_eq_true h'), spec_l1Size_is a h.1 h.2, Option.bind_some, if_neg (by have := sz_pos n; omega), Int.tmod_eq_emod_of_nonneg h'.1]
      simp [good, h.1, h.2, h'.1, h'.2, beq_dec]
    · rw [if_neg (by simpa using h')]
      have : good a n = false := by simp [good]; omega
      rw [this]
  · rw [if_neg (by simpa using h)]
    have : good a n = false := by simp [good]; omega
    rw [this]
theorem laws_eqPrefix_is (a n b m : Int) : laws_eqPrefix.f a n b m = some (decide (a = b ∧ n = m)) := by
  unfold laws_eqPrefix.f
  by_cases h : a = b
  · by_cases h' : n = m
    · rw [if_pos h, if_pos h']; simp [h, h']
    · rw [if_pos h, if_neg h']; simp [h']
  · rw [if_neg h]; simp [h]
theorem bytes_app (a b : List UInt8) : (⟨a.toArray⟩ : ByteArray) ++ ⟨b.toArray⟩ = ⟨(a ++ b).toArray⟩ := by
  apply ByteArray.ext
  rw [ByteArray.data_append]
  simp
theorem size_mk (l : List UInt8) : (⟨l.toArray⟩ : ByteArray).size = l.length := by simp [ByteArray.size]
theorem dec_len {u : Nat} (h : u < 1000) : (Lib.decDigits u).length ≤ 3 := by
  by_cases h1 : u < 10
  · rw [Lib.decDigits_one h1]; simp
  · by_cases h2 : u < 100
    · rw [Lib.decDigits_two h1 h2]; simp
    · rw [Lib.decDigits, dif_neg h1]
      by_cases h3 : u / 10 < 10
      · rw [Lib.decDigits_one h3]; simp
      · rw [Lib.decDigits_two h3 (by omega)]; simp
theorem itoa_len {x : Int} (h0 : 0 ≤ x) (h1 : x < 1000) : (Lib.itoa x).length ≤ 3 := by
  unfold Lib.itoa
  rw [if_neg (by omega)]
  exact dec_len (by omega)
def oct (a s : Int) : Int := Go.bits .and .i64 (shr .i64 a s) 255
theorem oct_range {a : Int} (s : Int) (a0 : 0 ≤ a) (a1 : a ≤ 4294967295) : 0 ≤ oct a s ∧ oct a s < 256 := by
  have hx : 0 ≤ shr .i64 a s ∧ shr .i64 a s ≤ a := by
    unfold shr
    exact ⟨Int.ediv_nonneg a0 (by exact_mod_cast Nat.zero_le _), Int.ediv_le_self _ a0⟩
  unfold oct
  have : Go.bits .and .i64 (shr .i64 a s) 255 = shr .i64 a s % 256 := bits_mask .i64 62 (by decide) (fun n h2 h3 => by rw [i64_w]; exact wrap_id (by omega) (by omega)) 8 (by decide) _ hx.1 (by omega)
  rw [this]
  omega
def textL (a n : Int) : List UInt8 := Lib.itoa (oct a 24) ++ [46] ++ Lib.itoa (oct a 16) ++ [46] ++ Lib.itoa (oct a 8) ++ [46] ++ Lib.itoa (oct a 0) ++ [47] ++ Lib.itoa n
theorem oct_len {a : Int} (s : Int) (a0 : 0 ≤ a) (a1 : a ≤ 4294967295) : (Lib.itoa (oct a s)).length ≤ 3 := by
  obtain ⟨r0, r1⟩ := oct_range s a0 a1
  exact itoa_len r0 (by omega)
theorem itoa_is {x : Int} (h0 : 0 ≤ x) (h1 : x < 1000) : strconv_Itoa.f x = some ⟨(Lib.itoa x).toArray⟩ := by
  unfold strconv_Itoa.f
  rw [if_pos ⟨by omega, by omega⟩]
theorem impl_Text_is {a n : Int} (a0 : 0 ≤ a) (a1 : a ≤ 4294967295) (n0 : 0 ≤ n) (n1 : n ≤ 32) (k : Nat) : impl_PrefixText.l0 (k + 5) [] 24 a n = some (⟨(textL a n).toArray⟩, true) := by
  have h24 := oct_len 24 a0 a1
  have h16 := oct_len 16 a0 a1
  have h8 := oct_len 8 a0 a1
  have h0 := oct_len 0 a0 a1
  have hn := itoa_len n0 (by omega)
  have it : ∀ s, strconv_Itoa.f (Go.bits .and .i64 (shr .i64 a s) 255) = some ⟨(Lib.itoa (oct a s)).toArray⟩ := fun s => by
    obtain ⟨r0, r1⟩ := oct_range s a0 a1
    exact itoa_is (x := oct a s) r0 (by omega)
  have w1 : wrap64 (24 - 8) = 16 := wrap_id (by omega) (by omega)
  have w2 : wrap64 (16 - 8) = 8 := wrap_id (by omega) (by omega)
  have w3 : wrap64 (8 - 8) = 0 := wrap_id (by omega) (by omega)
  have w4 : wrap64 (0 - 8) = -8 := wrap_id (by omega) (by omega)
  have hj : Lib.join ((([] ++ [(⟨(Lib.itoa (oct a 24)).toArray⟩ : ByteArray)] ++ [⟨(Lib.itoa (oct a 16)).toArray⟩] ++ [⟨(Lib.itoa (oct a 8)).toArray⟩] ++ [⟨(Lib.itoa (oct a 0)).toArray⟩]) : List ByteArray).map (·.data.toList)) (⟨#[46]⟩ : ByteArray).data.toList = Lib.itoa (oct a 24) ++ [46] ++ Lib.itoa (oct a 16) ++ [46] ++ Lib.itoa (oct a 8) ++ [46] ++ Lib.itoa (oct a 0) := by
    simp [Lib.join_cons, Lib.joinTail]
  rw [show k + 5 = (k + 4) + 1 by omega, impl_PrefixText.l0, if_pos (by omega), if_pos (by omega), it, Option.bind_some, if_pos (by simp), w1, show k + 4 = (k + 3) + 1 by omega, impl_PrefixText.l0, if_pos (by omega), if_pos (by omega), it, Option.bind_some, if_pos (by simp), w2, show k + 3 = (k + 2) + 1 by omega, impl_PrefixText.l0, if_pos (by omega), if_pos (by omega), it, Option.bind_some, if_pos (by simp), w3, show k + 2 = (k + 1) + 1 by omega, impl_PrefixText.l0, if_pos (by omega), if_pos (by omega), it, Option.bind_some, if_pos (by simp), w4, impl_PrefixText.l0, if_neg (by omega)]
  unfold strings_Join.f
  rw [hj, if_pos ⟨by simp, by simp; omega⟩, Option.bind_some, if_pos (by rw [size_mk]; simp; omega), itoa_is n0 (by omega), Option.bind_some, show (⟨#[47]⟩ : ByteArray) = ⟨[47].toArray⟩ from rfl, bytes_app, if_pos (by rw [size_mk, size_mk]; simp; omega), bytes_app]
  rfl
abbrev mkB (l : List UInt8) : ByteArray := ⟨l.toArray⟩
theorem mkB_of (s : ByteArray) : mkB s.data.toList = s := by apply ByteArray.ext; simp
theorem mk_extract (l : List UInt8) (a b : Nat) : (mkB l).extract a b = mkB ((l.drop a).take (b - a)) := by
  rw [← mkB_of ((mkB l).extract a b), Lib.extract_data]
theorem bt_mid (pre : List UInt8) (c : UInt8) (rest : List UInt8) : bt (mkB (pre ++ c :: rest)) (pre.length : Int) = (c.toNat : Int) := by
  unfold bt
  have h : ((pre.length : Int)).toNat < (mkB (pre ++ c :: rest)).size := by rw [size_mk]; simp
  rw [dif_pos h]
  show ((((pre ++ c :: rest).toArray)[((pre.length : Int)).toNat]'h).toNat : Int) = _
  simp
def pieces (b : UInt8) : List UInt8 → List UInt8 → List (List UInt8)
  | cur, [] => [cur]
  | cur, c :: l => if c = b then cur :: pieces b [] l else pieces b (cur ++ [c]) l
theorem pieces_ne (b : UInt8) : ∀ (l cur : List UInt8), pieces b cur l ≠ []
  | [], cur => by simp [pieces]
  | c :: l, cur => by
    unfold pieces
    split
    · simp
    · exact pieces_ne b l _
theorem pieces_hit (b : UInt8) (r : List UInt8) : ∀ (p cur : List UInt8), b ∉ p → pieces b cur (p ++ b :: r) = (cur ++ p) :: pieces b [] r
  | [], cur, _ => by simp [pieces]
  | c :: p, cur, h => by
    rw [List.mem_cons, not_or] at h
    rw [List.cons_append, pieces, if_neg (fun e => h.1 e.symm), pieces_hit b r p _ h.2]
    simp
theorem pieces_miss (b : UInt8) : ∀ (p cur : List UInt8), b ∉ p → pieces b cur p = [cur ++ p]
  | [], cur, _ => by simp [pieces]
  | c :: p, cur, h => by
    rw [List.mem_cons, not_or] at h
    rw [pieces, if_neg (fun e => h.1 e.symm), pieces_miss b p _ h.2]
    simp
def glue (b : UInt8) : List (List UInt8) → List UInt8
  | [] => []
  | [p] => p
  | p :: q :: ps => p ++ b :: glue b (q :: ps)
theorem glue_pieces (b : UInt8) : ∀ (l cur : List UInt8), glue b (pieces b cur l) = cur ++ l
  | [], cur => by simp [pieces, glue]
  | c :: l, cur => by
    unfold pieces
    by_cases h : c = b
    · rw [if_pos h]
      have ih := glue_pieces b l []
      cases hp : pieces b [] l with
      | nil => exact absurd hp (pieces_ne b l [])
      | cons q ps => rw [hp] at ih; rw [glue, ih, h]; rfl
    · rw [if_neg h, glue_pieces b l]; simp
theorem l1Split_loop (b : UInt8) (l : List UInt8) (hl : l.length ≤ 2000000) : ∀ (rest pre cur : List UInt8) (out : List ByteArray) (k : Nat), l = pre ++ cur ++ rest → out.length ≤ pre.length →
    spec_l1Split.l0 (k + rest.length + 1) (mkB l) (b.toNat : Int) out (pre.length : Int) ((pre ++ cur).length : Int) = some (out ++ (pieces b cur rest).map mkB)
  | [], pre, cur, out, k, e, ho => by
    have hs : ((mkB l).size : Int) = ((pre ++ cur).length : Int) := by rw [size_mk, e]; simp
    have hle : pre.length ≤ l.length := by rw [e, List.append_assoc, List.length_append]; omega
    have hx : (mkB l).extract ((pre.length : Int)).toNat (mkB l).size = mkB cur := by
      rw [mk_extract, size_mk, e, List.append_nil]
      congr 1
      rw [Int.toNat_natCast, List.drop_left, List.length_append, Nat.add_sub_cancel_left, List.take_length]
    rw [show k + ([] : List UInt8).length + 1 = k + 1 from rfl, spec_l1Split.l0, if_neg (by omega), if_pos (by omega), if_pos (by rw [size_mk]; omega), if_pos (by omega), hx]
    simp [pieces]
  | c :: rest, pre, cur, out, k, e, ho => by
    have hs : ((mkB l).size : Int) = ((pre ++ cur).length : Int) + 1 + rest.length := by rw [size_mk, e]; simp; omega
    have hle : pre.length ≤ (pre ++ cur).length := by simp
    have hlt : (pre ++ cur).length < l.length := by rw [e]; simp
    have hb : bt (mkB l) ((pre ++ cur).length : Int) = (c.toNat : Int) := by rw [e]; exact bt_mid _ _ _
    have hw : wrap64 (((pre ++ cur).length : Int) + 1) = ((pre ++ cur ++ [c]).length : Int) := by
      rw [wrap_id (by omega) (by omega), show (pre ++ cur ++ [c]).length = (pre ++ cur).length + 1 from by rw [List.length_append, List.length_singleton]]; rfl
    rw [show k + (c :: rest).length + 1 = (k + rest.length + 1) + 1 by simp; omega, spec_l1Split.l0, if_pos (by omega), if_pos (by omega), hb, hw]
    by_cases h : c = b
    · have hx : (mkB l).extract ((pre.length : Int)).toNat (((pre ++ cur).length : Int)).toNat = mkB cur := by
        rw [mk_extract, e]
        congr 1
        rw [Int.toNat_natCast, Int.toNat_natCast, List.append_assoc, List.drop_left, List.length_append, Nat.add_sub_cancel_left, List.take_left]
      have ih := l1Split_loop b l hl rest (pre ++ cur ++ [c]) [] (out ++ [mkB cur]) k (by rw [e]; simp) (by simp; omega)
      rw [List.append_nil] at ih
      rw [if_pos (by rw [h]), if_pos (by omega), if_pos (by omega), if_pos (by omega), if_pos (by omega), hx, ih, pieces, if_pos h]
      simp
    · have hne : ¬ ((c.toNat : Int) = (b.toNat : Int)) := fun e2 => h (UInt8.toNat_inj.1 (by omega))
      have ih := l1Split_loop b l hl rest pre (cur ++ [c]) out k (by rw [e]; simp) ho
      rw [← List.append_assoc] at ih
      rw [if_neg hne, ih, pieces, if_neg h]
theorem l1Split_is (b : UInt8) (l : List UInt8) (hl : l.length ≤ 2000000) (k : Nat) : spec_l1Split.f (k + l.length + 1) (mkB l) (b.toNat : Int) = some ((pieces b [] l).map mkB) := by
  unfold spec_l1Split.f
  have := l1Split_loop b l hl l [] [] [] k rfl (by simp)
  simpa using this
def num (l : List UInt8) : Int := if 1 ≤ l.length ∧ l.length ≤ 9 ∧ ¬ (l.head? = some 48 ∧ 1 < l.length) then (match Lib.decFrom 0 l with | some m => (m : Int) | none => -1) else -1
theorem l1Int_loop (l : List UInt8) (hl : l.length ≤ 9) : ∀ (rest pre : List UInt8) (acc k : Nat), l = pre ++ rest → acc < 10 ^ pre.length →
    spec_l1Int.l0 (k + rest.length + 1) (mkB l) (acc : Int) (pre.length : Int) = some (match Lib.decFrom acc rest with | some m => (m : Int) | none => -1)
  | [], pre, acc, k, e, ha => by
    rw [show k + ([] : List UInt8).length + 1 = k + 1 from rfl, spec_l1Int.l0, if_neg (by rw [size_mk, e]; simp)]
    rfl
  | c :: rest, pre, acc, k, e, ha => by
    have hlt : pre.length + 1 + rest.length = l.length := by rw [e]; simp; omega
    have hb : bt (mkB l) (pre.length : Int) = (c.toNat : Int) := by rw [e]; exact bt_mid _ _ _
    have hw : wrap64 ((pre.length : Int) + 1) = ((pre ++ [c]).length : Int) := by
      rw [wrap_id (by omega) (by omega)]; simp
    rw [show k + (c :: rest).length + 1 = (k + rest.length + 1) + 1 by simp; omega, spec_l1Int.l0, if_pos (by rw [size_mk]; omega), if_pos (by omega), hb, hw]
    by_cases h1 : c.toNat < 48
    · rw [if_pos (by omega)]
      unfold Lib.decFrom Lib.digitVal
      rw [if_neg (by omega)]
    · rw [if_neg (by omega)]
      by_cases h2 : c.toNat > 57
      · rw [if_pos (by omega)]
        unfold Lib.decFrom Lib.digitVal
        rw [if_neg (by omega)]
      · rw [if_neg (by omega)]
        have h10 : 10 ^ pre.length ≤ 10 ^ 8 := Nat.pow_le_pow_right (by omega) (by omega)
        have hacc : acc < 100000000 := Nat.lt_of_lt_of_le ha h10
        have hv : wrap64 (wrap64 (10 * (acc : Int)) + (((c.toNat : Int) - 48) % 256)) = ((acc * 10 + (c.toNat - 48) : Nat) : Int) := by
          rw [wrap_id (x := 10 * (acc : Int)) (by omega) (by omega), wrap_id (by omega) (by omega)]; omega
        have ih := l1Int_loop l hl rest (pre ++ [c]) (acc * 10 + (c.toNat - 48)) k (by rw [e]; simp) (by rw [List.length_append, List.length_singleton, Nat.pow_succ]; omega)
        rw [hv, ih]
        conv => rhs; unfold Lib.decFrom Lib.digitVal
        rw [if_pos (by omega)]
theorem l1Int_is (l : List UInt8) (k : Nat) : spec_l1Int.f (k + 12) (mkB l) = some (num l) := by
  unfold spec_l1Int.f
  rw [spec_l1In_is, Option.bind_some, size_mk]
  by_cases h : 1 ≤ l.length ∧ l.length ≤ 9
  · have h0 : bt (mkB l) 0 = 48 ↔ l.head? = some 48 := by
      cases l with
      | nil => simp at h
      | cons c r =>
        have := bt_mid [] c r
        rw [show (([] : List UInt8).length : Int) = 0 from rfl, List.nil_append] at this
        rw [this, List.head?_cons, Option.some.injEq]
        constructor
        · intro e; exact UInt8.toNat_inj.1 (by show c.toNat = 48; omega)
        · intro e; rw [e]; rfl
    have lp : spec_l1Int.l0 (k + 11) (mkB l) 0 0 = some (match Lib.decFrom 0 l with | some m => (m : Int) | none => -1) := by
      have := l1Int_loop l h.2 l [] 0 (k + 10 - l.length) rfl (by simp)
      rwa [show k + 10 - l.length + l.length + 1 = k + 11 by omega] at this
    rw [if_pos (by rw [decide_eq_true (show 1 ≤ (l.length : Int) ∧ (l.length : Int) ≤ 9 by omega)]), if_pos (by omega)]
    by_cases hz : bt (mkB l) 0 = 48
    · rw [if_pos hz, show k + 12 = (k + 11) + 1 by omega, spec_l1Int.j0]
      by_cases h1 : 1 < l.length
      · rw [if_pos (decide_eq_true (by omega))]
        unfold num
        rw [if_neg (fun q => q.2.2 ⟨h0.1 hz, h1⟩)]
      · rw [if_neg (by rw [decide_eq_false (by omega)]; simp), lp]
        unfold num
        rw [if_pos ⟨h.1, h.2, fun q => h1 q.2⟩]
    · rw [if_neg hz, show k + 12 = (k + 11) + 1 by omega, spec_l1Int.j0, if_neg (by simp), lp]
      unfold num
      rw [if_pos ⟨h.1, h.2, fun q => hz (h0.2 q.1)⟩]
  · rw [if_neg (by rw [decide_eq_false (show ¬ (1 ≤ (l.length : Int) ∧ (l.length : Int) ≤ 9) by omega)]; simp), show k + 12 = (k + 11) + 1 by omega, spec_l1Int.j0, if_pos rfl]
    unfold num
    rw [if_neg (fun q => h ⟨q.1, q.2.1⟩)]
theorem decFrom_app : ∀ (a b : List UInt8) (acc : Nat), Lib.decFrom acc (a ++ b) = (Lib.decFrom acc a).bind fun m => Lib.decFrom m b
  | [], b, acc => rfl
  | c :: a, b, acc => by
    rw [List.cons_append]
    simp only [Lib.decFrom]
    cases Lib.digitVal c with
    | none => rfl
    | some d => exact decFrom_app a b _
theorem digitVal_of {d : Nat} (h : d < 10) : Lib.digitVal (UInt8.ofNat (48 + d)) = some d := by
  unfold Lib.digitVal
  have : (UInt8.ofNat (48 + d)).toNat = 48 + d := by rw [UInt8.toNat_ofNat']; omega
  rw [this, if_pos (by omega)]
  congr 1
  omega
theorem decFrom_dec : ∀ u : Nat, Lib.decFrom 0 (Lib.decDigits u) = some u := by
  intro u
  induction u using Nat.strongRecOn with
  | _ u ih =>
    by_cases h : u < 10
    · rw [Lib.decDigits_one h]
      unfold Lib.decFrom
      rw [digitVal_of h]
      simp [Lib.decFrom]
    · rw [Lib.decDigits, dif_neg h, decFrom_app, ih (u / 10) (by omega), Option.bind_some]
      unfold Lib.decFrom
      rw [digitVal_of (Nat.mod_lt _ (by omega))]
      simp only [Lib.decFrom]
      congr 1
      omega
theorem dec_digit : ∀ (u : Nat) (b : UInt8), b ∈ Lib.decDigits u → 48 ≤ b.toNat ∧ b.toNat ≤ 57 := by
  intro u
  have one : ∀ d, d < 10 → (UInt8.ofNat (48 + d)).toNat = 48 + d := fun d hd => by rw [UInt8.toNat_ofNat']; omega
  induction u using Nat.strongRecOn with
  | _ u ih =>
    intro b hb
    by_cases h : u < 10
    · rw [Lib.decDigits_one h, List.mem_singleton] at hb
      rw [hb, one u h]; omega
    · rw [Lib.decDigits, dif_neg h, List.mem_append, List.mem_singleton] at hb
      rcases hb with hb | hb
      · exact ih (u / 10) (by omega) b hb
      · rw [hb, one _ (Nat.mod_lt _ (by omega))]; omega
theorem dec_head : ∀ u : Nat, Lib.decDigits u ≠ [] ∧ ((Lib.decDigits u).head? = some 48 → u = 0) := by
  intro u
  have one : ∀ d, d < 10 → (UInt8.ofNat (48 + d)).toNat = 48 + d := fun d hd => by rw [UInt8.toNat_ofNat']; omega
  induction u using Nat.strongRecOn with
  | _ u ih =>
    by_cases h : u < 10
    · rw [Lib.decDigits_one h]
      refine ⟨by simp, fun e => ?_⟩
      rw [List.head?_cons, Option.some.injEq] at e
      have := one u h
      rw [e] at this
      have h48 : (48 : UInt8).toNat = 48 := rfl
      omega
    · rw [Lib.decDigits, dif_neg h]
      obtain ⟨i1, i2⟩ := ih (u / 10) (by omega)
      refine ⟨by simp, fun e => ?_⟩
      obtain ⟨c, r, hc⟩ := List.exists_cons_of_ne_nil i1
      rw [hc] at e i2
      have := i2 (by simpa using e)
      omega
theorem canon : ∀ (n : Nat) (l : List UInt8), l.length = n + 1 → ∀ m, Lib.decFrom 0 l = some m → ¬ (l.head? = some 48 ∧ 1 < l.length) → l = Lib.decDigits m := by
  intro n
  have last : ∀ (p : List UInt8) (c : UInt8) (a m : Nat), Lib.decFrom a [c] = some m → 48 ≤ c.toNat ∧ c.toNat ≤ 57 ∧ m = a * 10 + (c.toNat - 48) := fun p c a m h => by
    unfold Lib.decFrom Lib.digitVal at h
    by_cases hc : 48 ≤ c.toNat ∧ c.toNat ≤ 57
    · rw [if_pos hc] at h
      simp only [Lib.decFrom, Option.some.injEq] at h
      exact ⟨hc.1, hc.2, h.symm⟩
    · rw [if_neg hc] at h; cases h
  have back : ∀ (c : UInt8) (d : Nat), 48 ≤ c.toNat → d = c.toNat - 48 → UInt8.ofNat (48 + d) = c := fun c d h e => by
    rw [e, show 48 + (c.toNat - 48) = c.toNat by omega]
    exact UInt8.ofNat_toNat
  induction n with
  | zero =>
    intro l hl m hm _
    obtain ⟨c, rfl⟩ := List.length_eq_one_iff.1 hl
    obtain ⟨c0, c1, e⟩ := last [] c 0 m hm
    rw [Lib.decDigits_one (by omega), back c m c0 (by omega)]
  | succ n ih =>
    intro l hl m hm hz
    rcases snoc_cases l with rfl | ⟨p, c, rfl⟩
    · simp at hl
    · have hp : p.length = n + 1 := by simpa using hl
      rw [decFrom_app] at hm
      cases hd : Lib.decFrom 0 p with
      | none => rw [hd] at hm; cases hm
      | some a =>
        rw [hd, Option.bind_some] at hm
        obtain ⟨c0, c1, e⟩ := last p c a m hm
        have hh : (p ++ [c]).head? = p.head? := by
          cases p with
          | nil => simp at hp
          | cons x xs => rfl
        have h48 : p.head? ≠ some 48 := fun q => hz ⟨hh.trans q, by simp; omega⟩
        have hpd := ih p hp a hd (fun q => h48 q.1)
        have ha : a ≠ 0 := fun q => by
          rw [q, Lib.decDigits_one (by omega)] at hpd
          exact h48 (by rw [hpd]; rfl)
        rw [Lib.decDigits, dif_neg (by omega), show m / 10 = a by omega, ← hpd, back c (m % 10) c0 (by omega)]
theorem itoa_nn {x : Int} (h : 0 ≤ x) : Lib.itoa x = Lib.decDigits x.toNat := by unfold Lib.itoa; rw [if_neg (by omega)]
theorem num_canon {l : List UInt8} (h : 0 ≤ num l) : l = Lib.itoa (num l) := by
  by_cases hc : 1 ≤ l.length ∧ l.length ≤ 9 ∧ ¬ (l.head? = some 48 ∧ 1 < l.length)
  · cases hd : Lib.decFrom 0 l with
    | none =>
      have : num l = -1 := by unfold num; rw [if_pos hc, hd]
      omega
    | some m =>
      have e : num l = (m : Int) := by unfold num; rw [if_pos hc, hd]
      rw [e, itoa_nn (by omega)]
      exact canon (l.length - 1) l (by omega) m hd hc.2.2
  · have : num l = -1 := by unfold num; rw [if_neg hc]
    omega
theorem num_itoa {x : Int} (h0 : 0 ≤ x) (h1 : x < 1000) : num (Lib.itoa x) = x := by
  have hl := itoa_len h0 h1
  have hd := dec_head x.toNat
  unfold num
  rw [itoa_nn h0] at hl ⊢
  rw [if_pos ⟨by
    rcases Nat.eq_zero_or_pos (Lib.decDigits x.toNat).length with h | h
    · exact absurd (List.length_eq_zero_iff.1 h) hd.1
    · exact h, by omega, fun q => by
    have e := hd.2 q.1
    rw [e, Lib.decDigits_one (by omega)] at q
    exact absurd q.2 (by simp)⟩, decFrom_dec]
  show (x.toNat : Int) = x
  omega
theorem itoa_no {x : Int} (h0 : 0 ≤ x) (b : UInt8) (hb : b.toNat < 48) : b ∉ Lib.itoa x := by
  rw [itoa_nn h0]
  intro h
  have := dec_digit _ b h
  omega
def zero3 : Int × Int × Bool := (0, 0, false)
def fin3 (a n : Int) : Int × Int × Bool := if good a n = true then (a, n, true) else zero3
def foldS : Int → List (List UInt8) → Option Int
  | a, [] => some a
  | a, p :: ps => if 0 ≤ num p ∧ num p ≤ 255 then foldS (256 * a + num p) ps else none
theorem read_loop (n : Int) (l : List (List UInt8)) (hl : l.length = 4) : ∀ (rest pre : List (List UInt8)) (a : Int) (k : Nat), l = pre ++ rest → 0 ≤ a → a < 256 ^ pre.length →
    spec_ReadPrefix.l0 (k + rest.length + 13) (l.map mkB) ((l.map mkB).length : Int) (pre.length : Int) a n = some (match foldS a rest with | some x => fin3 x n | none => zero3)
  | [], pre, a, k, e, a0, a1 => by
    rw [show k + ([] : List (List UInt8)).length + 13 = (k + 12) + 1 from rfl, spec_ReadPrefix.l0, if_neg (by rw [e]; simp), spec_GoodPrefix_is, Option.bind_some]
    simp only [foldS]
    unfold fin3 zero3
    split <;> rfl
  | p :: rest, pre, a, k, e, a0, a1 => by
    have hlen : pre.length + 1 + rest.length = 4 := by rw [← hl, e]; simp; omega
    have hm : ((l.map mkB).length : Int) = 4 := by rw [List.length_map, hl]; rfl
    have hr : rdOf ByteArray.empty (l.map mkB) (pre.length : Int) = mkB p := by
      unfold rdOf
      rw [e]
      simp
    have h256 : (256 : Int) ^ pre.length ≤ 16777216 := by
      have : ∀ j : Nat, j ≤ 3 → (256 : Int) ^ j ≤ 16777216 := fun j hj => by
        match j, hj with
        | 0, _ => decide
        | 1, _ => decide
        | 2, _ => decide
        | 3, _ => decide
      exact this _ (by omega)
    rw [show k + (p :: rest).length + 13 = (k + rest.length + 13) + 1 by simp; omega, spec_ReadPrefix.l0, if_pos (by omega), if_pos (by omega), if_pos (by omega), hr, show k + rest.length + 13 = (k + rest.length + 1) + 12 by omega, l1Int_is, Option.bind_some, spec_l1In_is, Option.bind_some]
    by_cases h : 0 ≤ num p ∧ num p ≤ 255
    · have hw : wrap64 ((pre.length : Int) + 1) = ((pre ++ [p]).length : Int) := by
        rw [wrap_id (by omega) (by omega)]; simp
      have hv : wrap64 (wrap64 (256 * a) + num p) = 256 * a + num p := by
        rw [wrap_id (x := 256 * a) (by omega) (by omega), wrap_id (by omega) (by omega)]
      have hb : 256 * a + num p < 256 ^ (pre ++ [p]).length := by
        rw [List.length_append, List.length_singleton, Int.pow_succ]
        omega
      have ih := read_loop n l hl rest (pre ++ [p]) (256 * a + num p) k (by rw [e]; simp) (by omega) hb
      rw [if_pos (decide_eq_true h), hw, hv, show k + rest.length + 1 + 12 = k + rest.length + 13 by omega, ih]
      simp only [foldS]
      rw [if_pos h]
    · rw [if_neg (by rw [decide_eq_false h]; simp)]
      simp only [foldS]
      rw [if_neg h]
      rfl
def readL (l : List UInt8) : Int × Int × Bool := match pieces 47 [] l with
  | [x, y] => (match pieces 46 [] x with
    | [p0, p1, p2, p3] => (match foldS 0 [p0, p1, p2, p3] with | some a => fin3 a (num y) | none => zero3)
    | _ => zero3)
  | _ => zero3
theorem piece_le (b : UInt8) (q : List UInt8) : ∀ (l cur : List UInt8), q ∈ pieces b cur l → q.length ≤ cur.length + l.length
  | [], cur, h => by
    simp [pieces] at h
    rw [h]; simp
  | c :: l, cur, h => by
    unfold pieces at h
    split at h
    · rcases List.mem_cons.1 h with rfl | h
      · simp
      · have := piece_le b q l [] h
        simp at this ⊢; omega
    · have := piece_le b q l _ h
      simp at this ⊢; omega
theorem spec_read_is (l : List UInt8) (hl : l.length ≤ 2000000) (k : Nat) : spec_ReadPrefix.f (k + l.length + 30) (mkB l) = some (readL l) := by
  unfold spec_ReadPrefix.f
  have s47 := l1Split_is 47 l hl (k + 29)
  rw [show k + 29 + l.length + 1 = k + l.length + 30 by omega, show (((47 : UInt8).toNat : Nat) : Int) = 47 from rfl] at s47
  rw [s47, Option.bind_some]
  unfold readL
  have hle := piece_le 47
  cases hp : pieces 47 [] l with
  | nil => exact absurd hp (pieces_ne 47 l [])
  | cons x r =>
    have hx : x.length ≤ l.length := by
      have := hle x l [] (by rw [hp]; simp)
      simpa using this
    have hr : rdOf ByteArray.empty ((x :: r).map mkB) 0 = mkB x := rfl
    have s46 := l1Split_is 46 x (by omega) (k + 29 + (l.length - x.length))
    rw [show k + 29 + (l.length - x.length) + x.length + 1 = k + l.length + 30 by omega, show (((46 : UInt8).toNat : Nat) : Int) = 46 from rfl] at s46
    rw [if_pos (by rw [List.length_map, List.length_cons]; omega), hr, s46, Option.bind_some]
    have jt : ∀ (X Y : List ByteArray), spec_ReadPrefix.j0 (k + l.length + 30) X Y true = some zero3 := fun X Y => by
      rw [show k + l.length + 30 = (k + l.length + 29) + 1 by omega, spec_ReadPrefix.j0, if_pos rfl]; rfl
    match r, hp with
    | [], _ => rw [if_neg (by simp), jt]
    | [y], _ =>
      rw [if_pos (by simp)]
      by_cases h4 : (pieces 46 [] x).length = 4
      · have hb : ((((pieces 46 [] x).map mkB).length : Int) != 4) = false := by
          rw [List.length_map, h4]; rfl
        have ry : rdOf ByteArray.empty ([x, y].map mkB) 1 = mkB y := rfl
        have rl := read_loop (num y) (pieces 46 [] x) h4 (pieces 46 [] x) [] 0 (k + l.length + 12) rfl (by omega) (by simp)
        rw [h4, show k + l.length + 12 + 4 + 13 = k + l.length + 29 by omega] at rl
        rw [hb, show k + l.length + 30 = (k + l.length + 29) + 1 by omega, spec_ReadPrefix.j0, if_neg (by simp), if_pos (by simp), ry, show k + l.length + 29 = (k + l.length + 17) + 12 by omega, l1Int_is, Option.bind_some, show k + l.length + 17 + 12 = k + l.length + 29 by omega]
        rw [show (([] : List (List UInt8)).length : Int) = 0 from rfl] at rl
        rw [rl]
        dsimp only
        generalize pieces 46 [] x = q at h4
        match q, h4 with
        | [p0, p1, p2, p3], _ => rfl
      · have hb : ((((pieces 46 [] x).map mkB).length : Int) != 4) = true := by
          rw [List.length_map, bne_iff_ne]; omega
        rw [hb, jt]
        dsimp only
        split
        · rename_i p0 p1 p2 p3 e
          exact absurd (by rw [e]; rfl) h4
        · rfl
    | y :: z :: r, _ => rw [if_neg (by simp; omega), jt]
theorem oct_is {a : Int} (a0 : 0 ≤ a) (a1 : a ≤ 4294967295) : oct a 24 = a / 16777216 ∧ oct a 16 = a / 65536 % 256 ∧ oct a 8 = a / 256 % 256 ∧ oct a 0 = a % 256 := by
  have e : ∀ n : Nat, n ≤ 64 → oct a (n : Int) = a / 2 ^ n % 256 := fun n hn => by
    have hs : shr .i64 a (n : Int) = a / 2 ^ n := by
      unfold shr
      rw [show min (n : Int).toNat IntKind.i64.bits = n by show min (n : Int).toNat 64 = n; omega]
    have hx : 0 ≤ a / 2 ^ n ∧ a / 2 ^ n ≤ a := ⟨Int.ediv_nonneg a0 (by exact_mod_cast Nat.zero_le _), Int.ediv_le_self _ a0⟩
    unfold oct
    rw [hs]
    exact bits_mask .i64 62 (by decide) (fun n h2 h3 => by rw [i64_w]; exact wrap_id (by omega) (by omega)) 8 (by decide) _ hx.1 (by omega)
  have e24 := e 24 (by omega)
  have e16 := e 16 (by omega)
  have e8 := e 8 (by omega)
  have e0 := e 0 (by omega)
  refine ⟨?_, ?_, ?_, ?_⟩
  · rw [show (24 : Int) = ((24 : Nat) : Int) from rfl, e24]; omega
  · rw [show (16 : Int) = ((16 : Nat) : Int) from rfl, e16]; omega
  · rw [show (8 : Int) = ((8 : Nat) : Int) from rfl, e8]; omega
  · rw [show (0 : Int) = ((0 : Nat) : Int) from rfl, e0]; omega
theorem read_text {a n : Int} (h : good a n = true) : readL (textL a n) = (a, n, true) := by
  obtain ⟨n0, n1, a0, a1, _⟩ := good_iff.1 h
  obtain ⟨e3, e2, e1, e0⟩ := oct_is a0 a1
  have r3 := oct_range 24 a0 a1
  have r2 := oct_range 16 a0 a1
  have r1 := oct_range 8 a0 a1
  have r0 := oct_range 0 a0 a1
  have no : ∀ {x : Int}, 0 ≤ x → ∀ b : UInt8, b.toNat < 48 → b ∉ Lib.itoa x := fun h b hb => itoa_no h b hb
  have d : ∀ {x : Int}, 0 ≤ x → (47 : UInt8) ∉ Lib.itoa x := fun h => no h 47 (by decide)
  have t : ∀ {x : Int}, 0 ≤ x → (46 : UInt8) ∉ Lib.itoa x := fun h => no h 46 (by decide)
  have p1 : pieces 47 [] (textL a n) = [Lib.itoa (oct a 24) ++ 46 :: (Lib.itoa (oct a 16) ++ 46 :: (Lib.itoa (oct a 8) ++ 46 :: Lib.itoa (oct a 0))), Lib.itoa n] := by
    have := pieces_hit 47 (Lib.itoa n) (Lib.itoa (oct a 24) ++ 46 :: (Lib.itoa (oct a 16) ++ 46 :: (Lib.itoa (oct a 8) ++ 46 :: Lib.itoa (oct a 0)))) [] (by
      simp only [List.mem_append, List.mem_cons, not_or]
      exact ⟨d r3.1, by decide, d r2.1, by decide, d r1.1, by decide, d r0.1⟩)
    rw [pieces_miss 47 _ _ (d n0), List.nil_append, List.nil_append] at this
    rw [← this]
    congr 1
    unfold textL
    simp
  have p2 : pieces 46 [] (Lib.itoa (oct a 24) ++ 46 :: (Lib.itoa (oct a 16) ++ 46 :: (Lib.itoa (oct a 8) ++ 46 :: Lib.itoa (oct a 0)))) = [Lib.itoa (oct a 24), Lib.itoa (oct a 16), Lib.itoa (oct a 8), Lib.itoa (oct a 0)] := by
    rw [pieces_hit _ _ _ _ (t r3.1), pieces_hit _ _ _ _ (t r2.1), pieces_hit _ _ _ _ (t r1.1), pieces_miss _ _ _ (t r0.1)]
    rfl
  unfold readL
  rw [p1]
  dsimp only
  rw [p2]
  dsimp only
  simp only [foldS]
  rw [num_itoa r3.1 (by omega), num_itoa r2.1 (by omega), num_itoa r1.1 (by omega), num_itoa r0.1 (by omega), num_itoa n0 (by omega), if_pos (by omega), if_pos (by omega), if_pos (by omega), if_pos (by omega)]
  dsimp only
  rw [show 256 * (256 * (256 * (256 * (0 : Int) + oct a 24) + oct a 16) + oct a 8) + oct a 0 = a by rw [e3, e2, e1, e0]; omega]
  unfold fin3
  rw [if_pos h]
theorem read_cases (l : List UInt8) : readL l = zero3 ∨ ∃ a n, good a n = true ∧ l = textL a n ∧ readL l = (a, n, true) := by
  have g1 := glue_pieces 47 l []
  unfold readL
  split
  · rename_i x y e
    rw [e] at g1
    have g2 := glue_pieces 46 x []
    split
    · rename_i p0 p1 p2 p3 e2
      rw [e2] at g2
      simp only [glue, List.nil_append] at g1 g2
      simp only [foldS]
      by_cases h0 : 0 ≤ num p0 ∧ num p0 ≤ 255
      · rw [if_pos h0]
        by_cases h1 : 0 ≤ num p1 ∧ num p1 ≤ 255
        · rw [if_pos h1]
          by_cases h2 : 0 ≤ num p2 ∧ num p2 ≤ 255
          · rw [if_pos h2]
            by_cases h3 : 0 ≤ num p3 ∧ num p3 ≤ 255
            · rw [if_pos h3]
              dsimp only
              generalize hA : 256 * (256 * (256 * (256 * (0 : Int) + num p0) + num p1) + num p2) + num p3 = A
              unfold fin3
              by_cases hg : good A (num y) = true
              · rw [if_pos hg]
                obtain ⟨n0, n1, a0, a1, _⟩ := good_iff.1 hg
                obtain ⟨e3', e2', e1', e0'⟩ := oct_is a0 a1
                refine .inr ⟨A, num y, hg, ?_, rfl⟩
                unfold textL
                rw [e3', e2', e1', e0', show A / 16777216 = num p0 by omega, show A / 65536 % 256 = num p1 by omega, show A / 256 % 256 = num p2 by omega, show A % 256 = num p3 by omega, ← num_canon h0.1, ← num_canon h1.1, ← num_canon h2.1, ← num_canon h3.1, ← num_canon n0, ← g1, ← g2]
                simp
              · rw [if_neg hg]; exact .inl rfl
            · rw [if_neg h3]; exact .inl rfl
          · rw [if_neg h2]; exact .inl rfl
        · rw [if_neg h1]; exact .inl rfl
      · rw [if_neg h0]; exact .inl rfl
    · exact .inl rfl
  · exact .inl rfl
theorem impl_Text_all (a n : Int) (k : Nat) : impl_PrefixText.f (k + 5) a n = some (if good a n = true then (mkB (textL a n), true) else (mkB [], false)) := by
  unfold impl_PrefixText.f
  rw [impl_GoodPrefix_is, Option.bind_some]
  by_cases h : good a n = true
  · obtain ⟨n0, n1, a0, a1, _⟩ := good_iff.1 h
    rw [if_pos h, if_pos h, impl_Text_is a0 a1 n0 n1 k]
  · rw [if_neg h, if_neg h]
def numI (p : ByteArray) : Int := (Lib.atoi p.data.toList).getD 0
theorem atoi_is {p : ByteArray} (h : p.size ≤ 18) : strconv_Atoi.f p = some (numI p, none) := by
  unfold strconv_Atoi.f
  rw [if_pos h]; rfl
def foldI : Int → List ByteArray → Option Int
  | a, [] => some a
  | a, p :: ps => if 0 ≤ numI p ∧ numI p ≤ 255 then (if a > 4294967295 then none else foldI (a * 256 + numI p) ps) else none
def finI (a n : Int) (l : List UInt8) : Int × Int × Bool := if good a n = true ∧ textL a n = l then (a, n, true) else zero3
theorem orA {x b : Int} (h0 : 0 ≤ x) (h1 : x ≤ 1099511627776) (b0 : 0 ≤ b) (b1 : b ≤ 255) : Go.bits .or .i64 (wrap64 (x * 256)) b = x * 256 + b := by
  rw [wrap_id (x := x * 256) (by omega) (by omega)]
  exact bits_join .i64 62 (by decide) (fun n h2 h3 => by
    have h4 : n < 4611686018427387904 := by simpa using h3
    show IntKind.i64.wrap n = n
    rw [IntKind.wrap_i64]; omega) 8 (x * 256) b (by omega) (by show x * 256 % 256 = 0; omega) (by show x * 256 < 4611686018427387904; omega) b0 (by show b < 256; omega) (by show b < 4611686018427387904; omega)
theorem list_eq (a b : List UInt8) : ((mkB a).toList = (mkB b).toList) ↔ a = b := by
  rw [ByteArray.toList_eq, ByteArray.toList_eq]
theorem impl_loop (l : List UInt8) (y : ByteArray) (hy : y.size ≤ 18) (ps : List ByteArray) (hp : ∀ p, p ∈ ps → p.size ≤ 18) (hn : ps.length ≤ 1000000) : ∀ (rest pre : List ByteArray) (a : Int) (k : Nat), ps = pre ++ rest → 0 ≤ a → a ≤ 1099511628032 →
    impl_ReadPrefix.l0 (k + rest.length + 6) (mkB l) y ps (ps.length : Int) (pre.length : Int) a 0 = some (match foldI a rest with | some x => finI x (numI y) l | none => zero3)
  | [], pre, a, k, e, a0, a1 => by
    rw [show k + ([] : List ByteArray).length + 6 = (k + 5) + 1 from rfl, impl_ReadPrefix.l0, if_neg (by rw [e]; simp), atoi_is hy, Option.bind_some, impl_Text_all, Option.bind_some]
    simp only [foldI]
    unfold finI
    by_cases h : good a (numI y) = true
    · rw [if_pos h]
      dsimp only
      rw [if_pos rfl]
      by_cases h2 : textL a (numI y) = l
      · rw [if_pos ((list_eq _ _).2 h2), if_pos ⟨h, h2⟩]
      · rw [if_neg (fun q => h2 ((list_eq _ _).1 q)), if_neg (fun q => h2 q.2)]; rfl
    · rw [if_neg h]
      dsimp only
      rw [if_neg (by simp), if_neg (fun q => h q.1)]; rfl
  | p :: rest, pre, a, k, e, a0, a1 => by
    have hlen : pre.length + 1 + rest.length = ps.length := by rw [e]; simp; omega
    have hr : rdOf ByteArray.empty ps (pre.length : Int) = p := by
      unfold rdOf
      rw [e]
      simp
    rw [show k + (p :: rest).length + 6 = (k + rest.length + 6) + 1 by simp; omega, impl_ReadPrefix.l0, if_pos (by omega), if_pos (by omega), if_pos (by omega), hr, atoi_is (hp p (by rw [e]; simp)), Option.bind_some, impl_within_is, Option.bind_some]
    simp only [foldI]
    by_cases h : 0 ≤ numI p ∧ numI p ≤ 255
    · rw [if_pos (decide_eq_true h), if_pos h]
      by_cases hb : a > 4294967295
      · rw [if_pos hb, if_pos hb]; rfl
      · have hw : wrap64 ((pre.length : Int) + 1) = ((pre ++ [p]).length : Int) := by
          rw [wrap_id (by omega) (by omega)]; simp
        have ih := impl_loop l y hy ps hp hn rest (pre ++ [p]) (a * 256 + numI p) k (by rw [e]; simp) (by omega) (by omega)
        rw [if_neg hb, if_neg hb, hw, orA a0 (by omega) h.1 h.2, ih]
    · rw [if_neg (by rw [decide_eq_false h]; simp), if_neg h]; rfl
theorem idx_miss (b : UInt8) : ∀ (p : List UInt8), b ∉ p → Lib.index p [b] = -1
  | [], _ => rfl
  | c :: p, h => by
    rw [List.mem_cons, not_or] at h
    rw [Lib.index_one, Lib.indexByte, if_neg (by rw [beq_iff_eq]; exact fun e => h.1 e.symm), ← Lib.index_one, idx_miss b p h.2]
    rfl
theorem idx_hit (b : UInt8) (r : List UInt8) : ∀ (p : List UInt8), b ∉ p → Lib.index (p ++ b :: r) [b] = (p.length : Nat)
  | [], _ => by
    rw [Lib.index_one, List.nil_append, Lib.indexByte, if_pos (by simp)]; rfl
  | c :: p, h => by
    rw [List.mem_cons, not_or] at h
    rw [Lib.index_one, List.cons_append, Lib.indexByte, if_neg (by rw [beq_iff_eq]; exact fun e => h.1 e.symm), ← Lib.index_one, idx_hit b r p h.2, if_neg (by rw [beq_iff_eq]; omega)]
    simp
theorem cut_hit (b : UInt8) (p r : List UInt8) (h : b ∉ p) : Lib.cut (p ++ b :: r) [b] = (p, r, true) := by
  unfold Lib.cut
  rw [idx_hit b r p h, if_pos (by omega)]
  simp
theorem cut_le (l : List UInt8) (s : List UInt8) : (Lib.cut l s).1.length ≤ l.length ∧ (Lib.cut l s).2.1.length ≤ l.length := by
  unfold Lib.cut
  split
  · simp; omega
  · simp
theorem split_miss (b : UInt8) (p : List UInt8) (h : b ∉ p) : Lib.splitB (mkB [b]) 0 (Lib.countB (mkB p) (mkB [b])) (mkB p) = [mkB p] :=
  Lib.splitB_miss _ _ _ _ (idx_miss b p h)
theorem split_hit (b : UInt8) (p r : List UInt8) (h : b ∉ p) : Lib.splitB (mkB [b]) 0 (Lib.countB (mkB (p ++ b :: r)) (mkB [b])) (mkB (p ++ b :: r)) = mkB p :: Lib.splitB (mkB [b]) 0 (Lib.countB (mkB r) (mkB [b])) (mkB r) := by
  have hi : Lib.indexB (mkB (p ++ b :: r)) (mkB [b]) = (p.length : Nat) := idx_hit b r p h
  have hs : (mkB [b]).size = 1 := rfl
  have hx : (mkB (p ++ b :: r)).extract (p.length + 1) (mkB (p ++ b :: r)).size = mkB r := by
    rw [mk_extract, size_mk]
    congr 1
    rw [show p ++ b :: r = (p ++ [b]) ++ r by simp, show p.length + 1 = (p ++ [b]).length by simp, List.drop_left, List.length_append, Nat.add_sub_cancel_left, List.take_length]
  have hy : (mkB (p ++ b :: r)).extract 0 (p.length + 0) = mkB p := by
    rw [mk_extract]
    congr 1
    simp
  rw [Lib.countB_hit _ _ p.length (by rw [hs]; exact Nat.le_refl _) hi, Nat.add_comm 1, Lib.splitB_hit _ _ _ _ p.length hi, hs, hx, hy]
theorem split_le (sep : ByteArray) : ∀ (k : Nat) (s : ByteArray) (q : ByteArray), q ∈ Lib.splitB sep 0 k s → q.size ≤ s.size
  | 0, s, q, h => by
    rw [Lib.splitB_zero, List.mem_singleton] at h
    rw [h]; exact Nat.le_refl _
  | k + 1, s, q, h => by
    unfold Lib.splitB at h
    split at h
    · rw [List.mem_singleton] at h
      rw [h]; exact Nat.le_refl _
    · rw [List.mem_cons] at h
      rcases h with rfl | h
      · rw [ByteArray.size_extract]; omega
      · have := split_le sep k _ q h
        rw [ByteArray.size_extract] at this
        omega
def partsI (l : List UInt8) : List ByteArray := Lib.splitB (mkB [46]) 0 (Lib.countB (mkB (Lib.cut l [47]).1) (mkB [46])) (mkB (Lib.cut l [47]).1)
def implR (l : List UInt8) : Int × Int × Bool := match foldI 0 (partsI l) with | some x => finI x (numI (mkB (Lib.cut l [47]).2.1)) l | none => zero3
theorem partsI_len (l : List UInt8) : (partsI l).length ≤ l.length + 1 := by
  have h1 := Lib.splitB_length_le (mkB [46]) 0 (Lib.countB (mkB (Lib.cut l [47]).1) (mkB [46])) (mkB (Lib.cut l [47]).1)
  have h2 := Lib.countB_le (mkB [46]) (by decide) _ (mkB (Lib.cut l [47]).1) (Nat.le_refl _)
  have h3 := (cut_le l [47]).1
  rw [size_mk] at h2
  unfold partsI
  omega
theorem impl_read_is (l : List UInt8) (hl : l.length ≤ 18) (k : Nat) : impl_ReadPrefix.f (k + 30) (mkB l) = some (implR l) := by
  obtain ⟨c1, c2⟩ := cut_le l [47]
  have hn := partsI_len l
  have lp := impl_loop l (mkB (Lib.cut l [47]).2.1) (by rw [size_mk]; omega) (partsI l) (fun p hp => by
    have := split_le _ _ _ p hp
    have e : (mkB (Lib.cut l [47]).1).size = (Lib.cut l [47]).1.length := size_mk _
    omega) (by omega) (partsI l) [] 0 (k + 24 - (partsI l).length) rfl (by omega) (by omega)
  rw [show k + 24 - (partsI l).length + (partsI l).length + 6 = k + 30 by omega] at lp
  unfold impl_ReadPrefix.f
  rw [if_neg (by rw [size_mk]; omega)]
  have hc : strings_Cut.f (mkB l) (⟨#[47]⟩ : ByteArray) = some (mkB (Lib.cut l [47]).1, mkB (Lib.cut l [47]).2.1, (Lib.cut l [47]).2.2) := by
    unfold strings_Cut.f
    rw [if_pos (by rw [size_mk]; omega)]
  have hs : strings_Split.f (mkB (Lib.cut l [47]).1) (⟨#[46]⟩ : ByteArray) = some (partsI l) := by
    unfold strings_Split.f
    rw [if_pos ⟨by rw [size_mk]; omega, by decide⟩]
    rfl
  rw [hc, Option.bind_some]
  dsimp only
  rw [hs, Option.bind_some]
  exact lp
theorem numI_itoa {x : Int} (h0 : 0 ≤ x) : numI (mkB (Lib.itoa x)) = x := by
  unfold numI
  rw [show (mkB (Lib.itoa x)).data.toList = Lib.itoa x from rfl, itoa_nn h0]
  have hh := (dec_head x.toNat).1
  have hd := dec_digit x.toNat
  have hf := decFrom_dec x.toNat
  cases hD : Lib.decDigits x.toNat with
  | nil => exact absurd hD hh
  | cons c r =>
    rw [hD] at hf hd
    have hc := hd c (by simp)
    unfold Lib.atoi
    dsimp only
    rw [if_neg (by rw [beq_iff_eq]; intro e; rw [e] at hc; exact absurd hc (by decide)), if_neg (by rw [beq_iff_eq]; intro e; rw [e] at hc; exact absurd hc (by decide))]
    unfold Lib.decNat
    rw [if_neg (by simp), hf]
    show (x.toNat : Int) = x
    omega
theorem implR_text {a n : Int} (h : good a n = true) : implR (textL a n) = (a, n, true) := by
  obtain ⟨n0, n1, a0, a1, _⟩ := good_iff.1 h
  obtain ⟨e3, e2, e1, e0⟩ := oct_is a0 a1
  have r3 := oct_range 24 a0 a1
  have r2 := oct_range 16 a0 a1
  have r1 := oct_range 8 a0 a1
  have r0 := oct_range 0 a0 a1
  have d : ∀ {x : Int}, 0 ≤ x → (47 : UInt8) ∉ Lib.itoa x := fun h => itoa_no h 47 (by decide)
  have t : ∀ {x : Int}, 0 ≤ x → (46 : UInt8) ∉ Lib.itoa x := fun h => itoa_no h 46 (by decide)
  have hc : Lib.cut (textL a n) [47] = (Lib.itoa (oct a 24) ++ 46 :: (Lib.itoa (oct a 16) ++ 46 :: (Lib.itoa (oct a 8) ++ 46 :: Lib.itoa (oct a 0))), Lib.itoa n, true) := by
    rw [← cut_hit 47 _ _ (by
      simp only [List.mem_append, List.mem_cons, not_or]
      exact ⟨d r3.1, by decide, d r2.1, by decide, d r1.1, by decide, d r0.1⟩)]
    congr 1
    unfold textL
    simp
  unfold implR partsI
  rw [hc]
  dsimp only
  rw [split_hit _ _ _ (t r3.1), split_hit _ _ _ (t r2.1), split_hit _ _ _ (t r1.1), split_miss _ _ (t r0.1)]
  simp only [foldI]
  rw [numI_itoa r3.1, numI_itoa r2.1, numI_itoa r1.1, numI_itoa r0.1, numI_itoa n0, if_pos (by omega), if_neg (by omega), if_pos (by omega), if_neg (by omega), if_pos (by omega), if_neg (by omega), if_pos (by omega), if_neg (by omega)]
  dsimp only
  rw [show (((0 * 256 + oct a 24) * 256 + oct a 16) * 256 + oct a 8) * 256 + oct a 0 = a by rw [e3, e2, e1, e0]; omega]
  unfold finI
  rw [if_pos ⟨h, rfl⟩]
theorem implR_is (l : List UInt8) : implR l = readL l := by
  have hI : implR l = zero3 ∨ ∃ a n, good a n = true ∧ textL a n = l ∧ implR l = (a, n, true) := by
    unfold implR
    split
    · rename_i x _
      unfold finI
      by_cases h : good x (numI (mkB (Lib.cut l [47]).2.1)) = true ∧ textL x (numI (mkB (Lib.cut l [47]).2.1)) = l
      · rw [if_pos h]; exact .inr ⟨_, _, h.1, h.2, rfl⟩
      · rw [if_neg h]; exact .inl rfl
    · exact .inl rfl
  rcases read_cases l with hr | ⟨a, n, hg, hl, hr⟩
  · rcases hI with hi | ⟨a, n, hg, hl, hi⟩
    · rw [hi, hr]
    · have := read_text hg
      rw [hl, hr] at this
      cases this
  · rw [hr, hl, implR_text hg]
theorem text_len {a n : Int} (h : good a n = true) : (textL a n).length ≤ 18 := by
  obtain ⟨n0, n1, a0, a1, _⟩ := good_iff.1 h
  have h24 := oct_len 24 a0 a1
  have h16 := oct_len 16 a0 a1
  have h8 := oct_len 8 a0 a1
  have h0 := oct_len 0 a0 a1
  have hn : (Lib.itoa n).length ≤ 2 := by
    unfold Lib.itoa
    rw [if_neg (by omega)]
    by_cases h : n.toNat < 10
    · rw [Lib.decDigits_one h]; simp
    · rw [Lib.decDigits_two h (by omega)]; simp
  unfold textL
  simp only [List.length_append, List.length_singleton]
  omega
theorem impl_read_all (l : List UInt8) (k : Nat) : impl_ReadPrefix.f (k + 30) (mkB l) = some (readL l) := by
  by_cases h : l.length ≤ 18
  · rw [impl_read_is l h k, implR_is]
  · have hz : readL l = zero3 := by
      rcases read_cases l with hr | ⟨a, n, hg, hl, hr⟩
      · exact hr
      · have := text_len hg
        rw [← hl] at this
        omega
    unfold impl_ReadPrefix.f
    rw [if_pos (by rw [size_mk]; omega), hz]
    rfl

end FnExactReadPrefixUses
open Go.RowKit Go.Proofs.YtkollihfejkklaaDoor.PFnExactReadPrefix Go.Proofs.YtkollihfejkklaaDoorW.PrintWords Go.Proofs.YtkollihfejkklaaDoorW.PrintLast Go.Proofs.YtkollihfejkklaaDoorW.PrintMore Go.Proofs.YtkollihfejkklaaDoor.Pfx Go.Proofs.YtkollihfejkklaaDoor.Loop FnExactReadPrefixUses
set_option linter.unusedVariables false
theorem FnExactReadPrefix : laws_FnExactReadPrefix.Pure := by
  intro a0 _
  refine ⟨a0.size + 30, ?_⟩
  unfold laws_FnExactReadPrefix.f
  by_cases h : (a0.size : Int) > 1048576
  · rw [if_pos h]
  · obtain ⟨l, rfl⟩ : ∃ l, a0 = mkB l := ⟨a0.data.toList, (mkB_of a0).symm⟩
    rw [size_mk] at h ⊢
    have hs := spec_read_is l (by omega) 0
    rw [Nat.zero_add] at hs
    rw [if_neg h, hs, Option.bind_some, impl_read_all, Option.bind_some]
    unfold laws_eqPrefix.f
    simp
end Go.Proofs.YtkollihfejkklaaDoor.Pure
