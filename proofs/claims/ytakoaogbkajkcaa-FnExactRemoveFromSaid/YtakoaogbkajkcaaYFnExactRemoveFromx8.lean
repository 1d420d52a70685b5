/- Go functions told by Lean functions, printed by a program. No condition but what each statement says. -/
import Derived.Test.YtakoaogbkajkcaaYFnExactRemoveFromx7
namespace Go.Proofs.Ytakoaogbkajkcaa.PFnExactRemoveFrom
open Go.RowKit Go.Proofs.YtakoaogbkajkcaaW.PrintWords Go.Proofs.YtakoaogbkajkcaaW.PrintLast Go.Proofs.YtakoaogbkajkcaaW.PrintMore
open List renaming replicate → kz, setIfInBounds_toArray → ky, set_cons_zero → kk, set_cons_succ → kv, length_replicate → kh
open Aside0 renaming mk → kj
open Try renaming underlying84 → kg
open Act renaming put → kf
open Value renaming int → ke
open Bool renaming true → kb, false → kd
set_option maxHeartbeats 8000000
set_option maxRecDepth 100000
open Go.Proofs.YtakoaogbkajkcaaW.PrintLast renaming i64_w → za, i32_w → zb, pure_ → zc
attribute [local go_sem] max2_int min2_int max_two min_two max_three min_three max_four min_four
set_option linter.unusedVariables false
set_option linter.unusedSimpArgs false

theorem bits_Mul_one (c : Int) (h0 : 0 ≤ c) (h1 : c ≤ 17592186044416) : bits_Mul.f 1 c = some (0, c) := by
 have hw : ∀ x : Int, 0 ≤ x → x ≤ 9223372036854775807 → IntKind.u64.wrap x = x := fun x a b => by rw [IntKind.wrap_u64]; omega
 have e1 : Go.bits .and .u64 1 4294967295 = 1 := by
  rw [u64_and 1 4294967295 (by omega) (by omega) (by omega) (by omega)]; rfl
 have e2 : Go.bits .and .u64 c 4294967295 = c % 4294967296 := by
  rw [u64_and c 4294967295 (by omega) (by omega) (by omega) (by omega)]; have := Nat.and_two_pow_sub_one_eq_mod c.toNat 32; rw [show (4294967295 : Int).toNat = 2 ^ 32 - 1 from rfl, this]; omega
 have e3 : Go.bits .and .u64 0 4294967295 = 0 := by
  rw [u64_and 0 4294967295 (by omega) (by omega) (by omega) (by omega)]; rfl
 have d0 : (1 : Int) / 4294967296 = 0 := by omega
 unfold bits_Mul.f bits_Mul64.f; simp only [Option.bind_some]; rw [e1, e2, d0]; simp only [Int.zero_mul, Int.one_mul]; have w0 : IntKind.u64.wrap 0 = 0 := hw 0 (by omega) (by omega); rw [w0, hw (c % 4294967296) (by omega) (by omega), show c % 4294967296 / 4294967296 = 0 by omega]; simp only [Int.add_zero, Int.zero_add]; rw [w0, e3]; simp only [Int.zero_add]; rw [hw (c / 4294967296) (by omega) (by omega), hw (c / 4294967296) (by omega) (by omega), hw c (by omega) (by omega), show c / 4294967296 / 4294967296 = 0 by omega, show (0 : Int) / 4294967296 = 0 by omega]; simp only [Int.add_zero]; rw [w0, w0]
def slices_Repeat_int_int.f (l0 : List Int) (a1 : Int) : Option (List Int) := match l0 with
 | [a] => if 0 ≤ a1 then (if a1 ≤ 17592186044416 then some (kz a1.toNat a) else none) else none
 | _ => none
theorem slices_Repeat_int_int.calls (A0 : Option Addr) (c0 : Nat) (l0 : List Int) (a1 : Int) (r : List Int) (w : World) (hr0 : Kd.C (Kd.int .i64) w A0 l0.length l0) (hc0 : l0.length ≤ c0) (h : slices_Repeat_int_int.f l0 a1 = some r) :
  Calls Try.prog 61 #[.slice A0 l0.length c0, .int .i64 a1] w fun e w' => ∃ v0_ : Value, e = .returned (v0_) ∧ Kd.R (Kd.int .i64) 3 w' w.heap.size (fun _ => True) v0_ r ∧ Below w.heap.size w w' := by
 have huT := kg
 obtain ⟨a, rfl, h0, h1, rfl⟩ : ∃ a, l0 = [a] ∧ 0 ≤ a1 ∧ a1 ≤ 17592186044416 ∧ r = kz a1.toNat a := by
  unfold slices_Repeat_int_int.f at h; split at h
  ·
   rename_i a; by_cases g0 : 0 ≤ a1
   ·
    rw [if_pos g0] at h; by_cases g1 : a1 ≤ 17592186044416; · rw [if_pos g1] at h; exact ⟨a, rfl, g0, g1, (Option.some.inj h).symm⟩
    · rw [if_neg g1] at h; cases h
   · rw [if_neg g0] at h; cases h
  · cases h
 clear h; have HR0 := kj hr0; clear hr0; have hmul := kj (bits_Mul_one a1 h0 h1); have cw : IntKind.u64.wrap a1 = a1 := by rw [IntKind.wrap_u64]; omega
 have cw1 : IntKind.u64.wrap 1 = 1 := by rw [IntKind.wrap_u64]; omega
 have wid : ∀ x : Int, 0 ≤ x → x ≤ 9223372036854775807 → wrap64 x = x := by intro x g0 g1; unfold wrap64; omega
 have cw2 : wrap64 a1 = a1 := wid a1 h0 (by omega); have WID := kj wid; clear wid; have d0 : decide (a1 < 0) = false := decide_eq_false (by omega); have d1 : decide (9223372036854775807 < a1) = false := decide_eq_false (by omega); have H0 := kj h0; have H1 := kj h1; clear h0 h1; obtain ⟨N, hN⟩ : ∃ N : Nat, a1 = (N : Int) := ⟨a1.toNat, by have := H0.1; omega⟩
 subst hN; have HN := kj (show N ≤ 17592186044416 by have := H1.1; omega); rw [show ((N : Int)).toNat = N by omega]; go_enter Try.func61, Try.ntmps61
 go_wp2_with (first
  | ((with_reducible refine gate_callee (f := 91) rfl ?_); refine goesL_ (some 18) rfl rfl Try.func91 (by kernel_rfl) rfl #[.int .u64 1, .int .u64 (N : Int)] rfl (by (try simp only [List.map_toArray, List.map_cons, List.map_nil]); rfl) ?_; (with_reducible refine (bits_Mul.calls 1 (N : Int) 0 (N : Int) _ hmul.out).mono ?_); rintro e w' ⟨rfl, ⟨nd, rfl⟩⟩; refine ⟨_, rfl, ?_⟩)
  | ((with_reducible refine gate_dst (N := 30) rfl ?_); refine Kd.R_make (Kd.int .i64) (w0 := w) w.heap.size 3 rfl (N := 30) rfl 84 _ _ rfl (N : Int) (by simp [Act.eval, cw2]) (by simp [Act.eval, cw2]) kg (.int .i64 0) 8 info3 rfl (by decide) (by omega) 0 (ok := fun _ => True) (okp := fun _ => True) rfl (fun _ hk => hk) trivial (by omega) (by have := HN.1; omega) (by repeat (first | exact Below.refl _ _ | apply pw_below_drewN)) (by simp) ?_; intro v1 w1 ho hb hg_ hnew_; clear hg_ hnew_; rw [show ((N : Int)).toNat = N by omega] at ho; have HO1 := kj ho; have HB1 := kj hb; clear ho hb)
  | ((with_reducible refine gate_builtin (b := .copy) (xs := #[.tmp 31, .tmp 32]) rfl ?_); refine Kd.R_copy (0 : Int) (w0 := w) w.heap.size rfl (.tmp 31) (.tmp 32) 84 84 3 rfl kg (by kernel_rfl) v1 (kz N 0) [a] A0 1 c0 (fun _ => True) rfl rfl HO1.1 (Kd.C_below HR0.1 HB1.1) HB1.1 (below_size HB1.1) ?_; intro w2 ho hb hg_; clear hg_; have HO2 := kj ho; have HB2 := kj hb; clear ho hb))
 obtain ⟨m0, hm0⟩ : ∃ m : Nat, m = min 1 N := ⟨_, rfl⟩
 have em : List.take (min 1 (kz N (0 : Int)).length) [a] ++ List.drop (min 1 (kz N (0 : Int)).length) (kz N (0 : Int)) = kz m0 a ++ kz (N - m0) 0 := by
  rw [kh, ← hm0, List.drop_replicate]; congr 1; have hc : m0 = 0 ∨ m0 = 1 := by omega
  rcases hc with h | h <;> rw [h] <;> rfl
 have HO3 := kj (em ▸ HO2.1); clear HO2 em HO1 HB1; rw [← hm0]
 have hv : ∃ Ao co, v1 = .slice Ao N co := by
  obtain ⟨Ao, co, e⟩ := Kd.R_slice HO3.1; refine ⟨Ao, co, ?_⟩; rw [e]; congr 1; simp; omega
 obtain ⟨Ao, co, rfl⟩ := hv; have HM0 := kj (show m0 ≤ N ∧ (0 < N → 0 < m0) ∧ N ≤ m0 + N by omega); clear hm0; go_loopg [8] N (fun kq v8 w' => ∃ m : Nat, v8 = .int .i64 (m : Int) ∧ Aside0 (m ≤ N ∧ (0 < N → 0 < m) ∧ N ≤ m + kq) ∧ Aside0 (Kd.R (Kd.int .i64) 3 w' w.heap.size (fun _ => True) (.slice Ao N co) (kz m a ++ kz (N - m) 0)) ∧ Aside0 (Below w.heap.size w w')); case atStart => exact ⟨m0, rfl, HM0, HO3, HB2⟩
 case round =>
  clear cw cw1 cw2; obtain ⟨m, rfl, HM, HO, HB⟩ := hrel; by_cases c : m < N
  ·
   have c0 : decide ((m : Int) < (N : Int)) = true := decide_eq_true (by omega)
   obtain ⟨g, rfl, hcap, hcmax, cells, hbg, hcells, hcsz, htake⟩ : ∃ g, Ao = some ⟨g, 0, none⟩ ∧ N ≤ co ∧ co ≤ maxLen ∧ ∃ cells : Array Value, w.heap.size ≤ g ∧ wr.heap[g]? = some (.cells cells 3 (0, 0)) ∧ cells.size = co ∧ cells.toList.take N = encs (ke .i64) (kz m a ++ kz (N - m) 0) := by
    have hl : (kz m a ++ kz (N - m) (0 : Int)).length = N := by simp; omega
    have ho := Kd.own_of_R (enc := ke .i64) HO.1; rw [hl] at ho; rcases ho.2 with ⟨_, hz⟩ | ⟨g, cap, cur, e, hb, hc, hn, hm, hs, ht⟩
    · omega
    · cases e; exact ⟨g, rfl, hn, hm, cur, hb, hc, by omega, by rw [Nat.mul_one] at ht; exact ht⟩
   have HMX := kj hcmax; clear hcmax; have HCZ := kj hcells; have HTK := kj htake; have HCS := kj hcsz; clear hcells htake hcsz; obtain ⟨q, hq⟩ : ∃ q, q = min m (N - m) := ⟨_, rfl⟩
   have hqm : q ≤ m := by omega
   have hqN : m + q ≤ N := by omega
   have hq1 : 1 ≤ q := by have := HM.1; omega
   have hqs : 0 ≤ (m : Int) + (q : Int) ∧ (m : Int) + (q : Int) ≤ 9223372036854775807 := by have := HN.1; omega
   have HQS := kj hqs; clear hqs
   have hcell : ∀ j, j < q → wr.cell? ⟨g, j, none⟩ = some (.int .i64 a) := by
    intro j hj; refine (blk_cell HCZ.1 j).trans ?_
    have h1 : cells.toList[j]? = some (.int .i64 a) := by
     have h2 : (cells.toList.take N)[j]? = some (.int .i64 a) := by
      rw [HTK.1]; simp only [encs, List.map_append, List.map_replicate]; rw [List.getElem?_append_left (by rw [kh]; omega), List.getElem?_replicate, if_pos (by omega)]
     rw [List.getElem?_take] at h2; rwa [if_pos (by omega)] at h2
    simpa using h1
   have HCL := kj hcell; have hfit : m + q ≤ cells.toList.length := by have := HCS.1; rw [Array.length_toList]; omega
   clear hcell; have pc1 : (m : Int) ≤ (N : Int) := by omega
   have pc2 : ¬ (co = m) := by omega
   have pc3 : 0 ≤ (m : Int) := by omega
   have pc4 : m ≤ co := by omega
   have pc5 : (m : Int) ≤ (co : Int) := by omega
   have pc6 : m ≤ N := by omega
   have pc7 : ¬ ((m : Int) < 0) := by omega
   have pc8 : ¬ (m = N) := by omega
   have c1 : ((m : Int) ≤ (N : Int)) = True := eq_true pc1; have c2 : (co = m) = False := eq_false pc2; have c3 : (0 ≤ (m : Int)) = True := eq_true pc3; have c4 : (m ≤ co) = True := eq_true pc4; have c5 : ((m : Int) ≤ (co : Int)) = True := eq_true pc5; have c6 : (m ≤ N) = True := eq_true pc6; have c7 : ((m : Int) < 0) = False := eq_false pc7; have c8 : (m = N) = False := eq_false pc8; clear pc1 pc2 pc3 pc4 pc5 pc6 pc7 pc8; obtain ⟨cs, hcs⟩ : ∃ cs, cs = encs (ke .i64) (kz q a) := ⟨_, rfl⟩
   have hcl : cs.length = q := by rw [hcs]; simp [encs]
   have hcv : ∀ v ∈ cs, v = .int .i64 a := by
    intro v hv; rw [hcs] at hv; simp [encs] at hv; exact hv.2
   have HCS2 := kj hcs; have HCV := kj hcv; have HQ := kj hq; clear hcs hcv hq; have wq : wrap64 ((m : Int) + (q : Int)) = ((m + q : Nat) : Int) := (WID.1 _ HQS.1.1 HQS.1.2).trans (Int.natCast_add m q).symm; have HBd := kj (show Below w.heap.size w wr.drew from below_drew1 HB.1); have HCZd := kj (show wr.drew.heap[g]? = some (.cells cells 3 (0, 0)) from blk_drew HCZ.1); have HCLd := kj (show ∀ j, j < q → wr.drew.cell? ⟨g, j, none⟩ = some (.int .i64 a) from fun j hj => HCL.1 j hj); go_wp2; refine start_ (n := 10) (S := fun _ => True) (ds := []) #[kd,kd,kd,kd,kd,kd,kd,kd,kd,kd] (by kernel_rfl) rfl rfl trivial (fun hHeld => ?_); generalize wr.drew = w5 at HBd HCZd HCLd hHeld ⊢; refine zc (i := 0) (N := some 38) (v := ?_) (a' := ?_) #[kb,kd,kd,kd,kd,kd,kd,kd,kd,kd] rfl rfl (by kernel_rfl) (fun _ _ _ h => h) (Or.inl ⟨by rfl, ?_⟩) ?_ ?_; rotate_left; · intro w'; go_simp; with_reducible rfl
   rotate_left; · simp only [kf, ky, kk, kv, za, zb]; rfl
   refine zc (i := 1) (N := some 39) (v := ?_) (a' := ?_) #[kb,kb,kd,kd,kd,kd,kd,kd,kd,kd] rfl rfl (by kernel_rfl) (fun _ _ _ h => h) (Or.inl ⟨by rfl, ?_⟩) ?_ ?_; rotate_left; · intro w'; go_simp; with_reducible rfl
   rotate_left; · simp only [kf, ky, kk, kv, za, zb]; rfl
   refine zc (i := 2) (N := some 40) (v := ?_) (a' := ?_) #[kb,kb,kb,kd,kd,kd,kd,kd,kd,kd] rfl rfl (by kernel_rfl) (fun _ _ _ h => h) (Or.inl ⟨by rfl, ?_⟩) ?_ ?_; rotate_left; · intro w'; go_simp; with_reducible rfl
   rotate_left; · simp only [kf, ky, kk, kv, za, zb]; rfl
   refine zc (i := 4) (N := some 42) (v := ?_) (a' := ?_) #[kb,kb,kb,kd,kb,kd,kd,kd,kd,kd] rfl rfl (by kernel_rfl) (fun _ _ _ h => h) (Or.inl ⟨by rfl, ?_⟩) ?_ ?_; rotate_left; · intro w'; go_simp; with_reducible rfl
   rotate_left; · simp only [kf, ky, kk, kv, za, zb]; rfl
   refine zc (i := 5) (N := some 43) (v := ?_) (a' := ?_) #[kb,kb,kb,kd,kb,kb,kd,kd,kd,kd] rfl rfl (by kernel_rfl) (fun _ _ _ h => h) (Or.inl ⟨by rfl, ?_⟩) ?_ ?_; rotate_left; · intro w'; go_simp; with_reducible rfl
   rotate_left; · simp only [kf, ky, kk, kv, za, zb]; rfl
   refine zc (i := 3) (N := some 41) (v := ?_) (a' := ?_) #[kb,kb,kb,kb,kb,kb,kd,kd,kd,kd] rfl rfl (by kernel_rfl) (fun _ _ _ h => h) (Or.inl ⟨by rfl, ?_⟩) ?_ ?_; rotate_left; · intro w'; go_simp; with_reducible rfl
   rotate_left; · simp only [kf, ky, kk, kv, za, zb]; rfl
   refine zc (i := 6) (N := some 44) (v := ?_) (a' := ?_) #[kb,kb,kb,kb,kb,kb,kb,kd,kd,kd] rfl rfl (by kernel_rfl) (fun _ _ _ h => h) (Or.inl ⟨by rfl, ?_⟩) ?_ ?_; rotate_left; · intro w'; go_simp; with_reducible rfl
   rotate_left; · simp only [kf, ky, kk, kv, za, zb]; rfl
   refine one_ (i := 7) (N := some 45) #[kb,kb,kb,kb,kb,kb,kb,kb,kd,kd] rfl rfl (by kernel_rfl) (by decide) (fun K hK => ?_)
   refine step_copy_splice rfl (.tmp 41) (.tmp 44) 84 84 rfl 3 kg (by kernel_rfl) (some ⟨g, m, none⟩) (some ⟨g, 0, none⟩) (N - m) (co - m) m co rfl rfl g m cells.toList 3 (by simpa using HCZd.1) cs (by rw [hcl]; exact HQ.1) (fun _ => ⟨rfl, _, rfl, fun j v hj => by
     have hj2 : j < q := by rw [← hcl]; exact (List.getElem?_eq_some_iff.1 hj).1
     have hv : v = .int .i64 a := HCV.1 v (List.mem_of_getElem? hj); rw [hv]; have h3 := HCLd.1 j hj2; rw [Addr.add_lit, Nat.zero_add]; exact h3⟩) (by rw [hcl]; exact hfit) (fun v hv => by rw [HCV.1 v hv]; rfl) w.heap.size w HBd.1 hbg ?_
   intro w4 hg4 hb4; have HG4 := kj hg4.out; have HB4 := kj hb4; clear hg4 hb4; refine hK.out _ _ trivial (fun hHeld => ?_); clear hK K; refine norm_ (a' := ?_) ?_ ?_; rotate_left
   ·
    show kf _ (some 45) _ = _
    simp only [kf, ky, kk, kv, za, zb]; rfl
   refine zc (i := 8) (N := some 46) (v := ?_) (a' := ?_) #[kb,kb,kb,kb,kb,kb,kb,kb,kb,kd] rfl rfl (by kernel_rfl) (fun _ _ _ h => h) (Or.inl ⟨by rfl, ?_⟩) ?_ ?_; rotate_left; · intro w'; go_simp; with_reducible rfl
   rotate_left; · simp only [kf, ky, kk, kv, za, zb]; rfl
   refine zc (i := 9) (N := some 8) (v := ?_) (a' := ?_) #[kb,kb,kb,kb,kb,kb,kb,kb,kb,kb] rfl rfl (by kernel_rfl) (fun _ _ _ h => h) (Or.inl ⟨by rfl, ?_⟩) ?_ ?_; rotate_left; · intro w'; go_simp; with_reducible rfl
   rotate_left; · simp only [kf, ky, kk, kv, za, zb]; rfl
   refine done_ (by kernel_rfl) ?_; clear wq c1 c2 c3 c4 c5 c6 c7 c8
   have HOn : Aside0 (Kd.R (Kd.int .i64) 3 w4 w.heap.size (fun _ => True) (.slice (some ⟨g, 0, none⟩) N co) (kz (m + q) a ++ kz (N - (m + q)) 0)) := by
    refine ⟨?_⟩; have hl : (kz (m + q) a ++ kz (N - (m + q)) (0 : Int)).length = N := by simp; omega
    refine Kd.R_of_own (enc := ke .i64) ?_ (fun _ _ => trivial); rw [hl]; refine ⟨by simp [encs]; omega, .inr ⟨g, co, _, rfl, hbg, HG4.1, hcap, HMX.1, ?_, ?_⟩⟩; · have := length_splice cells.toList m cs (by rw [hcl]; exact hfit); simp only [List.size_toArray]; rw [this, Array.length_toList, HCS.1]; omega
    ·
     have h1 := HTK.1; simp only [encs, List.map_append, List.map_replicate] at h1 ⊢; rw [HCS2.1]; simp only [encs, List.map_replicate]; simp only [splice, Nat.mul_one]
     have ht : cells.toList.take m = kz m (ke .i64 a) := by
      have := congrArg (List.take m) h1; rw [List.take_take, Nat.min_eq_left (by omega), List.take_append_of_le_length (by simp), List.take_replicate, Nat.min_self] at this; exact this
     have hd : (cells.toList.drop (m + q)).take (N - (m + q)) = kz (N - (m + q)) (ke .i64 0) := by
      have := congrArg (List.drop (m + q)) h1; rw [List.drop_take] at this; rw [this, List.drop_append, kh, List.drop_eq_nil_of_le (by simp; try omega), List.drop_replicate, List.nil_append]; (congr 1; omega)
     rw [ht, kh, ← List.append_assoc, List.take_append, List.length_append, kh, kh, hd, List.take_of_length_le (by simp; omega), List.replicate_append_replicate]
   cases gk with
   | zero => exact absurd HM.1 (by omega)
   | succ k1 =>
    try go_wp2
    go_roundg k1; case measure => omega
    case rel => exact ⟨m + q, rfl, ⟨by have := HM.1; omega⟩, HOn, HB4⟩
  ·
   have c0 : decide ((m : Int) < (N : Int)) = false := decide_eq_false (by omega); have e : m = N := by have := HM.1; omega
   subst e; go_wp2; go_ret; exact ⟨_, rfl, by have := HO.1; simpa using this, HB.1⟩

end Go.Proofs.Ytakoaogbkajkcaa.PFnExactRemoveFrom
