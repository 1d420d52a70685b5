/- Go functions told by Lean functions, printed by a program. No condition but what each statement says. -/
import Derived.Test.YtakoaogbkajkcaaYFnTrieStepsx11
namespace Go.Proofs.Ytakoaogbkajkcaa.PFnTrieSteps
open Go.RowKit Go.Proofs.YtakoaogbkajkcaaW.PrintWords Go.Proofs.YtakoaogbkajkcaaW.PrintLast Go.Proofs.YtakoaogbkajkcaaW.PrintMore
open Aside0 renaming mk → kz
open List renaming setIfInBounds_toArray → ky, set_cons_zero → kj, set_cons_succ → kk, map_toArray → kf, map_cons → kb, map_nil → kc
open Option renaming bind_eq_some_iff → kv
open Act renaming put → kh
open Option.some renaming inj → kg
open World renaming drewN_drewN → ke
open Bool renaming eq_false_iff → kd, true → ks, false → kt
open Try renaming underlying32 → ko, prog → km
open Nat renaming le_refl → kx
open Int renaming tmod → ku
set_option maxHeartbeats 8000000
set_option maxRecDepth 100000
open Go.Proofs.YtakoaogbkajkcaaW.PrintLast renaming i64_w → zo, i32_w → zp
open Go.Proofs.YtakoaogbkajkcaaW.PrintWords renaming pw_below_drewN → za, below_drew1 → zb, blk_cell → zd, blk_frozen → ze, below_size → zf, below_step → zh, blk_drew → zk, box_event → zl, gate_dst → zm, blk_below → zn
attribute [local go_sem] max2_int min2_int max_two min_two max_three min_three max_four min_four
set_option linter.unusedVariables false
set_option linter.unusedSimpArgs false
/-! ### spec_InsertIn: function 33 -/
def spec_InsertIn.j0 : Nat → List (S86) → Int → Bool → Int → Int → Option ((List (S86)) × Bool)
 | 0, _, _, _, _, _ => none
 | k + 1, x0, x2, x16, x232000, x232001 => if x16 = true then (some (([] : List (S86)), false)) else ((some (([] : List (S86)) : List (S86))).bind fun y234 => (if y234.length + x0.length < 4398046511104 then ((spec_l2Insert.f k (y234 ++ x0) x232000 x232001 x2).bind fun t240 => ((spec_GoodTrie.f k t240).bind fun t243 => (if t243 = true then (some (t240, true)) else (some (([] : List (S86)), false))))) else (none)))
def spec_InsertIn.f (k : Nat) (l0 : List (S86)) (a1_0 : Int) (a1_1 : Int) (a2 : Int) : Option ((List (S86)) × Bool) := (spec_GoodTrie.f k l0).bind fun t232 => (if t232 = true then ((spec_GoodPrefix.f a1_0 a1_1).bind fun t233 => (spec_InsertIn.j0 k l0 a2 (!t233) a1_0 a1_1)) else (spec_InsertIn.j0 k l0 a2 true a1_0 a1_1))
theorem spec_InsertIn.calls (k : Nat) (A0 : Option Addr) (c0 : Nat) (l0 : List (S86)) (a1_0 : Int) (a1_1 : Int) (a2 : Int) (r1 : List (S86)) (r2 : Bool) (w : World) (hr0 : Kd.C k86 w A0 l0.length l0) (hc0 : l0.length ≤ c0) (h : spec_InsertIn.f k l0 a1_0 a1_1 a2 = some (r1, r2)) :
  Calls km 33 #[.slice A0 l0.length c0, .agg #[.int .i64 a1_0, .int .i64 a1_1], .int .i64 a2] w fun e w' => ∃ v0_ : Value, e = .returned (.tuple #[v0_, .bool r2]) ∧ Kd.R k86 86 w' w.heap.size (fun _ => True) v0_ r1 ∧ Below w.heap.size w w' := by
 have hu37 := Try.underlying37
 have HR0 := kz hr0
 have HC0 := kz hc0
 clear hr0 hc0
 have HB := kz (Below.refl w.heap.size w)
 have H : ((spec_GoodTrie.f k l0).bind fun t232 => (if t232 = true then ((spec_GoodPrefix.f a1_0 a1_1).bind fun t233 => (spec_InsertIn.j0 k l0 a2 (!t233) a1_0 a1_1)) else (spec_InsertIn.j0 k l0 a2 true a1_0 a1_1))) = some (r1, r2) := h
 clear h
 have HC4 := kz H
 clear H
 go_enter Try.func33, Try.ntmps33
 go_upto_region 1 with (((with_reducible refine zm (N := 4) rfl ?_); refine zl rfl (N := 4) rfl (cs := #[.int .i64 a1_0, .int .i64 a1_1]) (t := 37) ?hr ?_; (case hr => go_simp; done); intro gb231 hg w5 hbox hb; replace HB := kz (zh HB.1 hb); have zq := kz hbox; clear hb hbox hg))
 (try simp only [kh, ky, kj, kk])
 go_cut [16] (fun v16 wc => ∃ (kq : Nat) (x16_3 : Bool), v16 = .bool x16_3 ∧ Aside0 (spec_InsertIn.j0 kq l0 a2 x16_3 a1_0 a1_1 = some (r1, r2)) ∧ Aside0 (kq ≤ k) ∧ Aside0 (wc.heap[gb231]? = some (.cells #[.int .i64 a1_0, .int .i64 a1_1] 37 (0, 0))) ∧ Aside0 (Below w.heap.size w wc))
 case first =>
  have H := HC4.1
  clear HC4
  replace H := kv.mp H
  obtain ⟨t232, A60, H⟩ := H
  replace H : (if t232 = true then ((spec_GoodPrefix.f a1_0 a1_1).bind fun t233 => (spec_InsertIn.j0 k l0 a2 (!t233) a1_0 a1_1)) else (spec_InsertIn.j0 k l0 a2 true a1_0 a1_1)) = some (r1, r2) := H
  have A6 := kz A60
  clear A60
  by_cases c7 : t232 = true
  ·
   subst c7
   have H1 : ((spec_GoodPrefix.f a1_0 a1_1).bind fun t233 => (spec_InsertIn.j0 k l0 a2 (!t233) a1_0 a1_1)) = some (r1, r2) := by rw [if_pos rfl] at H; exact H
   clear H
   have H := H1
   clear H1
   replace H := kv.mp H
   obtain ⟨t233, A80, H⟩ := H
   replace H : (spec_InsertIn.j0 k l0 a2 (!t233) a1_0 a1_1) = some (r1, r2) := H
   have A8 := kz A80
   clear A80
   have H' := kz H
   clear H
   go_wp2_with (first | ((with_reducible refine gate_callee (f := 19) rfl ?_); refine goesL_ (some 10) rfl rfl Try.func19 (by kernel_rfl) rfl #[.slice A0 l0.length c0] rfl (by (try simp only [kf, kb, kc]); rfl) ?_; (with_reducible refine (spec_GoodTrie.calls k _ _ l0 true _ ?side1 ?side2 A6.1).mono ?_); (case side1 => repeat (exact (Kd.C_below HR0.1 HB.1))); (case side2 => exact HC0.1); rintro e w9 ⟨rfl, hb⟩; refine ⟨_, rfl, ?_⟩; replace zq := kz (zn zq.1 hb); replace HB := kz (zh HB.1 hb); have hcz10_0 : w9.cell? ⟨gb231, 0, none⟩ = some (.int .i64 a1_0) := (zd zq.1 0).trans rfl; have hcz10_1 : w9.cell? ⟨gb231, 1, none⟩ = some (.int .i64 a1_1) := (zd zq.1 1).trans rfl; have hfz10_0 := ze zq.1 0; have hfz10_1 := ze zq.1 1) | (go_at_call 49; (with_reducible refine (spec_GoodPrefix.calls a1_0 a1_1 t233 _ A8.1).mono ?_); rintro e w11 ⟨rfl, hb⟩; replace zq := kz (zn zq.1 hb); replace HB := kz (zh HB.1 hb)))
   go_meet
   case rel => exact ⟨_, (!t233), (by rfl), H', ⟨by omega⟩, ⟨by exact zq.1⟩, ⟨by exact HB.1⟩⟩
  ·
   replace c7 := kd.mpr c7
   subst c7
   have H1 : (spec_InsertIn.j0 k l0 a2 true a1_0 a1_1) = some (r1, r2) := by rw [if_neg (show ¬ (false = true) by decide)] at H; exact H
   clear H
   have H := H1
   clear H1
   have H' := kz H
   clear H
   go_wp2_with (((with_reducible refine gate_callee (f := 19) rfl ?_); refine goesL_ (some 10) rfl rfl Try.func19 (by kernel_rfl) rfl #[.slice A0 l0.length c0] rfl (by (try simp only [kf, kb, kc]); rfl) ?_; (with_reducible refine (spec_GoodTrie.calls k _ _ l0 false _ ?side1 ?side2 A6.1).mono ?_); (case side1 => repeat (exact (Kd.C_below HR0.1 HB.1))); (case side2 => exact HC0.1); rintro e w12 ⟨rfl, hb⟩; refine ⟨_, rfl, ?_⟩; replace zq := kz (zn zq.1 hb); replace HB := kz (zh HB.1 hb)))
   go_meet
   case rel => exact ⟨_, (true), (by rfl), H', ⟨by omega⟩, ⟨by exact zq.1⟩, ⟨by exact HB.1⟩⟩
 case rest =>
  clear HC4
  obtain ⟨kq, x16_3, rfl, HA, HJ3, zq, HB⟩ := hcut
  cases kq with
  | zero => exact absurd HA.1 (by simp [spec_InsertIn.j0])
  | succ kj3 =>
   have H := HA.1
   clear HA
   simp only [spec_InsertIn.j0] at H
   by_cases c13 : x16_3 = true
   ·
    subst c13
    have H1 : (some (([] : List (S86)), false)) = some (r1, r2) := by rw [if_pos rfl] at H; exact H
    clear H
    have H := H1
    clear H1
    simp only [Option.some.injEq, Prod.mk.injEq] at H
    obtain ⟨rfl, rfl⟩ := H
    go_wp2
    go_ret2
    exact ⟨_, by rfl, by exact Kd.R_nil _ _ _ _ _, by exact HB.1⟩
   ·
    replace c13 := kd.mpr c13
    subst c13
    have H1 : ((some (([] : List (S86)) : List (S86))).bind fun y234 => (if y234.length + l0.length < 4398046511104 then ((spec_l2Insert.f kj3 (y234 ++ l0) a1_0 a1_1 a2).bind fun t240 => ((spec_GoodTrie.f kj3 t240).bind fun t243 => (if t243 = true then (some (t240, true)) else (some (([] : List (S86)), false))))) else (none))) = some (r1, r2) := by rw [if_neg (show ¬ (false = true) by decide)] at H; exact H
    clear H
    have H := H1
    clear H1
    obtain ⟨y234, hy234⟩ : ∃ y_ : List (S86), y_ = (([] : List (S86))) := ⟨_, rfl⟩
    replace H : (if y234.length + l0.length < 4398046511104 then ((spec_l2Insert.f kj3 (y234 ++ l0) a1_0 a1_1 a2).bind fun t240 => ((spec_GoodTrie.f kj3 t240).bind fun t243 => (if t243 = true then (some (t240, true)) else (some (([] : List (S86)), false))))) else (none)) = some (r1, r2) := by (have H2_ := (Option.bind_some _ _).symm.trans H; rw [hy234]; with_reducible exact H2_)
    have Ny234 := kz hy234
    clear hy234
    by_cases c14 : y234.length + l0.length < 4398046511104
    ·
     rw [if_pos c14] at H
     have LMc14 := kz c14
     clear c14
     obtain ⟨y237, hy237⟩ : ∃ y_ : List (S86), y_ = (y234 ++ l0) := ⟨_, rfl⟩
     replace H : ((spec_l2Insert.f kj3 y237 a1_0 a1_1 a2).bind fun t240 => ((spec_GoodTrie.f kj3 t240).bind fun t243 => (if t243 = true then (some (t240, true)) else (some (([] : List (S86)), false))))) = some (r1, r2) := by (rw [hy237]; with_reducible exact H)
     have Ny237 := kz hy237
     clear hy237
     replace H := kv.mp H
     obtain ⟨t240, A150, H⟩ := H
     replace H : ((spec_GoodTrie.f kj3 t240).bind fun t243 => (if t243 = true then (some (t240, true)) else (some (([] : List (S86)), false)))) = some (r1, r2) := H
     have A15 := kz A150
     clear A150
     replace H := kv.mp H
     obtain ⟨t243, A160, H⟩ := H
     replace H : (if t243 = true then (some (t240, true)) else (some (([] : List (S86)), false))) = some (r1, r2) := H
     have A16 := kz A160
     clear A160
     by_cases c17 : t243 = true
     ·
      subst c17
      have H1 : (some (t240, true)) = some (r1, r2) := by rw [if_pos rfl] at H; exact H
      clear H
      have H := H1
      clear H1
      simp only [Option.some.injEq, Prod.mk.injEq] at H
      obtain ⟨rfl, rfl⟩ := H
      try go_wp2
      replace zq := kz (zk zq.1)
      replace HB := kz (zb HB.1)
      refine start_ (n := 7) (S := fun w' => w'.cell? ⟨gb231, 0, none⟩ = some (.int .i64 a1_0) ∧ w'.cell? ⟨gb231, 1, none⟩ = some (.int .i64 a1_1)) (ds := []) #[kt,kt,kt,kt,kt,kt,kt] (by kernel_rfl) rfl rfl ⟨(zd zq.1 0).trans rfl, (zd zq.1 1).trans rfl⟩ (fun hHeld => ?_)
      generalize wc.drew = w18 at zq HB hHeld ⊢
      refine pure_ (i := 1) (N := some 18) (v := ?_) (a' := ?_) #[kt,ks,kt,kt,kt,kt,kt] rfl rfl (by kernel_rfl) (fun _ _ _ h => h) (Or.inl ⟨by rfl, ?_⟩) ?_ ?_
      rotate_left
      ·
       intro w'
       go_simp
       with_reducible rfl
      rotate_left
      ·
       simp only [kh, ky, kj, kk, zo, zp]
       rfl
      refine pure_ (i := 4) (N := some 21) (v := ?_) (a' := ?_) #[kt,ks,kt,kt,ks,kt,kt] rfl rfl (by kernel_rfl) (fun _ _ _ h => h) (Or.inl ⟨by rfl, ?_⟩) ?_ ?_
      rotate_left
      ·
       intro w'
       go_simp
       with_reducible rfl
      rotate_left
      ·
       simp only [kh, ky, kj, kk, zo, zp]
       rfl
      refine take_ (i := 3) (N := some 20) (v := ?_) (a' := ?_) #[kt,ks,kt,ks,ks,kt,kt] rfl rfl (by kernel_rfl) (fun _ _ _ h => h) (Or.inl ⟨by rfl, ?_⟩) hHeld ?_ ?_
      rotate_left
      ·
       rintro w' ⟨s0, s1⟩
       go_simp
       with_reducible rfl
      rotate_left
      ·
       simp only [kh, ky, kj, kk, zo, zp]
       rfl
      refine one_ (i := 0) (N := some 17) #[ks,ks,kt,ks,ks,kt,kt] rfl rfl (by kernel_rfl) (by decide) (fun K hK => ?_)
      refine Kd.R_lit_step k86 _ 86 rfl (N := 17) rfl (xs := ([] : List (S86))) (inner := []) (ok := fun _ => True) (okp := fun _ => True) ?hr ?hp (fun _ hk => hk) trivial (Below.refl _ _) (kx _) (by simp) ?_; (case hr => go_simp; done); (case hp => exact (Reps.none _ _))
      intro v235 w19 ho20 hb hg_ hnew_
      clear hg_ hnew_
      (rw [← Ny234.1] at ho20)
      have zy := kz (Kd.R_lower ho20 (zf HB.1))
      replace zq := kz (zn zq.1 hb)
      replace HB := kz (zh HB.1 hb)
      clear hb ho20
      refine hK.out _ _ ⟨(zd zq.1 0).trans rfl, (zd zq.1 1).trans rfl⟩ (fun hHeld => ?_)
      clear hK K
      refine norm_ (a' := ?_) ?_ ?_
      rotate_left
      ·
       show kh _ (some 17) _ = _
       simp only [kh, ky, kj, kk, zo, zp]
       rfl
      refine one_ (i := 2) (N := some 19) #[ks,ks,ks,ks,ks,kt,kt] rfl rfl (by kernel_rfl) (by decide) (fun K hK => ?_)
      refine Kd.R_append_rows_step k86 (w0 := w) w.heap.size (by rfl) (.tmp 17) (.tmp 18) 32 86 (.agg #[(.int .i64 0), (.int .i64 0), (.bool false), (.int .i64 0)]) 32 rfl ko info86 rfl (by decide) (by omega) v235 y234 l0 _ _ _ (fun _ => True) (fun _ => False) rfl rfl ?aO ?aR (fun _ _ h => h) (fun _ h => h.elim) ?aF ?aB ?aS ?aL ?_
      (case aR => repeat (exact (Kd.C_below HR0.1 HB.1)))
      (case aB => exact HB.1)
      (case aF => exact (fun _ _ => trivial))
      (case aO => exact zy.1)
      (case aS => exact (zf HB.1))
      (case aL => have := LMc14.1; omega)
      intro v238 w21 ho hb hg hat
      rw [← Ny237.1] at ho
      replace zq := kz (blk_grown zq.1 hg (Kd.R_ne zy.1 zq.1 (by decide)))
      replace HB := kz hb
      have zw := kz ho
      clear ho hb hg hat
      obtain ⟨Ao22, co22, eo22⟩ := Kd.R_slice zw.1
      (subst eo22)
      refine hK.out _ _ ⟨(zd zq.1 0).trans rfl, (zd zq.1 1).trans rfl⟩ (fun hHeld => ?_)
      clear hK K
      refine norm_ (a' := ?_) ?_ ?_
      rotate_left
      ·
       show kh _ (some 19) _ = _
       simp only [kh, ky, kj, kk, zo, zp]
       rfl
      refine one_ (i := 5) (N := some 22) #[ks,ks,ks,ks,ks,ks,kt] rfl rfl (by kernel_rfl) (by decide) (fun K hK => ?_)
      refine goes_ Try.func74 (by kernel_rfl) rfl #[.slice Ao22 y237.length co22, .agg #[.int .i64 a1_0, .int .i64 a1_1], .int .i64 a2] (by rfl) rfl rfl (by (try simp only [kf, kb, kc]); rfl) ?_
      with_reducible refine (spec_l2Insert.calls kj3 (fun k_ => some k_ = (.slice Ao22 y237.length co22 : Value).ownBlock) (.slice Ao22 y237.length co22) y237 a1_0 a1_1 a2 t240 w _ ?side1 ?side2 A15.1).mono ?_
      (case side1 => repeat (with_reducible exact HB.1))
      (case side2 => exact Kd.R_tight rfl zw.1)
      rintro e w23 ⟨v241, rfl, ho0, hb, hkp⟩
      refine ⟨_, rfl, ?_⟩
      replace zq := kz (blk_kept zq.1 hkp (fun hs_ => (fun e_ => (Kd.R_ne zw.1 zq.1 (by decide)) e_) hs_))
      have zu := kz (Kd.R_mono (ok' := fun k_ => True) ho0 (fun k_ hk_ => trivial))
      replace HB := kz hb
      refine hK.out _ _ ⟨(zd zq.1 0).trans rfl, (zd zq.1 1).trans rfl⟩ (fun hHeld => ?_)
      clear hK K
      refine norm_ (a' := ?_) ?_ ?_
      rotate_left
      ·
       show kh _ (some 22) _ = _
       simp only [kh, ky, kj, kk, zo, zp]
       rfl
      refine pure_ (i := 6) (N := some 8) (v := ?_) (a' := ?_) #[ks,ks,ks,ks,ks,ks,ks] rfl rfl (by kernel_rfl) (fun _ _ _ h => h) (Or.inl ⟨by rfl, ?_⟩) ?_ ?_
      rotate_left
      ·
       intro w'
       go_simp
       with_reducible rfl
      rotate_left
      ·
       simp only [kh, ky, kj, kk, zo, zp]
       rfl
      refine done_ (by kernel_rfl) ?_
      obtain ⟨Ao24, co24, eo24⟩ := Kd.R_slice zu.1
      subst eo24
      try go_wp2_with (((with_reducible refine gate_callee (f := 19) rfl ?_); refine goesL_ (some 24) rfl rfl Try.func19 (by kernel_rfl) rfl #[.slice Ao24 t240.length co24] rfl (by (try simp only [kf, kb, kc]); rfl) ?_; (with_reducible refine (spec_GoodTrie.calls kj3 _ _ t240 true _ ?side1 ?side2 A16.1).mono ?_); (case side1 => repeat (exact (Kd.R_reads' zu.1).2.2)); (case side2 => exact (Kd.R_reads' zu.1).2.1); rintro e w25 ⟨rfl, hb⟩; refine ⟨_, rfl, ?_⟩; replace zu := kz (Kd.R_below zu.1 hb); replace zq := kz (zn zq.1 hb); replace HB := kz (zh HB.1 hb)))
      go_ret2
      exact ⟨_, by rfl, by exact zu.1, by exact HB.1⟩
     ·
      replace c17 := kd.mpr c17
      subst c17
      have H1 : (some (([] : List (S86)), false)) = some (r1, r2) := by rw [if_neg (show ¬ (false = true) by decide)] at H; exact H
      clear H
      have H := H1
      clear H1
      simp only [Option.some.injEq, Prod.mk.injEq] at H
      obtain ⟨rfl, rfl⟩ := H
      try go_wp2
      replace zq := kz (zk zq.1)
      replace HB := kz (zb HB.1)
      refine start_ (n := 7) (S := fun w' => w'.cell? ⟨gb231, 0, none⟩ = some (.int .i64 a1_0) ∧ w'.cell? ⟨gb231, 1, none⟩ = some (.int .i64 a1_1)) (ds := []) #[kt,kt,kt,kt,kt,kt,kt] (by kernel_rfl) rfl rfl ⟨(zd zq.1 0).trans rfl, (zd zq.1 1).trans rfl⟩ (fun hHeld => ?_)
      generalize wc.drew = w26 at zq HB hHeld ⊢
      refine pure_ (i := 1) (N := some 18) (v := ?_) (a' := ?_) #[kt,ks,kt,kt,kt,kt,kt] rfl rfl (by kernel_rfl) (fun _ _ _ h => h) (Or.inl ⟨by rfl, ?_⟩) ?_ ?_
      rotate_left
      ·
       intro w'
       go_simp
       with_reducible rfl
      rotate_left
      ·
       simp only [kh, ky, kj, kk, zo, zp]
       rfl
      refine pure_ (i := 4) (N := some 21) (v := ?_) (a' := ?_) #[kt,ks,kt,kt,ks,kt,kt] rfl rfl (by kernel_rfl) (fun _ _ _ h => h) (Or.inl ⟨by rfl, ?_⟩) ?_ ?_
      rotate_left
      ·
       intro w'
       go_simp
       with_reducible rfl
      rotate_left
      ·
       simp only [kh, ky, kj, kk, zo, zp]
       rfl
      refine take_ (i := 3) (N := some 20) (v := ?_) (a' := ?_) #[kt,ks,kt,ks,ks,kt,kt] rfl rfl (by kernel_rfl) (fun _ _ _ h => h) (Or.inl ⟨by rfl, ?_⟩) hHeld ?_ ?_
      rotate_left
      ·
       rintro w' ⟨s0, s1⟩
       go_simp
       with_reducible rfl
      rotate_left
      ·
       simp only [kh, ky, kj, kk, zo, zp]
       rfl
      refine one_ (i := 0) (N := some 17) #[ks,ks,kt,ks,ks,kt,kt] rfl rfl (by kernel_rfl) (by decide) (fun K hK => ?_)
      refine Kd.R_lit_step k86 _ 86 rfl (N := 17) rfl (xs := ([] : List (S86))) (inner := []) (ok := fun _ => True) (okp := fun _ => True) ?hr ?hp (fun _ hk => hk) trivial (Below.refl _ _) (kx _) (by simp) ?_; (case hr => go_simp; done); (case hp => exact (Reps.none _ _))
      intro v235 w27 ho28 hb hg_ hnew_
      clear hg_ hnew_
      (rw [← Ny234.1] at ho28)
      have zy := kz (Kd.R_lower ho28 (zf HB.1))
      replace zq := kz (zn zq.1 hb)
      replace HB := kz (zh HB.1 hb)
      clear hb ho28
      refine hK.out _ _ ⟨(zd zq.1 0).trans rfl, (zd zq.1 1).trans rfl⟩ (fun hHeld => ?_)
      clear hK K
      refine norm_ (a' := ?_) ?_ ?_
      rotate_left
      ·
       show kh _ (some 17) _ = _
       simp only [kh, ky, kj, kk, zo, zp]
       rfl
      refine one_ (i := 2) (N := some 19) #[ks,ks,ks,ks,ks,kt,kt] rfl rfl (by kernel_rfl) (by decide) (fun K hK => ?_)
      refine Kd.R_append_rows_step k86 (w0 := w) w.heap.size (by rfl) (.tmp 17) (.tmp 18) 32 86 (.agg #[(.int .i64 0), (.int .i64 0), (.bool false), (.int .i64 0)]) 32 rfl ko info86 rfl (by decide) (by omega) v235 y234 l0 _ _ _ (fun _ => True) (fun _ => False) rfl rfl ?aO ?aR (fun _ _ h => h) (fun _ h => h.elim) ?aF ?aB ?aS ?aL ?_
      (case aR => repeat (exact (Kd.C_below HR0.1 HB.1)))
      (case aB => exact HB.1)
      (case aF => exact (fun _ _ => trivial))
      (case aO => exact zy.1)
      (case aS => exact (zf HB.1))
      (case aL => have := LMc14.1; omega)
      intro v238 w29 ho hb hg hat
      rw [← Ny237.1] at ho
      replace zq := kz (blk_grown zq.1 hg (Kd.R_ne zy.1 zq.1 (by decide)))
      replace HB := kz hb
      have zw := kz ho
      clear ho hb hg hat
      obtain ⟨Ao30, co30, eo30⟩ := Kd.R_slice zw.1
      (subst eo30)
      refine hK.out _ _ ⟨(zd zq.1 0).trans rfl, (zd zq.1 1).trans rfl⟩ (fun hHeld => ?_)
      clear hK K
      refine norm_ (a' := ?_) ?_ ?_
      rotate_left
      ·
       show kh _ (some 19) _ = _
       simp only [kh, ky, kj, kk, zo, zp]
       rfl
      refine one_ (i := 5) (N := some 22) #[ks,ks,ks,ks,ks,ks,kt] rfl rfl (by kernel_rfl) (by decide) (fun K hK => ?_)
      refine goes_ Try.func74 (by kernel_rfl) rfl #[.slice Ao30 y237.length co30, .agg #[.int .i64 a1_0, .int .i64 a1_1], .int .i64 a2] (by rfl) rfl rfl (by (try simp only [kf, kb, kc]); rfl) ?_
      with_reducible refine (spec_l2Insert.calls kj3 (fun k_ => some k_ = (.slice Ao30 y237.length co30 : Value).ownBlock) (.slice Ao30 y237.length co30) y237 a1_0 a1_1 a2 t240 w _ ?side1 ?side2 A15.1).mono ?_
      (case side1 => repeat (with_reducible exact HB.1))
      (case side2 => exact Kd.R_tight rfl zw.1)
      rintro e w31 ⟨v241, rfl, ho0, hb, hkp⟩
      refine ⟨_, rfl, ?_⟩
      replace zq := kz (blk_kept zq.1 hkp (fun hs_ => (fun e_ => (Kd.R_ne zw.1 zq.1 (by decide)) e_) hs_))
      have zu := kz (Kd.R_mono (ok' := fun k_ => True) ho0 (fun k_ hk_ => trivial))
      replace HB := kz hb
      refine hK.out _ _ ⟨(zd zq.1 0).trans rfl, (zd zq.1 1).trans rfl⟩ (fun hHeld => ?_)
      clear hK K
      refine norm_ (a' := ?_) ?_ ?_
      rotate_left
      ·
       show kh _ (some 22) _ = _
       simp only [kh, ky, kj, kk, zo, zp]
       rfl
      refine pure_ (i := 6) (N := some 8) (v := ?_) (a' := ?_) #[ks,ks,ks,ks,ks,ks,ks] rfl rfl (by kernel_rfl) (fun _ _ _ h => h) (Or.inl ⟨by rfl, ?_⟩) ?_ ?_
      rotate_left
      ·
       intro w'
       go_simp
       with_reducible rfl
      rotate_left
      ·
       simp only [kh, ky, kj, kk, zo, zp]
       rfl
      refine done_ (by kernel_rfl) ?_
      obtain ⟨Ao32, co32, eo32⟩ := Kd.R_slice zu.1
      subst eo32
      try go_wp2_with (((with_reducible refine gate_callee (f := 19) rfl ?_); refine goesL_ (some 24) rfl rfl Try.func19 (by kernel_rfl) rfl #[.slice Ao32 t240.length co32] rfl (by (try simp only [kf, kb, kc]); rfl) ?_; (with_reducible refine (spec_GoodTrie.calls kj3 _ _ t240 false _ ?side1 ?side2 A16.1).mono ?_); (case side1 => repeat (exact (Kd.R_reads' zu.1).2.2)); (case side2 => exact (Kd.R_reads' zu.1).2.1); rintro e w33 ⟨rfl, hb⟩; refine ⟨_, rfl, ?_⟩; replace HB := kz (zh HB.1 hb)))
      go_ret2
      exact ⟨_, by rfl, by exact Kd.R_nil _ _ _ _ _, by exact HB.1⟩
    ·
     rw [if_neg c14] at H
     exact absurd H (by simp)
/-! ### impl_isAddr: function 65 -/
def impl_isAddr.f (a0 : Int) : Option (Bool) := (impl_within.f a0 0 4294967295).bind fun t244 => (some t244)
theorem impl_isAddr.calls (a0 : Int) (r : Bool) (w : World) (h : impl_isAddr.f a0 = some r) :
  Calls km 65 #[.int .i64 a0] w fun e w' => e = .returned (.bool r) ∧ Drawn0 w w' := by
 have H : ((impl_within.f a0 0 4294967295).bind fun t244 => (some t244)) = some r := h
 clear h
 replace H := kv.mp H
 obtain ⟨t244, A20, H⟩ := H
 replace H : (some t244) = some r := H
 have A2 := kz A20
 clear A20
 obtain rfl := kg H
 go_enter Try.func65, Try.ntmps65
 go_wp2_with (((with_reducible refine gate_callee (f := 60) rfl ?_); refine goesL_ (some 4) rfl rfl Try.func60 (by kernel_rfl) rfl #[.int .i64 a0, .int .i64 0, .int .i64 4294967295] rfl (by (try simp only [kf, kb, kc]); rfl) ?_; (with_reducible refine (impl_within.calls a0 0 4294967295 t244 _ A2.1).mono ?_); rintro e w' ⟨rfl, ⟨nd, rfl⟩⟩; refine ⟨_, rfl, ?_⟩))
 go_ret
 exact ⟨by rfl, by repeat (first | exact Drawn0.refl _ | apply Drawn0.step)⟩
/-! ### impl_GoodPrefix: function 75 -/
def impl_GoodPrefix.f (a0_0 : Int) (a0_1 : Int) : Option (Bool) := (impl_within.f a0_1 0 32).bind fun t246 => (if t246 = true then ((impl_isAddr.f a0_0).bind fun t247 => (if t247 = true then ((impl_sizeOf.f a0_1).bind fun t248 => (if t248 = 0 then (none) else (some ((ku a0_0 t248) == 0)))) else (some false))) else (some false))
theorem impl_GoodPrefix.calls (a0_0 : Int) (a0_1 : Int) (r : Bool) (w : World) (h : impl_GoodPrefix.f a0_0 a0_1 = some r) :
  Calls km 75 #[.agg #[.int .i64 a0_0, .int .i64 a0_1]] w fun e w' => e = .returned (.bool r) ∧ Below w.heap.size w w' := by
 have hu37 := Try.underlying37
 have HB := kz (Below.refl w.heap.size w)
 have H : ((impl_within.f a0_1 0 32).bind fun t246 => (if t246 = true then ((impl_isAddr.f a0_0).bind fun t247 => (if t247 = true then ((impl_sizeOf.f a0_1).bind fun t248 => (if t248 = 0 then (none) else (some ((ku a0_0 t248) == 0)))) else (some false))) else (some false))) = some r := h
 clear h
 replace H := kv.mp H
 obtain ⟨t246, A20, H⟩ := H
 replace H : (if t246 = true then ((impl_isAddr.f a0_0).bind fun t247 => (if t247 = true then ((impl_sizeOf.f a0_1).bind fun t248 => (if t248 = 0 then (none) else (some ((ku a0_0 t248) == 0)))) else (some false))) else (some false)) = some r := H
 have A2 := kz A20
 clear A20
 by_cases c3 : t246 = true
 ·
  subst c3
  have H1 : ((impl_isAddr.f a0_0).bind fun t247 => (if t247 = true then ((impl_sizeOf.f a0_1).bind fun t248 => (if t248 = 0 then (none) else (some ((ku a0_0 t248) == 0)))) else (some false))) = some r := by rw [if_pos rfl] at H; exact H
  clear H
  have H := H1
  clear H1
  replace H := kv.mp H
  obtain ⟨t247, A40, H⟩ := H
  replace H : (if t247 = true then ((impl_sizeOf.f a0_1).bind fun t248 => (if t248 = 0 then (none) else (some ((ku a0_0 t248) == 0)))) else (some false)) = some r := H
  have A4 := kz A40
  clear A40
  by_cases c5 : t247 = true
  ·
   subst c5
   have H1 : ((impl_sizeOf.f a0_1).bind fun t248 => (if t248 = 0 then (none) else (some ((ku a0_0 t248) == 0)))) = some r := by rw [if_pos rfl] at H; exact H
   clear H
   have H := H1
   clear H1
   replace H := kv.mp H
   obtain ⟨t248, A60, H⟩ := H
   replace H : (if t248 = 0 then (none) else (some ((ku a0_0 t248) == 0))) = some r := H
   have A6 := kz A60
   clear A60
   by_cases c7 : t248 = 0
   ·
    rw [if_pos c7] at H
    exact absurd H (by simp)
   ·
    rw [if_neg c7] at H
    have c7b0 : (t248 == 0) = false := beq_eq_false_iff_ne.mpr c7
    have c7b1 : (t248 != 0) = true := bne_iff_ne.mpr c7
    obtain rfl := kg H
    go_enter Try.func75, Try.ntmps75
    go_wp2_with (((with_reducible refine zm (N := 1) rfl ?_); refine zl rfl (N := 1) rfl (cs := #[.int .i64 a0_0, .int .i64 a0_1]) (t := 37) ?hr ?_; (case hr => go_simp; done); intro gb245 hg w8 hbox hb; replace HB := kz (zh HB.1 hb); have zr := kz hbox; clear hb hbox hg; have hcz9_0 : w8.cell? ⟨gb245, 0, none⟩ = some (.int .i64 a0_0) := (zd zr.1 0).trans rfl; have hcz9_1 : w8.cell? ⟨gb245, 1, none⟩ = some (.int .i64 a0_1) := (zd zr.1 1).trans rfl; have hfz9_0 := ze zr.1 0; have hfz9_1 := ze zr.1 1))
    repeat (go_quiet (first | (go_at_call 60; (with_reducible refine (impl_within.calls a0_1 0 32 true _ A2.1).mono ?_); rintro e w' ⟨rfl, ⟨nd, rfl⟩⟩; (try exact ⟨rfl, _, ke _ _ _⟩)) | (go_at_call 65; (with_reducible refine (impl_isAddr.calls a0_0 true _ A4.1).mono ?_); rintro e w' ⟨rfl, ⟨nd, rfl⟩⟩; (try exact ⟨rfl, _, ke _ _ _⟩)) | (go_at_call 96; (with_reducible refine (impl_sizeOf.calls a0_1 t248 _ A6.1).mono ?_); rintro e w' ⟨rfl, ⟨nd, rfl⟩⟩; (try exact ⟨rfl, _, ke _ _ _⟩))); try go_wp2_with (fail))
    go_ret
    exact ⟨by rfl, by repeat ((with_reducible first | exact HB.1 | apply za))⟩
  ·
   replace c5 := kd.mpr c5
   subst c5
   have H1 : (some false) = some r := by rw [if_neg (show ¬ (false = true) by decide)] at H; exact H
   clear H
   have H := H1
   clear H1
   obtain rfl := kg H
   go_enter Try.func75, Try.ntmps75
   go_wp2_with (((with_reducible refine zm (N := 1) rfl ?_); refine zl rfl (N := 1) rfl (cs := #[.int .i64 a0_0, .int .i64 a0_1]) (t := 37) ?hr ?_; (case hr => go_simp; done); intro gb245 hg w10 hbox hb; replace HB := kz (zh HB.1 hb); have zr := kz hbox; clear hb hbox hg; have hcz11_0 : w10.cell? ⟨gb245, 0, none⟩ = some (.int .i64 a0_0) := (zd zr.1 0).trans rfl; have hcz11_1 : w10.cell? ⟨gb245, 1, none⟩ = some (.int .i64 a0_1) := (zd zr.1 1).trans rfl; have hfz11_0 := ze zr.1 0; have hfz11_1 := ze zr.1 1))
   repeat (go_quiet (first | (go_at_call 60; (with_reducible refine (impl_within.calls a0_1 0 32 true _ A2.1).mono ?_); rintro e w' ⟨rfl, ⟨nd, rfl⟩⟩; (try exact ⟨rfl, _, ke _ _ _⟩)) | (go_at_call 65; (with_reducible refine (impl_isAddr.calls a0_0 false _ A4.1).mono ?_); rintro e w' ⟨rfl, ⟨nd, rfl⟩⟩; (try exact ⟨rfl, _, ke _ _ _⟩))); try go_wp2_with (fail))
   go_ret
   exact ⟨by rfl, by repeat ((with_reducible first | exact HB.1 | apply za))⟩
 ·
  replace c3 := kd.mpr c3
  subst c3
  have H1 : (some false) = some r := by rw [if_neg (show ¬ (false = true) by decide)] at H; exact H
  clear H
  have H := H1
  clear H1
  obtain rfl := kg H
  go_enter Try.func75, Try.ntmps75
  go_wp2_with (((with_reducible refine zm (N := 1) rfl ?_); refine zl rfl (N := 1) rfl (cs := #[.int .i64 a0_0, .int .i64 a0_1]) (t := 37) ?hr ?_; (case hr => go_simp; done); intro gb245 hg w12 hbox hb; replace HB := kz (zh HB.1 hb); have zr := kz hbox; clear hb hbox hg; have hcz13_0 : w12.cell? ⟨gb245, 0, none⟩ = some (.int .i64 a0_0) := (zd zr.1 0).trans rfl; have hcz13_1 : w12.cell? ⟨gb245, 1, none⟩ = some (.int .i64 a0_1) := (zd zr.1 1).trans rfl; have hfz13_0 := ze zr.1 0; have hfz13_1 := ze zr.1 1))
  repeat (go_quiet ((go_at_call 60; (with_reducible refine (impl_within.calls a0_1 0 32 false _ A2.1).mono ?_); rintro e w' ⟨rfl, ⟨nd, rfl⟩⟩; (try exact ⟨rfl, _, ke _ _ _⟩))); try go_wp2_with (fail))
  go_ret
  exact ⟨by rfl, by repeat ((with_reducible first | exact HB.1 | apply za))⟩
/-! ### impl_TrieNode_half: function 70 -/
def impl_TrieNode_half.f (a0_0 : Int) (a0_1 : Int) (a0_2 : Bool) (a0_3 : Int) (a1 : Int) : Option (Int) := if a1 = 0 then (some a0_0) else (some a0_1)
theorem impl_TrieNode_half.calls (a0_0 : Int) (a0_1 : Int) (a0_2 : Bool) (a0_3 : Int) (a1 : Int) (r : Int) (w : World) (h : impl_TrieNode_half.f a0_0 a0_1 a0_2 a0_3 a1 = some r) :
  Calls km 70 #[.agg #[.int .i64 a0_0, .int .i64 a0_1, .bool a0_2, .int .i64 a0_3], .int .i64 a1] w fun e w' => e = .returned (.int .i64 r) ∧ Below w.heap.size w w' := by
 have hu86 := Try.underlying86
 have HB := kz (Below.refl w.heap.size w)
 have H : (if a1 = 0 then (some a0_0) else (some a0_1)) = some r := h
 clear h
 by_cases c3 : a1 = 0
 ·
  rw [if_pos c3] at H
  have c3b0 : (a1 == 0) = true := beq_iff_eq.mpr c3
  have c3b1 : (a1 != 0) = false := bne_eq_false_iff_eq.mpr c3
  clear c3
  obtain rfl := kg H
  go_enter Try.func70, Try.ntmps70
  go_wp2_with (((with_reducible refine zm (N := 2) rfl ?_); refine zl rfl (N := 2) rfl (cs := #[.int .i64 a0_0, .int .i64 a0_1, .bool a0_2, .int .i64 a0_3]) (t := 86) ?hr ?_; (case hr => go_simp; done); intro gb249 hg w4 hbox hb; replace HB := kz (zh HB.1 hb); have zt := kz hbox; clear hb hbox hg; have hcz5_0 : w4.cell? ⟨gb249, 0, none⟩ = some (.int .i64 a0_0) := (zd zt.1 0).trans rfl; have hcz5_1 : w4.cell? ⟨gb249, 1, none⟩ = some (.int .i64 a0_1) := (zd zt.1 1).trans rfl; have hcz5_2 : w4.cell? ⟨gb249, 2, none⟩ = some (.bool a0_2) := (zd zt.1 2).trans rfl; have hcz5_3 : w4.cell? ⟨gb249, 3, none⟩ = some (.int .i64 a0_3) := (zd zt.1 3).trans rfl; have hfz5_0 := ze zt.1 0; have hfz5_1 := ze zt.1 1; have hfz5_2 := ze zt.1 2; have hfz5_3 := ze zt.1 3))
  go_ret
  exact ⟨by rfl, by exact HB.1⟩
 ·
  rw [if_neg c3] at H
  have c3b0 : (a1 == 0) = false := beq_eq_false_iff_ne.mpr c3
  have c3b1 : (a1 != 0) = true := bne_iff_ne.mpr c3
  obtain rfl := kg H
  go_enter Try.func70, Try.ntmps70
  go_wp2_with (((with_reducible refine zm (N := 2) rfl ?_); refine zl rfl (N := 2) rfl (cs := #[.int .i64 a0_0, .int .i64 a0_1, .bool a0_2, .int .i64 a0_3]) (t := 86) ?hr ?_; (case hr => go_simp; done); intro gb249 hg w6 hbox hb; replace HB := kz (zh HB.1 hb); have zt := kz hbox; clear hb hbox hg; have hcz7_0 : w6.cell? ⟨gb249, 0, none⟩ = some (.int .i64 a0_0) := (zd zt.1 0).trans rfl; have hcz7_1 : w6.cell? ⟨gb249, 1, none⟩ = some (.int .i64 a0_1) := (zd zt.1 1).trans rfl; have hcz7_2 : w6.cell? ⟨gb249, 2, none⟩ = some (.bool a0_2) := (zd zt.1 2).trans rfl; have hcz7_3 : w6.cell? ⟨gb249, 3, none⟩ = some (.int .i64 a0_3) := (zd zt.1 3).trans rfl; have hfz7_0 := ze zt.1 0; have hfz7_1 := ze zt.1 1; have hfz7_2 := ze zt.1 2; have hfz7_3 := ze zt.1 3))
  go_ret
  exact ⟨by rfl, by exact HB.1⟩
/-! ### impl_bitOf: function 71 -/
def impl_bitOf.f (a0 : Int) (a1 : Int) : Option (Int) := if 0 ≤ (wrap64 (31 - a1)) then (some (Go.bits .and .i64 (shr .i64 a0 (wrap64 (31 - a1))) 1)) else (none)
theorem impl_bitOf.calls (a0 : Int) (a1 : Int) (r : Int) (w : World) (h : impl_bitOf.f a0 a1 = some r) :
  Calls km 71 #[.int .i64 a0, .int .i64 a1] w fun e w' => e = .returned (.int .i64 r) ∧ Drawn0 w w' := by
 have H : (if 0 ≤ (wrap64 (31 - a1)) then (some (Go.bits .and .i64 (shr .i64 a0 (wrap64 (31 - a1))) 1)) else (none)) = some r := h
 clear h
 obtain ⟨ji3, hji3⟩ : ∃ j_ : Int, (wrap64 (31 - a1)) = j_ := ⟨_, rfl⟩
 replace H : (if 0 ≤ (ji3) then (some (Go.bits .and .i64 (shr .i64 a0 (ji3)) 1)) else (none)) = some r := by (rw [hji3] at H; exact H)
 have hji3w : (IntKind.i64.wrap (31 - a1)) = ji3 := (zo _).trans hji3
 by_cases c4 : 0 ≤ (ji3)
 ·
  rw [if_pos c4] at H
  have c4b0 := eq_true c4
  have c4b1 : decide (0 ≤ (ji3)) = true := decide_eq_true c4
  clear c4
  obtain ⟨ji5, hji5⟩ : ∃ j_ : Int, (shr .i64 a0 (ji3)) = j_ := ⟨_, rfl⟩
  replace H : (some (Go.bits .and .i64 (ji5) 1)) = some r := by (rw [hji5] at H; exact H)
  have hji5_ : (a0 / 2 ^ min (ji3).toNat 64) = ji5 := hji5
  have hji5z : (ji3) ≤ 64 → (a0 / 2 ^ (ji3).toNat) = ji5 := shr_small hji5
  obtain rfl := kg H
  go_enter Try.func71, Try.ntmps71
  go_wp2
  go_ret
  exact ⟨by rfl, by repeat (exact Drawn0.refl _)⟩
 ·
  rw [if_neg c4] at H
  exact absurd H (by simp)
def slices_Clone_impl_TrieNode_impl_TrieNode.f (l0 : List (S86)) : Option (List (S86)) := if l0.length ≤ 4398046511104 then some l0 else none
theorem slices_Clone_impl_TrieNode_impl_TrieNode.calls (A0 : Option Addr) (c0 : Nat) (l0 : List (S86)) (r : List (S86)) (w : World) (hr0 : Kd.C k86 w A0 l0.length l0) (hc0 : l0.length ≤ c0) (h : slices_Clone_impl_TrieNode_impl_TrieNode.f l0 = some r) :
  Calls km 97 #[.slice A0 l0.length c0] w fun e w' => ∃ v0_ : Value, e = .returned (v0_) ∧ Kd.R k86 86 w' w.heap.size (fun _ => True) v0_ r ∧ Below w.heap.size w w' := by
 have huT := ko
 unfold slices_Clone_impl_TrieNode_impl_TrieNode.f at h
 by_cases hlim : l0.length ≤ 4398046511104
 case neg => rw [if_neg hlim] at h; cases h
 rw [if_pos hlim] at h
 obtain rfl := kg h
 have qT : ∀ (w : World) (a : Option Addr) (n c n' c' : Nat), (binOp .eql 32 (.slice a n c) (.slice none n' c')).run km w = .ok (.bool a.isNone) w := fun w a n c n' c' => Go.Lib.run_eql_slice_nil w _ _ a n c n' c' huT
 cases A0 with
 | none =>
  have hn : l0.length = 0 := by
   rcases Nat.eq_zero_or_pos l0.length with h0 | h0
   ·
    exact h0
   ·
    obtain ⟨ad, h, _⟩ := hr0.2.2 h0
    cases h
  go_enter Try.func97, Try.ntmps97
  go_wp2
  go_ret
  have : l0 = [] := List.eq_nil_of_length_eq_zero hn
  subst this
  exact ⟨_, rfl, Kd.R_nil _ _ _ _ _, Below.refl _ _⟩
 | some ad =>
  have A : Aside0 (Kd.C k86 w (some ad) l0.length l0) := kz hr0
  clear hr0
  go_enter Try.func97, Try.ntmps97
  go_wp2_with (at_builtin; refine Kd.R_append_rows k86 (w0 := w) w.heap.size (by rfl) (.tmp 5) (.tmp 6) 32 86 (.agg #[(.int .i64 0), (.int .i64 0), (.bool false), (.int .i64 0)]) 32 rfl ko info86 rfl (by decide) (by omega) _ [] l0 _ _ _ (fun _ => True) (fun _ => False) rfl rfl ?aO ?aR (fun _ _ h => h) (fun _ h => h.elim) ?aF ?aB ?aS ?aL ?_)
  case aR => exact Kd.C_below A.1 ((Below.refl _ w).alloc (kx _) _)
  case aO => exact ⟨fun k _ => trivial, [], World.ownsRow_made w #[] 0 (kx _) (Nat.zero_le _) (by simp), Reps.none _ _⟩
  case aB => exact (Below.refl _ w).alloc (kx _) _
  case aL => omega
  intro v1 w1 hown hb hg hat
  go_wp2
  go_ret
  exact ⟨_, rfl, hown, hb⟩
end Go.Proofs.Ytakoaogbkajkcaa.PFnTrieSteps
