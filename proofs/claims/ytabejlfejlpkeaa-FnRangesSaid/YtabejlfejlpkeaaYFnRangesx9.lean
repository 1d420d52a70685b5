/- Go functions told by Lean functions, printed by a program. No condition but what each statement says. -/
import Derived.Test.YtabejlfejlpkeaaYFnRangesx0
namespace Go.Proofs.Ytabejlfejlpkeaa.PFnRanges
open Go.RowKit Go.Proofs.YtabejlfejlpkeaaW.PrintWords Go.Proofs.YtabejlfejlpkeaaW.PrintLast Go.Proofs.YtabejlfejlpkeaaW.PrintMore
open List renaming setIfInBounds_toArray → kz, map_toArray → kj, length_drop → kk, length_take → kv, set_cons_zero → kh, set_cons_succ → kg, map_cons → kb, map_nil → kd, append_toArray → kr, size_toArray → kp, push_toArray → kn, length_cons → kl, cons_append → ki, length_nil → kw, nil_append → ka, length_map → kZ
open Aside0 renaming mk → ky
open Try renaming prog → kf, func96 → km, func91 → kQ, ntmps91 → kU
open World renaming putObj_heap_other → ke, alloc_heap_new → ko
open Option.some renaming inj → kc
open Option renaming bind_eq_some_iff → kx, bind_some → kJ
open Nat renaming le_trans → ku, le_refl → ks, reduceAdd → kX, reduceSub → kV
open Act renaming put → kt
open Value renaming ownBlock → kY
open Bool renaming true → kT, false → vz
attribute [local go_sem] max2_int min2_int max_two min_two max_three min_three max_four min_four
set_option linter.unusedVariables false
set_option linter.unusedSimpArgs false
section
open Go.RowKit Go.Shelf
attribute [local go_sem] Oper.semAt_some
abbrev Pr2 := Int × Int
def Pr2.enc (x : Pr2) : Value := .agg #[.int .i64 x.1, .int .i64 x.2]
instance : Inhabited Pr2 := ⟨(0, 0)⟩
def sv_upto {α : Type} (f : Nat → α) (k : Nat) : List α := (List.range k).map f
theorem sv_upto_succ {α : Type} (f : Nat → α) (k : Nat) : sv_upto f (k + 1) = sv_upto f k ++ [f k] := by simp [sv_upto, List.range_succ]
theorem sv_upto_length {α : Type} (f : Nat → α) (k : Nat) : (sv_upto f k).length = k := by simp [sv_upto]
theorem sv_upto_all (zs : List Pr2) : sv_upto (fun j => zs[j]?.getD (0, 0)) zs.length = zs := by
  apply List.ext_getElem
  · simp [sv_upto]
  · intro i h1 h2
    simp [sv_upto, h2]
theorem sv_upto_take (zs : List Pr2) {k : Nat} (hk : k ≤ zs.length) : sv_upto (fun j => zs[j]?.getD (0, 0)) k = zs.take k := by
  apply List.ext_getElem
  · simp [sv_upto, hk]
  · intro i h1 h2
    have : i < zs.length := by simp [sv_upto] at h1; omega
    simp [sv_upto, this]
theorem sv_grown (W : World) (o : Obj) : W.grownBy (W.alloc o) none :=
  ⟨rfl, rfl, rfl, by simp, fun k hk _ => Below.heap_alloc _ _ k hk⟩
set_option maxRecDepth 100000 in
set_option maxHeartbeats 4000000 in
theorem sv_values1_in (F : Fence) (n : Nat) (h7 : F.fn 94) (hro : F.round = none) (hn : 1 ≤ n) (l Bs n₀ b off len cap : Nat) (zs : List Pr2) (hreach : len * 16 ≤ 140737488351232) (hb : b < n₀) (J Jx : List Pr2 → World → Prop)
    (hY : ∀ pre x W, J pre W → pre.length < len → YieldAt F (n - 1) kf l #[Pr2.enc x] W fun e W' =>
      (e = .returned (.bool true) ∧ J (pre ++ [x]) W' ∧ Below n₀ W W') ∨ (e = .returned (.bool false) ∧ Jx (pre ++ [x]) W'))
    (W : World) (hWn : n₀ ≤ W.heap.size) (hJ : AbidesFrom W.heap.size J) (hBs : W.cell? ⟨Bs, 0, none⟩ = some (.slice (some ⟨b, off, none⟩) len cap)) (hc0 : ∀ j, j < len → W.cell? ⟨b, off + j * 2, none⟩ = some (.int .i64 (zs[j]?.getD (0, 0)).1)) (hc1 : ∀ j, j < len → W.cell? ⟨b, off + j * 2 + 1, none⟩ = some (.int .i64 (zs[j]?.getD (0, 0)).2)) (h0 : J [] W) :
    CallsIn F n kf 94 #[.func (.yield l) #[] #[], .pointer (some ⟨Bs, 0, none⟩)] W fun e W' => (∃ v, e = .returned v) ∧
      ((∃ ys, ys = sv_upto (fun j => zs[j]?.getD (0, 0)) len ∧ J ys W') ∨ (∃ pre, (∃ k, k ≤ len ∧ pre = sv_upto (fun j => zs[j]?.getD (0, 0)) k) ∧ Jx pre W')) := by
  refine callsIn_of_wp Try.func94 rfl h7 ?_ hro
  simp only [Try.ntmps94, kp, kl, kw, kX, kV, Array.replicate_succ, Array.replicate_zero, kn, kr, ka, ki]
  gi_wp2
  gi_loopw [7] (fun i wr => ∃ k : Nat, k ≤ len ∧ i = .int .i64 k ∧ J (sv_upto (fun j => zs[j]?.getD (0, 0)) k) wr ∧ Below n₀ W wr)
    (fun i _ => len - (intOf i).toNat)
  case atStart => exact ⟨0, Nat.zero_le _, rfl, h0, Below.refl _ _⟩
  case round =>
    obtain ⟨k, hk, rfl, hJs, hnx⟩ := hrel
    have hx0 : k < len → wr.cell? ⟨b, off + k * 2, none⟩ = some (.int .i64 (zs[k]?.getD (0, 0)).1) := fun h => (hnx.cell (p := ⟨b, off + k * 2, none⟩) hb).trans (hc0 k h)
    have hx1 : k < len → wr.cell? ⟨b, off + k * 2 + 1, none⟩ = some (.int .i64 (zs[k]?.getD (0, 0)).2) := fun h => (hnx.cell (p := ⟨b, off + k * 2 + 1, none⟩) hb).trans (hc1 k h)
    by_cases hlt : k < len
    · have e0 := hx0 hlt
      have e1 := hx1 hlt
      have hW2 := hJ _ wr (wr.alloc (.cells #[.int .i64 (zs[k]?.getD (0, 0)).1, .int .i64 (zs[k]?.getD (0, 0)).2] 45)) none hJs (sv_grown _ _) (fun r e => by cases e)
      have hB2 : Below n₀ wr (wr.alloc (.cells #[.int .i64 (zs[k]?.getD (0, 0)).1, .int .i64 (zs[k]?.getD (0, 0)).2] 45)) := (Below.refl _ _).alloc (ku hWn hnx.size) _
      obtain ⟨fn, tmps, assign, body, hy, hR⟩ := hY _ (zs[k]?.getD (0, 0)) _ hW2 (by rw [sv_upto_length]; exact hlt)
      unfold Pr2.enc at hy
      gi_wp2
      refine hR.mono ?_
      rintro e W3 (⟨rfl, hJ3, hk3⟩ | ⟨rfl, hJx3⟩)
      · gi_wp2
        go_roundw
        case rel => exact ⟨k + 1, by omega, by simp, by rw [sv_upto_succ]; exact hJ3, hnx.trans (hB2.trans hk3)⟩
        case measure => simp [intOf]; omega
      · gi_wp2
        refine bodyPost_ret (results_none rfl _ _ _) rfl ?_
        exact ⟨⟨_, rfl⟩, .inr ⟨_, ⟨k + 1, by omega, (sv_upto_succ _ _).symm⟩, hJx3⟩⟩
    · obtain rfl : k = len := by omega
      gi_wp2
      go_end0
      exact ⟨⟨_, rfl⟩, .inl ⟨_, rfl, hJs⟩⟩
def SvRow (n₀ : Nat) (W : World) (sv : Value) (zs : List Pr2) : Prop :=
  (∃ a cap, sv = .slice a 0 cap ∧ zs = []) ∨ ∃ b off cap, sv = .slice (some ⟨b, off, none⟩) zs.length cap ∧ b < n₀ ∧ (∀ j, j < zs.length → W.cell? ⟨b, off + j * 2, none⟩ = some (.int .i64 (zs[j]?.getD (0, 0)).1)) ∧ (∀ j, j < zs.length → W.cell? ⟨b, off + j * 2 + 1, none⟩ = some (.int .i64 (zs[j]?.getD (0, 0)).2))
theorem SvRow.below {n₀ : Nat} {A B : World} (h : Below n₀ A B) {sv : Value} {zs : List Pr2} : SvRow n₀ A sv zs → SvRow n₀ B sv zs
  | .inl e => .inl e
  | .inr ⟨b, off, cap, e, hb, hc, hd⟩ => .inr ⟨b, off, cap, e, hb, fun j hj => (h.cell (p := ⟨b, off + j * 2, none⟩) hb).trans (hc j hj), fun j hj => (h.cell (p := ⟨b, off + j * 2 + 1, none⟩) hb).trans (hd j hj)⟩
set_option maxRecDepth 100000 in
set_option maxHeartbeats 1000000 in
theorem sv_values1_nil_in (F : Fence) (n : Nat) (h7 : F.fn 94) (hro : F.round = none) (l Bs : Nat) (ca : Option Addr) (cap : Nat) (J : List Pr2 → World → Prop) (W : World) (hBs : W.cell? ⟨Bs, 0, none⟩ = some (.slice ca 0 cap)) (h0 : J [] W) :
    CallsIn F n kf 94 #[.func (.yield l) #[] #[], .pointer (some ⟨Bs, 0, none⟩)] W fun e W' => (∃ v, e = .returned v) ∧ J [] W' := by
  refine callsIn_of_wp Try.func94 rfl h7 ?_ hro
  simp only [Try.ntmps94, kp, kl, kw, kX, kV, Array.replicate_succ, Array.replicate_zero, kn, kr, ka, ki]
  gi_wp2
  gi_loopw [7] (fun i wr => i = .int .i64 0 ∧ J [] wr) (fun _ _ => 0)
  case atStart => exact ⟨rfl, h0⟩
  case round =>
    obtain ⟨rfl, hJs⟩ := hrel
    gi_wp2
    go_end0
    exact ⟨⟨_, rfl⟩, hJs⟩
set_option maxHeartbeats 1000000 in
theorem sv_values_in (F : Fence) (n : Nat) (h5 : F.fn 87) (hro : F.round = none) (a : Option Addr) (len cap : Nat) (w : World) :
    CallsIn F n kf 87 #[.slice a len cap] w fun e w' => e = .returned (.func (.func 94) #[] #[.pointer (some ⟨w.heap.size, 0, none⟩)]) ∧ w' = w.alloc (.cells #[.slice a len cap] 25) := by
  refine callsIn_of_wp Try.func87 rfl h5 ?_ hro
  simp only [Try.ntmps87, kp, kl, kw, kX, kV, Array.replicate_succ, Array.replicate_zero, kn, kr, ka, ki]
  gi_wp2
  go_ret
  exact ⟨rfl, rfl⟩
theorem sv_values_stops (F : Fence) (n : Nat) (h7 : F.fn 94) (hro : F.round = none) (hn : 1 ≤ n) (Bs n₀ : Nat) (sv : Value) (zs : List Pr2) (hreach : zs.length * 16 ≤ 140737488351232) (w : World) (hBs : Bs < w.heap.size) (hn₀ : n₀ ≤ w.heap.size)
    (hc : w.cell? ⟨Bs, 0, none⟩ = some sv) (hI : SvRow n₀ w sv zs) :
    SeqStopsK F n kf 94 #[.pointer (some ⟨Bs, 0, none⟩)] (fun x : Pr2 => #[Pr2.enc x]) (Below n₀) (fun ys => ys = zs) (fun pre => pre <+: zs) zs.length w := fun l J Jx W hW hJ _ hY h0 => by
  have hc' := (hW.cell (p := ⟨Bs, 0, none⟩) hBs).trans hc
  rcases hI.below (hW.mono hn₀) with ⟨ca, cap0, rfl, rfl⟩ | ⟨b, off, cap, rfl, hb, hcs, hds⟩
  · exact (sv_values1_nil_in F n h7 hro l Bs ca cap0 J W hc' h0).mono fun e W' ⟨he, hj⟩ => ⟨he, .inl ⟨_, rfl, hj⟩⟩
  · refine (sv_values1_in F n h7 hro hn l Bs n₀ b off zs.length cap zs hreach hb J Jx hY W (ku hn₀ hW.size) hJ hc' hcs hds h0).mono ?_
    rintro e W' ⟨he, ⟨ys, rfl, hj⟩ | ⟨pre, ⟨k, hk, rfl⟩, hj⟩⟩
    · exact ⟨he, .inl ⟨_, sv_upto_all zs, hj⟩⟩
    · exact ⟨he, .inr ⟨_, by rw [sv_upto_take zs hk]; exact List.take_prefix _ _, hj⟩⟩
end
section
open Go.Shelf
def sv_sortPfx_ren : Go.Shelf.Ren := ⟨fun | 6 => 93 | 15 => 99 | 14 => 98 | 28 => 108 | 29 => 109 | 20 => 100 | 21 => 101 | 22 => 102 | 23 => 103 | 24 => 104 | 25 => 105 | 26 => 106 | 27 => 107 | 46 => 110 | 47 => 111 | 48 => 112 | 49 => 113 | 50 => 114 | 57 => 115 | n => n, fun | 22 => 25 | 24 => 45 | 25 => 65 | 3 => 3 | 39 => 51 | 0 => 0 | 53 => 116 | 55 => 85 | 4 => 4 | 46 => 110 | 45 => 109 | 50 => 36 | 5 => 5 | 9 => 9 | 66 => 118 | 70 => 122 | 76 => 124 | 77 => 56 | n => n, fun | n => n⟩
theorem sv_sortPfx : Go.Proofs.SlLaysF0.n6 kf sv_sortPfx_ren := {
  mixed := by kernel_rfl
  f6 := ⟨Try.f93.name, by decide, Try.func93.trans (congrArg some (by kernel_rfl))⟩
  f14 := ⟨Try.f98.name, by decide, Try.func98.trans (congrArg some (by kernel_rfl))⟩
  f15 := Try.func99.trans (congrArg some (by kernel_rfl))
  f20 := ⟨Try.f100.name, by decide, Try.func100.trans (congrArg some (by kernel_rfl))⟩
  f21 := ⟨Try.f101.name, by decide, Try.func101.trans (congrArg some (by kernel_rfl))⟩
  f22 := ⟨Try.f102.name, by decide, Try.func102.trans (congrArg some (by kernel_rfl))⟩
  f23 := ⟨Try.f103.name, by decide, Try.func103.trans (congrArg some (by kernel_rfl))⟩
  f24 := ⟨Try.f104.name, by decide, Try.func104.trans (congrArg some (by kernel_rfl))⟩
  f25 := ⟨Try.f105.name, by decide, Try.func105.trans (congrArg some (by kernel_rfl))⟩
  f26 := ⟨Try.f106.name, by decide, Try.func106.trans (congrArg some (by kernel_rfl))⟩
  f27 := ⟨Try.f107.name, by decide, Try.func107.trans (congrArg some (by kernel_rfl))⟩
  f28 := Try.func108.trans (congrArg some (by kernel_rfl))
  f29 := Try.func109.trans (congrArg some (by kernel_rfl))
  f46 := ⟨Try.f110.name, by decide, Try.func110.trans (congrArg some (by kernel_rfl))⟩
  f47 := Try.func111.trans (congrArg some (by kernel_rfl))
  f48 := Try.func112.trans (congrArg some (by kernel_rfl))
  f49 := ⟨Try.f113.name, by decide, Try.func113.trans (congrArg some (by kernel_rfl))⟩
  f50 := ⟨Try.f114.name, by decide, Try.func114.trans (congrArg some (by kernel_rfl))⟩
  f57 := ⟨Try.f115.name, by decide, Try.func115.trans (congrArg some (by kernel_rfl))⟩
  t0 := Try.underlying0
  a0 := Try.isAgg0
  z0 := Try.sizeOf0
  v0 := Try.zeroValue0
  t3 := Try.underlying3
  a3 := Try.isAgg3
  z3 := Try.sizeOf3
  v3 := Try.zeroValue3
  t4 := Try.underlying4
  a4 := Try.isAgg4
  z4 := Try.sizeOf4
  v4 := Try.zeroValue4
  t5 := Try.underlying5
  a5 := Try.isAgg5
  z5 := Try.sizeOf5
  v5 := Try.zeroValue5
  t9 := Try.underlying9
  a9 := Try.isAgg9
  z9 := Try.sizeOf9
  v9 := Try.zeroValue9
  t22 := Try.underlying25
  a22 := Try.isAgg25
  z22 := Try.sizeOf25
  v22 := Try.zeroValue25
  t25 := Try.underlying65
  a25 := Try.isAgg65
  z25 := Try.sizeOf65
  v25 := Try.zeroValue65
  t39 := Try.underlying51
  a39 := Try.isAgg51
  z39 := Try.sizeOf51
  v39 := Try.zeroValue51
  t45 := Try.underlying109
  a45 := Try.isAgg109
  z45 := Try.sizeOf109
  v45 := Try.zeroValue109
  t46 := Try.underlying110
  a46 := Try.isAgg110
  z46 := Try.sizeOf110
  v46 := Try.zeroValue110
  t50 := Try.underlying36
  a50 := Try.isAgg36
  z50 := Try.sizeOf36
  v50 := Try.zeroValue36
  t53 := Try.underlying116
  a53 := Try.isAgg116
  z53 := Try.sizeOf116
  v53 := Try.zeroValue116
  t55 := Try.underlying85
  a55 := Try.isAgg85
  z55 := Try.sizeOf85
  v55 := Try.zeroValue85
  t66 := Try.underlying118
  a66 := Try.isAgg118
  z66 := Try.sizeOf118
  v66 := Try.zeroValue118
  t70 := Try.underlying122
  a70 := Try.isAgg122
  z70 := Try.sizeOf122
  v70 := Try.zeroValue122
  t76 := Try.underlying124
  a76 := Try.isAgg124
  z76 := Try.sizeOf124
  v76 := Try.zeroValue124
  t77 := Try.underlying56
  a77 := Try.isAgg56
  z77 := Try.sizeOf56
  v77 := Try.zeroValue56 }
end
section
open Go.RowKit Go.Shelf
attribute [local go_sem] Oper.semAt_some
def Pr2.cells (x : Pr2) : List Value := [.int .i64 x.1, .int .i64 x.2]
def sv_flat (ss : List Pr2) : List Value := ss.flatMap Pr2.cells
theorem sv_flat_snoc (ss : List Pr2) (x : Pr2) : sv_flat (ss ++ [x]) = sv_flat ss ++ [.int .i64 x.1, .int .i64 x.2] := by simp [sv_flat, Pr2.cells]
theorem sv_flat_len (ss : List Pr2) : (sv_flat ss).length = ss.length * 2 := by
  induction ss with
  | nil => rfl
  | cons a t ih => simp [sv_flat, Pr2.cells] at ih ⊢; omega
theorem sv_row_abides {W W' : World} {row : Option Nat} {base : Nat} {e : TypeId} {size : Nat} {v : Value} {k : Nat} {xs : List Value} (h : W.ownsRow base e size v k xs) (hg : W.grownBy W' row)
    (hrow : ∀ r, row = some r → ∃ o : Obj, W.heap[r]? = some o ∧ o.isWalk = true) : W'.ownsRow base e size v k xs := by
  refine h.kept hg ?_
  rcases h.2 with ⟨rfl, _⟩ | ⟨g, cap, cur, rfl, _, hgb, _⟩
  · exact .inl rfl
  · refine .inr fun e' => ?_
    obtain ⟨o, ho, hw⟩ := hrow g (by simpa [kY] using e'.symm)
    rw [hgb] at ho; cases ho; cases hw
theorem sv_grown_put (W : World) (l : Nat) (o : Obj) : W.grownBy (W.putObj l o) (some l) :=
  ⟨rfl, rfl, rfl, by simp, fun k _ hk => ke (fun e => hk (by rw [e]))⟩
theorem sv_grown_set (W : World) (b : Nat) (v : Value) : W.grownBy (W.setCell ⟨b, 0, none⟩ v) (some b) :=
  ⟨rfl, rfl, rfl, (KeepsWalks.setCell W _ v).size, fun k _ hk => Below.heap_setCell _ _ _ k (fun e => hk (by rw [e]))⟩
theorem sv_row_ne {W : World} {base : Nat} {e : TypeId} {size : Nat} {v : Value} {k : Nat} {xs : List Value} (h : W.ownsRow base e size v k xs) {j : Nat} {o : Obj} (hj : W.heap[j]? = some o) (hno : ∀ cur, o ≠ .cells cur e (0, 0)) :
    v.ownBlock = none ∨ v.ownBlock ≠ some j := by
  rcases h.2 with ⟨rfl, _⟩ | ⟨g, cap, cur, rfl, _, hgb, _⟩
  · exact .inl rfl
  · refine .inr fun e' => ?_
    have : g = j := by simpa [kY] using e'
    subst this; rw [hgb] at hj; cases hj; exact hno cur rfl
theorem sv_cell_box {W : World} {B : Nat} {v : Value} {t : TypeId} (h : W.heap[B]? = some (.cells #[v] t (0, 0))) : W.cell? ⟨B, 0, none⟩ = some v ∧ W.frozen? ⟨B, 0, none⟩ = false := by
  constructor <;> simp [World.cell?, World.frozen?, h]
theorem sv_set_box {W : World} {B : Nat} {v : Value} {t : TypeId} (v' : Value) (h : W.heap[B]? = some (.cells #[v] t (0, 0))) : (W.setCell ⟨B, 0, none⟩ v').heap[B]? = some (.cells #[v'] t (0, 0)) := by
  obtain ⟨hlt, hk⟩ := Array.getElem?_eq_some_iff.1 h
  show (W.heap.modify B _)[B]? = _
  rw [Array.getElem?_eq_getElem (by rw [Array.size_modify]; exact hlt), Array.getElem_modify_self, hk]
  rfl
def sv_assign : Code := (Go.Code.region 2
                    #[{ dst := some 5, op := Go.Op.alloc 45, type := 0, pos := "iter.go:51", after := #[],
                        guard := none },
                      { dst := none, op := Go.Op.store 45 (Go.Operand.tmp 5) (Go.Operand.tmp 7), type := 0,
                        pos := "iter.go:51",
                        after := #[{ on := 0, ground := Go.Ground.data }, { on := 0, ground := Go.Ground.phase }],
                        guard := none }]
                    false)
def sv_body : Code := (Go.Code.block 1
                    (Go.Code.region 3
                      #[{ dst := some 8, op := Go.Op.load 25 (Go.Operand.tmp 2), type := 25, pos := "iter.go:52",
                          after := #[], guard := none },
                        { dst := some 9, op := Go.Op.load 45 (Go.Operand.tmp 5), type := 45, pos := "iter.go:52",
                          after := #[], guard := none },
                        { dst := some 10, op := Go.Op.buildSlice 25 1 #[(0, Go.Operand.tmp 9)], type := 25,
                          pos := "iter.go:52", after := #[{ on := 1, ground := Go.Ground.data }], guard := none },
                        { dst := some 11,
                          op :=
                            Go.Op.call
                              { callee := Go.Callee.builtin Go.Builtin.append,
                                args := #[Go.Operand.tmp 8, Go.Operand.tmp 10], argTypes := #[25, 25] },
                          type := 25, pos := "iter.go:52",
                          after := #[{ on := 0, ground := Go.Ground.data }, { on := 2, ground := Go.Ground.data }],
                          guard := none },
                        { dst := none, op := Go.Op.store 25 (Go.Operand.tmp 2) (Go.Operand.tmp 11), type := 0,
                          pos := "iter.go:52",
                          after :=
                            #[{ on := 3, ground := Go.Ground.data }, { on := 3, ground := Go.Ground.chain },
                              { on := 0, ground := Go.Ground.phase }, { on := 1, ground := Go.Ground.phase },
                              { on := 2, ground := Go.Ground.phase }, { on := 3, ground := Go.Ground.phase }],
                          guard := none }]
                      false))
def sv_rec (fn : FuncId) (sv : Value) (Bs D : Nat) (st : LoopState) (pend : Option Code) : Loop :=
  { state := st, pending := pend, fn, tmps := #[.slice none 0 0, sv, .pointer (some ⟨Bs, 0, none⟩), undef, .slice none 0 0, undef, sv, undef, undef, undef, undef, undef, undef], params := #[7], assign := sv_assign, body := sv_body, defers := D }
structure SvAp (w0 : World) (fn : FuncId) (sv : Value) (Bs l D : Nat) (ss : List Pr2) (W : World) : Prop where
  box : ∃ v, W.heap[Bs]? = some (.cells #[v] 25 (0, 0)) ∧ W.ownsRow w0.heap.size 45 2 v ss.length (sv_flat ss) ∧ (v = .slice none 0 0 ↔ ss = [])
  L : W.heap[l]? = some (.loop (sv_rec fn sv Bs D .ready none))
  K : W.heap[D]? = some (.deferred (some []))
  below : Below w0.heap.size w0 W
theorem sv_abides (w0 : World) (fn : FuncId) (sv : Value) (Bs l D B : Nat) (hB : w0.heap.size ≤ B) : AbidesFrom B (SvAp w0 fn sv Bs l D) := fun s W W' row h hg hrow => by
  have hrow' : ∀ r, row = some r → ∃ o : Obj, W.heap[r]? = some o ∧ o.isWalk = true := fun r e => (hrow r e).2
  obtain ⟨v, hv, hr, hn⟩ := h.box
  exact ⟨⟨v, (grownBy_keeps hg hrow' hv rfl).trans hv, sv_row_abides hr hg hrow', hn⟩, (grownBy_keeps hg hrow' h.L rfl).trans h.L, (grownBy_keeps hg hrow' h.K rfl).trans h.K,
    h.below.grown hg h.below.size (fun k e => ku hB (hrow k e).1)⟩
theorem sv_info : (Try.prog.info? 45).map (fun i => (i.zero, i.size, i.bytes)) = some (some (.agg #[.int .i64 0, .int .i64 0]), 2, 16) := by kernel_rfl
theorem sv_blk {W : World} {g : Nat} {cs : Array Value} {t : TypeId} (h : W.heap[g]? = some (.cells cs t (0, 0))) (j : Nat) : W.cell? ⟨g, j, none⟩ = cs[j]? := by
  unfold World.cell?; dsimp only; rw [h]; rfl
theorem sv_two_new (W : World) (a b : Value) (t : TypeId) : ∀ (j : Nat) (u : Value), ([a, b] : List Value)[j]? = some u → (W.alloc (.cells #[a, b] t)).cell? ((⟨W.heap.size, 0, none⟩ : Addr).add j) = some u := by
  intro j u h
  have hn := ko W (.cells #[a, b] t)
  have ha : (⟨W.heap.size, 0, none⟩ : Addr).add j = ⟨W.heap.size, j, none⟩ := by unfold Addr.add; split <;> simp_all
  rw [ha, sv_blk hn]
  match j, h with
  | 0, h => simpa using h
  | 1, h => simpa using h
  | j + 2, h => simp at h
set_option maxRecDepth 100000 in
set_option maxHeartbeats 4000000 in
theorem sv_yield (F : Fence) (m : Nat) (w0 : World) (fn : FuncId) (hfn : F.fn fn) (sv : Value) (Bs l D : Nat) (hBl : Bs ≠ l) (hDl : D ≠ l) (hDB : D ≠ Bs) (h0B : w0.heap.size ≤ Bs) (h0l : w0.heap.size ≤ l)
    (N : Nat) (hN : N ≤ maxLen) (hNb : N * 16 ≤ 140737488355328) (ss : List Pr2) (x : Pr2) (W : World) (h : SvAp w0 fn sv Bs l D ss W) (hlen : ss.length < N) :
    YieldAt F m kf l #[Pr2.enc x] W fun e W' => e = .returned (.bool true) ∧ SvAp w0 fn sv Bs l D (ss ++ [x]) W' ∧ Below w0.heap.size W W' := by
  obtain ⟨i0, hi, hz0, hz1, hz2⟩ := info_parts sv_info
  refine ⟨fn, #[.slice none 0 0, sv, .pointer (some ⟨Bs, 0, none⟩), undef, .slice none 0 0, undef, sv, Pr2.enc x, undef, undef, undef, undef, undef], sv_assign, sv_body, by simpa [sv_rec] using run_yield (P := kf) (args := #[Pr2.enc x]) h.L rfl, roundIn_of_wpIn hfn ?_⟩
  unfold sv_assign Pr2.enc
  gi_wp2
  have hwa : Below w0.heap.size W (W.alloc (.cells #[.int .i64 x.1, .int .i64 x.2] 45)) := (Below.refl _ W).alloc h.below.size _
  have hA := sv_abides w0 fn sv Bs l D W.heap.size h.below.size ss W (W.alloc (.cells #[.int .i64 x.1, .int .i64 x.2] 45)) none h (sv_grown _ _) (fun r e => by cases e)
  have hX := ko W (.cells #[.int .i64 x.1, .int .i64 x.2] 45)
  have hXl : W.heap.size ≠ l := by have := (Array.getElem?_eq_some_iff.1 h.L).1; omega
  generalize W.heap.size = bx at hX hXl ⊢
  generalize W.alloc (.cells #[.int .i64 x.1, .int .i64 x.2] 45) = Wa at hwa hA hX ⊢
  obtain ⟨v, hv, hrow, _⟩ := hA.box
  have hl : l < Wa.heap.size := (Array.getElem?_eq_some_iff.1 hA.L).1
  have hbr := run_beginRound (P := kf) hA.L rfl
  obtain ⟨W2, hW2⟩ : ∃ W2, Wa.putObj l (.loop { sv_rec fn sv Bs D .ready none with state := .busy }) = W2 := ⟨_, rfl⟩
  rw [hW2] at hbr
  have hg2 : Wa.grownBy W2 (some l) := by rw [← hW2]; exact sv_grown_put _ _ _
  have hv2 : W2.heap[Bs]? = some (.cells #[v] 25 (0, 0)) := by rw [← hW2]; exact (ke hBl).trans hv
  have hx2 : W2.heap[bx]? = some (.cells #[.int .i64 x.1, .int .i64 x.2] 45 (0, 0)) := by rw [← hW2]; exact (ke hXl).trans hX
  have hK2 : W2.heap[D]? = some (.deferred (some [])) := by rw [← hW2]; exact (ke hDl).trans hA.K
  have hL2 : W2.heap[l]? = some (.loop { sv_rec fn sv Bs D .ready none with state := .busy }) := by rw [← hW2]; exact World.putObj_heap_same hl
  have hrow2 : W2.ownsRow w0.heap.size 45 2 v ss.length (sv_flat ss) := hrow.kept hg2 (sv_row_ne hrow hA.L (fun cur e => by cases e))
  have hb2 : Below w0.heap.size w0 W2 := hA.below.grown hg2 hA.below.size (fun k e => by cases e; exact h0l)
  have hw2 : Below w0.heap.size W W2 := hwa.grown hg2 (hA.below.size) (fun k e => by cases e; exact h0l)
  have hBlt : Bs < W2.heap.size := (Array.getElem?_eq_some_iff.1 hv2).1
  have hl2 : l < W2.heap.size := (Array.getElem?_eq_some_iff.1 hL2).1
  have hDlt : D < W2.heap.size := (Array.getElem?_eq_some_iff.1 hK2).1
  refine ⟨W2, hbr, ?_⟩
  clear hW2 hbr hg2
  obtain ⟨hc2, hf2⟩ := sv_cell_box hv2
  have hx20 : W2.cell? ⟨bx, 0, none⟩ = some (.int .i64 x.1) := sv_blk hx2 0
  have hx21 : W2.cell? ⟨bx, 1, none⟩ = some (.int .i64 x.2) := sv_blk hx2 1
  have ne_of : ∀ {j : Nat} {o : Obj}, W2.heap[j]? = some o → (∀ cur, o ≠ .cells cur 45 (0, 0)) → some j ≠ v.ownBlock := fun hj hno => by
    rcases sv_row_ne hrow2 hj hno with e | e
    · rw [e]; simp
    · exact fun e' => e e'.symm
  have hcn := sv_two_new W2 (.int .i64 x.1) (.int .i64 x.2) 45
  clear hx2 hX
  unfold sv_body
  gi_wp2_with (gi_at_builtin; refine wpListIn_append_own _ rfl _ _ 25 rfl w0.heap.size 45 i0 (.agg #[.int .i64 0, .int .i64 0]) 2 16 Try.underlying25 hi hz0 hz1 hz2 rfl (by decide) _ _ _ rfl (hrow2.alloc _) ⟨W2.heap.size, 0, none⟩ 1 1 [.int .i64 x.1, .int .i64 x.2] rfl rfl hcn (by simp [Value.oneCell']) (by omega) (by omega) (by have := hb2.size; simp; omega) ?_; intro v' w3 hown' hg3 hnil3; have hv3 : w3.heap[Bs]? = some (.cells #[v] 25 (0, 0)) := (hg3.block Bs (by simp; omega) (ne_of hv2 (fun cur e => by cases e))).trans ((Below.heap_alloc _ _ Bs hBlt).trans hv2); obtain ⟨hc3, hf3⟩ := sv_cell_box hv3; obtain ⟨g', cap', rfl⟩ := ownsRow_succ hown')
  have hg3' : (W2.alloc (.cells #[.int .i64 x.1, .int .i64 x.2] 45)).grownBy w3 v.ownBlock := hg3
  have hL3 : w3.heap[l]? = some (.loop { sv_rec fn sv Bs D .ready none with state := .busy }) := (hg3'.block l (by simp; omega) (ne_of hL2 (fun cur e => by cases e))).trans ((Below.heap_alloc _ _ l hl2).trans hL2)
  have hK3 : w3.heap[D]? = some (.deferred (some [])) := (hg3'.block D (by simp; omega) (ne_of hK2 (fun cur e => by cases e))).trans ((Below.heap_alloc _ _ D hDlt).trans hK2)
  obtain ⟨w4, hw4⟩ : ∃ w4, w3.setCell ⟨Bs, 0, none⟩ (.slice (some ⟨g', 0, none⟩) (ss.length + 1) cap') = w4 := ⟨_, rfl⟩
  rw [hw4]
  have hg4 : w3.grownBy w4 (some Bs) := by rw [← hw4]; exact sv_grown_set _ _ _
  have hv4 : w4.heap[Bs]? = some (.cells #[.slice (some ⟨g', 0, none⟩) (ss.length + 1) cap'] 25 (0, 0)) := by rw [← hw4]; exact sv_set_box _ hv3
  have hL4 : w4.heap[l]? = some (.loop { sv_rec fn sv Bs D .ready none with state := .busy }) := (hg4.block l (Array.getElem?_eq_some_iff.1 hL3).1 (fun e => hBl (by cases e; rfl))).trans hL3
  have hK4 : w4.heap[D]? = some (.deferred (some [])) := (hg4.block D (Array.getElem?_eq_some_iff.1 hK3).1 (fun e => hDB (by cases e; rfl))).trans hK3
  have hrow4 := hown'.kept hg4 (sv_row_ne hown' hv3 (fun cur e => by cases e))
  have hl4 : l < w4.heap.size := (Array.getElem?_eq_some_iff.1 hL4).1
  have hb3 : Below w0.heap.size w0 w3 := (hb2.alloc hb2.size _).grown hg3' (by have := hb2.size; simp; omega) (fun k e => (hrow2.lt k e).1)
  have hw3 : Below w0.heap.size W w3 := (hw2.alloc hb2.size _).grown hg3' (by have := hb2.size; simp; omega) (fun k e => (hrow2.lt k e).1)
  have hb4 : Below w0.heap.size w0 w4 := hb3.grown hg4 hb3.size (fun k e => by cases e; exact h0B)
  have hw4' : Below w0.heap.size W w4 := hw3.grown hg4 hb3.size (fun k e => by cases e; exact h0B)
  clear hw4
  refine ⟨_, _, run_endRound none hL4, rfl, ⟨⟨_, (ke hBl).trans hv4, ?_, by simp⟩, World.putObj_heap_same hl4, (ke hDl).trans hK4, hb4.grown (sv_grown_put _ _ _) hb4.size (fun k e => by cases e; exact h0l)⟩, hw4'.grown (sv_grown_put _ _ _) hb4.size (fun k e => by cases e; exact h0l)⟩
  have := hrow4.kept (sv_grown_put w4 l (.loop { { sv_rec fn sv Bs D .ready none with state := .busy } with state := if (none : Option Code).isNone then .ready else .done, pending := none })) (sv_row_ne hrow4 hL4 (fun cur e => by cases e))
  rw [sv_flat_snoc]
  simpa using this
set_option maxRecDepth 100000 in
set_option maxHeartbeats 4000000 in
theorem sv_appendSeq_in (F : Fence) (n : Nat) (h11 : F.fn 97) (hro : F.round = none) (hn : 2 ≤ n) (g : Nat) (lb : Array Value) (hFg : F.fn g) (eg : ∀ args w, (callFunc g args).run kf w = .ok (.enter g args) w)
    (S Sp : List Pr2 → Prop) (N : Nat) (hN : N ≤ maxLen) (hNb : N * 16 ≤ 140737488355328) (w wq : World) (hwq : wq.heap.size ≤ w.heap.size) (hq : Below wq.heap.size wq w) (hseq : SeqStopsK F (n - 1) kf g lb (fun x : Pr2 => #[Pr2.enc x]) (Below w.heap.size) S Sp N wq) :
    CallsIn F n kf 97 #[.slice none 0 0, .func (.func g) #[] lb] w fun e w' => ∃ (v : Value) (ss : List Pr2), e = .returned v ∧ S ss ∧ w'.ownsRow w.heap.size 45 2 v ss.length (sv_flat ss) ∧ (v = .slice none 0 0 ↔ ss = []) ∧ Below w.heap.size w w' := by
  have h1 : 1 ≤ n := by omega
  refine callsIn_of_wp_marks Try.func97 rfl h11 ?_ hro
  simp only [Try.ntmps97, kp, kl, kw, kX, kV, Array.replicate_succ, Array.replicate_zero, kn, kr, ka, ki]
  gi_wp2
  refine wpIn_rangeFunc ?_
  intro fn hfn
  rw [hro]
  obtain ⟨W0, hW0⟩ : ∃ W0, w.alloc (.cells #[.slice none 0 0] 25) = W0 := ⟨_, rfl⟩
  have hs0 : W0.heap.size = w.heap.size + 1 := by rw [← hW0]; simp
  have hv0 : W0.heap[w.heap.size]? = some (.cells #[.slice none 0 0] 25 (0, 0)) := by rw [← hW0]; exact ko w _
  have hb0 : Below w.heap.size w W0 := by rw [← hW0]; exact (Below.refl _ w).alloc (ks _) _
  rw [hW0]
  obtain ⟨W1, hW1⟩ : ∃ W1, (W0.alloc (.deferred (some []))).alloc (.loop (sv_rec fn (.func (.func g) #[] lb) w.heap.size W0.heap.size .ready none)) = W1 := ⟨_, rfl⟩
  have hold : ∀ k, k < W0.heap.size → W1.heap[k]? = W0.heap[k]? := fun k hk => by
    rw [← hW1]; exact (Below.heap_alloc _ _ k (by simp; omega)).trans (Below.heap_alloc _ _ k hk)
  have hb1 : Below w.heap.size w W1 := by rw [← hW1]; exact (hb0.alloc hb0.size _).alloc (by have := hb0.size; simp; omega) _
  have hs1 : W1.heap.size = W0.heap.size + 2 := by rw [← hW1]; simp
  have hM : SvAp w fn (.func (.func g) #[] lb) w.heap.size (W0.heap.size + 1) W0.heap.size [] W1 :=
    ⟨⟨_, (hold w.heap.size (by omega)).trans hv0, ⟨rfl, .inl ⟨rfl, rfl⟩⟩, by simp⟩,
     by rw [← hW1]; have := ko (W0.alloc (.deferred (some []))) (.loop (sv_rec fn (.func (.func g) #[] lb) w.heap.size W0.heap.size .ready none)); rwa [World.size_alloc] at this,
     by rw [← hW1]; exact (Below.heap_alloc _ _ _ (by simp)).trans (ko W0 _), hb1⟩
  refine ⟨W0.heap.size + 1, [{ target := .collected W0.heap.size, args := #[] }], W1, { target := .fn (.func g) lb, args := #[.func (.yield (W0.heap.size + 1)) #[] #[]] }, W1, g,
    #[.func (.yield (W0.heap.size + 1)) #[] #[]] ++ lb, W1, ?_, ?_, ?_, ?_, fun _ => h1, ?_⟩
  · rw [← hW1]; exact run_enterLoop_outer _ _ _ _ _
  · simp [resolve, go_sem]
  · intro f' hf'; simp [Target.leads] at hf'; subst hf'; exact hFg
  · simp [invoke, go_sem, eg]
  · refine (hseq (W0.heap.size + 1) (SvAp w fn (.func (.func g) #[] lb) w.heap.size (W0.heap.size + 1) W0.heap.size) (fun _ _ => False) W1 (hq.trans (hb1.mono hwq)) (sv_abides _ _ _ _ _ _ _ hb1.size) (fun _ _ _ _ h _ _ => h)
      (fun pre x W hJ hl => by obtain ⟨a, b, c, d, h1, h2⟩ := sv_yield F (n - 1 - 1) w fn hfn (.func (.func g) #[] lb) w.heap.size (W0.heap.size + 1) W0.heap.size (by omega) (by omega) (by omega) (ks _) (by omega) N hN hNb pre x W hJ hl; exact ⟨a, b, c, d, h1, h2.mono fun e W' h => .inl h⟩) hM).mono ?_
    rintro e W2 ⟨⟨v0, rfl⟩, ⟨ss, hS, h2⟩ | ⟨_, _, hf⟩⟩
    case inr => exact hf.elim
    obtain ⟨v, hv, hrow, hnil⟩ := h2.box
    have hend := run_endLoop (P := kf) h2.L (by simp [sv_rec])
    obtain ⟨W3, hW3⟩ : ∃ W3, W2.putObj (W0.heap.size + 1) (.loop { sv_rec fn (.func (.func g) #[] lb) w.heap.size W0.heap.size .ready none with state := .exhausted }) = W3 := ⟨_, rfl⟩
    rw [hW3] at hend
    have hg3 : W2.grownBy W3 (some (W0.heap.size + 1)) := by rw [← hW3]; exact sv_grown_put _ _ _
    have hv3 : W3.heap[w.heap.size]? = some (.cells #[v] 25 (0, 0)) := by rw [← hW3]; exact (ke (by omega)).trans hv
    have hK3 : W3.heap[W0.heap.size]? = some (.deferred (some [])) := by rw [← hW3]; exact (ke (by omega)).trans h2.K
    have hrow3 := hrow.kept hg3 (sv_row_ne hrow h2.L (fun cur e => by cases e))
    have hb3 : Below w.heap.size w W3 := h2.below.grown hg3 h2.below.size (fun k e => by cases e; omega)
    obtain ⟨hc3, hf3⟩ := sv_cell_box hv3
    clear hW3
    refine ⟨none, W3, hend, ?_⟩
    gi_wp2
    rw [← hs0]
    refine ⟨by simp, .inl ⟨_, _, rfl, run_takeDeferred hK3, ?_⟩⟩
    exact ⟨_, results_tmp rfl _ _ _, v, ss, rfl, hS, hrow3.kept (sv_grown_put _ _ _) (sv_row_ne hrow3 hK3 (fun cur e => by cases e)), hnil, hb3.grown (sv_grown_put _ _ _) hb3.size (fun k e => by cases e; omega)⟩
set_option maxHeartbeats 1000000 in
theorem sv_collect_in (F : Fence) (n : Nat) (h8 : F.fn 92) (h11 : F.fn 97) (hro : F.round = none) (hn : 3 ≤ n) (g : Nat) (lb : Array Value) (hFg : F.fn g) (eg : ∀ args w, (callFunc g args).run kf w = .ok (.enter g args) w)
    (S Sp : List Pr2 → Prop) (N : Nat) (hN : N ≤ maxLen) (hNb : N * 16 ≤ 140737488355328) (w : World) (hseq : SeqStopsK F (n - 1 - 1) kf g lb (fun x : Pr2 => #[Pr2.enc x]) (Below w.heap.size) S Sp N w) :
    CallsIn F n kf 92 #[.func (.func g) #[] lb] w fun e w' => ∃ (v : Value) (ss : List Pr2), e = .returned v ∧ S ss ∧ w'.ownsRow w.heap.size 45 2 v ss.length (sv_flat ss) ∧ (v = .slice none 0 0 ↔ ss = []) ∧ Below w.heap.size w w' := by
  have h1 : 1 ≤ n := by omega
  refine callsIn_of_wp Try.func92 rfl h8 ?_ hro
  simp only [Try.ntmps92, kp, kl, kw, kX, kV, Array.replicate_succ, Array.replicate_zero, kn, kr, ka, ki]
  gi_wp2_with (gi_at_call 97; refine (sv_appendSeq_in F (n - 1) h11 hro (by omega) g lb hFg eg S Sp N hN hNb _ w (ks _) (Below.refl _ _) hseq).mono ?_; rintro e w' ⟨v, ss, rfl, hS, hrow, hnil, hb⟩)
  go_ret
  exact ⟨v, ss, rfl, hS, hrow, hnil, hb⟩
end
section
variable {P : Program} {ops : Array Oper} {rest : List Oper} {o : Oper} {a : Act} {Q : Exit → Act → World → Prop} {Kc : Act → World → Prop}
theorem box_eventD {W : World} (hgd : o.guard = none) {N : Tmp} (_hd : o.dst = some N) {cs : Array Value} {t : TypeId}
    (hrun : (execOp a.eval o).run P W = .ok (.value (.pointer (some ⟨W.heap.size, 0, none⟩))) (W.alloc (.cells cs t (0, 0))))
    (h : ∀ g, g = W.heap.size → ∀ w1, w1.heap[g]? = some (.cells cs t (0, 0)) → Below W.heap.size W w1 → W.drawn ≤ w1.drawn → wpList P ops Q rest (a.put o.dst (.pointer (some ⟨g, 0, none⟩))) w1) : wpList P ops Q (o :: rest) a W :=
  Kd.event_run hgd hrun (h _ rfl _ (blk_new W _) (below_alloc (Below.refl _ _) _) (ks _))
theorem R_lit_stepD {α : Type} (d : Kd α) {w0 W : World} (base e : Nat) (hw : Region.wanted o (yielded ops a.tmps) = true) {N : Tmp} (_hd : o.dst = some N) {xs : List α} {inner : List Value} {ok okp : Nat → Prop}
    (hrun : (execOp a.eval o).run P W = .ok (.value (.slice (some ⟨W.heap.size, 0, none⟩) xs.length xs.length)) (W.alloc (.cells inner.toArray e)))
    (hrep : Reps (d.M W base okp) d.sz xs inner) (hok : ∀ k, okp k → ok k) (hfresh : ok W.heap.size) (HB : Below base w0 W) (hbase : base ≤ W.heap.size) (hm : xs.length ≤ 9223372036854775807)
    (h : ∀ v1 w1, d.R e w1 base ok v1 xs → Below base w0 w1 → W.grownBy w1 none → (∃ b, v1.ownBlock = some b ∧ W.heap.size ≤ b) → W.drawn ≤ w1.drawn → Kc (a.put o.dst v1) w1) : if Region.wanted o (yielded ops a.tmps) = true then Oper.wp P o a W Kc Q else Kc (a.put o.dst undef) W := by
  refine event_step hw hrun (h _ _ ⟨fun k hk => ?_, inner, ?_, ?_⟩ (HB.alloc hbase _) (World.grownBy_alloc W _ none) ⟨W.heap.size, by simp [kY], ks _⟩ (ks _))
  · have : W.heap.size = k := by simpa [kY] using hk
    subst this
    exact hfresh
  · have h2 := World.ownsRow_lit (base := base) (e := e) (size := d.sz) W inner.toArray xs.length hbase (by simpa [maxLen] using hm) (by simpa using hrep.1)
    simpa using h2
  · refine hrep.imp_ (fun p c hp => d.M_mono (fun k hk => ⟨hok k hk.1, fun he => ?_⟩) (Kd.M_below (d.M_bound hp) (below_alloc (Below.refl _ _) _)))
    have h3 : k = W.heap.size := by simpa [kY] using he
    have := hk.2.2.1
    omega
end
theorem drawn1 (w : World) (n : Nat) : w.drawn ≤ (w.drewN n).drawn := Nat.le_add_right _ _
theorem drawn2 (w : World) (n m : Nat) : w.drawn ≤ ((w.drewN n).drewN m).drawn := ku (Nat.le_add_right _ _) (Nat.le_add_right _ _)
def sv_cmp_Or_int.l0 : Nat → Int → List Int → Int → Int → Option (Int)
  | 0, _, _, _, _ => none
  | k + 1, x3, x6, x7, x8 => if x8 < x7 then (if 0 ≤ x8 then (if x8 < (x6.length : Int) then (if (rd x6 x8) = x3 then (sv_cmp_Or_int.l0 k x3 x6 x7 (wrap64 (x8 + 1))) else (some (rd x6 x8))) else (none)) else (none)) else (some x3)
def sv_cmp_Or_int.f (k : Nat) (l0 : List Int) : Option (Int) := sv_cmp_Or_int.l0 k 0 l0 (l0.length : Int) 0
set_option maxHeartbeats 8000000 in
set_option maxRecDepth 100000 in
theorem sv_cmp_Or_int.calls (k : Nat) (A0 : Option Addr) (c0 : Nat) (l0 : List Int) (r : Int) (w : World) (hr0 : Kd.C (Kd.int .i64) w A0 l0.length l0) (hc0 : l0.length ≤ c0) (h : sv_cmp_Or_int.f k l0 = some r) :
    Calls kf 90 #[.slice A0 l0.length c0] w fun e w' => e = .returned (.int .i64 r) ∧ Drawn0 w w' := by
  have HR0 := ky hr0
  have HC0 := ky hc0
  clear hr0 hc0
  have H : (sv_cmp_Or_int.l0 k 0 l0 (l0.length : Int) 0) = some r := h
  clear h
  have H' := ky H
  clear H
  go_enter Try.func90, Try.ntmps90
  go_wp2
  go_loopg [8] k (fun kq v8 w' => ∃ (x8_1 : Int), v8 = .int .i64 x8_1 ∧ Aside0 (sv_cmp_Or_int.l0 kq 0 l0 (l0.length : Int) x8_1 = some r) ∧ Aside0 (kq ≤ k) ∧ Drawn0 w w')
  case atStart => exact ⟨(0), (by first | rfl | (simp; done) | (simp [*]; done)), H', ⟨ks _⟩, by repeat (first | exact Drawn0.refl _ | apply Drawn0.step)⟩
  case round =>
    clear H'
    obtain ⟨x8_1, rfl, HA, HK1, ⟨m1, rfl⟩⟩ := hrel
    cases gk with
    | zero => exact absurd HA.out (by simp [sv_cmp_Or_int.l0])
    | succ k1 =>
      have H := HA.out
      clear HA
      simp only [sv_cmp_Or_int.l0] at H
      by_cases c2 : x8_1 < (l0.length : Int)
      · rw [if_pos c2] at H
        have c2b0 : decide (x8_1 < (l0.length : Int)) = true := decide_eq_true c2
        clear c2
        by_cases c3 : 0 ≤ x8_1
        · rw [if_pos c3] at H
          have c3b0 : decide (0 ≤ x8_1) = true := decide_eq_true c3
          clear c3
          by_cases c4 : x8_1 < (l0.length : Int)
          · rw [if_pos c4] at H
            have c4b0 : decide (x8_1 < (l0.length : Int)) = true := decide_eq_true c4
            clear c4
            by_cases c5 : (rd l0 x8_1) = 0
            · rw [if_pos c5] at H
              have c5b0 : ((rd l0 x8_1) == 0) = true := beq_iff_eq.mpr c5
              have c5b1 : ((rd l0 x8_1) != 0) = false := bne_eq_false_iff_eq.mpr c5
              clear c5
              have H' := ky H
              clear H
              have p208 : 0 ≤ (x8_1 : Int) := of_decide_eq_true (by first | (with_reducible assumption) | assumption)
              have q208 : x8_1 < (l0.length : Int) := of_decide_eq_true (by first | (with_reducible assumption) | assumption)
              obtain ⟨ad208, e208, hx208_0⟩ := Kd.at_int HR0.out x8_1 p208 q208
              cases e208
              replace p208 := eq_true p208
              replace q208 := eq_true q208
              go_wp2
              go_roundg k1
              case measure => have := HK1.out; omega
              case rel => exact ⟨(wrap64 (x8_1 + 1)), (by first | rfl | (simp; done) | (simp [*]; done)), H', ⟨by have := HK1.out; omega⟩, by repeat (first | exact Drawn0.refl _ | apply Drawn0.step)⟩
            · rw [if_neg c5] at H
              have c5b0 : ((rd l0 x8_1) == 0) = false := beq_eq_false_iff_ne.mpr c5
              have c5b1 : ((rd l0 x8_1) != 0) = true := bne_iff_ne.mpr c5
              obtain rfl := kc H
              have p208 : 0 ≤ (x8_1 : Int) := of_decide_eq_true (by first | (with_reducible assumption) | assumption)
              have q208 : x8_1 < (l0.length : Int) := of_decide_eq_true (by first | (with_reducible assumption) | assumption)
              obtain ⟨ad208, e208, hx208_0⟩ := Kd.at_int HR0.out x8_1 p208 q208
              cases e208
              replace p208 := eq_true p208
              replace q208 := eq_true q208
              go_wp2
              go_ret
              exact ⟨by first | rfl | (simp; done) | (simp [*]; done), by repeat (first | exact Drawn0.refl _ | apply Drawn0.step)⟩
          · rw [if_neg c4] at H
            exact absurd H (by simp)
        · rw [if_neg c3] at H
          exact absurd H (by simp)
      · rw [if_neg c2] at H
        have c2b0 : decide (x8_1 < (l0.length : Int)) = false := decide_eq_false c2
        clear c2
        obtain rfl := kc H
        go_wp2
        go_ret
        exact ⟨by first | rfl | (simp; done) | (simp [*]; done), by repeat (first | exact Drawn0.refl _ | apply Drawn0.step)⟩
def sv_cmp_isNaN_int.f (a0 : Int) : Option (Bool) := some (a0 != a0)
set_option maxHeartbeats 8000000 in
set_option maxRecDepth 100000 in
theorem sv_cmp_isNaN_int.calls (a0 : Int) (r : Bool) (w : World) (h : sv_cmp_isNaN_int.f a0 = some r) :
    Calls kf 96 #[.int .i64 a0] w fun e w' => e = .returned (.bool r) ∧ Drawn0 w w' := by
  have H : (some (a0 != a0)) = some r := h
  clear h
  obtain rfl := kc H
  go_enter km, Try.ntmps96
  go_wp2
  go_ret
  exact ⟨by first | rfl | (simp; done) | (simp [*]; done), by repeat (first | exact Drawn0.refl _ | apply Drawn0.step)⟩
def sv_cmp_Compare_int.f (a0 : Int) (a1 : Int) : Option (Int) := (sv_cmp_isNaN_int.f a0).bind fun t209 => ((sv_cmp_isNaN_int.f a1).bind fun t210 => (if t209 = true then (if t210 = true then (some 0) else (some (-1))) else (if t210 = true then (some 1) else (if a0 < a1 then (some (-1)) else (if a0 > a1 then (some 1) else (some 0))))))
set_option maxHeartbeats 8000000 in
set_option maxRecDepth 100000 in
theorem sv_cmp_Compare_int.calls (a0 : Int) (a1 : Int) (r : Int) (w : World) (h : sv_cmp_Compare_int.f a0 a1 = some r) :
    Calls kf 91 #[.int .i64 a0, .int .i64 a1] w fun e w' => e = .returned (.int .i64 r) ∧ Drawn0 w w' := by
  have H : ((sv_cmp_isNaN_int.f a0).bind fun t209 => ((sv_cmp_isNaN_int.f a1).bind fun t210 => (if t209 = true then (if t210 = true then (some 0) else (some (-1))) else (if t210 = true then (some 1) else (if a0 < a1 then (some (-1)) else (if a0 > a1 then (some 1) else (some 0))))))) = some r := h
  clear h
  replace H := kx.mp H
  obtain ⟨t209, A30, H⟩ := H
  replace H : ((sv_cmp_isNaN_int.f a1).bind fun t210 => (if t209 = true then (if t210 = true then (some 0) else (some (-1))) else (if t210 = true then (some 1) else (if a0 < a1 then (some (-1)) else (if a0 > a1 then (some 1) else (some 0)))))) = some r := H
  have A3 := ky A30
  clear A30
  replace H := kx.mp H
  obtain ⟨t210, A40, H⟩ := H
  replace H : (if t209 = true then (if t210 = true then (some 0) else (some (-1))) else (if t210 = true then (some 1) else (if a0 < a1 then (some (-1)) else (if a0 > a1 then (some 1) else (some 0))))) = some r := H
  have A4 := ky A40
  clear A40
  by_cases c5 : t209 = true
  · subst c5
    have H1 : (if t210 = true then (some 0) else (some (-1))) = some r := by rw [if_pos rfl] at H; exact H
    clear H
    have H := H1
    clear H1
    by_cases c6 : t210 = true
    · subst c6
      have H1 : (some 0) = some r := by rw [if_pos rfl] at H; exact H
      clear H
      have H := H1
      clear H1
      obtain rfl := kc H
      go_enter kQ, kU
      go_wp2_with (first | ((with_reducible refine gate_callee (f := 96) rfl ?_); refine goesL_ (some 8) rfl rfl km (by kernel_rfl) rfl #[.int .i64 a0] rfl (by (try simp only [kj, kb, kd]); first | done | rfl | (simp only [kk, kv]; rfl)) ?_; (with_reducible refine (sv_cmp_isNaN_int.calls a0 true _ A3.out).mono ?_); rintro e w' ⟨rfl, ⟨nd, rfl⟩⟩; refine ⟨_, rfl, ?_⟩) | ((with_reducible refine gate_callee (f := 96) rfl ?_); refine goesL_ (some 10) rfl rfl km (by kernel_rfl) rfl #[.int .i64 a1] rfl (by (try simp only [kj, kb, kd]); first | done | rfl | (simp only [kk, kv]; rfl)) ?_; (with_reducible refine (sv_cmp_isNaN_int.calls a1 true _ A4.out).mono ?_); rintro e w' ⟨rfl, ⟨nd, rfl⟩⟩; refine ⟨_, rfl, ?_⟩))
      go_ret
      exact ⟨by first | rfl | (simp; done) | (simp [*]; done), by repeat (first | exact Drawn0.refl _ | apply Drawn0.step)⟩
    · replace c6 := Bool.eq_false_iff.mpr c6
      subst c6
      have H1 : (some (-1)) = some r := by rw [if_neg (show ¬ (false = true) by decide)] at H; exact H
      clear H
      have H := H1
      clear H1
      obtain rfl := kc H
      go_enter kQ, kU
      go_wp2_with (first | ((with_reducible refine gate_callee (f := 96) rfl ?_); refine goesL_ (some 8) rfl rfl km (by kernel_rfl) rfl #[.int .i64 a0] rfl (by (try simp only [kj, kb, kd]); first | done | rfl | (simp only [kk, kv]; rfl)) ?_; (with_reducible refine (sv_cmp_isNaN_int.calls a0 true _ A3.out).mono ?_); rintro e w' ⟨rfl, ⟨nd, rfl⟩⟩; refine ⟨_, rfl, ?_⟩) | ((with_reducible refine gate_callee (f := 96) rfl ?_); refine goesL_ (some 10) rfl rfl km (by kernel_rfl) rfl #[.int .i64 a1] rfl (by (try simp only [kj, kb, kd]); first | done | rfl | (simp only [kk, kv]; rfl)) ?_; (with_reducible refine (sv_cmp_isNaN_int.calls a1 false _ A4.out).mono ?_); rintro e w' ⟨rfl, ⟨nd, rfl⟩⟩; refine ⟨_, rfl, ?_⟩))
      go_ret
      exact ⟨by first | rfl | (simp; done) | (simp [*]; done), by repeat (first | exact Drawn0.refl _ | apply Drawn0.step)⟩
  · replace c5 := Bool.eq_false_iff.mpr c5
    subst c5
    have H1 : (if t210 = true then (some 1) else (if a0 < a1 then (some (-1)) else (if a0 > a1 then (some 1) else (some 0)))) = some r := by rw [if_neg (show ¬ (false = true) by decide)] at H; exact H
    clear H
    have H := H1
    clear H1
    by_cases c7 : t210 = true
    · subst c7
      have H1 : (some 1) = some r := by rw [if_pos rfl] at H; exact H
      clear H
      have H := H1
      clear H1
      obtain rfl := kc H
      go_enter kQ, kU
      go_wp2_with (first | ((with_reducible refine gate_callee (f := 96) rfl ?_); refine goesL_ (some 8) rfl rfl km (by kernel_rfl) rfl #[.int .i64 a0] rfl (by (try simp only [kj, kb, kd]); first | done | rfl | (simp only [kk, kv]; rfl)) ?_; (with_reducible refine (sv_cmp_isNaN_int.calls a0 false _ A3.out).mono ?_); rintro e w' ⟨rfl, ⟨nd, rfl⟩⟩; refine ⟨_, rfl, ?_⟩) | ((with_reducible refine gate_callee (f := 96) rfl ?_); refine goesL_ (some 10) rfl rfl km (by kernel_rfl) rfl #[.int .i64 a1] rfl (by (try simp only [kj, kb, kd]); first | done | rfl | (simp only [kk, kv]; rfl)) ?_; (with_reducible refine (sv_cmp_isNaN_int.calls a1 true _ A4.out).mono ?_); rintro e w' ⟨rfl, ⟨nd, rfl⟩⟩; refine ⟨_, rfl, ?_⟩))
      go_ret
      exact ⟨by first | rfl | (simp; done) | (simp [*]; done), by repeat (first | exact Drawn0.refl _ | apply Drawn0.step)⟩
    · replace c7 := Bool.eq_false_iff.mpr c7
      subst c7
      have H1 : (if a0 < a1 then (some (-1)) else (if a0 > a1 then (some 1) else (some 0))) = some r := by rw [if_neg (show ¬ (false = true) by decide)] at H; exact H
      clear H
      have H := H1
      clear H1
      by_cases c8 : a0 < a1
      · rw [if_pos c8] at H
        have c8b0 : decide (a0 < a1) = true := decide_eq_true c8
        clear c8
        obtain rfl := kc H
        go_enter kQ, kU
        go_wp2_with (first | ((with_reducible refine gate_callee (f := 96) rfl ?_); refine goesL_ (some 8) rfl rfl km (by kernel_rfl) rfl #[.int .i64 a0] rfl (by (try simp only [kj, kb, kd]); first | done | rfl | (simp only [kk, kv]; rfl)) ?_; (with_reducible refine (sv_cmp_isNaN_int.calls a0 false _ A3.out).mono ?_); rintro e w' ⟨rfl, ⟨nd, rfl⟩⟩; refine ⟨_, rfl, ?_⟩) | ((with_reducible refine gate_callee (f := 96) rfl ?_); refine goesL_ (some 10) rfl rfl km (by kernel_rfl) rfl #[.int .i64 a1] rfl (by (try simp only [kj, kb, kd]); first | done | rfl | (simp only [kk, kv]; rfl)) ?_; (with_reducible refine (sv_cmp_isNaN_int.calls a1 false _ A4.out).mono ?_); rintro e w' ⟨rfl, ⟨nd, rfl⟩⟩; refine ⟨_, rfl, ?_⟩))
        go_ret
        exact ⟨by first | rfl | (simp; done) | (simp [*]; done), by repeat (first | exact Drawn0.refl _ | apply Drawn0.step)⟩
      · rw [if_neg c8] at H
        have c8b0 : decide (a0 < a1) = false := decide_eq_false c8
        clear c8
        by_cases c9 : a0 > a1
        · rw [if_pos c9] at H
          have c9b0 : decide (a1 < a0) = true := decide_eq_true c9
          clear c9
          obtain rfl := kc H
          go_enter kQ, kU
          go_wp2_with (first | ((with_reducible refine gate_callee (f := 96) rfl ?_); refine goesL_ (some 8) rfl rfl km (by kernel_rfl) rfl #[.int .i64 a0] rfl (by (try simp only [kj, kb, kd]); first | done | rfl | (simp only [kk, kv]; rfl)) ?_; (with_reducible refine (sv_cmp_isNaN_int.calls a0 false _ A3.out).mono ?_); rintro e w' ⟨rfl, ⟨nd, rfl⟩⟩; refine ⟨_, rfl, ?_⟩) | ((with_reducible refine gate_callee (f := 96) rfl ?_); refine goesL_ (some 10) rfl rfl km (by kernel_rfl) rfl #[.int .i64 a1] rfl (by (try simp only [kj, kb, kd]); first | done | rfl | (simp only [kk, kv]; rfl)) ?_; (with_reducible refine (sv_cmp_isNaN_int.calls a1 false _ A4.out).mono ?_); rintro e w' ⟨rfl, ⟨nd, rfl⟩⟩; refine ⟨_, rfl, ?_⟩))
          go_ret
          exact ⟨by first | rfl | (simp; done) | (simp [*]; done), by repeat (first | exact Drawn0.refl _ | apply Drawn0.step)⟩
        · rw [if_neg c9] at H
          have c9b0 : decide (a1 < a0) = false := decide_eq_false c9
          clear c9
          obtain rfl := kc H
          go_enter kQ, kU
          go_wp2_with (first | ((with_reducible refine gate_callee (f := 96) rfl ?_); refine goesL_ (some 8) rfl rfl km (by kernel_rfl) rfl #[.int .i64 a0] rfl (by (try simp only [kj, kb, kd]); first | done | rfl | (simp only [kk, kv]; rfl)) ?_; (with_reducible refine (sv_cmp_isNaN_int.calls a0 false _ A3.out).mono ?_); rintro e w' ⟨rfl, ⟨nd, rfl⟩⟩; refine ⟨_, rfl, ?_⟩) | ((with_reducible refine gate_callee (f := 96) rfl ?_); refine goesL_ (some 10) rfl rfl km (by kernel_rfl) rfl #[.int .i64 a1] rfl (by (try simp only [kj, kb, kd]); first | done | rfl | (simp only [kk, kv]; rfl)) ?_; (with_reducible refine (sv_cmp_isNaN_int.calls a1 false _ A4.out).mono ?_); rintro e w' ⟨rfl, ⟨nd, rfl⟩⟩; refine ⟨_, rfl, ?_⟩))
          go_ret
          exact ⟨by first | rfl | (simp; done) | (simp [*]; done), by repeat (first | exact Drawn0.refl _ | apply Drawn0.step)⟩
def sv_impl_compare.f (k : Nat) (a0_0 : Int) (a0_1 : Int) (a1_0 : Int) (a1_1 : Int) : Option (Int) := (sv_cmp_Compare_int.f a0_0 a1_0).bind fun t213 => ((sv_cmp_Compare_int.f a0_1 a1_1).bind fun t214 => ((sv_cmp_Or_int.f k (([t213, t214] : List Int))).bind fun t218 => (some t218)))
def sv_impl_compare.T1 : Bool × List (List Nat × List Nat) := (true, [([], []), ([0], [0]), ([], []), ([2], [2]), ([1, 3], [1, 3]), ([], []), ([5], [5]), ([], []), ([7], [7]), ([6, 8, 4], [6, 8]), ([4, 9], [4, 9]), ([10, 9], [10]), ([11, 11, 0, 1, 2, 3, 4, 5, 6, 7, 8, 9, 10, 11], [11])])
def sv_impl_compare.B1 : List Nat := [0, 1, 0, 4, 15, 0, 32, 0, 128, 511, 1023, 2047, 4095]
theorem sv_impl_compare.tab1 : rtab .any (opsOf Try.f80 1) = sv_impl_compare.T1 := by kernel_rfl
theorem sv_impl_compare.bits1 : waitsOk sv_impl_compare.T1.2 sv_impl_compare.B1 = true := by kernel_rfl
set_option maxHeartbeats 8000000 in
set_option maxRecDepth 100000 in
theorem sv_impl_compare.calls (k : Nat) (a0_0 : Int) (a0_1 : Int) (a1_0 : Int) (a1_1 : Int) (r : Int) (w : World) (h : sv_impl_compare.f k a0_0 a0_1 a1_0 a1_1 = some r) :
    Calls kf 80 #[.agg #[.int .i64 a0_0, .int .i64 a0_1], .agg #[.int .i64 a1_0, .int .i64 a1_1]] w fun e w' => e = .returned (.int .i64 r) ∧ Below w.heap.size w w' ∧ w.drawn ≤ w'.drawn := by
  have hu45 := Try.underlying45
  have HB := ky (Below.refl w.heap.size w)
  have HD := ky (ks w.drawn)
  have H : ((sv_cmp_Compare_int.f a0_0 a1_0).bind fun t213 => ((sv_cmp_Compare_int.f a0_1 a1_1).bind fun t214 => ((sv_cmp_Or_int.f k (([t213, t214] : List Int))).bind fun t218 => (some t218)))) = some r := h
  clear h
  replace H := kx.mp H
  obtain ⟨t213, A30, H⟩ := H
  replace H : ((sv_cmp_Compare_int.f a0_1 a1_1).bind fun t214 => ((sv_cmp_Or_int.f k (([t213, t214] : List Int))).bind fun t218 => (some t218))) = some r := H
  have A3 := ky A30
  clear A30
  replace H := kx.mp H
  obtain ⟨t214, A40, H⟩ := H
  replace H : ((sv_cmp_Or_int.f k (([t213, t214] : List Int))).bind fun t218 => (some t218)) = some r := H
  have A4 := ky A40
  clear A40
  obtain ⟨y215, hy215⟩ : ∃ y_ : List Int, y_ = (([t213, t214] : List Int)) := ⟨_, rfl⟩
  replace H : ((sv_cmp_Or_int.f k y215).bind fun t218 => (some t218)) = some r := by first | (rw [hy215]; with_reducible exact H) | (have H2_ := (kJ _ _).symm.trans H; rw [hy215]; with_reducible exact H2_) | (have H2_ := (kJ _ _).symm.trans H; with_reducible exact H2_) | with_reducible exact H | (rw [hy215]; exact H) | exact H
  have Ny215 := ky hy215
  clear hy215
  replace H := kx.mp H
  obtain ⟨t218, A50, H⟩ := H
  replace H : (some t218) = some r := H
  have A5 := ky A50
  clear A50
  obtain rfl := kc H
  go_enter Try.func80, Try.ntmps80
  try go_wp2_with (first | ((with_reducible refine gate_dst (N := 2) rfl ?_); refine box_eventD rfl (N := 2) rfl (cs := #[.int .i64 a0_0, .int .i64 a0_1]) (t := 45) ?hr ?_; (case hr => first | (go_simp; done) | (go_simp; rfl)); intro gb211 hg w6 hbox hb hdr; replace HD := ky (ku HD.out hdr); clear hdr; have n0_ := ky (below_step (by repeat (first | (with_reducible first | exact HB.out | apply below_alloc | apply pw_below_drewN | apply below_drew1) | exact HB.out)) hb); have n1_ := ky (hbox); have n2_ := ky (by rw [hg]; exact (below_size (by repeat (first | (with_reducible first | exact HB.out | apply below_alloc | apply pw_below_drewN | apply below_drew1) | exact HB.out))) : w.heap.size ≤ gb211); have n3_ := ky (by rw [hg]; exact (below_size (by repeat (first | (with_reducible first | exact HB.out | apply below_alloc | apply pw_below_drewN | apply below_drew1) | exact HB.out))) : w.heap.size ≤ gb211); clear HB; have HB := n0_; have BK211 := n1_; have GW211 := n2_; have GE211 := n3_; clear n0_ n1_ n2_ n3_ hb hbox hg) | ((with_reducible refine gate_dst (N := 3) rfl ?_); refine box_eventD rfl (N := 3) rfl (cs := #[.int .i64 a1_0, .int .i64 a1_1]) (t := 45) ?hr ?_; (case hr => first | (go_simp; done) | (go_simp; rfl)); intro gb212 hg w7 hbox hb hdr; replace HD := ky (ku HD.out hdr); clear hdr; have n0_ := ky (blk_below (g := gb211) (o := .cells #[.int .i64 a0_0, .int .i64 a0_1] 45 (0, 0)) (by (with_reducible repeat (first | refine blk_drewN ?_ _ | refine blk_drew ?_ | refine blk_alloc ?_ _)); exact BK211.out) hb); have n1_ := ky (below_step (by repeat (first | (with_reducible first | exact HB.out | apply below_alloc | apply pw_below_drewN | apply below_drew1 | refine below_set ?_ GE211.out) | exact HB.out)) hb); have n2_ := ky (hbox); have n3_ := ky (by rw [hg]; exact (below_size (by repeat (first | (with_reducible first | exact HB.out | apply below_alloc | apply pw_below_drewN | apply below_drew1 | refine below_set ?_ GE211.out) | exact HB.out))) : w.heap.size ≤ gb212); have n4_ := ky (by rw [hg]; exact (below_size (by repeat (first | (with_reducible first | exact HB.out | apply below_alloc | apply pw_below_drewN | apply below_drew1 | refine below_set ?_ GE211.out) | exact HB.out))) : w.heap.size ≤ gb212); have n5_ := ky (by rw [hg]; exact Nat.ne_of_lt (blk_lt (g := gb211) (o := .cells #[.int .i64 a0_0, .int .i64 a0_1] 45 (0, 0)) (by (with_reducible repeat (first | refine blk_drewN ?_ _ | refine blk_drew ?_ | refine blk_alloc ?_ _)); exact BK211.out)) : gb211 ≠ gb212); have n6_ := ky (by rw [hg]; exact Nat.ne_of_gt (blk_lt (g := gb211) (o := .cells #[.int .i64 a0_0, .int .i64 a0_1] 45 (0, 0)) (by (with_reducible repeat (first | refine blk_drewN ?_ _ | refine blk_drew ?_ | refine blk_alloc ?_ _)); exact BK211.out)) : gb212 ≠ gb211); clear BK211 HB; have BK211 := n0_; have HB := n1_; have BK212 := n2_; have GW212 := n3_; have GE212 := n4_; have NB211_212 := n5_; have NB212_211 := n6_; clear n0_ n1_ n2_ n3_ n4_ n5_ n6_ hb hbox hg))
  have n0_ := ky (blk_drew BK211.out)
  have n1_ := ky (blk_drew BK212.out)
  have n2_ := ky (below_drew1 HB.out)
  replace HD := ky (ku HD.out (show _ ≤ w7.drew.drawn from Nat.le_succ _))
  clear BK211 BK212 HB
  have BK211 := n0_
  have BK212 := n1_
  have HB := n2_
  clear n0_ n1_ n2_
  refine start_ (n := 13) (S := fun w' => w'.cell? ⟨gb211, 0, none⟩ = some (.int .i64 a0_0) ∧ w'.cell? ⟨gb211, 1, none⟩ = some (.int .i64 a0_1) ∧ w'.cell? ⟨gb212, 0, none⟩ = some (.int .i64 a1_0) ∧ w'.cell? ⟨gb212, 1, none⟩ = some (.int .i64 a1_1)) (ds := []) #[vz,vz,vz,vz,vz,vz,vz,vz,vz,vz,vz,vz,vz] (by kernel_rfl) rfl rfl ⟨(blk_cell BK211.out 0).trans rfl, (blk_cell BK211.out 1).trans rfl, (blk_cell BK212.out 0).trans rfl, (blk_cell BK212.out 1).trans rfl⟩ (fun hHeld => ?_); refine with_tabW sv_impl_compare.tab1 sv_impl_compare.bits1 (fun HT_ HW_ => ?_)
  generalize w7.drew = w8 at BK211 BK212 HB HD hHeld ⊢
  refine pure_ (i := 0) (N := some 5) (v := ?_) (a' := ?_) #[kT,vz,vz,vz,vz,vz,vz,vz,vz,vz,vz,vz,vz] rfl rfl (any_of HT_.out (by kernel_rfl)) (fun _ _ _ h => h) (Or.inl ⟨by rfl, ?_⟩) ?_ ?_
  rotate_left
  · intro w'
    go_simp
    with_reducible rfl
  rotate_left
  · simp only [kt, kz, kh, kg, i64_w, i32_w]
    rfl
  refine pure_ (i := 2) (N := some 7) (v := ?_) (a' := ?_) #[kT,vz,kT,vz,vz,vz,vz,vz,vz,vz,vz,vz,vz] rfl rfl (any_of HT_.out (by kernel_rfl)) (fun _ _ _ h => h) (Or.inl ⟨by rfl, ?_⟩) ?_ ?_
  rotate_left
  · intro w'
    go_simp
    with_reducible rfl
  rotate_left
  · simp only [kt, kz, kh, kg, i64_w, i32_w]
    rfl
  refine pure_ (i := 5) (N := some 10) (v := ?_) (a' := ?_) #[kT,vz,kT,vz,vz,kT,vz,vz,vz,vz,vz,vz,vz] rfl rfl (any_of HT_.out (by kernel_rfl)) (fun _ _ _ h => h) (Or.inl ⟨by rfl, ?_⟩) ?_ ?_
  rotate_left
  · intro w'
    go_simp
    with_reducible rfl
  rotate_left
  · simp only [kt, kz, kh, kg, i64_w, i32_w]
    rfl
  refine pure_ (i := 7) (N := some 12) (v := ?_) (a' := ?_) #[kT,vz,kT,vz,vz,kT,vz,kT,vz,vz,vz,vz,vz] rfl rfl (any_of HT_.out (by kernel_rfl)) (fun _ _ _ h => h) (Or.inl ⟨by rfl, ?_⟩) ?_ ?_
  rotate_left
  · intro w'
    go_simp
    with_reducible rfl
  rotate_left
  · simp only [kt, kz, kh, kg, i64_w, i32_w]
    rfl
  refine take_ (i := 1) (N := some 6) (v := ?_) (a' := ?_) #[kT,kT,kT,vz,vz,kT,vz,kT,vz,vz,vz,vz,vz] rfl rfl (take_ofW HT_.out HW_.out (by kernel_rfl)) (fun _ _ _ h => h) (Or.inl ⟨by rfl, ?_⟩) hHeld ?_ ?_
  rotate_left
  · rintro w' ⟨s0, s1, s2, s3⟩
    go_simp
    with_reducible rfl
  rotate_left
  · simp only [kt, kz, kh, kg, i64_w, i32_w]
    rfl
  refine take_ (i := 3) (N := some 8) (v := ?_) (a' := ?_) #[kT,kT,kT,kT,vz,kT,vz,kT,vz,vz,vz,vz,vz] rfl rfl (take_ofW HT_.out HW_.out (by kernel_rfl)) (fun _ _ _ h => h) (Or.inl ⟨by rfl, ?_⟩) hHeld ?_ ?_
  rotate_left
  · rintro w' ⟨s0, s1, s2, s3⟩
    go_simp
    with_reducible rfl
  rotate_left
  · simp only [kt, kz, kh, kg, i64_w, i32_w]
    rfl
  refine take_ (i := 6) (N := some 11) (v := ?_) (a' := ?_) #[kT,kT,kT,kT,vz,kT,kT,kT,vz,vz,vz,vz,vz] rfl rfl (take_ofW HT_.out HW_.out (by kernel_rfl)) (fun _ _ _ h => h) (Or.inl ⟨by rfl, ?_⟩) hHeld ?_ ?_
  rotate_left
  · rintro w' ⟨s0, s1, s2, s3⟩
    go_simp
    with_reducible rfl
  rotate_left
  · simp only [kt, kz, kh, kg, i64_w, i32_w]
    rfl
  refine take_ (i := 8) (N := some 13) (v := ?_) (a' := ?_) #[kT,kT,kT,kT,vz,kT,kT,kT,kT,vz,vz,vz,vz] rfl rfl (take_ofW HT_.out HW_.out (by kernel_rfl)) (fun _ _ _ h => h) (Or.inl ⟨by rfl, ?_⟩) hHeld ?_ ?_
  rotate_left
  · rintro w' ⟨s0, s1, s2, s3⟩
    go_simp
    with_reducible rfl
  rotate_left
  · simp only [kt, kz, kh, kg, i64_w, i32_w]
    rfl
  refine one_ (i := 4) (N := some 9) #[kT,kT,kT,kT,kT,kT,kT,kT,kT,vz,vz,vz,vz] rfl rfl (one_of HT_.out (by kernel_rfl)) (by decide) (fun K hK => ?_)
  refine goes_ kQ (by kernel_rfl) rfl #[.int .i64 a0_0, .int .i64 a1_0] (by rfl) rfl rfl (by (try simp only [kj, kb, kd]); first | done | rfl | (simp only [kk, kv]; rfl)) ?_
  with_reducible refine (sv_cmp_Compare_int.calls a0_0 a1_0 t213 _ A3.out).mono ?_
  rintro e w' ⟨rfl, ⟨nd, rfl⟩⟩
  refine ⟨_, rfl, ?_⟩
  refine hK.out _ _ ⟨(blk_cell BK211.out 0).trans rfl, (blk_cell BK211.out 1).trans rfl, (blk_cell BK212.out 0).trans rfl, (blk_cell BK212.out 1).trans rfl⟩ (fun hHeld => ?_)
  clear hK K
  refine norm_ (a' := ?_) ?_ ?_
  rotate_left
  · show kt _ (some 9) _ = _
    simp only [kt, kz, kh, kg, i64_w, i32_w]
    rfl
  refine one_ (i := 9) (N := some 14) #[kT,kT,kT,kT,kT,kT,kT,kT,kT,kT,vz,vz,vz] rfl rfl (one_of HT_.out (by kernel_rfl)) (by decide) (fun K hK => ?_)
  refine goes_ kQ (by kernel_rfl) rfl #[.int .i64 a0_1, .int .i64 a1_1] (by rfl) rfl rfl (by (try simp only [kj, kb, kd]); first | done | rfl | (simp only [kk, kv]; rfl)) ?_
  with_reducible refine (sv_cmp_Compare_int.calls a0_1 a1_1 t214 _ A4.out).mono ?_
  rintro e w' ⟨rfl, ⟨nd, rfl⟩⟩
  refine ⟨_, rfl, ?_⟩
  refine hK.out _ _ ⟨(blk_cell BK211.out 0).trans rfl, (blk_cell BK211.out 1).trans rfl, (blk_cell BK212.out 0).trans rfl, (blk_cell BK212.out 1).trans rfl⟩ (fun hHeld => ?_)
  clear hK K
  refine norm_ (a' := ?_) ?_ ?_
  rotate_left
  · show kt _ (some 14) _ = _
    simp only [kt, kz, kh, kg, i64_w, i32_w]
    rfl
  refine one_ (i := 10) (N := some 15) #[kT,kT,kT,kT,kT,kT,kT,kT,kT,kT,kT,vz,vz] rfl rfl (one_of HT_.out (by kernel_rfl)) (by decide) (fun K hK => ?_)
  refine R_lit_stepD (Kd.int .i64) _ 3 rfl (N := 15) rfl (xs := ([t213, t214] : List Int)) (inner := [.int .i64 t213, .int .i64 t214]) (ok := fun _ => True) (okp := fun _ => True) ?hr ?hp (fun _ hk => hk) trivial (Below.refl _ _) (ks _) (by simp) ?_; (case hr => first | (go_simp; done) | (go_simp; rfl)); (case hp => exact (Reps.one (show Kd.M (Kd.int .i64) _ _ _ t213 [.int .i64 t213] from rfl) (Reps.one (show Kd.M (Kd.int .i64) _ _ _ t214 [.int .i64 t214] from rfl) (Reps.none _ _))))
  intro v216 w9 ho10 hb hg_ hnew_ hdr
  replace HD := ky (ku HD.out (ku (drawn2 _ _ _) hdr))
  clear hdr hg_ hnew_
  (first | rw [← Ny215.out] at ho10 | (simp only [Int.reduceToNat] at ho10; rw [← Ny215.out] at ho10))
  have n0_ := ky (Kd.R_lower ho10 (below_size (by repeat (first | (with_reducible first | exact HB.out | apply below_alloc | apply pw_below_drewN | apply below_drew1 | refine below_set ?_ GE211.out | refine below_set ?_ GE212.out) | exact HB.out))))
  have n1_ := ky (blk_below (g := gb211) (o := .cells #[.int .i64 a0_0, .int .i64 a0_1] 45 (0, 0)) (by (with_reducible repeat (first | refine blk_drewN ?_ _ | refine blk_drew ?_ | refine blk_alloc ?_ _)); exact BK211.out) hb)
  have n2_ := ky (blk_below (g := gb212) (o := .cells #[.int .i64 a1_0, .int .i64 a1_1] 45 (0, 0)) (by (with_reducible repeat (first | refine blk_drewN ?_ _ | refine blk_drew ?_ | refine blk_alloc ?_ _)); exact BK212.out) hb)
  have n3_ := ky (below_step (by repeat (first | (with_reducible first | exact HB.out | apply below_alloc | apply pw_below_drewN | apply below_drew1 | refine below_set ?_ GE211.out | refine below_set ?_ GE212.out) | exact HB.out)) hb)
  clear BK211 BK212 HB
  have HO217 := n0_
  have BK211 := n1_
  have BK212 := n2_
  have HB := n3_
  clear n0_ n1_ n2_ n3_ hb ho10
  obtain ⟨Ao11, co11, eo11⟩ := Kd.R_slice HO217.out
  (first | subst eo11 | (injection eo11 with f1_ f2_ f3_; have f4_ := f1_.symm; have f5_ := f3_.symm; clear f1_ f2_ f3_; subst f4_; subst f5_))
  refine hK.out _ _ ⟨(blk_cell BK211.out 0).trans rfl, (blk_cell BK211.out 1).trans rfl, (blk_cell BK212.out 0).trans rfl, (blk_cell BK212.out 1).trans rfl⟩ (fun hHeld => ?_)
  clear hK K
  refine norm_ (a' := ?_) ?_ ?_
  rotate_left
  · show kt _ (some 15) _ = _
    simp only [kt, kz, kh, kg, i64_w, i32_w]
    rfl
  refine one_ (i := 11) (N := some 16) #[kT,kT,kT,kT,kT,kT,kT,kT,kT,kT,kT,kT,vz] rfl rfl (one_of HT_.out (by kernel_rfl)) (by decide) (fun K hK => ?_)
  refine goes_ Try.func90 (by kernel_rfl) rfl #[.slice Ao11 y215.length co11] (by rfl) rfl rfl (by (try simp only [kj, kb, kd]); first | done | rfl | (simp only [kk, kv]; rfl)) ?_
  with_reducible refine (sv_cmp_Or_int.calls k _ _ y215 t218 _ ?side1 ?side2 A5.out).mono ?_
  (case side1 => repeat (first | exact (Kd.R_reads' HO217.out).2.2 | (with_reducible refine Kd.C_alloc ?_ _) | (with_reducible refine Kd.C_drewN ?_ _) | (with_reducible refine Kd.C_drew ?_)))
  (case side2 => exact (Kd.R_reads' HO217.out).2.1)
  rintro e w' ⟨rfl, ⟨nd, rfl⟩⟩
  refine ⟨_, rfl, ?_⟩
  refine hK.out _ _ ⟨(blk_cell BK211.out 0).trans rfl, (blk_cell BK211.out 1).trans rfl, (blk_cell BK212.out 0).trans rfl, (blk_cell BK212.out 1).trans rfl⟩ (fun hHeld => ?_)
  clear hK K
  refine norm_ (a' := ?_) ?_ ?_
  rotate_left
  · show kt _ (some 16) _ = _
    simp only [kt, kz, kh, kg, i64_w, i32_w]
    rfl
  refine pure_ (i := 12) (N := some 4) (v := ?_) (a' := ?_) #[kT,kT,kT,kT,kT,kT,kT,kT,kT,kT,kT,kT,kT] rfl rfl (any_of HT_.out (by kernel_rfl)) (fun _ _ _ h => h) (Or.inl ⟨by rfl, ?_⟩) ?_ ?_
  rotate_left
  · intro w'
    go_simp
    with_reducible rfl
  rotate_left
  · simp only [kt, kz, kh, kg, i64_w, i32_w]
    rfl
  refine done_ (done_of HT_.out (by kernel_rfl)) ?_
  try go_wp2
  go_ret
  exact ⟨by first | rfl | (simp [errW_none, errW_some] <;> rfl) | (simp [*, errW_none, errW_some] <;> rfl), by repeat (first | (with_reducible first | exact HB.out | apply below_alloc | apply pw_below_drewN | apply below_drew1 | refine below_set ?_ GE211.out | refine below_set ?_ GE212.out) | exact HB.out), ku HD.out (drawn1 _ _)⟩
section
open Go.RowKit Go.Shelf Go.Lib Go.Sort
/-- what compare answers -/
def sv_cmpZ (x y : Int) : Int := if x < y then -1 else if y < x then 1 else 0
def sv_cf (x y : Pr2) : Int := if sv_cmpZ x.1 y.1 = 0 then sv_cmpZ x.2 y.2 else sv_cmpZ x.1 y.1
theorem sv_isNaN (a : Int) : sv_cmp_isNaN_int.f a = some false := by unfold sv_cmp_isNaN_int.f; simp
theorem sv_Compare (x y : Int) : sv_cmp_Compare_int.f x y = some (sv_cmpZ x y) := by
  unfold sv_cmp_Compare_int.f sv_cmpZ
  rw [sv_isNaN, sv_isNaN]
  simp only [kJ]
  rw [if_neg (by simp), if_neg (by simp)]
  by_cases h : x < y
  · rw [if_pos h, if_pos h]
  · rw [if_neg h, if_neg h]
    by_cases h2 : y < x
    · rw [if_pos h2, if_pos h2]
    · rw [if_neg h2, if_neg h2]
theorem sv_Or (a b : Int) (k : Nat) : sv_cmp_Or_int.f (k + 1 + 1 + 1) [a, b] = some (if a = 0 then b else a) := by
  unfold sv_cmp_Or_int.f
  have e2 : ((([a, b] : List Int)).length : Int) = 2 := rfl
  rw [e2, sv_cmp_Or_int.l0, if_pos (by decide), if_pos (by decide), e2, if_pos (by decide)]
  by_cases h : a = 0
  · rw [if_pos (by exact h), if_pos h, show wrap64 (0 + 1) = 1 from by kernel_rfl, sv_cmp_Or_int.l0, if_pos (by decide), if_pos (by decide), e2, if_pos (by decide)]
    by_cases h2 : b = 0
    · rw [if_pos (by exact h2), show wrap64 (1 + 1) = 2 from by kernel_rfl, sv_cmp_Or_int.l0, if_neg (by decide), h2]
    · rw [if_neg (by exact h2)]; rfl
  · rw [if_neg (by exact h), if_neg h]; rfl
theorem sv_compare (x y : Pr2) (k : Nat) : sv_impl_compare.f (k + 1 + 1 + 1) x.1 x.2 y.1 y.2 = some (sv_cf x y) := by
  unfold sv_impl_compare.f
  rw [sv_Compare, sv_Compare]
  simp only [kJ]
  rw [sv_Or]
  rfl
theorem sv_lt (x y : Pr2) : ltOf sv_cf x y = decide (x.1 < y.1 ∨ (x.1 = y.1 ∧ x.2 < y.2)) := by
  unfold ltOf sv_cf sv_cmpZ
  by_cases h1 : x.1 < y.1
  · simp [h1]
  · by_cases h2 : y.1 < x.1
    · have : x.1 ≠ y.1 := by omega
      simp [h1, h2, this]
    · have : x.1 = y.1 := by omega
      simp only [this, Int.lt_irrefl, if_false, if_true, true_and, false_or]
      by_cases h3 : x.2 < y.2
      · simp [h3]
      · by_cases h4 : y.2 < x.2 <;> simp [h3, h4]
theorem sv_swo : SWO (ltOf sv_cf) where
  irrefl x := by rw [sv_lt]; simp
  trans x y z h1 h2 := by rw [sv_lt] at *; simp only [decide_eq_true_eq] at *; omega
  ntrans x y z h1 h2 := by rw [sv_lt] at *; simp only [decide_eq_false_iff_not] at *; omega
theorem sv_total (x y : Pr2) (h1 : ltOf sv_cf x y = false) (h2 : ltOf sv_cf y x = false) : x = y := by
  rw [sv_lt] at *; simp only [decide_eq_false_iff_not] at *
  exact Prod.ext (by omega) (by omega)
theorem sv_grow_of {W w' : World} (h : Below W.heap.size W w') (hd : W.drawn ≤ w'.drawn) : ∃ q os', w' = grow (W.drewN q) os' := by
  refine ⟨w'.drawn - W.drawn, w'.heap.extract W.heap.size w'.heap.size, ?_⟩
  have hh : w'.heap = W.heap ++ w'.heap.extract W.heap.size w'.heap.size := by
    apply Array.ext_getElem?
    intro i
    by_cases hi : i < W.heap.size
    · rw [h.block i hi, Array.getElem?_append_left hi]
    · have hs := h.size
      rw [Array.getElem?_append_right (by omega), Array.getElem?_extract]
      by_cases h2 : i < w'.heap.size
      · rw [if_pos (by omega)]; congr 1; omega
      · rw [if_neg (by omega), Array.getElem?_eq_none (by omega)]
  have := h.os; have := h.tape; have := h.output
  cases w'; cases W
  simp only [grow, World.drewN] at *
  subst_vars
  congr 1
  omega
theorem sv_cmpLays (blk off size : Nat) (w : World) : CmpLays kf 80 #[] Pr2.cells 2 sv_cf blk off size w :=
  fun _ _ _ _ x y => (sv_impl_compare.calls (0 + 1 + 1 + 1) x.1 x.2 y.1 y.2 _ _ (sv_compare x y 0)).mono fun _ _ ⟨he, hb, hd⟩ => ⟨he, sv_grow_of hb hd⟩
open Go.RowKit Go.Shelf Go.Lib Go.Sort
theorem sv_flatK_size (d : Array Pr2) : (flatK Pr2.cells 2 d).size = d.size * 2 := size_flatK _ _ _
theorem sv_flat_get : ∀ (zs : List Pr2) (t : Nat), t < zs.length * 2 → (sv_flat zs)[t]? = some ((Pr2.cells (zs[t / 2]?.getD (0, 0)))[t % 2]!)
  | [], t, h => by simp at h
  | x :: zs, 0, h => rfl
  | x :: zs, 1, h => rfl
  | x :: zs, t + 2, h => by
    have e : sv_flat (x :: zs) = .int .i64 x.1 :: .int .i64 x.2 :: sv_flat zs := rfl
    rw [e, List.getElem?_cons_succ, List.getElem?_cons_succ, sv_flat_get zs t (by simp at h; omega)]
    rw [show (t + 2) / 2 = t / 2 + 1 by omega, show (t + 2) % 2 = t % 2 by omega, List.getElem?_cons_succ]
theorem sv_flatK_list (zs : List Pr2) : (flatK Pr2.cells 2 zs.toArray).toList = sv_flat zs := by
  apply List.ext_getElem?
  intro t
  by_cases h : t < zs.length * 2
  · rw [sv_flat_get zs t h]
    have hs : t < (flatK Pr2.cells 2 zs.toArray).size := by rw [sv_flatK_size]; simpa using h
    rw [Array.getElem?_toList, Array.getElem?_eq_getElem hs, ← getElem!_pos _ t hs, get_flatK _ _ _ _ (by simpa using h)]
    congr 3
    have h2 : t / 2 < zs.length := by omega
    simp [h2]
  · rw [List.getElem?_eq_none (by rw [Array.length_toList, sv_flatK_size]; simp; omega), List.getElem?_eq_none (by rw [sv_flat_len]; omega)]
theorem sv_put_take (F c : Array Value) (h : F.size ≤ c.size) : (putCells (id : Value → Value) 0 F c).toList.take F.size = F.toList := by
  apply List.ext_getElem?
  intro t
  by_cases ht : t < F.size
  · rw [List.getElem?_take_of_lt ht]
    have : t < c.size := by omega
    simp [putCells, this, ht]
  · rw [List.getElem?_eq_none (by simp [putCells]; omega), List.getElem?_eq_none (by simpa using ht)]
theorem sv_sorted_heap {W : World} {g : Nat} {cur : Array Value} (n : Nat) (d : Array Pr2) (os : Array Obj) (h : W.heap[g]? = some (.cells cur 45 (0, 0))) :
    (sortWorldK Pr2.cells 2 W g 0 n d os).heap[g]? = some (.cells (putCells id 0 (flatK Pr2.cells 2 d) cur) 45 (0, 0)) := by
  have hlt := (Array.getElem?_eq_some_iff.1 h).1
  show ((W.heap.modify g _) ++ os)[g]? = _
  rw [Array.getElem?_append_left (by rw [Array.size_modify]; exact hlt), Array.getElem?_modify, if_pos rfl, h]
  rfl
theorem sv_sorted_below {W : World} {g B : Nat} (n : Nat) (d : Array Pr2) (os : Array Obj) (hB : B ≤ g) (hg : g < W.heap.size) : Below B W (sortWorldK Pr2.cells 2 W g 0 n d os) := by
  refine ⟨rfl, rfl, rfl, ?_, fun k hk => ?_⟩
  · show _ ≤ ((W.heap.modify g _) ++ os).size
    simp
  · show ((W.heap.modify g _) ++ os)[k]? = _
    rw [Array.getElem?_append_left (by rw [Array.size_modify]; omega), Array.getElem?_modify, if_neg (by omega)]
theorem sv_holds {W : World} {g : Nat} {cur : Array Value} {zs : List Pr2} (h : W.heap[g]? = some (.cells cur 45 (0, 0))) (ht : cur.toList.take (zs.length * 2) = sv_flat zs) : HoldsK Pr2.cells 2 W g 0 zs.toArray := by
  intro j hj
  rw [sv_flatK_size] at hj
  have hj' : j < zs.length * 2 := by simpa using hj
  constructor
  · rw [sv_blk h]
    have h1 : (cur.toList.take (zs.length * 2))[j]? = cur[j]? := by rw [List.getElem?_take_of_lt hj', Array.getElem?_toList]
    rw [Nat.zero_add, ← h1, ht, ← sv_flatK_list]
    have hs2 : j < (flatK Pr2.cells 2 zs.toArray).size := by rw [sv_flatK_size]; exact hj
    rw [Array.getElem?_toList, Array.getElem?_eq_getElem hs2, ← getElem!_pos _ j hs2]
    rfl
  · unfold World.frozen?; dsimp only; rw [h]
    simp
open Go.RowKit Go.Shelf Go.Lib Go.Sort
def sv_sort (zs : List Pr2) : List Pr2 := zs.mergeSort fun x y => !(ltOf sv_cf) y x
theorem sv_collect (Bs : Nat) (sv : Value) (zs : List Pr2) (hreach : zs.length * 16 ≤ 140737488351232) (w : World) (hBs : Bs < w.heap.size) (hc : w.cell? ⟨Bs, 0, none⟩ = some sv) (hI : SvRow w.heap.size w sv zs) :
    Calls kf 92 #[.func (.func 94) #[] #[.pointer (some ⟨Bs, 0, none⟩)]] w fun e w' => ∃ (v : Value), e = .returned v ∧ w'.ownsRow w.heap.size 45 2 v zs.length (sv_flat zs) ∧ Below w.heap.size w w' :=
  (callsIn_wide.1 (sv_collect_in Fence.wide 5 trivial trivial rfl (by decide) 94 _ trivial (enters_of Try.func94 (by kernel_rfl) rfl) _ _ zs.length (by simp only [maxLen]; omega) (by omega) w
    (sv_values_stops Fence.wide (5 - 1 - 1) trivial rfl (by decide) Bs w.heap.size sv zs hreach w hBs (ks _) hc hI))).mono fun e w' ⟨v, ss, he, hS, hrow, _, hb⟩ => by subst hS; exact ⟨v, he, hrow, hb⟩
theorem sv_sort_len (zs : List Pr2) : (sv_sort zs).length = zs.length := List.length_mergeSort ..
/-- slices.SortFunc at compare, of a row of our own -/
theorem sv_sortCalls (W : World) (base : Nat) (v : Value) (zs : List Pr2) (hz : zs.length < 4611686018427387904) (hrow : W.ownsRow base 45 2 v zs.length (sv_flat zs)) (hnone : ∀ (p : Option Addr) (cap : Nat) (fv : Value) (w : World), Calls kf 93 #[.slice p 0 cap, fv] w fun e w' => e = .returned (.tuple #[]) ∧ w' = w)
    (htot : ∀ (blk off cap : Nat) (d : Array Pr2) (w : World), HoldsK Pr2.cells 2 w blk off d → blk < w.heap.size → d.size < 4611686018427387904 → Calls kf 93 #[.slice (some ⟨blk, off, none⟩) d.size cap, .func (.func 80) #[] #[]] w fun e w' =>
      e = .returned (.tuple #[]) ∧ ∃ n os, w' = sortWorldK Pr2.cells 2 w blk off n (d.toList.mergeSort fun x y => !(ltOf sv_cf) y x).toArray os) :
    Calls kf 93 #[v, .func (.func 80) #[] #[]] W fun e w' => e = .returned (.tuple #[]) ∧ w'.ownsRow base 45 2 v zs.length (sv_flat (sv_sort zs)) ∧ Below base W w' := by
  rcases hrow with ⟨hl, ⟨rfl, h0⟩ | ⟨g, cap, cur, rfl, hbg, hg, h1, h2, h3, h4⟩⟩
  · obtain rfl := List.eq_nil_of_length_eq_zero h0
    exact (hnone none 0 _ W).mono fun e w' ⟨he, hw⟩ => by subst hw; exact ⟨he, ⟨by simp [sv_sort, sv_flat], .inl ⟨rfl, rfl⟩⟩, Below.refl _ _⟩
  · have hH := sv_holds (zs := zs) hg h4
    have hlt := (Array.getElem?_eq_some_iff.1 hg).1
    refine (htot g 0 cap zs.toArray W hH hlt (by simpa using hz)).mono ?_
    rintro e w' ⟨he, n, os, rfl⟩
    refine ⟨he, ⟨by rw [sv_flat_len, sv_sort_len], .inr ⟨g, cap, _, rfl, hbg, sv_sorted_heap n _ os hg, h1, h2, by simpa [putCells] using h3, ?_⟩⟩, sv_sorted_below n _ os hbg hlt⟩
    have hs : (flatK Pr2.cells 2 (sv_sort zs).toArray).size = zs.length * 2 := by rw [sv_flatK_size]; simp [sv_sort_len]
    have := sv_put_take (flatK Pr2.cells 2 (sv_sort zs).toArray) cur (by rw [hs, h3]; omega)
    rw [hs, sv_flatK_list] at this
    exact this
set_option maxHeartbeats 2000000 in
theorem sv_sorted (Bs : Nat) (sv : Value) (zs : List Pr2) (hreach : zs.length * 16 ≤ 140737488351232) (w : World) (hBs : Bs < w.heap.size) (hc : w.cell? ⟨Bs, 0, none⟩ = some sv) (hI : SvRow w.heap.size w sv zs)
    (hsort : ∀ (W : World) (v : Value), W.ownsRow w.heap.size 45 2 v zs.length (sv_flat zs) → Calls kf 93 #[v, .func (.func 80) #[] #[]] W fun e w' => e = .returned (.tuple #[]) ∧ w'.ownsRow w.heap.size 45 2 v zs.length (sv_flat (sv_sort zs)) ∧ Below w.heap.size W w') :
    Calls kf 86 #[.func (.func 94) #[] #[.pointer (some ⟨Bs, 0, none⟩)], .func (.func 80) #[] #[]] w fun e w' => ∃ (v : Value), e = .returned v ∧ w'.ownsRow w.heap.size 45 2 v zs.length (sv_flat (sv_sort zs)) ∧ Below w.heap.size w w' := by
  have hC := sv_collect Bs sv zs hreach w hBs hc hI
  clear hc hI
  go_enter Try.func86, Try.ntmps86
  go_wp2_with (first | (go_at_call 92; refine hC.mono ?_; rintro e w1 ⟨v, rfl, hrow, hb⟩) | (go_at_call 93; refine (hsort _ _ hrow).mono ?_; rintro e w2 ⟨rfl, hrow2, hb2⟩))
  go_ret
  exact ⟨_, rfl, hrow2, hb.trans hb2⟩
def sv_p (x : S45) : Pr2 := (x.f0, x.f1)
def sv_s (x : Pr2) : S45 := ⟨x.1, x.2⟩
theorem sv_row_of_C {w : World} {A : Option Addr} {c : Nat} {l0 : List S45} (h : Kd.C k45 w A l0.length l0) : SvRow w.heap.size w (.slice A l0.length c) (l0.map sv_p) := by
  by_cases hl : l0.length = 0
  · obtain rfl := List.eq_nil_of_length_eq_zero hl
    exact .inl ⟨A, c, rfl, rfl⟩
  · obtain ⟨ad, rfl, hc⟩ := h.2.2 (by omega)
    have key : ∀ j, j < l0.length → w.cell? (ad.add (j * 2)) = some (.int .i64 ((l0.map sv_p)[j]?.getD (0, 0)).1) ∧ w.cell? (ad.add (j * 2 + 1)) = some (.int .i64 ((l0.map sv_p)[j]?.getD (0, 0)).2) := by
      intro j hj
      obtain ⟨cs, hs, hk, hcell⟩ := hc j _ (List.getElem?_eq_getElem hj)
      obtain rfl := k45_open hk
      have e : (l0.map sv_p)[j]?.getD (0, 0) = sv_p l0[j] := by simp [hj]
      rw [e]
      exact ⟨hcell 0 _ rfl, hcell 1 _ rfl⟩
    obtain ⟨b, off, sp⟩ := ad
    have hsp : sp = none := by
      have := (key 0 (by omega)).1
      simp only [Nat.zero_mul, Addr.add, if_true] at this
      cases sp with
      | none => rfl
      | some q =>
        unfold World.cell? at this
        dsimp only at this
        split at this <;> simp at this
    subst hsp
    have ha : ∀ j, (⟨b, off, none⟩ : Addr).add j = ⟨b, off + j, none⟩ := by intro j; unfold Addr.add; split <;> simp_all
    have hlt : b < w.heap.size := by
      have := (key 0 (by omega)).1
      rw [ha] at this
      unfold World.cell? at this
      dsimp only at this
      by_cases hb : b < w.heap.size
      · exact hb
      · rw [Array.getElem?_eq_none (by omega)] at this; simp at this
    refine .inr ⟨b, off, c, by rw [kZ], hlt, fun j hj => ?_, fun j hj => ?_⟩
    · rw [← (key j (by simpa using hj)).1, ha]
    · rw [← (key j (by simpa using hj)).2, ha]; rfl
theorem sv_reps (w : World) (base : Nat) (ok : Nat → Prop) : ∀ (zs : List Pr2), Reps (k45.M w base ok) 2 (zs.map sv_s) (sv_flat zs) := by
  intro zs
  refine ⟨by rw [sv_flat_len, kZ], ?_⟩
  induction zs with
  | nil => intro j p h; simp at h
  | cons x t ih =>
    intro j p h
    have e : sv_flat (x :: t) = .int .i64 x.1 :: .int .i64 x.2 :: sv_flat t := rfl
    match j, h with
    | 0, h =>
      obtain rfl : sv_s x = p := by simpa using h
      exact k45_mkM w base ok (sv_s x)
    | j + 1, h =>
      have := ih j p (by simpa using h)
      rw [e, show (j + 1) * 2 = j * 2 + 1 + 1 by omega, List.drop_succ_cons, List.drop_succ_cons]
      exact this
def slices_SortedFunc.f (l0 : List S45) : Option (List S45) := if l0.length ≤ 1000000000000 then some ((sv_sort (l0.map sv_p)).map sv_s) else none
theorem sv_calls0 (A0 : Option Addr) (c0 : Nat) (l0 : List S45) (r : List S45) (w : World) (hr0 : Kd.C k45 w A0 l0.length l0) (h : slices_SortedFunc.f l0 = some r)
    (hsort : ∀ (base : Nat) (W : World) (v : Value), W.ownsRow base 45 2 v (l0.map sv_p).length (sv_flat (l0.map sv_p)) → Calls kf 93 #[v, .func (.func 80) #[] #[]] W fun e w' => e = .returned (.tuple #[]) ∧ w'.ownsRow base 45 2 v (l0.map sv_p).length (sv_flat (sv_sort (l0.map sv_p))) ∧ Below base W w') :
    Calls kf 86 #[.func (.func 94) #[] #[.pointer (some ⟨w.heap.size, 0, none⟩)], .func (.func 80) #[] #[]] (w.alloc (.cells #[.slice A0 l0.length c0] 25)) fun e w' => ∃ v0_ : Value, e = .returned v0_ ∧ Kd.R k45 45 w' w.heap.size (fun _ => True) v0_ r ∧ Below w.heap.size w w' := by
  unfold slices_SortedFunc.f at h
  by_cases hl : l0.length ≤ 1000000000000
  case neg => rw [if_neg hl] at h; cases h
  rw [if_pos hl] at h
  obtain rfl := kc h
  have hb0 : Below w.heap.size w (w.alloc (.cells #[.slice A0 l0.length c0] 25)) := (Below.refl _ w).alloc (ks _) _
  have hI := (sv_row_of_C (c := c0) hr0).below hb0
  have hI' : SvRow (w.alloc (.cells #[.slice A0 l0.length c0] 25)).heap.size (w.alloc (.cells #[.slice A0 l0.length c0] 25)) (.slice A0 l0.length c0) (l0.map sv_p) := by
    rcases hI with h | ⟨b, off, cap, e, hb, h1, h2⟩
    · exact .inl h
    · exact .inr ⟨b, off, cap, e, by simp; omega, h1, h2⟩
  refine (sv_sorted w.heap.size (.slice A0 l0.length c0) (l0.map sv_p) (by rw [kZ]; omega) _ (by simp) ((sv_blk (ko w _) 0).trans rfl) hI' (fun W v hv => hsort _ W v hv)).mono ?_
  rintro e w' ⟨v, rfl, hrow, hb⟩
  refine ⟨v, rfl, ⟨fun _ _ => trivial, sv_flat (sv_sort (l0.map sv_p)), ?_, sv_reps _ _ _ _⟩, hb0.trans (hb.mono (by simp))⟩
  have hle : w.heap.size ≤ (w.alloc (.cells #[.slice A0 l0.length c0] 25)).heap.size := by simp
  rw [kZ, sv_sort_len]
  exact own_less hrow hle
theorem sv_valuesC (a : Option Addr) (len cap : Nat) (w : World) : Calls kf 87 #[.slice a len cap] w fun e w' => e = .returned (.func (.func 94) #[] #[.pointer (some ⟨w.heap.size, 0, none⟩)]) ∧ w' = w.alloc (.cells #[.slice a len cap] 25) :=
  callsIn_wide.1 (sv_values_in Fence.wide 1 trivial rfl a len cap w)
theorem slices_SortedFunc.calls (A0 : Option Addr) (c0 : Nat) (l0 : List S45) (r : List S45) (w : World) (hr0 : Kd.C k45 w A0 l0.length l0) (hc0 : l0.length ≤ c0) (h : slices_SortedFunc.f l0 = some r) :
    Calls kf 86 #[.func (.func 94) #[] #[.pointer (some ⟨w.heap.size, 0, none⟩)], .func (.func 80) #[] #[]] (w.alloc (.cells #[.slice A0 l0.length c0] 25)) fun e w' => ∃ v0_ : Value, e = .returned (v0_) ∧ Kd.R k45 45 w' w.heap.size (fun _ => True) v0_ r ∧ Below w.heap.size w w' := by
  have hl : l0.length ≤ 1000000000000 := by
    unfold slices_SortedFunc.f at h
    by_cases hl : l0.length ≤ 1000000000000
    · exact hl
    · rw [if_neg hl] at h; cases h
  have eg : ∀ args w, (callFunc 80 args).run kf w = .ok (.enter 80 args) w := enters_of Try.func80 (by kernel_rfl) rfl
  exact sv_calls0 A0 c0 l0 r w hr0 h (fun base W v hrow => sv_sortCalls W base v _ (by rw [kZ]; omega) hrow (fun p cap fv w => AnyF.slices_SortFunc_none sv_sortPfx p cap fv w)
    (fun blk off cap d w hH hb hd => AnyQ.slices_SortFunc_total sv_sortPfx 2 Try.isAgg45 Try.sizeOf45 Pr2.cells (fun _ => rfl) (fun x v hv => by simp [Pr2.cells] at hv; rcases hv with rfl | rfl <;> rfl) sv_cf sv_swo 80 #[] blk off cap d w eg (sv_cmpLays blk off d.size w) hH hb hd sv_total))
end
end Go.Proofs.Ytabejlfejlpkeaa.PFnRanges
