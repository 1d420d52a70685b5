/- Plain mathematics that the plain law of FnPrefixes uses. No condition but what each lemma states. -/
import Derived.Test.YtkollihfejkklaaGreatDoorVFnPrefixes
import Derived.Shelf.Strings.OnBuilder
import Derived.Shelf.Strconv.Itoa3
import Derived.Lib.LaidTab
import Derived.Test.YtkollihfejkklaaGreatDoorRows
import Derived.Shelf.Strings.Shaped
import Derived.Shelf.Strings.SplitShaped
import Derived.Shelf.Strconv.AtoiErr
import Derived.Shelf.Strconv.Atoi
import Derived.Lib.SplitLaws
import Derived.Laws.Entries
namespace Go.Proofs.YtkollihfejkklaaGreatDoor.Lays
open Go.Shelf Go.RowKit Go.Proofs.YtkollihfejkklaaGreatDoorW.PrintWords
set_option linter.unusedVariables false
def laysM171_ren : Go.Shelf.Ren := ⟨fun | 171 => 24 | 243 => 48 | 246 => 62 | 283 => 74 | 284 => 75 | 285 => 76 | 286 => 77 | 129 => 91 | 317 => 90 | 318 => 92 | 319 => 93 | 320 => 94 | 337 => 100 | 338 => 101 | n => n, fun | 3 => 3 | 9 => 9 | 2 => 2 | 4 => 4 | 171 => 94 | 0 => 0 | 53 => 43 | 37 => 22 | 5 => 5 | 173 => 97 | 212 => 112 | 51 => 113 | 20 => 20 | 213 => 114 | 46 => 36 | 232 => 128 | 233 => 129 | n => n, fun | 17 => 3 | 18 => 6 | 19 => 7 | n => n⟩
theorem laysM171 : Go.Proofs.LaysM.n171 Tryz.prog laysM171_ren := {
  mixed := by kernel_rfl,
  f129 := Tryz.func91.trans (congrArg some (by kernel_rfl)),
  f171 := Tryz.func24.trans (congrArg some (by kernel_rfl)),
  f243 := Tryz.func48.trans (congrArg some (by kernel_rfl)),
  f246 := Tryz.func62.trans (congrArg some (by kernel_rfl)),
  f283 := Tryz.func74.trans (congrArg some (by kernel_rfl)),
  f284 := Tryz.func75.trans (congrArg some (by kernel_rfl)),
  f285 := Tryz.func76.trans (congrArg some (by kernel_rfl)),
  f286 := Tryz.func77.trans (congrArg some (by kernel_rfl)),
  f317 := Tryz.func90.trans (congrArg some (by kernel_rfl)),
  f318 := Tryz.func92.trans (congrArg some (by kernel_rfl)),
  f319 := Tryz.func93.trans (congrArg some (by kernel_rfl)),
  f320 := Tryz.func94.trans (congrArg some (by kernel_rfl)),
  f337 := Tryz.func100.trans (congrArg some (by kernel_rfl)),
  f338 := Tryz.func101.trans (congrArg some (by kernel_rfl)),
  t0 := Tryz.underlying0,
  a0 := Tryz.isAgg0,
  z0 := Tryz.sizeOf0,
  v0 := Tryz.zeroValue0,
  t2 := Tryz.underlying2,
  a2 := Tryz.isAgg2,
  z2 := Tryz.sizeOf2,
  v2 := Tryz.zeroValue2,
  t3 := Tryz.underlying3,
  a3 := Tryz.isAgg3,
  z3 := Tryz.sizeOf3,
  v3 := Tryz.zeroValue3,
  t4 := Tryz.underlying4,
  a4 := Tryz.isAgg4,
  z4 := Tryz.sizeOf4,
  v4 := Tryz.zeroValue4,
  t5 := Tryz.underlying5,
  a5 := Tryz.isAgg5,
  z5 := Tryz.sizeOf5,
  v5 := Tryz.zeroValue5,
  t9 := Tryz.underlying9,
  a9 := Tryz.isAgg9,
  z9 := Tryz.sizeOf9,
  v9 := Tryz.zeroValue9,
  t20 := Tryz.underlying20,
  a20 := Tryz.isAgg20,
  z20 := Tryz.sizeOf20,
  v20 := Tryz.zeroValue20,
  t37 := Tryz.underlying22,
  a37 := Tryz.isAgg22,
  z37 := Tryz.sizeOf22,
  v37 := Tryz.zeroValue22,
  t46 := Tryz.underlying36,
  a46 := Tryz.isAgg36,
  z46 := Tryz.sizeOf36,
  v46 := Tryz.zeroValue36,
  t51 := Tryz.underlying113,
  a51 := Tryz.isAgg113,
  z51 := Tryz.sizeOf113,
  v51 := Tryz.zeroValue113,
  t53 := Tryz.underlying43,
  a53 := Tryz.isAgg43,
  z53 := Tryz.sizeOf43,
  v53 := Tryz.zeroValue43,
  t171 := Tryz.underlying94,
  a171 := Tryz.isAgg94,
  z171 := Tryz.sizeOf94,
  v171 := Tryz.zeroValue94,
  t173 := Tryz.underlying97,
  a173 := Tryz.isAgg97,
  z173 := Tryz.sizeOf97,
  v173 := Tryz.zeroValue97,
  t212 := Tryz.underlying112,
  a212 := Tryz.isAgg112,
  z212 := Tryz.sizeOf112,
  v212 := Tryz.zeroValue112,
  t213 := Tryz.underlying114,
  a213 := Tryz.isAgg114,
  z213 := Tryz.sizeOf114,
  t232 := Tryz.underlying128,
  a232 := Tryz.isAgg128,
  z232 := Tryz.sizeOf128,
  v232 := Tryz.zeroValue128,
  t233 := Tryz.underlying129,
  a233 := Tryz.isAgg129,
  z233 := Tryz.sizeOf129,
  v233 := Tryz.zeroValue129,
  g17 := by kernel_rfl,
  g18 := by kernel_rfl,
  g19 := by kernel_rfl,
  i0 := by kernel_rfl,
  i2 := by kernel_rfl,
  i3 := by kernel_rfl,
  i4 := by kernel_rfl,
  i5 := by kernel_rfl,
  i9 := by kernel_rfl,
  i20 := by kernel_rfl,
  i37 := by kernel_rfl,
  i46 := by kernel_rfl,
  i51 := by kernel_rfl,
  i53 := by kernel_rfl,
  i171 := by kernel_rfl,
  i173 := by kernel_rfl,
  i212 := by kernel_rfl,
  i232 := by kernel_rfl,
  i233 := by kernel_rfl,
  m17 := by kernel_rfl,
  m18 := by kernel_rfl,
  m19 := by kernel_rfl }
def lays156_ren : Go.Shelf.Ren := ⟨fun | 156 => 25 | 165 => 49 | 166 => 50 | 169 => 51 | 240 => 63 | 241 => 64 | 276 => 78 | 277 => 79 | n => n, fun | 31 => 49 | 9 => 9 | 3 => 3 | 4 => 4 | 0 => 0 | 20 => 20 | 72 => 76 | 76 => 61 | 70 => 74 | 37 => 22 | 75 => 60 | 127 => 85 | 164 => 99 | 5 => 5 | 80 => 78 | n => n, fun | n => n⟩
theorem lays156 : Go.Proofs.Lays.n156 Tryz.prog lays156_ren := {
  mixed := by kernel_rfl,
  f156 := Tryz.func25.trans (congrArg some (by kernel_rfl)),
  f165 := Tryz.func49.trans (congrArg some (by kernel_rfl)),
  f166 := Tryz.func50.trans (congrArg some (by kernel_rfl)),
  f169 := Tryz.func51.trans (congrArg some (by kernel_rfl)),
  f240 := Tryz.func63.trans (congrArg some (by kernel_rfl)),
  f241 := Tryz.func64.trans (congrArg some (by kernel_rfl)),
  f276 := Tryz.func78.trans (congrArg some (by kernel_rfl)),
  f277 := Tryz.func79.trans (congrArg some (by kernel_rfl)),
  t0 := Tryz.underlying0,
  a0 := Tryz.isAgg0,
  z0 := Tryz.sizeOf0,
  v0 := Tryz.zeroValue0,
  t3 := Tryz.underlying3,
  a3 := Tryz.isAgg3,
  z3 := Tryz.sizeOf3,
  v3 := Tryz.zeroValue3,
  t4 := Tryz.underlying4,
  a4 := Tryz.isAgg4,
  z4 := Tryz.sizeOf4,
  v4 := Tryz.zeroValue4,
  t9 := Tryz.underlying9,
  a9 := Tryz.isAgg9,
  z9 := Tryz.sizeOf9,
  v9 := Tryz.zeroValue9,
  t20 := Tryz.underlying20,
  a20 := Tryz.isAgg20,
  z20 := Tryz.sizeOf20,
  v20 := Tryz.zeroValue20,
  t31 := Tryz.underlying49,
  a31 := Tryz.isAgg49,
  z31 := Tryz.sizeOf49,
  v31 := Tryz.zeroValue49,
  t37 := Tryz.underlying22,
  a37 := Tryz.isAgg22,
  z37 := Tryz.sizeOf22,
  v37 := Tryz.zeroValue22,
  t70 := Tryz.underlying74,
  a70 := Tryz.isAgg74,
  z70 := Tryz.sizeOf74,
  v70 := Tryz.zeroValue74,
  t72 := Tryz.underlying76,
  a72 := Tryz.isAgg76,
  z72 := Tryz.sizeOf76,
  v72 := Tryz.zeroValue76,
  t75 := Tryz.underlying60,
  a75 := Tryz.isAgg60,
  z75 := Tryz.sizeOf60,
  v75 := Tryz.zeroValue60,
  t76 := Tryz.underlying61,
  a76 := Tryz.isAgg61,
  z76 := Tryz.sizeOf61,
  v76 := Tryz.zeroValue61,
  t127 := Tryz.underlying85,
  a127 := Tryz.isAgg85,
  z127 := Tryz.sizeOf85,
  v127 := Tryz.zeroValue85,
  t164 := Tryz.underlying99,
  a164 := Tryz.isAgg99,
  z164 := Tryz.sizeOf99,
  v164 := Tryz.zeroValue99 }
theorem extra156 : Builder.Extra Tryz.prog lays156_ren := { sizeBuilder := by kernel_rfl, liesBuilder := by kernel_rfl, t5 := Tryz.underlying5, a5 := Tryz.isAgg5, z5 := Tryz.sizeOf5, v5 := Tryz.zeroValue5, infoByte := by kernel_rfl, cellsByte := by kernel_rfl, sizeByte := by kernel_rfl, neB5 := by decide }
def tabName : String := Rows.fnPrefixesRow.named.headD ""
def Tab (w : World) : Prop := Lib.TabIs Tryz.prog w tabName .u64 Lib.pow10Tab
theorem tab_global : ∃ g, Tryz.prog.globalNamed tabName = some g := Option.isSome_iff_exists.1 (by kernel_rfl : (Tryz.prog.globalNamed tabName).isSome = true)
theorem Tab.below {w w' : World} (h : Tab w) (hb : Below w.heap.size w w') : Tab w' := by
  obtain ⟨g, hg⟩ := tab_global
  unfold Tab Lib.TabIs World.var? at h ⊢
  rw [hg] at h ⊢
  simp only [Option.bind_some] at h ⊢
  have hlt : g < w.heap.size := by
    rcases Nat.lt_or_ge g w.heap.size with h' | h'
    · exact h'
    · rw [Array.getElem?_eq_none h'] at h; cases h
  rw [hb.block g hlt]
  exact h
theorem below_grow {w : World} (k : Nat) (os : Array Obj) : Below w.heap.size w (Sort.grow (w.drewN k) os) :=
  ⟨rfl, rfl, rfl, by rw [Sort.size_grow]; exact Nat.le_add_right _ _, fun i hi => by
    show (w.heap ++ os)[i]? = w.heap[i]?
    exact Array.getElem?_append_left hi⟩
theorem itoa (n : Int) (h0 : -9223372036854775808 ≤ n) (h1 : n ≤ 9223372036854775807) (w : World) (ht : Tab w) :
    Calls Tryz.prog 24 #[.int .i64 n] w fun e w' => e = .returned (.string ⟨(Lib.itoa n).toArray⟩) ∧ Below w.heap.size w w' := by
  refine (Any.strconv_Itoa laysM171 n h0 h1 w ht).mono ?_
  rintro e w' ⟨he, k, os, rfl⟩
  exact ⟨he, below_grow k os⟩
theorem join (v0 : Value) (l : List ByteArray) (sep : ByteArray) (base e : Nat) (ok : Nat → Prop) (w : World) (hr : Kd.R Kd.string e w base ok v0 l) (hl : l.length ≤ 140737488355328) (hj : (Lib.join (l.map (·.data.toList)) sep.data.toList).length ≤ 140737488355328) :
    Calls Tryz.prog 25 #[v0, .string sep] w fun e w' => e = .returned (.string ⟨(Lib.join (l.map (·.data.toList)) sep.data.toList).toArray⟩) ∧ Below w.heap.size w w' := by
  obtain ⟨_, inner, hown, hreps⟩ := hr
  rcases hown.2 with ⟨rfl, hn⟩ | ⟨g, cap, cur, rfl, hb, hg, hnc, hcm, hcur, htake⟩
  · obtain rfl := List.eq_nil_of_length_eq_zero hn
    exact (Any.strings_Join_none lays156 extra156 none 0 sep w).mono fun e w' ⟨he, hw⟩ => ⟨he, hw ▸ Below.refl _ _⟩
  · refine Any.strings_Join lays156 extra156 g 0 cap l sep w (fun j x hx => ?_) (Array.getElem?_eq_some_iff.1 hg).1 hl hnc hj
    have hM := hreps.2 j x hx
    have hc : (inner.drop (j * 1)).take 1 = [.string x] := hM
    have hj1 : inner[j]? = some (.string x) := by
      have := congrArg (fun l => l[0]?) hc
      simpa [List.getElem?_take, List.getElem?_drop] using this
    have := hown.cells (g := g) rfl j _ hj1
    rw [add_plain] at this
    rw [Nat.zero_add]
    exact this
end Go.Proofs.YtkollihfejkklaaGreatDoor.Lays
namespace Go.Proofs.YtkollihfejkklaaGreatDoor.LaysR
open Go.Shelf Go.RowKit Go.Proofs.YtkollihfejkklaaGreatDoorW.PrintWords
set_option linter.unusedVariables false
def lays145_ren : Go.Shelf.Ren := ⟨fun | 145 => 30 | 220 => 53 | 219 => 65 | 217 => 80 | 225 => 81 | 224 => 82 | 267 => 83 | 266 => 95 | 314 => 96 | n => n, fun | 9 => 9 | 4 => 4 | 59 => 56 | 3 => 3 | 5 => 5 | 46 => 36 | 146 => 116 | 51 => 113 | n => n, fun | 1 => 0 | n => n⟩
theorem lays145 : Go.Proofs.LaysM.n145 Tryz.prog lays145_ren := {
  mixed := by kernel_rfl,
  f145 := Tryz.func30.trans (congrArg some (by kernel_rfl)),
  f217 := Tryz.func80.trans (congrArg some (by kernel_rfl)),
  f219 := Tryz.func65.trans (congrArg some (by kernel_rfl)),
  f220 := Tryz.func53.trans (congrArg some (by kernel_rfl)),
  f224 := Tryz.func82.trans (congrArg some (by kernel_rfl)),
  f225 := Tryz.func81.trans (congrArg some (by kernel_rfl)),
  f266 := Tryz.func95.trans (congrArg some (by kernel_rfl)),
  f267 := Tryz.func83.trans (congrArg some (by kernel_rfl)),
  f314 := Tryz.func96.trans (congrArg some (by kernel_rfl)),
  t3 := Tryz.underlying3,
  a3 := Tryz.isAgg3,
  z3 := Tryz.sizeOf3,
  v3 := Tryz.zeroValue3,
  t4 := Tryz.underlying4,
  a4 := Tryz.isAgg4,
  z4 := Tryz.sizeOf4,
  v4 := Tryz.zeroValue4,
  t5 := Tryz.underlying5,
  a5 := Tryz.isAgg5,
  z5 := Tryz.sizeOf5,
  v5 := Tryz.zeroValue5,
  t9 := Tryz.underlying9,
  a9 := Tryz.isAgg9,
  z9 := Tryz.sizeOf9,
  v9 := Tryz.zeroValue9,
  t46 := Tryz.underlying36,
  a46 := Tryz.isAgg36,
  z46 := Tryz.sizeOf36,
  v46 := Tryz.zeroValue36,
  t51 := Tryz.underlying113,
  a51 := Tryz.isAgg113,
  z51 := Tryz.sizeOf113,
  v51 := Tryz.zeroValue113,
  t59 := Tryz.underlying56,
  a59 := Tryz.isAgg56,
  z59 := Tryz.sizeOf56,
  v59 := Tryz.zeroValue56,
  t146 := Tryz.underlying116,
  a146 := Tryz.isAgg116,
  z146 := Tryz.sizeOf116,
  v146 := Tryz.zeroValue116,
  g1 := by kernel_rfl,
  i3 := by kernel_rfl,
  i4 := by kernel_rfl,
  i5 := by kernel_rfl,
  i9 := by kernel_rfl,
  i46 := by kernel_rfl,
  i51 := by kernel_rfl,
  i59 := by kernel_rfl,
  i146 := by kernel_rfl,
  m1 := by kernel_rfl,
  s1_3 := fun w h => Go.Proofs.cell_of_shapedOpen_int (zero := #[.int .i64 0]) (t := 3) h (of_decide_eq_true (by kernel_rfl)) (by kernel_rfl) rfl (by kernel_rfl) (by kernel_rfl) Tryz.underlying3 }
def lays146_ren : Go.Shelf.Ren := ⟨fun | 146 => 31 | 221 => 54 | 268 => 66 | 138 => 67 | 143 => 68 | 195 => 84 | 197 => 85 | 218 => 86 | 219 => 65 | 260 => 97 | 217 => 80 | 225 => 81 | 224 => 82 | 267 => 83 | 266 => 95 | 314 => 96 | n => n, fun | 9 => 9 | 31 => 49 | 3 => 3 | 4 => 4 | 0 => 0 | 105 => 103 | 21 => 21 | 5 => 5 | 46 => 36 | 119 => 124 | 139 => 127 | 138 => 126 | 146 => 116 | 51 => 113 | n => n, fun | 1 => 0 | 3 => 4 | 4 => 5 | n => n⟩
theorem lays146 : Go.Proofs.LaysM.n146 Tryz.prog lays146_ren := {
  mixed := by kernel_rfl,
  f138 := Tryz.func67.trans (congrArg some (by kernel_rfl)),
  f143 := Tryz.func68.trans (congrArg some (by kernel_rfl)),
  f146 := Tryz.func31.trans (congrArg some (by kernel_rfl)),
  f195 := Tryz.func84.trans (congrArg some (by kernel_rfl)),
  f197 := Tryz.func85.trans (congrArg some (by kernel_rfl)),
  f217 := Tryz.func80.trans (congrArg some (by kernel_rfl)),
  f218 := Tryz.func86.trans (congrArg some (by kernel_rfl)),
  f219 := Tryz.func65.trans (congrArg some (by kernel_rfl)),
  f221 := Tryz.func54.trans (congrArg some (by kernel_rfl)),
  f224 := Tryz.func82.trans (congrArg some (by kernel_rfl)),
  f225 := Tryz.func81.trans (congrArg some (by kernel_rfl)),
  f260 := Tryz.func97.trans (congrArg some (by kernel_rfl)),
  f266 := Tryz.func95.trans (congrArg some (by kernel_rfl)),
  f267 := Tryz.func83.trans (congrArg some (by kernel_rfl)),
  f268 := Tryz.func66.trans (congrArg some (by kernel_rfl)),
  f314 := Tryz.func96.trans (congrArg some (by kernel_rfl)),
  t0 := Tryz.underlying0,
  a0 := Tryz.isAgg0,
  z0 := Tryz.sizeOf0,
  v0 := Tryz.zeroValue0,
  t3 := Tryz.underlying3,
  a3 := Tryz.isAgg3,
  z3 := Tryz.sizeOf3,
  v3 := Tryz.zeroValue3,
  t4 := Tryz.underlying4,
  a4 := Tryz.isAgg4,
  z4 := Tryz.sizeOf4,
  v4 := Tryz.zeroValue4,
  t5 := Tryz.underlying5,
  a5 := Tryz.isAgg5,
  z5 := Tryz.sizeOf5,
  v5 := Tryz.zeroValue5,
  t9 := Tryz.underlying9,
  a9 := Tryz.isAgg9,
  z9 := Tryz.sizeOf9,
  v9 := Tryz.zeroValue9,
  t21 := Tryz.underlying21,
  a21 := Tryz.isAgg21,
  z21 := Tryz.sizeOf21,
  v21 := Tryz.zeroValue21,
  t31 := Tryz.underlying49,
  a31 := Tryz.isAgg49,
  z31 := Tryz.sizeOf49,
  v31 := Tryz.zeroValue49,
  t46 := Tryz.underlying36,
  a46 := Tryz.isAgg36,
  z46 := Tryz.sizeOf36,
  v46 := Tryz.zeroValue36,
  t51 := Tryz.underlying113,
  a51 := Tryz.isAgg113,
  z51 := Tryz.sizeOf113,
  v51 := Tryz.zeroValue113,
  t105 := Tryz.underlying103,
  a105 := Tryz.isAgg103,
  z105 := Tryz.sizeOf103,
  v105 := Tryz.zeroValue103,
  t119 := Tryz.underlying124,
  a119 := Tryz.isAgg124,
  z119 := Tryz.sizeOf124,
  t138 := Tryz.underlying126,
  a138 := Tryz.isAgg126,
  z138 := Tryz.sizeOf126,
  v138 := Tryz.zeroValue126,
  t139 := Tryz.underlying127,
  a139 := Tryz.isAgg127,
  z139 := Tryz.sizeOf127,
  v139 := Tryz.zeroValue127,
  t146 := Tryz.underlying116,
  a146 := Tryz.isAgg116,
  z146 := Tryz.sizeOf116,
  v146 := Tryz.zeroValue116,
  g1 := by kernel_rfl,
  g3 := by kernel_rfl,
  g4 := by kernel_rfl,
  i0 := by kernel_rfl,
  i3 := by kernel_rfl,
  i4 := by kernel_rfl,
  i5 := by kernel_rfl,
  i9 := by kernel_rfl,
  i21 := by kernel_rfl,
  i31 := by kernel_rfl,
  i46 := by kernel_rfl,
  i51 := by kernel_rfl,
  i105 := by kernel_rfl,
  i138 := by kernel_rfl,
  i139 := by kernel_rfl,
  i146 := by kernel_rfl,
  m1 := by kernel_rfl,
  s1_3 := fun w h => Go.Proofs.cell_of_shapedOpen_int (zero := #[.int .i64 0]) (t := 3) h (of_decide_eq_true (by kernel_rfl)) (by kernel_rfl) rfl (by kernel_rfl) (by kernel_rfl) Tryz.underlying3,
  m3 := by kernel_rfl,
  m4 := by kernel_rfl }
def lays172_ren : Go.Shelf.Ren := ⟨fun | 172 => 32 | 244 => 55 | 245 => 56 | 247 => 69 | 279 => 70 | 280 => 71 | 281 => 72 | 282 => 73 | 287 => 87 | 316 => 88 | 171 => 24 | 205 => 89 | 321 => 98 | 322 => 99 | 243 => 48 | 246 => 62 | 283 => 74 | 284 => 75 | 285 => 76 | 286 => 77 | 129 => 91 | 317 => 90 | 318 => 92 | 319 => 93 | 320 => 94 | 337 => 100 | 338 => 101 | n => n, fun | 9 => 9 | 3 => 3 | 75 => 60 | 76 => 61 | 4 => 4 | 5 => 5 | 167 => 88 | 37 => 22 | 0 => 0 | 85 => 89 | 2 => 2 | 168 => 91 | 53 => 43 | 175 => 105 | 46 => 36 | 210 => 109 | 127 => 85 | 145 => 122 | 143 => 120 | 21 => 21 | 171 => 94 | 173 => 97 | 212 => 112 | 51 => 113 | 20 => 20 | 213 => 114 | 232 => 128 | 233 => 129 | 80 => 78 | n => n, fun | 15 => 1 | 16 => 2 | 17 => 3 | 18 => 6 | 19 => 7 | n => n⟩
theorem lays172 : Go.Proofs.LaysC.n172 Tryz.prog lays172_ren := {
  mixed := by kernel_rfl,
  f129 := Tryz.func91.trans (congrArg some (by kernel_rfl)),
  f171 := Tryz.func24.trans (congrArg some (by kernel_rfl)),
  f172 := Tryz.func32.trans (congrArg some (by kernel_rfl)),
  f205 := Tryz.func89.trans (congrArg some (by kernel_rfl)),
  f243 := Tryz.func48.trans (congrArg some (by kernel_rfl)),
  f244 := Tryz.func55.trans (congrArg some (by kernel_rfl)),
  f245 := Tryz.func56.trans (congrArg some (by kernel_rfl)),
  f246 := Tryz.func62.trans (congrArg some (by kernel_rfl)),
  f247 := Tryz.func69.trans (congrArg some (by kernel_rfl)),
  f279 := Tryz.func70.trans (congrArg some (by kernel_rfl)),
  f280 := Tryz.func71.trans (congrArg some (by kernel_rfl)),
  f281 := Tryz.func72.trans (congrArg some (by kernel_rfl)),
  f282 := Tryz.func73.trans (congrArg some (by kernel_rfl)),
  f283 := Tryz.func74.trans (congrArg some (by kernel_rfl)),
  f284 := Tryz.func75.trans (congrArg some (by kernel_rfl)),
  f285 := Tryz.func76.trans (congrArg some (by kernel_rfl)),
  f286 := Tryz.func77.trans (congrArg some (by kernel_rfl)),
  f287 := Tryz.func87.trans (congrArg some (by kernel_rfl)),
  f316 := Tryz.func88.trans (congrArg some (by kernel_rfl)),
  f317 := Tryz.func90.trans (congrArg some (by kernel_rfl)),
  f318 := Tryz.func92.trans (congrArg some (by kernel_rfl)),
  f319 := Tryz.func93.trans (congrArg some (by kernel_rfl)),
  f320 := Tryz.func94.trans (congrArg some (by kernel_rfl)),
  f321 := Tryz.func98.trans (congrArg some (by kernel_rfl)),
  f322 := Tryz.func99.trans (congrArg some (by kernel_rfl)),
  f337 := Tryz.func100.trans (congrArg some (by kernel_rfl)),
  f338 := Tryz.func101.trans (congrArg some (by kernel_rfl)),
  t0 := Tryz.underlying0,
  a0 := Tryz.isAgg0,
  z0 := Tryz.sizeOf0,
  v0 := Tryz.zeroValue0,
  t2 := Tryz.underlying2,
  a2 := Tryz.isAgg2,
  z2 := Tryz.sizeOf2,
  v2 := Tryz.zeroValue2,
  t3 := Tryz.underlying3,
  a3 := Tryz.isAgg3,
  z3 := Tryz.sizeOf3,
  v3 := Tryz.zeroValue3,
  t4 := Tryz.underlying4,
  a4 := Tryz.isAgg4,
  z4 := Tryz.sizeOf4,
  v4 := Tryz.zeroValue4,
  t5 := Tryz.underlying5,
  a5 := Tryz.isAgg5,
  z5 := Tryz.sizeOf5,
  v5 := Tryz.zeroValue5,
  t9 := Tryz.underlying9,
  a9 := Tryz.isAgg9,
  z9 := Tryz.sizeOf9,
  v9 := Tryz.zeroValue9,
  t20 := Tryz.underlying20,
  a20 := Tryz.isAgg20,
  z20 := Tryz.sizeOf20,
  v20 := Tryz.zeroValue20,
  t21 := Tryz.underlying21,
  a21 := Tryz.isAgg21,
  z21 := Tryz.sizeOf21,
  v21 := Tryz.zeroValue21,
  t37 := Tryz.underlying22,
  a37 := Tryz.isAgg22,
  z37 := Tryz.sizeOf22,
  v37 := Tryz.zeroValue22,
  t46 := Tryz.underlying36,
  a46 := Tryz.isAgg36,
  z46 := Tryz.sizeOf36,
  v46 := Tryz.zeroValue36,
  t51 := Tryz.underlying113,
  a51 := Tryz.isAgg113,
  z51 := Tryz.sizeOf113,
  v51 := Tryz.zeroValue113,
  t53 := Tryz.underlying43,
  a53 := Tryz.isAgg43,
  z53 := Tryz.sizeOf43,
  v53 := Tryz.zeroValue43,
  t75 := Tryz.underlying60,
  a75 := Tryz.isAgg60,
  z75 := Tryz.sizeOf60,
  v75 := Tryz.zeroValue60,
  t76 := Tryz.underlying61,
  a76 := Tryz.isAgg61,
  z76 := Tryz.sizeOf61,
  v76 := Tryz.zeroValue61,
  t85 := Tryz.underlying89,
  a85 := Tryz.isAgg89,
  z85 := Tryz.sizeOf89,
  v85 := Tryz.zeroValue89,
  t127 := Tryz.underlying85,
  a127 := Tryz.isAgg85,
  z127 := Tryz.sizeOf85,
  v127 := Tryz.zeroValue85,
  t143 := Tryz.underlying120,
  a143 := Tryz.isAgg120,
  z143 := Tryz.sizeOf120,
  v143 := Tryz.zeroValue120,
  t145 := Tryz.underlying122,
  a145 := Tryz.isAgg122,
  z145 := Tryz.sizeOf122,
  v145 := Tryz.zeroValue122,
  t167 := Tryz.underlying88,
  a167 := Tryz.isAgg88,
  z167 := Tryz.sizeOf88,
  v167 := Tryz.zeroValue88,
  t168 := Tryz.underlying91,
  a168 := Tryz.isAgg91,
  z168 := Tryz.sizeOf91,
  v168 := Tryz.zeroValue91,
  t171 := Tryz.underlying94,
  a171 := Tryz.isAgg94,
  z171 := Tryz.sizeOf94,
  v171 := Tryz.zeroValue94,
  t173 := Tryz.underlying97,
  a173 := Tryz.isAgg97,
  z173 := Tryz.sizeOf97,
  v173 := Tryz.zeroValue97,
  t175 := Tryz.underlying105,
  a175 := Tryz.isAgg105,
  z175 := Tryz.sizeOf105,
  v175 := Tryz.zeroValue105,
  t210 := Tryz.underlying109,
  a210 := Tryz.isAgg109,
  z210 := Tryz.sizeOf109,
  v210 := Tryz.zeroValue109,
  t212 := Tryz.underlying112,
  a212 := Tryz.isAgg112,
  z212 := Tryz.sizeOf112,
  v212 := Tryz.zeroValue112,
  t213 := Tryz.underlying114,
  a213 := Tryz.isAgg114,
  z213 := Tryz.sizeOf114,
  t232 := Tryz.underlying128,
  a232 := Tryz.isAgg128,
  z232 := Tryz.sizeOf128,
  v232 := Tryz.zeroValue128,
  t233 := Tryz.underlying129,
  a233 := Tryz.isAgg129,
  z233 := Tryz.sizeOf129,
  v233 := Tryz.zeroValue129,
  g15 := by kernel_rfl,
  g16 := by kernel_rfl,
  g17 := by kernel_rfl,
  g18 := by kernel_rfl,
  g19 := by kernel_rfl,
  t80 := Tryz.underlying78,
  a80 := Tryz.isAgg78,
  z80 := Tryz.sizeOf78,
  v80 := Tryz.zeroValue78,
  i0 := by kernel_rfl,
  i2 := by kernel_rfl,
  i3 := by kernel_rfl,
  i4 := by kernel_rfl,
  i5 := by kernel_rfl,
  i9 := by kernel_rfl,
  i20 := by kernel_rfl,
  i21 := by kernel_rfl,
  i37 := by kernel_rfl,
  i46 := by kernel_rfl,
  i51 := by kernel_rfl,
  i53 := by kernel_rfl,
  i75 := by kernel_rfl,
  i76 := by kernel_rfl,
  i80 := by kernel_rfl,
  i85 := by kernel_rfl,
  i127 := by kernel_rfl,
  i143 := by kernel_rfl,
  i145 := by kernel_rfl,
  i167 := by kernel_rfl,
  i168 := by kernel_rfl,
  i171 := by kernel_rfl,
  i173 := by kernel_rfl,
  i175 := by kernel_rfl,
  i210 := by kernel_rfl,
  i212 := by kernel_rfl,
  i232 := by kernel_rfl,
  i233 := by kernel_rfl,
  m15 := by kernel_rfl,
  m16 := by kernel_rfl,
  m17 := by kernel_rfl,
  m18 := by kernel_rfl,
  m19 := by kernel_rfl,
  c0 := by kernel_rfl,
  c2 := by kernel_rfl,
  c3 := by kernel_rfl,
  c4 := by kernel_rfl,
  c5 := by kernel_rfl,
  c9 := by kernel_rfl,
  c20 := by kernel_rfl,
  c21 := by kernel_rfl,
  c37 := by kernel_rfl,
  c46 := by kernel_rfl,
  c51 := by kernel_rfl,
  c53 := by kernel_rfl,
  c75 := by kernel_rfl,
  c76 := by kernel_rfl,
  c80 := by kernel_rfl,
  c85 := by kernel_rfl,
  c127 := by kernel_rfl,
  c143 := by kernel_rfl,
  c145 := by kernel_rfl,
  c167 := by kernel_rfl,
  c168 := by kernel_rfl,
  c171 := by kernel_rfl,
  c173 := by kernel_rfl,
  c175 := by kernel_rfl,
  c210 := by kernel_rfl,
  c212 := by kernel_rfl,
  c213 := by kernel_rfl,
  c232 := by kernel_rfl,
  c233 := by kernel_rfl }
def All (w : World) : Prop := Lays.Tab w ∧ (∃ m : Int, w.cell? ⟨0, 0, none⟩ = some (.int .i64 m)) ∧ ∃ te pe, w.cell? ⟨1, 0, none⟩ = some (.iface te pe)
theorem All.below {w w' : World} (h : All w) (hb : Below w.heap.size w w') : All w' := by
  obtain ⟨h1, ⟨m, h2⟩, te, pe, h3⟩ := h
  exact ⟨h1.below hb, ⟨m, (hb.cell (Lib.lt_of_cell h2)).trans h2⟩, te, pe, (hb.cell (Lib.lt_of_cell h3)).trans h3⟩
theorem cut (s sep : ByteArray) (w : World) (ht : All w) (hs : s.size ≤ 1000000) :
    Calls Tryz.prog 30 #[.string s, .string sep] w fun e w' => e = .returned (.tuple #[.string ⟨(Lib.cut s.data.toList sep.data.toList).1.toArray⟩, .string ⟨(Lib.cut s.data.toList sep.data.toList).2.1.toArray⟩, .bool (Lib.cut s.data.toList sep.data.toList).2.2]) ∧ Below w.heap.size w w' := by
  obtain ⟨_, ⟨m, hm⟩, _⟩ := ht
  refine (Any.strings_Cut { lays145 with } s sep m w (by omega) hm).mono ?_
  rintro e w' ⟨he, n, rfl⟩
  exact ⟨he, ⟨rfl, rfl, rfl, Nat.le_refl _, fun _ _ => rfl⟩⟩
theorem reps (W : World) (B : Nat) (ok : Nat → Prop) (l : List ByteArray) : Reps (Kd.string.M W B ok) 1 l (l.map Value.string) := by
  refine ⟨by simp, fun j p hj => ?_⟩
  have : ((l.map Value.string).drop (j * 1)).take 1 = [.string p] := by
    obtain ⟨hlt, rfl⟩ := List.getElem?_eq_some_iff.1 hj
    rw [Nat.mul_one, List.drop_eq_getElem_cons (by simpa using hlt)]
    simp
  rw [this]
  exact rfl
theorem split (s sep : ByteArray) (w : World) (ht : All w) (hs : s.size ≤ 1000000) (h1 : 1 ≤ sep.size) :
    Calls Tryz.prog 31 #[.string s, .string sep] w fun e w' => ∃ v0_ : Value, e = .returned v0_ ∧ Kd.R Kd.string 9 w' w.heap.size (fun _ => True) v0_ (Lib.splitB sep 0 (Lib.countB s sep) s) ∧ Below w.heap.size w w' := by
  obtain ⟨_, ⟨m, hm⟩, _⟩ := ht
  refine (Any.strings_Split { lays146 with } lays146.i9 s sep m w (by omega) hm h1).mono ?_
  rintro e w' ⟨he, rfl⟩
  have hl : (Lib.splitB sep 0 (Lib.countB s sep) s).length = Lib.countB s sep + 1 := Lib.splitB_all sep h1 0 _ s rfl
  refine ⟨_, he, ⟨fun k _ => trivial, (Lib.splitB sep 0 (Lib.countB s sep) s).map Value.string, ?_, reps _ _ _ _⟩, (Below.refl _ w).alloc (Nat.le_refl _) _⟩
  refine ⟨?_, .inr ⟨w.heap.size, Lib.countB s sep + 1, _, ?_, Nat.le_refl _, heap_alloc_new w _, ?_, ?_, ?_, ?_⟩⟩
  · rw [show Kd.string.sz = 1 from rfl]; simp
  · rw [hl]
  · rw [hl]; exact Nat.le_refl _
  · have : maxLen = 9223372036854775807 := rfl
    have := Lib.countB_le sep h1 s.size s (Nat.le_refl _)
    omega
  · rw [show Kd.string.sz = 1 from rfl]; simp [hl]
  · rw [show Kd.string.sz = 1 from rfl, Nat.mul_one]
    exact List.take_of_length_le (by simp)
theorem atoi (s : ByteArray) (w : World) (ht : All w) (hs : s.size ≤ 18) :
    Calls Tryz.prog 32 #[.string s] w fun e w' => ∃ ev, e = .returned (.tuple #[.int .i64 ((Lib.atoi s.data.toList).getD 0), ev]) ∧ Below w.heap.size w w' := by
  obtain ⟨_, _, te, pe, hv⟩ := ht
  cases h : Lib.atoi s.data.toList with
  | none =>
    refine (Any.strconv_Atoi_err { lays172 with } s hs h _ w hv (.inr ⟨te, pe, rfl⟩)).mono ?_
    rintro e w' ⟨N, he, _, _, hb⟩
    exact ⟨_, he, hb⟩
  | some n =>
    refine (Any.strconv_Atoi { lays172 with } s n hs h w).mono ?_
    rintro e w' ⟨he, t, rfl⟩
    exact ⟨_, he, Lib.bytesWorld_below _ _ _⟩
end Go.Proofs.YtkollihfejkklaaGreatDoor.LaysR
namespace Go.Proofs.YtkollihfejkklaaGreatDoor.Pfx
open Go.RowKit Go.Proofs.YtkollihfejkklaaGreatDoorW.PrintWords Go.Proofs.YtkollihfejkklaaGreatDoorW.PrintLast Go.Proofs.YtkollihfejkklaaGreatDoorW.PrintMore
def sz (n : Int) : Int := 2 ^ (32 - n).toNat

theorem sz_lit : sz 0 = 4294967296 ∧ sz 32 = 1 := by decide

theorem sz_succ {n : Int} (h0 : 0 ≤ n) (h : n < 32) : sz n = 2 * sz (n + 1) := by
  unfold sz
  have e : (32 - n).toNat = (32 - (n + 1)).toNat + 1 := by omega
  rw [e, Int.pow_succ]
  omega
theorem pow_pos (m : Nat) : (1 : Int) ≤ 2 ^ m := by
  induction m with
  | zero => simp
  | succ m ih => rw [Int.pow_succ]; omega
theorem sz_pos (n : Int) : 1 ≤ sz n := pow_pos _
theorem pow_le (m k : Nat) (h : m ≤ k) : (2 : Int) ^ m ≤ 2 ^ k := by
  obtain ⟨d, rfl⟩ := Nat.le.dest h
  rw [Int.pow_add]
  have h1 := pow_pos m
  have h2 := pow_pos d
  calc (2 : Int) ^ m = 2 ^ m * 1 := by omega
    _ ≤ 2 ^ m * 2 ^ d := Int.mul_le_mul_of_nonneg_left h2 (by omega)
theorem sz_le {n : Int} (h0 : 0 ≤ n) : sz n ≤ 4294967296 := by
  have := pow_le (32 - n).toNat 32 (by omega)
  simpa [sz] using this
theorem sz_add {n m : Int} (h0 : 0 ≤ n) (h : n ≤ m) (hm : m ≤ 32) : sz n = sz m * 2 ^ (m - n).toNat := by
  unfold sz
  rw [← Int.pow_add]
  congr 1
  omega
theorem sz_dvd {n m : Int} (h0 : 0 ≤ n) (h : n ≤ m) (hm : m ≤ 32) : sz m ∣ sz n := ⟨_, sz_add h0 h hm⟩
theorem sz_mono {n m : Int} (h0 : 0 ≤ n) (h : n ≤ m) (hm : m ≤ 32) : sz m ≤ sz n := Int.le_of_dvd (by have := sz_pos n; omega) (sz_dvd h0 h hm)

def good (a n : Int) : Bool := decide (0 ≤ n ∧ n ≤ 32 ∧ 0 ≤ a ∧ a ≤ 4294967295 ∧ a % sz n = 0)
theorem good_iff {a n : Int} : good a n = true ↔ (0 ≤ n ∧ n ≤ 32 ∧ 0 ≤ a ∧ a ≤ 4294967295 ∧ a % sz n = 0) := by simp [good]

theorem in_row {a s x : Int} (hs : 0 < s) (ha : a % s = 0) : x - x % s = a ↔ (a ≤ x ∧ x ≤ a + s - 1) := by
  have h1 := Int.emod_nonneg x (show s ≠ 0 by omega)
  have h2 := Int.emod_lt_of_pos x hs
  constructor
  · intro h; omega
  · rintro ⟨h3, h4⟩
    have e1 := Int.mul_ediv_add_emod x s
    have e2 := Int.mul_ediv_add_emod a s
    rw [ha] at e2
    have e3 : x - a = s * (x / s - a / s) + x % s := by rw [Int.mul_sub]; omega
    have h5 : x / s - a / s = 0 := by
      by_cases h6 : x / s - a / s = 0
      · exact h6
      · exfalso
        rcases Int.lt_or_gt_of_ne h6 with h7 | h7
        · have : s * (x / s - a / s) ≤ s * (-1) := Int.mul_le_mul_of_nonneg_left (by omega) (by omega)
          omega
        · have : s * 1 ≤ s * (x / s - a / s) := Int.mul_le_mul_of_nonneg_left (by omega) (by omega)
          omega
    rw [h5, Int.mul_zero] at e3
    omega

theorem good_end {a n : Int} (h : good a n = true) : a + sz n - 1 ≤ 4294967295 := by
  obtain ⟨h0, h1, h2, h3, h4⟩ := good_iff.1 h
  have hd : sz n ∣ 4294967296 := by
    have := sz_dvd (n := 0) (m := n) (by omega) h0 h1
    rwa [sz_lit.1] at this
  obtain ⟨q, hq⟩ := hd
  obtain ⟨p, hp⟩ := Int.dvd_of_emod_eq_zero h4
  have hs := sz_pos n
  have hlt : p < q := by
    by_cases hlt : p < q
    · exact hlt
    · exfalso
      have : sz n * q ≤ sz n * p := Int.mul_le_mul_of_nonneg_left (by omega) (by omega)
      omega
  have : sz n * (p + 1) ≤ sz n * q := Int.mul_le_mul_of_nonneg_left (by omega) (by omega)
  rw [Int.mul_add] at this
  omega
theorem parent_rest {a s : Int} (hs : 0 < s) (ha : a % s = 0) : a % (2 * s) = 0 ∨ a % (2 * s) = s := by
  obtain ⟨p, rfl⟩ := Int.dvd_of_emod_eq_zero ha
  rw [Int.mul_comm 2 s, Int.mul_emod_mul_of_pos _ _ hs]
  have h : p % 2 = 0 ∨ p % 2 = 1 := by omega
  rcases h with h | h <;> rw [h]
  · left; omega
  · right; omega
theorem one_xor (p : Nat) : p ^^^ 1 = if p % 2 = 0 then p + 1 else p - 1 := by
  have h1 : (p ^^^ 1) / 2 = p / 2 := by rw [Nat.xor_div_two]; simp
  have h2 : (p ^^^ 1) % 2 = (p + 1) % 2 := by
    have h := @Nat.xor_mod_two_pow p 1 1
    simp only [Nat.pow_one] at h
    rw [h]
    rcases Nat.mod_two_eq_zero_or_one p with h1 | h1
    · rw [h1]; show 0 ^^^ 1 = _; simp; omega
    · rw [h1]; show 1 ^^^ 1 = _; simp; omega
  split <;> omega
theorem nat_xor (p j : Nat) : (p * 2 ^ j) ^^^ (2 ^ j) = if p % 2 = 0 then p * 2 ^ j + 2 ^ j else p * 2 ^ j - 2 ^ j := by
  have e1 : p * 2 ^ j = p <<< j := (Nat.shiftLeft_eq p j).symm
  have e2 : 2 ^ j = 1 <<< j := by rw [Nat.shiftLeft_eq]; omega
  have : (p * 2 ^ j) ^^^ (2 ^ j) = (p ^^^ 1) * 2 ^ j := by
    rw [e1]
    conv => lhs; rhs; rw [e2]
    rw [← Nat.shiftLeft_xor_distrib, Nat.shiftLeft_eq]
  rw [this, one_xor]
  split
  · rw [Nat.add_mul]; omega
  · rw [Nat.sub_mul]; omega
theorem bit_at (p j k : Nat) : (p * 2 ^ j).testBit k = (decide (k ≥ j) && p.testBit (k - j)) := by
  rw [← Nat.shiftLeft_eq, Nat.testBit_shiftLeft]
theorem one_at (j k : Nat) : (2 ^ j).testBit k = decide (j = k) := Nat.testBit_two_pow
theorem nat_andNot (p j m : Nat) (hj : 2 ^ j < 2 ^ m) (hp : p * 2 ^ j < 2 ^ m) : (p * 2 ^ j) &&& (2 ^ m - 1 - 2 ^ j) = if p % 2 = 0 then p * 2 ^ j else p * 2 ^ j - 2 ^ j := by
  have e : 2 ^ m - 1 - 2 ^ j = 2 ^ m - (2 ^ j + 1) := by omega
  have hx := nat_xor p j
  have hb : (p * 2 ^ j).testBit j = decide (p % 2 = 1) := by
    rw [bit_at]; simp [Nat.testBit_zero]
  rw [e]
  split
  · rename_i h
    apply Nat.eq_of_testBit_eq
    intro k
    rw [Nat.testBit_and, Nat.testBit_two_pow_sub_succ hj, one_at]
    by_cases hk : k < m
    · by_cases hjk : j = k
      · subst hjk; rw [hb]; simp [hk]; omega
      · simp [hk, hjk]
    · have : (p * 2 ^ j).testBit k = false := Nat.testBit_lt_two_pow (Nat.lt_of_lt_of_le hp (Nat.pow_le_pow_right (by omega) (by omega)))
      rw [this]; simp
  · rename_i h
    rw [if_neg h] at hx
    rw [← hx]
    apply Nat.eq_of_testBit_eq
    intro k
    rw [Nat.testBit_and, Nat.testBit_two_pow_sub_succ hj, Nat.testBit_xor, one_at]
    by_cases hk : k < m
    · by_cases hjk : j = k
      · subst hjk; rw [hb]; simp [hk]; omega
      · simp [hk, hjk]
    · have h1 : (p * 2 ^ j).testBit k = false := Nat.testBit_lt_two_pow (Nat.lt_of_lt_of_le hp (Nat.pow_le_pow_right (by omega) (by omega)))
      have h2 : (j = k) = False := by
        simp
        rintro rfl
        have : m ≤ j := by omega
        have := Nat.pow_le_pow_right (n := 2) (by omega) this
        omega
      rw [h1]; simp [h2]

theorem beq_dec (a b : Int) : (a == b) = decide (a = b) := by by_cases h : a = b <;> simp [h]
theorem i64_lo {x : Int} (h : (Lit.int .i64 x).wf = true) : -9223372036854775808 ≤ x ∧ x ≤ 9223372036854775807 := by
  have h' : IntKind.i64.min ≤ x ∧ x ≤ IntKind.i64.max := by simpa [Lit.wf] using h
  have e1 : IntKind.i64.min = -9223372036854775808 := by decide
  have e2 : IntKind.i64.max = 9223372036854775807 := by decide
  omega
theorem wrap_id {x : Int} (h0 : -9223372036854775808 ≤ x) (h1 : x ≤ 9223372036854775807) : wrap64 x = x := by
  unfold wrap64
  omega
theorem u64_id {x : Int} (h0 : 0 ≤ x) (h1 : x ≤ 9223372036854775807) : IntKind.u64.wrap x = x := by
  rw [IntKind.wrap_u64]
  omega
theorem shl_sz {n : Int} (h0 : 0 ≤ n) (h1 : n ≤ 32) : shl .i64 1 (wrap64 (32 - n)) = sz n := by
  rw [wrap_id (by omega) (by omega)]
  unfold shl
  have hb : IntKind.i64.bits = 64 := rfl
  rw [hb, Nat.min_eq_left (by omega), i64_w, Int.one_mul]
  have h2 := sz_pos n
  have h3 := sz_le h0
  show wrap64 (sz n) = sz n
  exact wrap_id (by omega) (by omega)
theorem ofInt_i64 (a : Nat) (ha : a < 18446744073709551616) : (BitVec.ofInt 64 (a : Int)).toNat = a := by
  rw [BitVec.ofInt_natCast, BitVec.toNat_ofNat]; exact Nat.mod_eq_of_lt (by omega)
theorem as_nat {a n : Int} (h0 : 0 ≤ n) (_h1 : n ≤ 32) (ha : 0 ≤ a) (ha2 : a ≤ 4294967295) (hd : a % sz n = 0) :
    ∃ p : Nat, a = ((p * 2 ^ (32 - n).toNat : Nat) : Int) ∧ sz n = ((2 ^ (32 - n).toNat : Nat) : Int) ∧ p * 2 ^ (32 - n).toNat < 4294967296 ∧ 2 ^ (32 - n).toNat ≤ 4294967296 ∧ (a % (2 * sz n) = 0 ↔ p % 2 = 0) := by
  have hs : sz n = ((2 ^ (32 - n).toNat : Nat) : Int) := by unfold sz; simp
  have hp := sz_pos n
  obtain ⟨q, hq⟩ := Int.dvd_of_emod_eq_zero hd
  have hq0 : 0 ≤ q := by
    by_cases h : 0 ≤ q
    · exact h
    · exfalso
      have : sz n * q ≤ sz n * (-1) := Int.mul_le_mul_of_nonneg_left (by omega) (by omega)
      omega
  obtain ⟨p, rfl⟩ := Int.eq_ofNat_of_zero_le hq0
  have ha' : a = ((p * 2 ^ (32 - n).toNat : Nat) : Int) := by rw [hq, hs, Int.mul_comm]; simp
  refine ⟨p, ha', hs, ?_, ?_, ?_⟩
  · generalize p * 2 ^ (32 - n).toNat = X at *
    omega
  · have := sz_le h0
    rw [hs] at this
    generalize 2 ^ (32 - n).toNat = X at *
    omega
  · rw [hq, Int.mul_comm 2 (sz n), Int.mul_emod_mul_of_pos _ _ (by omega)]
    constructor
    · intro h
      have : sz n * ((p : Int) % 2) = sz n * 0 := by omega
      have := Int.eq_of_mul_eq_mul_left (by omega) this
      omega
    · intro h
      have : (p : Int) % 2 = 0 := by omega
      rw [this]; simp
theorem xor_sz {a n : Int} (h0 : 0 ≤ n) (h1 : n ≤ 32) (ha : 0 ≤ a) (ha2 : a ≤ 4294967295) (hd : a % sz n = 0) : Go.bits .xor .i64 a (sz n) = if a % (2 * sz n) = 0 then a + sz n else a - sz n := by
  obtain ⟨p, rfl, hs, hp, hj, hiff⟩ := as_nat h0 h1 ha ha2 hd
  have hx := nat_xor p (32 - n).toNat
  have hge : p % 2 = 1 → 1 * 2 ^ (32 - n).toNat ≤ p * 2 ^ (32 - n).toNat := fun h => Nat.mul_le_mul_right _ (by omega)
  rw [hs] at hiff ⊢
  show IntKind.i64.wrap ((BitVec.ofInt 64 _ ^^^ BitVec.ofInt 64 _).toNat : Int) = _
  generalize p * 2 ^ (32 - n).toNat = X at *
  generalize 2 ^ (32 - n).toNat = Y at *
  rw [BitVec.toNat_xor, ofInt_i64 _ (by omega), ofInt_i64 _ (by omega), hx, i64_w]
  by_cases h : p % 2 = 0
  · rw [if_pos h, if_pos (hiff.2 h), wrap_id (by omega) (by omega)]; omega
  · have := hge (by omega)
    rw [if_neg h, if_neg (fun h' => h (hiff.1 h')), wrap_id (by omega) (by omega)]; omega
theorem andNot_sz {a n : Int} (h0 : 0 ≤ n) (h1 : n ≤ 32) (ha : 0 ≤ a) (ha2 : a ≤ 4294967295) (hd : a % sz n = 0) : Go.bits .andNot .i64 a (sz n) = a - a % (2 * sz n) := by
  have hr := parent_rest (a := a) (s := sz n) (by have := sz_pos n; omega) hd
  obtain ⟨p, rfl, hs, hp, hj, hiff⟩ := as_nat h0 h1 ha ha2 hd
  have hx := nat_andNot p (32 - n).toNat 64 (Nat.lt_of_le_of_lt hj (by decide)) (Nat.lt_trans hp (by decide))
  have hge : p % 2 = 1 → 1 * 2 ^ (32 - n).toNat ≤ p * 2 ^ (32 - n).toNat := fun h => Nat.mul_le_mul_right _ (by omega)
  rw [hs] at hiff hr ⊢
  show IntKind.i64.wrap ((BitVec.ofInt 64 _ &&& ~~~BitVec.ofInt 64 _).toNat : Int) = _
  generalize p * 2 ^ (32 - n).toNat = X at *
  generalize 2 ^ (32 - n).toNat = Y at *
  rw [BitVec.toNat_and, BitVec.toNat_not, ofInt_i64 _ (by omega), ofInt_i64 _ (by omega), hx, i64_w]
  by_cases h : p % 2 = 0
  · rw [if_pos h, wrap_id (by omega) (by omega)]
    have := hiff.2 h
    omega
  · have := hge (by omega)
    rw [if_neg h, wrap_id (by omega) (by omega)]
    have h3 : ¬ (X : Int) % (2 * (Y : Int)) = 0 := fun h' => h (hiff.1 h')
    rcases hr with hr | hr
    · exact absurd hr h3
    · rw [hr]; omega

def sib (a n : Int) : Int := if a % (2 * sz n) = 0 then a + sz n else a - sz n
def cmpP (a n b m : Int) : Int := if a < b ∨ a = b ∧ n < m then -1 else if a = b ∧ n = m then 0 else 1
def hasAddr (a n x : Int) : Bool × Bool := if good a n = true ∧ (0 ≤ x ∧ x ≤ 4294967295) then (decide (a ≤ x ∧ x ≤ a + sz n - 1), true) else (false, false)
def prefixHas (a n b m : Int) : Bool × Bool := if good a n = true ∧ good b m = true then (decide (n ≤ m ∧ a ≤ b ∧ b ≤ a + sz n - 1), true) else (false, false)
def compareP (a n b m : Int) : Int × Bool := if good a n = true ∧ good b m = true then (cmpP a n b m, true) else (0, false)
def parentOf (a n : Int) : Int × Int × Bool := if good a n = true ∧ ¬ n = 0 then (a - a % (2 * sz n), n - 1, true) else (0, 0, false)
def siblingOf (a n : Int) : Int × Int × Bool := if good a n = true ∧ ¬ n = 0 then (sib a n, n, true) else (0, 0, false)
def halvesOf (a n : Int) : Int × Int × Int × Int × Bool := if good a n = true ∧ ¬ n = 32 then (a, n + 1, a + sz (n + 1), n + 1, true) else (0, 0, 0, 0, false)
end Go.Proofs.YtkollihfejkklaaGreatDoor.Pfx
namespace Go.Proofs.YtkollihfejkklaaGreatDoor.Loop
open Go.RowKit Go.Proofs.YtkollihfejkklaaGreatDoorW.PrintWords Go.Proofs.YtkollihfejkklaaGreatDoorW.PrintLast Go.Proofs.YtkollihfejkklaaGreatDoorW.PrintMore Go.Proofs.YtkollihfejkklaaGreatDoor.Pfx
variable {α : Type}
theorem lt_mid (pre : List α) (a : α) (rest : List α) : (pre.length : Int) < ((pre ++ a :: rest).length : Int) := by simp; omega
theorem not_lt_end (l : List α) : ¬ ((l.length : Int) < (l.length : Int)) := by omega
theorem wrap_mid {pre : List α} {a : α} {rest : List α} (h : (pre ++ a :: rest).length ≤ maxLen) : wrap64 ((pre.length : Int) + 1) = ((pre ++ [a]).length : Int) := by
  have h2 : maxLen = 9223372036854775807 := rfl
  rw [h2] at h
  simp at h
  rw [wrap_id (by omega) (by omega)]
  simp
theorem snoc_cons (pre : List α) (a : α) (rest : List α) : pre ++ a :: rest = (pre ++ [a]) ++ rest := by simp
theorem len_nn (l : List α) : (0 : Int) ≤ (l.length : Int) := Int.natCast_nonneg _
theorem getD_mid (pre : List α) (a : α) (rest : List α) (z : α) : (pre ++ a :: rest).getD ((pre.length : Int)).toNat z = a := by simp
theorem set_mid (pre : List α) (a b : α) (rest : List α) : (pre ++ a :: rest).set ((pre.length : Int)).toNat b = pre ++ b :: rest := by simp
theorem rd_mid (pre : List Int) (a : Int) (rest : List Int) : rd (pre ++ a :: rest) (pre.length : Int) = a := by unfold rd; simp
theorem snoc_cases (l : List α) : l = [] ∨ ∃ p q, l = p ++ [q] := by
  rcases List.eq_nil_or_concat l with h | ⟨p, q, h⟩
  · exact .inl h
  · exact .inr ⟨p, q, by rw [h, List.concat_eq_append]⟩
theorem sz_ok {n : Nat} {r : Int} (hn : n ≤ maxLen) (h : (if wrap64 (1048576 - (n : Int)) < 0 then some (-1) else some (wrap64 (1048576 - (n : Int)))) = some r) (hr : ¬ r < 0) : n ≤ 1048576 := by
  have h2 : maxLen = 9223372036854775807 := rfl
  rw [h2] at hn
  rw [wrap_id (by omega) (by omega)] at h
  by_cases hc : (1048576 : Int) - (n : Int) < 0
  · rw [if_pos hc] at h; cases h; omega
  · omega
theorem idx_gen (f : Nat → Int → Option Int) (l : List α) (p : α → Bool) (h0 : ∀ k, f (k + 1) (l.length : Int) = some (-1))
    (h1 : ∀ k pre a rest, l = pre ++ a :: rest → f (k + 1) (pre.length : Int) = if p a = true then some (pre.length : Int) else f k ((pre ++ [a]).length : Int)) :
    ∀ (rest pre : List α) (k : Nat), l = pre ++ rest → rest.length < k → ∃ r : Int, f k (pre.length : Int) = some r ∧ (0 ≤ r ↔ rest.any p = true) := by
  intro rest
  induction rest with
  | nil =>
    intro pre k e hk
    obtain ⟨k, rfl⟩ : ∃ m, k = m + 1 := ⟨k - 1, by omega⟩
    have e' : l = pre := by simpa using e
    exact ⟨-1, by rw [← e']; exact h0 k, by simp⟩
  | cons a rest ih =>
    intro pre k e hk
    obtain ⟨k, rfl⟩ : ∃ m, k = m + 1 := ⟨k - 1, by omega⟩
    rw [h1 k pre a rest e]
    by_cases hv : p a = true
    · rw [if_pos hv]
      exact ⟨_, rfl, by simp [hv]⟩
    · rw [if_neg hv]
      obtain ⟨r, hr, hi⟩ := ih (pre ++ [a]) k (by rw [e]; simp) (by simp at hk; omega)
      refine ⟨r, hr, ?_⟩
      rw [hi]; simp [hv]
theorem any_gen (f : Nat → Int → Option Int) (l : List α) (p : α → Bool) (h0 : ∀ k, f (k + 1) (l.length : Int) = some (-1))
    (h1 : ∀ k pre a rest, l = pre ++ a :: rest → f (k + 1) (pre.length : Int) = if p a = true then some (pre.length : Int) else f k ((pre ++ [a]).length : Int))
    (k : Nat) (hk : l.length < k) : ((f k 0).bind fun t => some (decide (t ≥ 0))) = some (l.any p) := by
  obtain ⟨r, hr, hi⟩ := idx_gen f l p h0 h1 l [] k rfl hk
  have hr' : f k 0 = some r := hr
  rw [hr', Option.bind_some]
  congr 1
  by_cases h : 0 ≤ r
  · rw [hi.1 h]; simp [h]
  · have : l.any p = false := by
      cases hb : l.any p with
      | false => rfl
      | true => exact absurd (hi.2 hb) h
    rw [this]; simp; omega
theorem idx_genK (K : Nat) (f : Nat → Int → Option Int) (l : List α) (p : α → Bool) (h0 : ∀ k, f (k + 1) (l.length : Int) = some (-1))
    (h1 : ∀ k, K ≤ k → ∀ pre a rest, l = pre ++ a :: rest → f (k + 1) (pre.length : Int) = if p a = true then some (pre.length : Int) else f k ((pre ++ [a]).length : Int)) :
    ∀ (rest pre : List α) (k : Nat), l = pre ++ rest → rest.length + K < k → ∃ r : Int, f k (pre.length : Int) = some r ∧ (0 ≤ r ↔ rest.any p = true) := by
  intro rest
  induction rest with
  | nil =>
    intro pre k e hk
    obtain ⟨k, rfl⟩ : ∃ m, k = m + 1 := ⟨k - 1, by omega⟩
    have e' : l = pre := by simpa using e
    exact ⟨-1, by rw [← e']; exact h0 k, by simp⟩
  | cons a rest ih =>
    intro pre k e hk
    obtain ⟨k, rfl⟩ : ∃ m, k = m + 1 := ⟨k - 1, by omega⟩
    rw [h1 k (by simp at hk; omega) pre a rest e]
    by_cases hv : p a = true
    · rw [if_pos hv]
      exact ⟨_, rfl, by simp [hv]⟩
    · rw [if_neg hv]
      obtain ⟨r, hr, hi⟩ := ih (pre ++ [a]) k (by rw [e]; simp) (by simp at hk; omega)
      refine ⟨r, hr, ?_⟩
      rw [hi]; simp [hv]
theorem any_genK (K : Nat) (f : Nat → Int → Option Int) (l : List α) (p : α → Bool) (h0 : ∀ k, f (k + 1) (l.length : Int) = some (-1))
    (h1 : ∀ k, K ≤ k → ∀ pre a rest, l = pre ++ a :: rest → f (k + 1) (pre.length : Int) = if p a = true then some (pre.length : Int) else f k ((pre ++ [a]).length : Int))
    (k : Nat) (hk : l.length + K < k) : ((f k 0).bind fun t => some (decide (t ≥ 0))) = some (l.any p) := by
  obtain ⟨r, hr, hi⟩ := idx_genK K f l p h0 h1 l [] k rfl hk
  have hr' : f k 0 = some r := hr
  rw [hr', Option.bind_some]
  congr 1
  by_cases h : 0 ≤ r
  · rw [hi.1 h]; simp [h]
  · have : l.any p = false := by
      cases hb : l.any p with
      | false => rfl
      | true => exact absurd (hi.2 hb) h
    rw [this]; simp; omega
end Go.Proofs.YtkollihfejkklaaGreatDoor.Loop
