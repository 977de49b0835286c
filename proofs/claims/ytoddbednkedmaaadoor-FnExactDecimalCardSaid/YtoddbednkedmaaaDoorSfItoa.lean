/- The library's function strings.Itoa: what its call answers (out of the shelf's contract, laid by the kit's own command at this program). Conditions: as each theorem states. -/
import Derived.Shelf.Strconv.Itoa3
import Derived.Test.YtoddbednkedmaaaDoorProg
namespace Go.Proofs.YtoddbednkedmaaaDoor.Sf
open Go.Shelf Go.Proofs Go.RowKit
set_option linter.unusedVariables false
def laysM171_ren : Go.Shelf.Ren := ⟨fun | 171 => 7 | 243 => 8 | 246 => 9 | 283 => 10 | 284 => 11 | 285 => 12 | 286 => 13 | 129 => 15 | 317 => 14 | 318 => 16 | 319 => 17 | 320 => 18 | 337 => 19 | 338 => 20 | n => n, fun | 3 => 3 | 9 => 9 | 2 => 2 | 4 => 4 | 171 => 27 | 0 => 0 | 53 => 28 | 37 => 25 | 5 => 5 | 173 => 31 | 212 => 35 | 51 => 36 | 20 => 20 | 213 => 37 | 46 => 38 | 232 => 41 | 233 => 42 | n => n, fun | 17 => 0 | 18 => 1 | 19 => 2 | n => n⟩
theorem laysM171 : Go.Proofs.LaysM.n171 Tryd.prog laysM171_ren := {
  mixed := by kernel_rfl
  f129 := Tryd.func15.trans (congrArg some (by kernel_rfl))
  f171 := Tryd.func7.trans (congrArg some (by kernel_rfl))
  f243 := Tryd.func8.trans (congrArg some (by kernel_rfl))
  f246 := Tryd.func9.trans (congrArg some (by kernel_rfl))
  f283 := Tryd.func10.trans (congrArg some (by kernel_rfl))
  f284 := Tryd.func11.trans (congrArg some (by kernel_rfl))
  f285 := Tryd.func12.trans (congrArg some (by kernel_rfl))
  f286 := Tryd.func13.trans (congrArg some (by kernel_rfl))
  f317 := Tryd.func14.trans (congrArg some (by kernel_rfl))
  f318 := Tryd.func16.trans (congrArg some (by kernel_rfl))
  f319 := Tryd.func17.trans (congrArg some (by kernel_rfl))
  f320 := Tryd.func18.trans (congrArg some (by kernel_rfl))
  f337 := Tryd.func19.trans (congrArg some (by kernel_rfl))
  f338 := Tryd.func20.trans (congrArg some (by kernel_rfl))
  t0 := Tryd.underlying0
  a0 := Tryd.isAgg0
  z0 := Tryd.sizeOf0
  v0 := Tryd.zeroValue0
  t2 := Tryd.underlying2
  a2 := Tryd.isAgg2
  z2 := Tryd.sizeOf2
  v2 := Tryd.zeroValue2
  t3 := Tryd.underlying3
  a3 := Tryd.isAgg3
  z3 := Tryd.sizeOf3
  v3 := Tryd.zeroValue3
  t4 := Tryd.underlying4
  a4 := Tryd.isAgg4
  z4 := Tryd.sizeOf4
  v4 := Tryd.zeroValue4
  t5 := Tryd.underlying5
  a5 := Tryd.isAgg5
  z5 := Tryd.sizeOf5
  v5 := Tryd.zeroValue5
  t9 := Tryd.underlying9
  a9 := Tryd.isAgg9
  z9 := Tryd.sizeOf9
  v9 := Tryd.zeroValue9
  t20 := Tryd.underlying20
  a20 := Tryd.isAgg20
  z20 := Tryd.sizeOf20
  v20 := Tryd.zeroValue20
  t37 := Tryd.underlying25
  a37 := Tryd.isAgg25
  z37 := Tryd.sizeOf25
  v37 := Tryd.zeroValue25
  t46 := Tryd.underlying38
  a46 := Tryd.isAgg38
  z46 := Tryd.sizeOf38
  v46 := Tryd.zeroValue38
  t51 := Tryd.underlying36
  a51 := Tryd.isAgg36
  z51 := Tryd.sizeOf36
  v51 := Tryd.zeroValue36
  t53 := Tryd.underlying28
  a53 := Tryd.isAgg28
  z53 := Tryd.sizeOf28
  v53 := Tryd.zeroValue28
  t171 := Tryd.underlying27
  a171 := Tryd.isAgg27
  z171 := Tryd.sizeOf27
  v171 := Tryd.zeroValue27
  t173 := Tryd.underlying31
  a173 := Tryd.isAgg31
  z173 := Tryd.sizeOf31
  v173 := Tryd.zeroValue31
  t212 := Tryd.underlying35
  a212 := Tryd.isAgg35
  z212 := Tryd.sizeOf35
  v212 := Tryd.zeroValue35
  t213 := Tryd.underlying37
  a213 := Tryd.isAgg37
  z213 := Tryd.sizeOf37
  t232 := Tryd.underlying41
  a232 := Tryd.isAgg41
  z232 := Tryd.sizeOf41
  v232 := Tryd.zeroValue41
  t233 := Tryd.underlying42
  a233 := Tryd.isAgg42
  z233 := Tryd.sizeOf42
  v233 := Tryd.zeroValue42
  g17 := by kernel_rfl
  g18 := by kernel_rfl
  g19 := by kernel_rfl
  i0 := by kernel_rfl
  i2 := by kernel_rfl
  i3 := by kernel_rfl
  i4 := by kernel_rfl
  i5 := by kernel_rfl
  i9 := by kernel_rfl
  i20 := by kernel_rfl
  i37 := by kernel_rfl
  i46 := by kernel_rfl
  i51 := by kernel_rfl
  i53 := by kernel_rfl
  i171 := by kernel_rfl
  i173 := by kernel_rfl
  i212 := by kernel_rfl
  i232 := by kernel_rfl
  i233 := by kernel_rfl
  m17 := by kernel_rfl
  m18 := by kernel_rfl
  m19 := by kernel_rfl }
open Go.RowKit Go.Sort Go.Lib in
theorem strconv_Itoa (n : Int) (h0 : -9223372036854775808 ≤ n) (h1 : n ≤ 9223372036854775807) (w : World) (htab : Lib.TabIs Tryd.prog w "internal/strconv.uint64pow10" .u64 Lib.pow10Tab) :
    Calls Tryd.prog 7 #[.int .i64 n] w fun e w' => e = .returned (.string ⟨(Lib.itoa n).toArray⟩) ∧ ∃ k os, w' = grow (w.drewN k) os := Any.strconv_Itoa laysM171 n h0 h1 w htab
end Go.Proofs.YtoddbednkedmaaaDoor.Sf
