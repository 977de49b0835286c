/- The library's function strings.Fields: what its call answers (out of the shelf's contract, laid by the kit's own command at this program). Conditions: as each theorem states. -/
import Derived.Shelf.Strings.Fields
import Derived.Lib.SmallJoins
import Derived.Test.YtcclceohmkojgaaDoorWWords
import Derived.Test.YtcclceohmkojgaaDoorProg
namespace Go.Proofs.YtcclceohmkojgaaDoor.Sf
open Go.Shelf Go.Proofs Go.RowKit Go.Proofs.YtcclceohmkojgaaDoorW.PrintWords
set_option linter.unusedVariables false
def lays157_ren : Go.Shelf.Ren := ⟨fun | 157 => 33 | 229 => 42 | 199 => 43 | 261 => 52 | 311 => 60 | 312 => 61 | n => n, fun | 9 => 9 | 31 => 36 | 3 => 3 | 5 => 5 | 4 => 4 | 119 => 61 | 0 => 0 | 40 => 63 | 152 => 73 | 21 => 21 | 154 => 75 | 51 => 76 | 141 => 78 | 196 => 94 | 193 => 91 | 198 => 97 | 49 => 95 | 194 => 92 | 201 => 100 | 226 => 113 | 46 => 72 | 227 => 114 | n => n, fun | 0 => 0 | 6 => 1 | n => n⟩
theorem lays157 : Go.Proofs.Lays.n157 Tryd.prog lays157_ren := {
  mixed := by kernel_rfl
  f157 := Tryd.func33.trans (congrArg some (by kernel_rfl))
  f199 := Tryd.func43.trans (congrArg some (by kernel_rfl))
  f229 := Tryd.func42.trans (congrArg some (by kernel_rfl))
  f261 := Tryd.func52.trans (congrArg some (by kernel_rfl))
  f311 := Tryd.func60.trans (congrArg some (by kernel_rfl))
  f312 := Tryd.func61.trans (congrArg some (by kernel_rfl))
  t0 := Tryd.underlying0
  a0 := Tryd.isAgg0
  z0 := Tryd.sizeOf0
  v0 := Tryd.zeroValue0
  t3 := Tryd.underlying3
  a3 := Tryd.isAgg3
  z3 := Tryd.sizeOf3
  v3 := Tryd.zeroValue3
  t4 := Tryd.underlying4
  a4 := Tryd.isAgg4
  z4 := Tryd.sizeOf4
  v4 := Tryd.zeroValue4
  t5 := Tryd.underlying5
  a5 := Tryd.isAgg5
  z5 := Tryd.sizeOf5
  v5 := Tryd.zeroValue5
  t9 := Tryd.underlying9
  a9 := Tryd.isAgg9
  z9 := Tryd.sizeOf9
  v9 := Tryd.zeroValue9
  t21 := Tryd.underlying21
  a21 := Tryd.isAgg21
  z21 := Tryd.sizeOf21
  v21 := Tryd.zeroValue21
  t31 := Tryd.underlying36
  a31 := Tryd.isAgg36
  z31 := Tryd.sizeOf36
  v31 := Tryd.zeroValue36
  t40 := Tryd.underlying63
  a40 := Tryd.isAgg63
  z40 := Tryd.sizeOf63
  v40 := Tryd.zeroValue63
  t46 := Tryd.underlying72
  a46 := Tryd.isAgg72
  z46 := Tryd.sizeOf72
  v46 := Tryd.zeroValue72
  t49 := Tryd.underlying95
  a49 := Tryd.isAgg95
  z49 := Tryd.sizeOf95
  v49 := Tryd.zeroValue95
  t51 := Tryd.underlying76
  a51 := Tryd.isAgg76
  z51 := Tryd.sizeOf76
  v51 := Tryd.zeroValue76
  t119 := Tryd.underlying61
  a119 := Tryd.isAgg61
  z119 := Tryd.sizeOf61
  t141 := Tryd.underlying78
  a141 := Tryd.isAgg78
  z141 := Tryd.sizeOf78
  v141 := Tryd.zeroValue78
  t152 := Tryd.underlying73
  a152 := Tryd.isAgg73
  z152 := Tryd.sizeOf73
  v152 := Tryd.zeroValue73
  t154 := Tryd.underlying75
  a154 := Tryd.isAgg75
  z154 := Tryd.sizeOf75
  v154 := Tryd.zeroValue75
  t193 := Tryd.underlying91
  a193 := Tryd.isAgg91
  z193 := Tryd.sizeOf91
  v193 := Tryd.zeroValue91
  t194 := Tryd.underlying92
  a194 := Tryd.isAgg92
  z194 := Tryd.sizeOf92
  v194 := Tryd.zeroValue92
  t196 := Tryd.underlying94
  a196 := Tryd.isAgg94
  z196 := Tryd.sizeOf94
  v196 := Tryd.zeroValue94
  t198 := Tryd.underlying97
  a198 := Tryd.isAgg97
  z198 := Tryd.sizeOf97
  v198 := Tryd.zeroValue97
  t201 := Tryd.underlying100
  a201 := Tryd.isAgg100
  z201 := Tryd.sizeOf100
  v201 := Tryd.zeroValue100
  t226 := Tryd.underlying113
  a226 := Tryd.isAgg113
  z226 := Tryd.sizeOf113
  v226 := Tryd.zeroValue113
  t227 := Tryd.underlying114
  a227 := Tryd.isAgg114
  z227 := Tryd.sizeOf114
  v227 := Tryd.zeroValue114
  g0 := by kernel_rfl
  g6 := by kernel_rfl }
open Go.RowKit Go.Lib in
theorem strings_Fields (s : ByteArray) (w : World) (hs : s.size < 4294967281) (hascii : ∀ (j : Nat) b, s.data.toList[j]? = some b → b.toNat < 128) (htab : Lib.TabIs Tryd.prog w "strings.asciiSpace" .u8 Lib.asciiSpaceTab) :
    Calls Tryd.prog 33 #[.string s] w fun e w' =>
      e = .returned (.slice (some ⟨w.heap.size, 0, none⟩) (Lib.fields s.data.toList).length (Lib.fields s.data.toList).length) ∧ w' = w.alloc (.cells ((Lib.fields s.data.toList).map fun l => Value.string ⟨l.toArray⟩).toArray 9) := Any.strings_Fields lays157 (by kernel_rfl) (by kernel_rfl) s w hs hascii htab

/-- What the call wants of the memory: the table of white space, as the program lays it. -/
def Laid (w : World) : Prop := Lib.TabIs Tryd.prog w "strings.asciiSpace" .u8 Lib.asciiSpaceTab
theorem ldS {w w' : World} (h : Aside0 (Laid w)) (hb : Below w.heap.size w w') : Aside0 (Laid w') :=
  ⟨Go.Joins.tab_stays (show Tryd.prog.globalNamed "strings.asciiSpace" = some 0 by kernel_rfl) h.out hb (Nat.le_refl _)⟩
/-- What the call answers, at a text of ASCII. -/
def strings_Fields.f (a0 : ByteArray) : Option (List ByteArray) := if (a0.size < 4294967281 ∧ ∀ b ∈ a0.data.toList, b.toNat < 128) ∧ (Lib.fields a0.data.toList).length ≤ 4294967281 then some ((Lib.fields a0.data.toList).map fun l => (⟨l.toArray⟩ : ByteArray)) else none
theorem strings_Fields.calls (a0 : ByteArray) (r : List ByteArray) (w : World) (hLd : Aside0 (Laid w)) (h : strings_Fields.f a0 = some r) : Calls Tryd.prog 33 #[.string a0] w fun e w' => ∃ v_ : Value, e = .returned v_ ∧ Kd.R Kd.string 9 w' w.heap.size (fun _ => True) v_ r ∧ Below w.heap.size w w' := by
  unfold strings_Fields.f at h
  by_cases c : (a0.size < 4294967281 ∧ ∀ b ∈ a0.data.toList, b.toNat < 128) ∧ (Lib.fields a0.data.toList).length ≤ 4294967281
  · rw [if_pos c] at h
    obtain rfl := Option.some.inj h
    refine (strings_Fields a0 w c.1.1 (fun j b hb => c.1.2 b (List.mem_of_getElem? hb)) hLd.out).mono ?_
    rintro e w' ⟨rfl, rfl⟩
    refine ⟨_, rfl, ?_, below_alloc (Below.refl _ _) _⟩
    have e1 : encs Value.string ((Lib.fields a0.data.toList).map fun l => (⟨l.toArray⟩ : ByteArray)) = (Lib.fields a0.data.toList).map fun l => Value.string ⟨l.toArray⟩ := by
      unfold encs
      rw [List.map_map]
      rfl
    have ho : (w.alloc (.cells ((Lib.fields a0.data.toList).map fun l => Value.string ⟨l.toArray⟩).toArray 9)).ownsRow w.heap.size 9 1 (.slice (some ⟨w.heap.size, 0, none⟩) (Lib.fields a0.data.toList).length (Lib.fields a0.data.toList).length) ((Lib.fields a0.data.toList).map fun l => (⟨l.toArray⟩ : ByteArray)).length (encs Value.string ((Lib.fields a0.data.toList).map fun l => (⟨l.toArray⟩ : ByteArray))) := by
      rw [e1, List.length_map]
      refine ⟨by rw [List.length_map, Nat.mul_one], Or.inr ⟨w.heap.size, (Lib.fields a0.data.toList).length, ((Lib.fields a0.data.toList).map fun l => Value.string ⟨l.toArray⟩).toArray, rfl, Nat.le_refl _, ?_, Nat.le_refl _, ?_, ?_, ?_⟩⟩
      · show (w.heap.push _)[w.heap.size]? = _
        simp
      · have : maxLen = 9223372036854775807 := rfl
        omega
      · simp
      · simp [List.take_of_length_le]
    exact Kd.R_of_own ho (fun _ _ => trivial)
  · rw [if_neg c] at h
    cases h
end Go.Proofs.YtcclceohmkojgaaDoor.Sf
