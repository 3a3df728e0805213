/- Laid by the kit's shelf: what strings.Repeat tells in the seat's program; no statement of the seat is proved here. -/
import Derived.Shelf.Strings.Repeat
import Derived.KernelRfl
import Derived.Test.YtahdekllphehkaaDoorProg
namespace Go.Proofs
open Go.Shelf
def Tryd.lays105_ren : Go.Shelf.Ren := ⟨fun | 105 => 157 | 212 => 161 | 99 => 162 | 165 => 163 | 166 => 122 | 170 => 164 | 169 => 123 | 263 => 167 | 264 => 168 | 206 => 169 | 240 => 154 | 241 => 170 | 276 => 160 | 277 => 171 | n => n, fun | 9 => 9 | 3 => 3 | 4 => 4 | 20 => 20 | 0 => 0 | 46 => 192 | 109 => 207 | 5 => 5 | 72 => 170 | 76 => 174 | 51 => 187 | 146 => 213 | 53 => 147 | 148 => 215 | 70 => 168 | 37 => 92 | 75 => 173 | 127 => 199 | 164 => 205 | 80 => 176 | n => n, fun | n => n⟩
theorem Tryd.lays105 : Go.Proofs.Lays.n105 Tryd.prog Tryd.lays105_ren := {
  mixed := by kernel_rfl
  f99 := Tryd.func162.trans (congrArg some (by kernel_rfl))
  f105 := Tryd.func157.trans (congrArg some (by kernel_rfl))
  f165 := Tryd.func163.trans (congrArg some (by kernel_rfl))
  f166 := Tryd.func122.trans (congrArg some (by kernel_rfl))
  f169 := Tryd.func123.trans (congrArg some (by kernel_rfl))
  f170 := Tryd.func164.trans (congrArg some (by kernel_rfl))
  f206 := Tryd.func169.trans (congrArg some (by kernel_rfl))
  f212 := Tryd.func161.trans (congrArg some (by kernel_rfl))
  f240 := Tryd.func154.trans (congrArg some (by kernel_rfl))
  f241 := Tryd.func170.trans (congrArg some (by kernel_rfl))
  f263 := Tryd.func167.trans (congrArg some (by kernel_rfl))
  f264 := Tryd.func168.trans (congrArg some (by kernel_rfl))
  f276 := Tryd.func160.trans (congrArg some (by kernel_rfl))
  f277 := Tryd.func171.trans (congrArg some (by kernel_rfl))
  t0 := Tryd.underlying0
  a0 := Tryd.isAgg0
  z0 := Tryd.sizeOf0
  v0 := Tryd.zeroValue0
  t3 := Tryd.underlying3
  a3 := Tryd.isAgg3
  z3 := Tryd.sizeOf3
  v3 := Tryd.zeroValue3
  t4 := Tryd.underlying4
  a4 := Tryd.isAgg4
  z4 := Tryd.sizeOf4
  v4 := Tryd.zeroValue4
  t5 := Tryd.underlying5
  a5 := Tryd.isAgg5
  z5 := Tryd.sizeOf5
  v5 := Tryd.zeroValue5
  t9 := Tryd.underlying9
  a9 := Tryd.isAgg9
  z9 := Tryd.sizeOf9
  v9 := Tryd.zeroValue9
  t20 := Tryd.underlying20
  a20 := Tryd.isAgg20
  z20 := Tryd.sizeOf20
  v20 := Tryd.zeroValue20
  t37 := Tryd.underlying92
  a37 := Tryd.isAgg92
  z37 := Tryd.sizeOf92
  v37 := Tryd.zeroValue92
  t46 := Tryd.underlying192
  a46 := Tryd.isAgg192
  z46 := Tryd.sizeOf192
  v46 := Tryd.zeroValue192
  t51 := Tryd.underlying187
  a51 := Tryd.isAgg187
  z51 := Tryd.sizeOf187
  v51 := Tryd.zeroValue187
  t53 := Tryd.underlying147
  a53 := Tryd.isAgg147
  z53 := Tryd.sizeOf147
  v53 := Tryd.zeroValue147
  t70 := Tryd.underlying168
  a70 := Tryd.isAgg168
  z70 := Tryd.sizeOf168
  v70 := Tryd.zeroValue168
  t72 := Tryd.underlying170
  a72 := Tryd.isAgg170
  z72 := Tryd.sizeOf170
  v72 := Tryd.zeroValue170
  t75 := Tryd.underlying173
  a75 := Tryd.isAgg173
  z75 := Tryd.sizeOf173
  v75 := Tryd.zeroValue173
  t76 := Tryd.underlying174
  a76 := Tryd.isAgg174
  z76 := Tryd.sizeOf174
  v76 := Tryd.zeroValue174
  t109 := Tryd.underlying207
  a109 := Tryd.isAgg207
  z109 := Tryd.sizeOf207
  v109 := Tryd.zeroValue207
  t127 := Tryd.underlying199
  a127 := Tryd.isAgg199
  z127 := Tryd.sizeOf199
  v127 := Tryd.zeroValue199
  t146 := Tryd.underlying213
  a146 := Tryd.isAgg213
  z146 := Tryd.sizeOf213
  v146 := Tryd.zeroValue213
  t148 := Tryd.underlying215
  a148 := Tryd.isAgg215
  z148 := Tryd.sizeOf215
  v148 := Tryd.zeroValue215
  t164 := Tryd.underlying205
  a164 := Tryd.isAgg205
  z164 := Tryd.sizeOf205
  v164 := Tryd.zeroValue205 }
theorem Tryd.Builder_Extra_105 : Builder.Extra Tryd.prog Tryd.lays105_ren := {
  sizeBuilder := by kernel_rfl
  liesBuilder := by kernel_rfl
  t5 := Tryd.underlying5
  a5 := Tryd.isAgg5
  z5 := Tryd.sizeOf5
  v5 := Tryd.zeroValue5
  infoByte := by kernel_rfl
  cellsByte := by kernel_rfl
  sizeByte := by kernel_rfl
  neB5 := by decide }
open Go.RowKit Go.Lib in
theorem Tryd.strings_Repeat (s : ByteArray) (c : Nat) (w : World) (hc : c ≤ 9223372036854775807) (hlen : s.size * c ≤ 140737488355328) :
    Calls Tryd.prog 157 #[.string s, .int .i64 c] w fun e w' => e = .returned (.string ⟨(Lib.repeatL s.data.toList c).toArray⟩) ∧ Below w.heap.size w w' := Any.strings_Repeat Tryd.lays105 Tryd.Builder_Extra_105 s c w hc hlen
end Go.Proofs
