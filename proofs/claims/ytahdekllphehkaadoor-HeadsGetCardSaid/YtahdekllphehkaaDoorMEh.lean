/- Entries, types, shapes of the program of the seat; no statement of the seat is proved here. -/
import Derived.Test.YtahdekllphehkaaDoorMLh
import Derived.Test.YtahdekllphehkaaDoorProg
import Derived.Shelf.Strings.Repeat
import Derived.KernelRfl
set_option linter.unusedVariables false
set_option linter.unusedSimpArgs false
namespace Go.Proofs.YtahdekllphehkaaDoor
open Go.WL
theorem en27 (args : Array Value) (w : World) : (callFunc 27 args).run Tryd.prog w = .ok (.enter 27 args) w := run_callFunc Tryd.func27 (by kernel_rfl) (by kernel_rfl) args w
theorem en38 (args : Array Value) (w : World) : (callFunc 38 args).run Tryd.prog w = .ok (.enter 38 args) w := run_callFunc Tryd.func38 (by kernel_rfl) (by kernel_rfl) args w
theorem en39 (args : Array Value) (w : World) : (callFunc 39 args).run Tryd.prog w = .ok (.enter 39 args) w := run_callFunc Tryd.func39 (by kernel_rfl) (by kernel_rfl) args w
theorem en43 (args : Array Value) (w : World) : (callFunc 43 args).run Tryd.prog w = .ok (.enter 43 args) w := run_callFunc Tryd.func43 (by kernel_rfl) (by kernel_rfl) args w
theorem en49 (args : Array Value) (w : World) : (callFunc 49 args).run Tryd.prog w = .ok (.enter 49 args) w := run_callFunc Tryd.func49 (by kernel_rfl) (by kernel_rfl) args w
theorem en50 (args : Array Value) (w : World) : (callFunc 50 args).run Tryd.prog w = .ok (.enter 50 args) w := run_callFunc Tryd.func50 (by kernel_rfl) (by kernel_rfl) args w
theorem en56 (args : Array Value) (w : World) : (callFunc 56 args).run Tryd.prog w = .ok (.enter 56 args) w := run_callFunc Tryd.func56 (by kernel_rfl) (by kernel_rfl) args w
theorem en57 (args : Array Value) (w : World) : (callFunc 57 args).run Tryd.prog w = .ok (.enter 57 args) w := run_callFunc Tryd.func57 (by kernel_rfl) (by kernel_rfl) args w
theorem en60 (args : Array Value) (w : World) : (callFunc 60 args).run Tryd.prog w = .ok (.enter 60 args) w := run_callFunc Tryd.func60 (by kernel_rfl) (by kernel_rfl) args w
theorem en61 (args : Array Value) (w : World) : (callFunc 61 args).run Tryd.prog w = .ok (.enter 61 args) w := run_callFunc Tryd.func61 (by kernel_rfl) (by kernel_rfl) args w
theorem en62 (args : Array Value) (w : World) : (callFunc 62 args).run Tryd.prog w = .ok (.enter 62 args) w := run_callFunc Tryd.func62 (by kernel_rfl) (by kernel_rfl) args w
theorem en63 (args : Array Value) (w : World) : (callFunc 63 args).run Tryd.prog w = .ok (.enter 63 args) w := run_callFunc Tryd.func63 (by kernel_rfl) (by kernel_rfl) args w
theorem en64 (args : Array Value) (w : World) : (callFunc 64 args).run Tryd.prog w = .ok (.enter 64 args) w := run_callFunc Tryd.func64 (by kernel_rfl) (by kernel_rfl) args w
theorem en65 (args : Array Value) (w : World) : (callFunc 65 args).run Tryd.prog w = .ok (.enter 65 args) w := run_callFunc Tryd.func65 (by kernel_rfl) (by kernel_rfl) args w
theorem en66 (args : Array Value) (w : World) : (callFunc 66 args).run Tryd.prog w = .ok (.enter 66 args) w := run_callFunc Tryd.func66 (by kernel_rfl) (by kernel_rfl) args w
theorem en67 (args : Array Value) (w : World) : (callFunc 67 args).run Tryd.prog w = .ok (.enter 67 args) w := run_callFunc Tryd.func67 (by kernel_rfl) (by kernel_rfl) args w
theorem en68 (args : Array Value) (w : World) : (callFunc 68 args).run Tryd.prog w = .ok (.enter 68 args) w := run_callFunc Tryd.func68 (by kernel_rfl) (by kernel_rfl) args w
theorem en69 (args : Array Value) (w : World) : (callFunc 69 args).run Tryd.prog w = .ok (.enter 69 args) w := run_callFunc Tryd.func69 (by kernel_rfl) (by kernel_rfl) args w
theorem en70 (args : Array Value) (w : World) : (callFunc 70 args).run Tryd.prog w = .ok (.enter 70 args) w := run_callFunc Tryd.func70 (by kernel_rfl) (by kernel_rfl) args w
theorem en77 (args : Array Value) (w : World) : (callFunc 77 args).run Tryd.prog w = .ok (.enter 77 args) w := run_callFunc Tryd.func77 (by kernel_rfl) (by kernel_rfl) args w
theorem en78 (args : Array Value) (w : World) : (callFunc 78 args).run Tryd.prog w = .ok (.enter 78 args) w := run_callFunc Tryd.func78 (by kernel_rfl) (by kernel_rfl) args w
theorem en79 (args : Array Value) (w : World) : (callFunc 79 args).run Tryd.prog w = .ok (.enter 79 args) w := run_callFunc Tryd.func79 (by kernel_rfl) (by kernel_rfl) args w
theorem en80 (args : Array Value) (w : World) : (callFunc 80 args).run Tryd.prog w = .ok (.enter 80 args) w := run_callFunc Tryd.func80 (by kernel_rfl) (by kernel_rfl) args w
theorem en81 (args : Array Value) (w : World) : (callFunc 81 args).run Tryd.prog w = .ok (.enter 81 args) w := run_callFunc Tryd.func81 (by kernel_rfl) (by kernel_rfl) args w
theorem en82 (args : Array Value) (w : World) : (callFunc 82 args).run Tryd.prog w = .ok (.enter 82 args) w := run_callFunc Tryd.func82 (by kernel_rfl) (by kernel_rfl) args w
theorem en83 (args : Array Value) (w : World) : (callFunc 83 args).run Tryd.prog w = .ok (.enter 83 args) w := run_callFunc Tryd.func83 (by kernel_rfl) (by kernel_rfl) args w
theorem en84 (args : Array Value) (w : World) : (callFunc 84 args).run Tryd.prog w = .ok (.enter 84 args) w := run_callFunc Tryd.func84 (by kernel_rfl) (by kernel_rfl) args w
theorem en85 (args : Array Value) (w : World) : (callFunc 85 args).run Tryd.prog w = .ok (.enter 85 args) w := run_callFunc Tryd.func85 (by kernel_rfl) (by kernel_rfl) args w
theorem en86 (args : Array Value) (w : World) : (callFunc 86 args).run Tryd.prog w = .ok (.enter 86 args) w := run_callFunc Tryd.func86 (by kernel_rfl) (by kernel_rfl) args w
theorem en87 (args : Array Value) (w : World) : (callFunc 87 args).run Tryd.prog w = .ok (.enter 87 args) w := run_callFunc Tryd.func87 (by kernel_rfl) (by kernel_rfl) args w
theorem en88 (args : Array Value) (w : World) : (callFunc 88 args).run Tryd.prog w = .ok (.enter 88 args) w := run_callFunc Tryd.func88 (by kernel_rfl) (by kernel_rfl) args w
theorem en100 (args : Array Value) (w : World) : (callFunc 100 args).run Tryd.prog w = .ok (.enter 100 args) w := run_callFunc Tryd.func100 (by kernel_rfl) (by kernel_rfl) args w
theorem en102 (args : Array Value) (w : World) : (callFunc 102 args).run Tryd.prog w = .ok (.enter 102 args) w := run_callFunc Tryd.func102 (by kernel_rfl) (by kernel_rfl) args w
theorem en103 (args : Array Value) (w : World) : (callFunc 103 args).run Tryd.prog w = .ok (.enter 103 args) w := run_callFunc Tryd.func103 (by kernel_rfl) (by kernel_rfl) args w
theorem en105 (args : Array Value) (w : World) : (callFunc 105 args).run Tryd.prog w = .ok (.enter 105 args) w := run_callFunc Tryd.func105 (by kernel_rfl) (by kernel_rfl) args w
theorem en106 (args : Array Value) (w : World) : (callFunc 106 args).run Tryd.prog w = .ok (.enter 106 args) w := run_callFunc Tryd.func106 (by kernel_rfl) (by kernel_rfl) args w
theorem en107 (args : Array Value) (w : World) : (callFunc 107 args).run Tryd.prog w = .ok (.enter 107 args) w := run_callFunc Tryd.func107 (by kernel_rfl) (by kernel_rfl) args w
theorem en109 (args : Array Value) (w : World) : (callFunc 109 args).run Tryd.prog w = .ok (.enter 109 args) w := run_callFunc Tryd.func109 (by kernel_rfl) (by kernel_rfl) args w
theorem en111 (args : Array Value) (w : World) : (callFunc 111 args).run Tryd.prog w = .ok (.enter 111 args) w := run_callFunc Tryd.func111 (by kernel_rfl) (by kernel_rfl) args w
theorem en112 (args : Array Value) (w : World) : (callFunc 112 args).run Tryd.prog w = .ok (.enter 112 args) w := run_callFunc Tryd.func112 (by kernel_rfl) (by kernel_rfl) args w
theorem en113 (args : Array Value) (w : World) : (callFunc 113 args).run Tryd.prog w = .ok (.enter 113 args) w := run_callFunc Tryd.func113 (by kernel_rfl) (by kernel_rfl) args w
theorem en114 (args : Array Value) (w : World) : (callFunc 114 args).run Tryd.prog w = .ok (.enter 114 args) w := run_callFunc Tryd.func114 (by kernel_rfl) (by kernel_rfl) args w
theorem en120 (args : Array Value) (w : World) : (callFunc 120 args).run Tryd.prog w = .ok (.enter 120 args) w := run_callFunc Tryd.func120 (by kernel_rfl) (by kernel_rfl) args w
theorem en121 (args : Array Value) (w : World) : (callFunc 121 args).run Tryd.prog w = .ok (.enter 121 args) w := run_callFunc Tryd.func121 (by kernel_rfl) (by kernel_rfl) args w
theorem en122 (args : Array Value) (w : World) : (callFunc 122 args).run Tryd.prog w = .ok (.enter 122 args) w := run_callFunc Tryd.func122 (by kernel_rfl) (by kernel_rfl) args w
theorem en123 (args : Array Value) (w : World) : (callFunc 123 args).run Tryd.prog w = .ok (.enter 123 args) w := run_callFunc Tryd.func123 (by kernel_rfl) (by kernel_rfl) args w
theorem en124 (args : Array Value) (w : World) : (callFunc 124 args).run Tryd.prog w = .ok (.enter 124 args) w := run_callFunc Tryd.func124 (by kernel_rfl) (by kernel_rfl) args w
theorem en125 (args : Array Value) (w : World) : (callFunc 125 args).run Tryd.prog w = .ok (.enter 125 args) w := run_callFunc Tryd.func125 (by kernel_rfl) (by kernel_rfl) args w
theorem en126 (args : Array Value) (w : World) : (callFunc 126 args).run Tryd.prog w = .ok (.enter 126 args) w := run_callFunc Tryd.func126 (by kernel_rfl) (by kernel_rfl) args w
theorem en127 (args : Array Value) (w : World) : (callFunc 127 args).run Tryd.prog w = .ok (.enter 127 args) w := run_callFunc Tryd.func127 (by kernel_rfl) (by kernel_rfl) args w
theorem en128 (args : Array Value) (w : World) : (callFunc 128 args).run Tryd.prog w = .ok (.enter 128 args) w := run_callFunc Tryd.func128 (by kernel_rfl) (by kernel_rfl) args w
theorem en129 (args : Array Value) (w : World) : (callFunc 129 args).run Tryd.prog w = .ok (.enter 129 args) w := run_callFunc Tryd.func129 (by kernel_rfl) (by kernel_rfl) args w
theorem en130 (args : Array Value) (w : World) : (callFunc 130 args).run Tryd.prog w = .ok (.enter 130 args) w := run_callFunc Tryd.func130 (by kernel_rfl) (by kernel_rfl) args w
theorem en131 (args : Array Value) (w : World) : (callFunc 131 args).run Tryd.prog w = .ok (.enter 131 args) w := run_callFunc Tryd.func131 (by kernel_rfl) (by kernel_rfl) args w
theorem en132 (args : Array Value) (w : World) : (callFunc 132 args).run Tryd.prog w = .ok (.enter 132 args) w := run_callFunc Tryd.func132 (by kernel_rfl) (by kernel_rfl) args w
theorem en133 (args : Array Value) (w : World) : (callFunc 133 args).run Tryd.prog w = .ok (.enter 133 args) w := run_callFunc Tryd.func133 (by kernel_rfl) (by kernel_rfl) args w
theorem en134 (args : Array Value) (w : World) : (callFunc 134 args).run Tryd.prog w = .ok (.enter 134 args) w := run_callFunc Tryd.func134 (by kernel_rfl) (by kernel_rfl) args w
theorem en135 (args : Array Value) (w : World) : (callFunc 135 args).run Tryd.prog w = .ok (.enter 135 args) w := run_callFunc Tryd.func135 (by kernel_rfl) (by kernel_rfl) args w
theorem en136 (args : Array Value) (w : World) : (callFunc 136 args).run Tryd.prog w = .ok (.enter 136 args) w := run_callFunc Tryd.func136 (by kernel_rfl) (by kernel_rfl) args w
theorem en137 (args : Array Value) (w : World) : (callFunc 137 args).run Tryd.prog w = .ok (.enter 137 args) w := run_callFunc Tryd.func137 (by kernel_rfl) (by kernel_rfl) args w
theorem en145 (args : Array Value) (w : World) : (callFunc 145 args).run Tryd.prog w = .ok (.enter 145 args) w := run_callFunc Tryd.func145 (by kernel_rfl) (by kernel_rfl) args w
theorem en146 (args : Array Value) (w : World) : (callFunc 146 args).run Tryd.prog w = .ok (.enter 146 args) w := run_callFunc Tryd.func146 (by kernel_rfl) (by kernel_rfl) args w
theorem en147 (args : Array Value) (w : World) : (callFunc 147 args).run Tryd.prog w = .ok (.enter 147 args) w := run_callFunc Tryd.func147 (by kernel_rfl) (by kernel_rfl) args w
theorem en148 (args : Array Value) (w : World) : (callFunc 148 args).run Tryd.prog w = .ok (.enter 148 args) w := run_callFunc Tryd.func148 (by kernel_rfl) (by kernel_rfl) args w
theorem en151 (args : Array Value) (w : World) : (callFunc 151 args).run Tryd.prog w = .ok (.enter 151 args) w := run_callFunc Tryd.func151 (by kernel_rfl) (by kernel_rfl) args w
theorem en154 (args : Array Value) (w : World) : (callFunc 154 args).run Tryd.prog w = .ok (.enter 154 args) w := run_callFunc Tryd.func154 (by kernel_rfl) (by kernel_rfl) args w
theorem en155 (args : Array Value) (w : World) : (callFunc 155 args).run Tryd.prog w = .ok (.enter 155 args) w := run_callFunc Tryd.func155 (by kernel_rfl) (by kernel_rfl) args w
theorem en157 (args : Array Value) (w : World) : (callFunc 157 args).run Tryd.prog w = .ok (.enter 157 args) w := run_callFunc Tryd.func157 (by kernel_rfl) (by kernel_rfl) args w
theorem en158 (args : Array Value) (w : World) : (callFunc 158 args).run Tryd.prog w = .ok (.enter 158 args) w := run_callFunc Tryd.func158 (by kernel_rfl) (by kernel_rfl) args w
theorem en159 (args : Array Value) (w : World) : (callFunc 159 args).run Tryd.prog w = .ok (.enter 159 args) w := run_callFunc Tryd.func159 (by kernel_rfl) (by kernel_rfl) args w
theorem en165 (args : Array Value) (w : World) : (callFunc 165 args).run Tryd.prog w = .ok (.enter 165 args) w := run_callFunc Tryd.func165 (by kernel_rfl) (by kernel_rfl) args w
theorem en166 (args : Array Value) (w : World) : (callFunc 166 args).run Tryd.prog w = .ok (.enter 166 args) w := run_callFunc Tryd.func166 (by kernel_rfl) (by kernel_rfl) args w
theorem mixed : Tryd.prog.follows .mixedOrders = true := by kernel_rfl
end Go.Proofs.YtahdekllphehkaaDoor
namespace Go.Proofs.YtahdekllphehkaaDoor
open Go.WL Go.Spec
set_option maxRecDepth 100000
theorem ti3 : tinfo Tryd.prog 3 = some (1, false, 8) := by kernel_rfl
theorem ti5 : tinfo Tryd.prog 5 = some (1, false, 1) := by kernel_rfl
theorem tz5 : tzero Tryd.prog 5 = some ([.int .u8 0]) := by kernel_rfl
theorem ti9 : tinfo Tryd.prog 9 = some (1, false, 16) := by kernel_rfl
theorem tz9 : tzero Tryd.prog 9 = some ([.string ⟨#[]⟩]) := by kernel_rfl
theorem tt9 : tstr Tryd.prog 9 = true := by kernel_rfl
theorem ti22 : tinfo Tryd.prog 22 = some (1, false, 24) := by kernel_rfl
theorem ts22 : tslice Tryd.prog 22 = some 25 := by kernel_rfl
theorem ti25 : tinfo Tryd.prog 25 = some (32, true, 32) := by kernel_rfl
theorem tz25 : tzero Tryd.prog 25 = some (hc zeroHash) := by kernel_rfl
theorem ta25 : tarr Tryd.prog 25 = some (32, 5) := by kernel_rfl
theorem ti33 : tinfo Tryd.prog 33 = some (33, true, 40) := by kernel_rfl
theorem tz33 : tzero Tryd.prog 33 = some ([.int .i64 0] ++ (hc zeroHash)) := by kernel_rfl
theorem tf33_0 : tfield Tryd.prog 33 0 = some (0, 3) := by kernel_rfl
theorem tf33_1 : tfield Tryd.prog 33 1 = some (1, 25) := by kernel_rfl
theorem ti34 : tinfo Tryd.prog 34 = some (1, false, 1) := by kernel_rfl
theorem ti36 : tinfo Tryd.prog 36 = some (37, true, 96) := by kernel_rfl
theorem tf36_0 : tfield Tryd.prog 36 0 = some (0, 33) := by kernel_rfl
theorem tf36_1 : tfield Tryd.prog 36 1 = some (33, 3) := by kernel_rfl
theorem tf36_2 : tfield Tryd.prog 36 2 = some (34, 9) := by kernel_rfl
theorem tf36_3 : tfield Tryd.prog 36 3 = some (35, 34) := by kernel_rfl
theorem tf36_4 : tfield Tryd.prog 36 4 = some (36, 22) := by kernel_rfl
theorem ti39 : tinfo Tryd.prog 39 = some (1, false, 2) := by kernel_rfl
theorem ti44 : tinfo Tryd.prog 44 = some (3, true, 48) := by kernel_rfl
theorem tf44_0 : tfield Tryd.prog 44 0 = some (0, 3) := by kernel_rfl
theorem tf44_1 : tfield Tryd.prog 44 1 = some (1, 9) := by kernel_rfl
theorem tf44_2 : tfield Tryd.prog 44 2 = some (2, 22) := by kernel_rfl
theorem ti46 : tinfo Tryd.prog 46 = some (36, true, 88) := by kernel_rfl
theorem tz46 : tzero Tryd.prog 46 = some ([.int .i64 0] ++ (hc zeroHash) ++ [.int .i64 0, .string ⟨#[]⟩, .slice none 0 0]) := by kernel_rfl
theorem tf46_0 : tfield Tryd.prog 46 0 = some (0, 33) := by kernel_rfl
theorem tf46_1 : tfield Tryd.prog 46 1 = some (33, 44) := by kernel_rfl
theorem ts62 : tslice Tryd.prog 62 = some 9 := by kernel_rfl
theorem ta89 : tarr Tryd.prog 89 = some (3, 39) := by kernel_rfl
theorem ti92 : tinfo Tryd.prog 92 = some (1, false, 24) := by kernel_rfl
theorem ts92 : tslice Tryd.prog 92 = some 5 := by kernel_rfl
theorem tz170 : tzero Tryd.prog 170 = some ([.pointer none, .slice none 0 0]) := by kernel_rfl
theorem tf170_1 : tfield Tryd.prog 170 1 = some (1, 92) := by kernel_rfl
theorem ti187 : tinfo Tryd.prog 187 = some (1, false, 4) := by kernel_rfl
theorem ti188 : tinfo Tryd.prog 188 = some (8, true, 32) := by kernel_rfl
theorem tz188 : tzero Tryd.prog 188 = some (List.replicate 8 (.int .u32 0)) := by kernel_rfl
theorem ta188 : tarr Tryd.prog 188 = some (8, 187) := by kernel_rfl
theorem ti190 : tinfo Tryd.prog 190 = some (64, true, 256) := by kernel_rfl
theorem tz190 : tzero Tryd.prog 190 = some (List.replicate 64 (.int .u32 0)) := by kernel_rfl
theorem ta190 : tarr Tryd.prog 190 = some (64, 187) := by kernel_rfl
end Go.Proofs.YtahdekllphehkaaDoor
namespace Go.Proofs
open Go.Shelf
def Tryd.lays105_ren : Go.Shelf.Ren := ⟨fun | 105 => 157 | 212 => 161 | 99 => 162 | 165 => 163 | 166 => 122 | 170 => 164 | 169 => 123 | 263 => 167 | 264 => 168 | 206 => 169 | 240 => 154 | 241 => 170 | 276 => 160 | 277 => 171 | n => n, fun | 9 => 9 | 3 => 3 | 4 => 4 | 20 => 20 | 0 => 0 | 46 => 192 | 109 => 207 | 5 => 5 | 72 => 170 | 76 => 174 | 51 => 187 | 146 => 213 | 53 => 147 | 148 => 215 | 70 => 168 | 37 => 92 | 75 => 173 | 127 => 199 | 164 => 205 | 80 => 176 | n => n, fun | n => n⟩
theorem Tryd.lays105 : Go.Proofs.Lays.n105 Tryd.prog Tryd.lays105_ren := {
  mixed := by kernel_rfl
  f99 := Tryd.func162.trans (congrArg some (by kernel_rfl))
  f105 := Tryd.func157.trans (congrArg some (by kernel_rfl))
  f165 := Tryd.func163.trans (congrArg some (by kernel_rfl))
  f166 := Tryd.func122.trans (congrArg some (by kernel_rfl))
  f169 := Tryd.func123.trans (congrArg some (by kernel_rfl))
  f170 := Tryd.func164.trans (congrArg some (by kernel_rfl))
  f206 := Tryd.func169.trans (congrArg some (by kernel_rfl))
  f212 := Tryd.func161.trans (congrArg some (by kernel_rfl))
  f240 := Tryd.func154.trans (congrArg some (by kernel_rfl))
  f241 := Tryd.func170.trans (congrArg some (by kernel_rfl))
  f263 := Tryd.func167.trans (congrArg some (by kernel_rfl))
  f264 := Tryd.func168.trans (congrArg some (by kernel_rfl))
  f276 := Tryd.func160.trans (congrArg some (by kernel_rfl))
  f277 := Tryd.func171.trans (congrArg some (by kernel_rfl))
  t0 := Tryd.underlying0
  a0 := Tryd.isAgg0
  z0 := Tryd.sizeOf0
  v0 := Tryd.zeroValue0
  t3 := Tryd.underlying3
  a3 := Tryd.isAgg3
  z3 := Tryd.sizeOf3
  v3 := Tryd.zeroValue3
  t4 := Tryd.underlying4
  a4 := Tryd.isAgg4
  z4 := Tryd.sizeOf4
  v4 := Tryd.zeroValue4
  t5 := Tryd.underlying5
  a5 := Tryd.isAgg5
  z5 := Tryd.sizeOf5
  v5 := Tryd.zeroValue5
  t9 := Tryd.underlying9
  a9 := Tryd.isAgg9
  z9 := Tryd.sizeOf9
  v9 := Tryd.zeroValue9
  t20 := Tryd.underlying20
  a20 := Tryd.isAgg20
  z20 := Tryd.sizeOf20
  v20 := Tryd.zeroValue20
  t37 := Tryd.underlying92
  a37 := Tryd.isAgg92
  z37 := Tryd.sizeOf92
  v37 := Tryd.zeroValue92
  t46 := Tryd.underlying192
  a46 := Tryd.isAgg192
  z46 := Tryd.sizeOf192
  v46 := Tryd.zeroValue192
  t51 := Tryd.underlying187
  a51 := Tryd.isAgg187
  z51 := Tryd.sizeOf187
  v51 := Tryd.zeroValue187
  t53 := Tryd.underlying147
  a53 := Tryd.isAgg147
  z53 := Tryd.sizeOf147
  v53 := Tryd.zeroValue147
  t70 := Tryd.underlying168
  a70 := Tryd.isAgg168
  z70 := Tryd.sizeOf168
  v70 := Tryd.zeroValue168
  t72 := Tryd.underlying170
  a72 := Tryd.isAgg170
  z72 := Tryd.sizeOf170
  v72 := Tryd.zeroValue170
  t75 := Tryd.underlying173
  a75 := Tryd.isAgg173
  z75 := Tryd.sizeOf173
  v75 := Tryd.zeroValue173
  t76 := Tryd.underlying174
  a76 := Tryd.isAgg174
  z76 := Tryd.sizeOf174
  v76 := Tryd.zeroValue174
  t109 := Tryd.underlying207
  a109 := Tryd.isAgg207
  z109 := Tryd.sizeOf207
  v109 := Tryd.zeroValue207
  t127 := Tryd.underlying199
  a127 := Tryd.isAgg199
  z127 := Tryd.sizeOf199
  v127 := Tryd.zeroValue199
  t146 := Tryd.underlying213
  a146 := Tryd.isAgg213
  z146 := Tryd.sizeOf213
  v146 := Tryd.zeroValue213
  t148 := Tryd.underlying215
  a148 := Tryd.isAgg215
  z148 := Tryd.sizeOf215
  v148 := Tryd.zeroValue215
  t164 := Tryd.underlying205
  a164 := Tryd.isAgg205
  z164 := Tryd.sizeOf205
  v164 := Tryd.zeroValue205 }
theorem Tryd.Builder_Extra_105 : Builder.Extra Tryd.prog Tryd.lays105_ren := {
  sizeBuilder := by kernel_rfl
  liesBuilder := by kernel_rfl
  t5 := Tryd.underlying5
  a5 := Tryd.isAgg5
  z5 := Tryd.sizeOf5
  v5 := Tryd.zeroValue5
  infoByte := by kernel_rfl
  cellsByte := by kernel_rfl
  sizeByte := by kernel_rfl
  neB5 := by decide }
open Go.RowKit Go.Lib in
theorem Tryd.strings_Repeat (s : ByteArray) (c : Nat) (w : World) (hc : c ≤ 9223372036854775807) (hlen : s.size * c ≤ 140737488355328) :
    Calls Tryd.prog 157 #[.string s, .int .i64 c] w fun e w' => e = .returned (.string ⟨(Lib.repeatL s.data.toList c).toArray⟩) ∧ Below w.heap.size w w' := Any.strings_Repeat Tryd.lays105 Tryd.Builder_Extra_105 s c w hc hlen
end Go.Proofs
