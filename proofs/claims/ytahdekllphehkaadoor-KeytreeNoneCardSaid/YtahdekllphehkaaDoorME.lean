/- Entries, types, shapes of the program of the seat; no statement of the seat is proved here. -/
import Derived.Test.YtahdekllphehkaaDoorML
import Derived.Test.YtahdekllphehkaaDoorProg
import Derived.Shelf.Strings.Repeat
import Derived.KernelRfl
set_option linter.unusedVariables false
set_option linter.unusedSimpArgs false
namespace Go.Proofs.YtahdekllphehkaaDoor
open Go.WL
theorem en3 (args : Array Value) (w : World) : (callFunc 3 args).run Tryd.prog w = .ok (.enter 3 args) w := run_callFunc Tryd.func3 (by kernel_rfl) (by kernel_rfl) args w
theorem en4 (args : Array Value) (w : World) : (callFunc 4 args).run Tryd.prog w = .ok (.enter 4 args) w := run_callFunc Tryd.func4 (by kernel_rfl) (by kernel_rfl) args w
theorem en5 (args : Array Value) (w : World) : (callFunc 5 args).run Tryd.prog w = .ok (.enter 5 args) w := run_callFunc Tryd.func5 (by kernel_rfl) (by kernel_rfl) args w
theorem en6 (args : Array Value) (w : World) : (callFunc 6 args).run Tryd.prog w = .ok (.enter 6 args) w := run_callFunc Tryd.func6 (by kernel_rfl) (by kernel_rfl) args w
theorem en7 (args : Array Value) (w : World) : (callFunc 7 args).run Tryd.prog w = .ok (.enter 7 args) w := run_callFunc Tryd.func7 (by kernel_rfl) (by kernel_rfl) args w
theorem en8 (args : Array Value) (w : World) : (callFunc 8 args).run Tryd.prog w = .ok (.enter 8 args) w := run_callFunc Tryd.func8 (by kernel_rfl) (by kernel_rfl) args w
theorem en9 (args : Array Value) (w : World) : (callFunc 9 args).run Tryd.prog w = .ok (.enter 9 args) w := run_callFunc Tryd.func9 (by kernel_rfl) (by kernel_rfl) args w
theorem en10 (args : Array Value) (w : World) : (callFunc 10 args).run Tryd.prog w = .ok (.enter 10 args) w := run_callFunc Tryd.func10 (by kernel_rfl) (by kernel_rfl) args w
theorem en11 (args : Array Value) (w : World) : (callFunc 11 args).run Tryd.prog w = .ok (.enter 11 args) w := run_callFunc Tryd.func11 (by kernel_rfl) (by kernel_rfl) args w
theorem en12 (args : Array Value) (w : World) : (callFunc 12 args).run Tryd.prog w = .ok (.enter 12 args) w := run_callFunc Tryd.func12 (by kernel_rfl) (by kernel_rfl) args w
theorem en13 (args : Array Value) (w : World) : (callFunc 13 args).run Tryd.prog w = .ok (.enter 13 args) w := run_callFunc Tryd.func13 (by kernel_rfl) (by kernel_rfl) args w
theorem en14 (args : Array Value) (w : World) : (callFunc 14 args).run Tryd.prog w = .ok (.enter 14 args) w := run_callFunc Tryd.func14 (by kernel_rfl) (by kernel_rfl) args w
theorem en15 (args : Array Value) (w : World) : (callFunc 15 args).run Tryd.prog w = .ok (.enter 15 args) w := run_callFunc Tryd.func15 (by kernel_rfl) (by kernel_rfl) args w
theorem en16 (args : Array Value) (w : World) : (callFunc 16 args).run Tryd.prog w = .ok (.enter 16 args) w := run_callFunc Tryd.func16 (by kernel_rfl) (by kernel_rfl) args w
theorem en17 (args : Array Value) (w : World) : (callFunc 17 args).run Tryd.prog w = .ok (.enter 17 args) w := run_callFunc Tryd.func17 (by kernel_rfl) (by kernel_rfl) args w
theorem en18 (args : Array Value) (w : World) : (callFunc 18 args).run Tryd.prog w = .ok (.enter 18 args) w := run_callFunc Tryd.func18 (by kernel_rfl) (by kernel_rfl) args w
theorem en19 (args : Array Value) (w : World) : (callFunc 19 args).run Tryd.prog w = .ok (.enter 19 args) w := run_callFunc Tryd.func19 (by kernel_rfl) (by kernel_rfl) args w
theorem en20 (args : Array Value) (w : World) : (callFunc 20 args).run Tryd.prog w = .ok (.enter 20 args) w := run_callFunc Tryd.func20 (by kernel_rfl) (by kernel_rfl) args w
theorem en21 (args : Array Value) (w : World) : (callFunc 21 args).run Tryd.prog w = .ok (.enter 21 args) w := run_callFunc Tryd.func21 (by kernel_rfl) (by kernel_rfl) args w
theorem en22 (args : Array Value) (w : World) : (callFunc 22 args).run Tryd.prog w = .ok (.enter 22 args) w := run_callFunc Tryd.func22 (by kernel_rfl) (by kernel_rfl) args w
theorem en23 (args : Array Value) (w : World) : (callFunc 23 args).run Tryd.prog w = .ok (.enter 23 args) w := run_callFunc Tryd.func23 (by kernel_rfl) (by kernel_rfl) args w
theorem en24 (args : Array Value) (w : World) : (callFunc 24 args).run Tryd.prog w = .ok (.enter 24 args) w := run_callFunc Tryd.func24 (by kernel_rfl) (by kernel_rfl) args w
theorem en25 (args : Array Value) (w : World) : (callFunc 25 args).run Tryd.prog w = .ok (.enter 25 args) w := run_callFunc Tryd.func25 (by kernel_rfl) (by kernel_rfl) args w
theorem en26 (args : Array Value) (w : World) : (callFunc 26 args).run Tryd.prog w = .ok (.enter 26 args) w := run_callFunc Tryd.func26 (by kernel_rfl) (by kernel_rfl) args w
theorem en27 (args : Array Value) (w : World) : (callFunc 27 args).run Tryd.prog w = .ok (.enter 27 args) w := run_callFunc Tryd.func27 (by kernel_rfl) (by kernel_rfl) args w
theorem en28 (args : Array Value) (w : World) : (callFunc 28 args).run Tryd.prog w = .ok (.enter 28 args) w := run_callFunc Tryd.func28 (by kernel_rfl) (by kernel_rfl) args w
theorem en29 (args : Array Value) (w : World) : (callFunc 29 args).run Tryd.prog w = .ok (.enter 29 args) w := run_callFunc Tryd.func29 (by kernel_rfl) (by kernel_rfl) args w
theorem en30 (args : Array Value) (w : World) : (callFunc 30 args).run Tryd.prog w = .ok (.enter 30 args) w := run_callFunc Tryd.func30 (by kernel_rfl) (by kernel_rfl) args w
theorem en31 (args : Array Value) (w : World) : (callFunc 31 args).run Tryd.prog w = .ok (.enter 31 args) w := run_callFunc Tryd.func31 (by kernel_rfl) (by kernel_rfl) args w
theorem en32 (args : Array Value) (w : World) : (callFunc 32 args).run Tryd.prog w = .ok (.enter 32 args) w := run_callFunc Tryd.func32 (by kernel_rfl) (by kernel_rfl) args w
theorem en33 (args : Array Value) (w : World) : (callFunc 33 args).run Tryd.prog w = .ok (.enter 33 args) w := run_callFunc Tryd.func33 (by kernel_rfl) (by kernel_rfl) args w
theorem en34 (args : Array Value) (w : World) : (callFunc 34 args).run Tryd.prog w = .ok (.enter 34 args) w := run_callFunc Tryd.func34 (by kernel_rfl) (by kernel_rfl) args w
theorem en35 (args : Array Value) (w : World) : (callFunc 35 args).run Tryd.prog w = .ok (.enter 35 args) w := run_callFunc Tryd.func35 (by kernel_rfl) (by kernel_rfl) args w
theorem en36 (args : Array Value) (w : World) : (callFunc 36 args).run Tryd.prog w = .ok (.enter 36 args) w := run_callFunc Tryd.func36 (by kernel_rfl) (by kernel_rfl) args w
theorem en37 (args : Array Value) (w : World) : (callFunc 37 args).run Tryd.prog w = .ok (.enter 37 args) w := run_callFunc Tryd.func37 (by kernel_rfl) (by kernel_rfl) args w
theorem en38 (args : Array Value) (w : World) : (callFunc 38 args).run Tryd.prog w = .ok (.enter 38 args) w := run_callFunc Tryd.func38 (by kernel_rfl) (by kernel_rfl) args w
theorem en39 (args : Array Value) (w : World) : (callFunc 39 args).run Tryd.prog w = .ok (.enter 39 args) w := run_callFunc Tryd.func39 (by kernel_rfl) (by kernel_rfl) args w
theorem en40 (args : Array Value) (w : World) : (callFunc 40 args).run Tryd.prog w = .ok (.enter 40 args) w := run_callFunc Tryd.func40 (by kernel_rfl) (by kernel_rfl) args w
theorem en41 (args : Array Value) (w : World) : (callFunc 41 args).run Tryd.prog w = .ok (.enter 41 args) w := run_callFunc Tryd.func41 (by kernel_rfl) (by kernel_rfl) args w
theorem en42 (args : Array Value) (w : World) : (callFunc 42 args).run Tryd.prog w = .ok (.enter 42 args) w := run_callFunc Tryd.func42 (by kernel_rfl) (by kernel_rfl) args w
theorem en43 (args : Array Value) (w : World) : (callFunc 43 args).run Tryd.prog w = .ok (.enter 43 args) w := run_callFunc Tryd.func43 (by kernel_rfl) (by kernel_rfl) args w
theorem en44 (args : Array Value) (w : World) : (callFunc 44 args).run Tryd.prog w = .ok (.enter 44 args) w := run_callFunc Tryd.func44 (by kernel_rfl) (by kernel_rfl) args w
theorem en45 (args : Array Value) (w : World) : (callFunc 45 args).run Tryd.prog w = .ok (.enter 45 args) w := run_callFunc Tryd.func45 (by kernel_rfl) (by kernel_rfl) args w
theorem en46 (args : Array Value) (w : World) : (callFunc 46 args).run Tryd.prog w = .ok (.enter 46 args) w := run_callFunc Tryd.func46 (by kernel_rfl) (by kernel_rfl) args w
theorem en47 (args : Array Value) (w : World) : (callFunc 47 args).run Tryd.prog w = .ok (.enter 47 args) w := run_callFunc Tryd.func47 (by kernel_rfl) (by kernel_rfl) args w
theorem en48 (args : Array Value) (w : World) : (callFunc 48 args).run Tryd.prog w = .ok (.enter 48 args) w := run_callFunc Tryd.func48 (by kernel_rfl) (by kernel_rfl) args w
theorem en49 (args : Array Value) (w : World) : (callFunc 49 args).run Tryd.prog w = .ok (.enter 49 args) w := run_callFunc Tryd.func49 (by kernel_rfl) (by kernel_rfl) args w
theorem en50 (args : Array Value) (w : World) : (callFunc 50 args).run Tryd.prog w = .ok (.enter 50 args) w := run_callFunc Tryd.func50 (by kernel_rfl) (by kernel_rfl) args w
theorem en51 (args : Array Value) (w : World) : (callFunc 51 args).run Tryd.prog w = .ok (.enter 51 args) w := run_callFunc Tryd.func51 (by kernel_rfl) (by kernel_rfl) args w
theorem en52 (args : Array Value) (w : World) : (callFunc 52 args).run Tryd.prog w = .ok (.enter 52 args) w := run_callFunc Tryd.func52 (by kernel_rfl) (by kernel_rfl) args w
theorem en53 (args : Array Value) (w : World) : (callFunc 53 args).run Tryd.prog w = .ok (.enter 53 args) w := run_callFunc Tryd.func53 (by kernel_rfl) (by kernel_rfl) args w
theorem en54 (args : Array Value) (w : World) : (callFunc 54 args).run Tryd.prog w = .ok (.enter 54 args) w := run_callFunc Tryd.func54 (by kernel_rfl) (by kernel_rfl) args w
theorem en55 (args : Array Value) (w : World) : (callFunc 55 args).run Tryd.prog w = .ok (.enter 55 args) w := run_callFunc Tryd.func55 (by kernel_rfl) (by kernel_rfl) args w
theorem en56 (args : Array Value) (w : World) : (callFunc 56 args).run Tryd.prog w = .ok (.enter 56 args) w := run_callFunc Tryd.func56 (by kernel_rfl) (by kernel_rfl) args w
theorem en57 (args : Array Value) (w : World) : (callFunc 57 args).run Tryd.prog w = .ok (.enter 57 args) w := run_callFunc Tryd.func57 (by kernel_rfl) (by kernel_rfl) args w
theorem en58 (args : Array Value) (w : World) : (callFunc 58 args).run Tryd.prog w = .ok (.enter 58 args) w := run_callFunc Tryd.func58 (by kernel_rfl) (by kernel_rfl) args w
theorem en59 (args : Array Value) (w : World) : (callFunc 59 args).run Tryd.prog w = .ok (.enter 59 args) w := run_callFunc Tryd.func59 (by kernel_rfl) (by kernel_rfl) args w
theorem en60 (args : Array Value) (w : World) : (callFunc 60 args).run Tryd.prog w = .ok (.enter 60 args) w := run_callFunc Tryd.func60 (by kernel_rfl) (by kernel_rfl) args w
theorem en61 (args : Array Value) (w : World) : (callFunc 61 args).run Tryd.prog w = .ok (.enter 61 args) w := run_callFunc Tryd.func61 (by kernel_rfl) (by kernel_rfl) args w
theorem en62 (args : Array Value) (w : World) : (callFunc 62 args).run Tryd.prog w = .ok (.enter 62 args) w := run_callFunc Tryd.func62 (by kernel_rfl) (by kernel_rfl) args w
theorem en63 (args : Array Value) (w : World) : (callFunc 63 args).run Tryd.prog w = .ok (.enter 63 args) w := run_callFunc Tryd.func63 (by kernel_rfl) (by kernel_rfl) args w
theorem en64 (args : Array Value) (w : World) : (callFunc 64 args).run Tryd.prog w = .ok (.enter 64 args) w := run_callFunc Tryd.func64 (by kernel_rfl) (by kernel_rfl) args w
theorem en65 (args : Array Value) (w : World) : (callFunc 65 args).run Tryd.prog w = .ok (.enter 65 args) w := run_callFunc Tryd.func65 (by kernel_rfl) (by kernel_rfl) args w
theorem en66 (args : Array Value) (w : World) : (callFunc 66 args).run Tryd.prog w = .ok (.enter 66 args) w := run_callFunc Tryd.func66 (by kernel_rfl) (by kernel_rfl) args w
theorem en67 (args : Array Value) (w : World) : (callFunc 67 args).run Tryd.prog w = .ok (.enter 67 args) w := run_callFunc Tryd.func67 (by kernel_rfl) (by kernel_rfl) args w
theorem en68 (args : Array Value) (w : World) : (callFunc 68 args).run Tryd.prog w = .ok (.enter 68 args) w := run_callFunc Tryd.func68 (by kernel_rfl) (by kernel_rfl) args w
theorem en69 (args : Array Value) (w : World) : (callFunc 69 args).run Tryd.prog w = .ok (.enter 69 args) w := run_callFunc Tryd.func69 (by kernel_rfl) (by kernel_rfl) args w
theorem en70 (args : Array Value) (w : World) : (callFunc 70 args).run Tryd.prog w = .ok (.enter 70 args) w := run_callFunc Tryd.func70 (by kernel_rfl) (by kernel_rfl) args w
theorem en71 (args : Array Value) (w : World) : (callFunc 71 args).run Tryd.prog w = .ok (.enter 71 args) w := run_callFunc Tryd.func71 (by kernel_rfl) (by kernel_rfl) args w
theorem en72 (args : Array Value) (w : World) : (callFunc 72 args).run Tryd.prog w = .ok (.enter 72 args) w := run_callFunc Tryd.func72 (by kernel_rfl) (by kernel_rfl) args w
theorem en73 (args : Array Value) (w : World) : (callFunc 73 args).run Tryd.prog w = .ok (.enter 73 args) w := run_callFunc Tryd.func73 (by kernel_rfl) (by kernel_rfl) args w
theorem en74 (args : Array Value) (w : World) : (callFunc 74 args).run Tryd.prog w = .ok (.enter 74 args) w := run_callFunc Tryd.func74 (by kernel_rfl) (by kernel_rfl) args w
theorem en75 (args : Array Value) (w : World) : (callFunc 75 args).run Tryd.prog w = .ok (.enter 75 args) w := run_callFunc Tryd.func75 (by kernel_rfl) (by kernel_rfl) args w
theorem en76 (args : Array Value) (w : World) : (callFunc 76 args).run Tryd.prog w = .ok (.enter 76 args) w := run_callFunc Tryd.func76 (by kernel_rfl) (by kernel_rfl) args w
theorem en77 (args : Array Value) (w : World) : (callFunc 77 args).run Tryd.prog w = .ok (.enter 77 args) w := run_callFunc Tryd.func77 (by kernel_rfl) (by kernel_rfl) args w
theorem en78 (args : Array Value) (w : World) : (callFunc 78 args).run Tryd.prog w = .ok (.enter 78 args) w := run_callFunc Tryd.func78 (by kernel_rfl) (by kernel_rfl) args w
theorem en79 (args : Array Value) (w : World) : (callFunc 79 args).run Tryd.prog w = .ok (.enter 79 args) w := run_callFunc Tryd.func79 (by kernel_rfl) (by kernel_rfl) args w
theorem en80 (args : Array Value) (w : World) : (callFunc 80 args).run Tryd.prog w = .ok (.enter 80 args) w := run_callFunc Tryd.func80 (by kernel_rfl) (by kernel_rfl) args w
theorem en81 (args : Array Value) (w : World) : (callFunc 81 args).run Tryd.prog w = .ok (.enter 81 args) w := run_callFunc Tryd.func81 (by kernel_rfl) (by kernel_rfl) args w
theorem en82 (args : Array Value) (w : World) : (callFunc 82 args).run Tryd.prog w = .ok (.enter 82 args) w := run_callFunc Tryd.func82 (by kernel_rfl) (by kernel_rfl) args w
theorem en83 (args : Array Value) (w : World) : (callFunc 83 args).run Tryd.prog w = .ok (.enter 83 args) w := run_callFunc Tryd.func83 (by kernel_rfl) (by kernel_rfl) args w
theorem en84 (args : Array Value) (w : World) : (callFunc 84 args).run Tryd.prog w = .ok (.enter 84 args) w := run_callFunc Tryd.func84 (by kernel_rfl) (by kernel_rfl) args w
theorem en85 (args : Array Value) (w : World) : (callFunc 85 args).run Tryd.prog w = .ok (.enter 85 args) w := run_callFunc Tryd.func85 (by kernel_rfl) (by kernel_rfl) args w
theorem en86 (args : Array Value) (w : World) : (callFunc 86 args).run Tryd.prog w = .ok (.enter 86 args) w := run_callFunc Tryd.func86 (by kernel_rfl) (by kernel_rfl) args w
theorem en87 (args : Array Value) (w : World) : (callFunc 87 args).run Tryd.prog w = .ok (.enter 87 args) w := run_callFunc Tryd.func87 (by kernel_rfl) (by kernel_rfl) args w
theorem en88 (args : Array Value) (w : World) : (callFunc 88 args).run Tryd.prog w = .ok (.enter 88 args) w := run_callFunc Tryd.func88 (by kernel_rfl) (by kernel_rfl) args w
theorem en89 (args : Array Value) (w : World) : (callFunc 89 args).run Tryd.prog w = .ok (.enter 89 args) w := run_callFunc Tryd.func89 (by kernel_rfl) (by kernel_rfl) args w
theorem en90 (args : Array Value) (w : World) : (callFunc 90 args).run Tryd.prog w = .ok (.enter 90 args) w := run_callFunc Tryd.func90 (by kernel_rfl) (by kernel_rfl) args w
theorem en91 (args : Array Value) (w : World) : (callFunc 91 args).run Tryd.prog w = .ok (.enter 91 args) w := run_callFunc Tryd.func91 (by kernel_rfl) (by kernel_rfl) args w
theorem en92 (args : Array Value) (w : World) : (callFunc 92 args).run Tryd.prog w = .ok (.enter 92 args) w := run_callFunc Tryd.func92 (by kernel_rfl) (by kernel_rfl) args w
theorem en93 (args : Array Value) (w : World) : (callFunc 93 args).run Tryd.prog w = .ok (.enter 93 args) w := run_callFunc Tryd.func93 (by kernel_rfl) (by kernel_rfl) args w
theorem en94 (args : Array Value) (w : World) : (callFunc 94 args).run Tryd.prog w = .ok (.enter 94 args) w := run_callFunc Tryd.func94 (by kernel_rfl) (by kernel_rfl) args w
theorem en95 (args : Array Value) (w : World) : (callFunc 95 args).run Tryd.prog w = .ok (.enter 95 args) w := run_callFunc Tryd.func95 (by kernel_rfl) (by kernel_rfl) args w
theorem en96 (args : Array Value) (w : World) : (callFunc 96 args).run Tryd.prog w = .ok (.enter 96 args) w := run_callFunc Tryd.func96 (by kernel_rfl) (by kernel_rfl) args w
theorem en97 (args : Array Value) (w : World) : (callFunc 97 args).run Tryd.prog w = .ok (.enter 97 args) w := run_callFunc Tryd.func97 (by kernel_rfl) (by kernel_rfl) args w
theorem en98 (args : Array Value) (w : World) : (callFunc 98 args).run Tryd.prog w = .ok (.enter 98 args) w := run_callFunc Tryd.func98 (by kernel_rfl) (by kernel_rfl) args w
theorem en99 (args : Array Value) (w : World) : (callFunc 99 args).run Tryd.prog w = .ok (.enter 99 args) w := run_callFunc Tryd.func99 (by kernel_rfl) (by kernel_rfl) args w
theorem en100 (args : Array Value) (w : World) : (callFunc 100 args).run Tryd.prog w = .ok (.enter 100 args) w := run_callFunc Tryd.func100 (by kernel_rfl) (by kernel_rfl) args w
theorem en101 (args : Array Value) (w : World) : (callFunc 101 args).run Tryd.prog w = .ok (.enter 101 args) w := run_callFunc Tryd.func101 (by kernel_rfl) (by kernel_rfl) args w
theorem en102 (args : Array Value) (w : World) : (callFunc 102 args).run Tryd.prog w = .ok (.enter 102 args) w := run_callFunc Tryd.func102 (by kernel_rfl) (by kernel_rfl) args w
theorem en103 (args : Array Value) (w : World) : (callFunc 103 args).run Tryd.prog w = .ok (.enter 103 args) w := run_callFunc Tryd.func103 (by kernel_rfl) (by kernel_rfl) args w
theorem en104 (args : Array Value) (w : World) : (callFunc 104 args).run Tryd.prog w = .ok (.enter 104 args) w := run_callFunc Tryd.func104 (by kernel_rfl) (by kernel_rfl) args w
theorem en105 (args : Array Value) (w : World) : (callFunc 105 args).run Tryd.prog w = .ok (.enter 105 args) w := run_callFunc Tryd.func105 (by kernel_rfl) (by kernel_rfl) args w
theorem en106 (args : Array Value) (w : World) : (callFunc 106 args).run Tryd.prog w = .ok (.enter 106 args) w := run_callFunc Tryd.func106 (by kernel_rfl) (by kernel_rfl) args w
theorem en107 (args : Array Value) (w : World) : (callFunc 107 args).run Tryd.prog w = .ok (.enter 107 args) w := run_callFunc Tryd.func107 (by kernel_rfl) (by kernel_rfl) args w
theorem en108 (args : Array Value) (w : World) : (callFunc 108 args).run Tryd.prog w = .ok (.enter 108 args) w := run_callFunc Tryd.func108 (by kernel_rfl) (by kernel_rfl) args w
theorem en109 (args : Array Value) (w : World) : (callFunc 109 args).run Tryd.prog w = .ok (.enter 109 args) w := run_callFunc Tryd.func109 (by kernel_rfl) (by kernel_rfl) args w
theorem en110 (args : Array Value) (w : World) : (callFunc 110 args).run Tryd.prog w = .ok (.enter 110 args) w := run_callFunc Tryd.func110 (by kernel_rfl) (by kernel_rfl) args w
theorem en111 (args : Array Value) (w : World) : (callFunc 111 args).run Tryd.prog w = .ok (.enter 111 args) w := run_callFunc Tryd.func111 (by kernel_rfl) (by kernel_rfl) args w
theorem en112 (args : Array Value) (w : World) : (callFunc 112 args).run Tryd.prog w = .ok (.enter 112 args) w := run_callFunc Tryd.func112 (by kernel_rfl) (by kernel_rfl) args w
theorem en113 (args : Array Value) (w : World) : (callFunc 113 args).run Tryd.prog w = .ok (.enter 113 args) w := run_callFunc Tryd.func113 (by kernel_rfl) (by kernel_rfl) args w
theorem en114 (args : Array Value) (w : World) : (callFunc 114 args).run Tryd.prog w = .ok (.enter 114 args) w := run_callFunc Tryd.func114 (by kernel_rfl) (by kernel_rfl) args w
theorem en115 (args : Array Value) (w : World) : (callFunc 115 args).run Tryd.prog w = .ok (.enter 115 args) w := run_callFunc Tryd.func115 (by kernel_rfl) (by kernel_rfl) args w
theorem en116 (args : Array Value) (w : World) : (callFunc 116 args).run Tryd.prog w = .ok (.enter 116 args) w := run_callFunc Tryd.func116 (by kernel_rfl) (by kernel_rfl) args w
theorem en117 (args : Array Value) (w : World) : (callFunc 117 args).run Tryd.prog w = .ok (.enter 117 args) w := run_callFunc Tryd.func117 (by kernel_rfl) (by kernel_rfl) args w
theorem en118 (args : Array Value) (w : World) : (callFunc 118 args).run Tryd.prog w = .ok (.enter 118 args) w := run_callFunc Tryd.func118 (by kernel_rfl) (by kernel_rfl) args w
theorem en119 (args : Array Value) (w : World) : (callFunc 119 args).run Tryd.prog w = .ok (.enter 119 args) w := run_callFunc Tryd.func119 (by kernel_rfl) (by kernel_rfl) args w
theorem en120 (args : Array Value) (w : World) : (callFunc 120 args).run Tryd.prog w = .ok (.enter 120 args) w := run_callFunc Tryd.func120 (by kernel_rfl) (by kernel_rfl) args w
theorem en121 (args : Array Value) (w : World) : (callFunc 121 args).run Tryd.prog w = .ok (.enter 121 args) w := run_callFunc Tryd.func121 (by kernel_rfl) (by kernel_rfl) args w
theorem en122 (args : Array Value) (w : World) : (callFunc 122 args).run Tryd.prog w = .ok (.enter 122 args) w := run_callFunc Tryd.func122 (by kernel_rfl) (by kernel_rfl) args w
theorem en123 (args : Array Value) (w : World) : (callFunc 123 args).run Tryd.prog w = .ok (.enter 123 args) w := run_callFunc Tryd.func123 (by kernel_rfl) (by kernel_rfl) args w
theorem en124 (args : Array Value) (w : World) : (callFunc 124 args).run Tryd.prog w = .ok (.enter 124 args) w := run_callFunc Tryd.func124 (by kernel_rfl) (by kernel_rfl) args w
theorem en125 (args : Array Value) (w : World) : (callFunc 125 args).run Tryd.prog w = .ok (.enter 125 args) w := run_callFunc Tryd.func125 (by kernel_rfl) (by kernel_rfl) args w
theorem en126 (args : Array Value) (w : World) : (callFunc 126 args).run Tryd.prog w = .ok (.enter 126 args) w := run_callFunc Tryd.func126 (by kernel_rfl) (by kernel_rfl) args w
theorem en127 (args : Array Value) (w : World) : (callFunc 127 args).run Tryd.prog w = .ok (.enter 127 args) w := run_callFunc Tryd.func127 (by kernel_rfl) (by kernel_rfl) args w
theorem en128 (args : Array Value) (w : World) : (callFunc 128 args).run Tryd.prog w = .ok (.enter 128 args) w := run_callFunc Tryd.func128 (by kernel_rfl) (by kernel_rfl) args w
theorem en129 (args : Array Value) (w : World) : (callFunc 129 args).run Tryd.prog w = .ok (.enter 129 args) w := run_callFunc Tryd.func129 (by kernel_rfl) (by kernel_rfl) args w
theorem en130 (args : Array Value) (w : World) : (callFunc 130 args).run Tryd.prog w = .ok (.enter 130 args) w := run_callFunc Tryd.func130 (by kernel_rfl) (by kernel_rfl) args w
theorem en131 (args : Array Value) (w : World) : (callFunc 131 args).run Tryd.prog w = .ok (.enter 131 args) w := run_callFunc Tryd.func131 (by kernel_rfl) (by kernel_rfl) args w
theorem en132 (args : Array Value) (w : World) : (callFunc 132 args).run Tryd.prog w = .ok (.enter 132 args) w := run_callFunc Tryd.func132 (by kernel_rfl) (by kernel_rfl) args w
theorem en133 (args : Array Value) (w : World) : (callFunc 133 args).run Tryd.prog w = .ok (.enter 133 args) w := run_callFunc Tryd.func133 (by kernel_rfl) (by kernel_rfl) args w
theorem en134 (args : Array Value) (w : World) : (callFunc 134 args).run Tryd.prog w = .ok (.enter 134 args) w := run_callFunc Tryd.func134 (by kernel_rfl) (by kernel_rfl) args w
theorem en135 (args : Array Value) (w : World) : (callFunc 135 args).run Tryd.prog w = .ok (.enter 135 args) w := run_callFunc Tryd.func135 (by kernel_rfl) (by kernel_rfl) args w
theorem en136 (args : Array Value) (w : World) : (callFunc 136 args).run Tryd.prog w = .ok (.enter 136 args) w := run_callFunc Tryd.func136 (by kernel_rfl) (by kernel_rfl) args w
theorem en137 (args : Array Value) (w : World) : (callFunc 137 args).run Tryd.prog w = .ok (.enter 137 args) w := run_callFunc Tryd.func137 (by kernel_rfl) (by kernel_rfl) args w
theorem en138 (args : Array Value) (w : World) : (callFunc 138 args).run Tryd.prog w = .ok (.enter 138 args) w := run_callFunc Tryd.func138 (by kernel_rfl) (by kernel_rfl) args w
theorem en139 (args : Array Value) (w : World) : (callFunc 139 args).run Tryd.prog w = .ok (.enter 139 args) w := run_callFunc Tryd.func139 (by kernel_rfl) (by kernel_rfl) args w
theorem en140 (args : Array Value) (w : World) : (callFunc 140 args).run Tryd.prog w = .ok (.enter 140 args) w := run_callFunc Tryd.func140 (by kernel_rfl) (by kernel_rfl) args w
theorem en141 (args : Array Value) (w : World) : (callFunc 141 args).run Tryd.prog w = .ok (.enter 141 args) w := run_callFunc Tryd.func141 (by kernel_rfl) (by kernel_rfl) args w
theorem en142 (args : Array Value) (w : World) : (callFunc 142 args).run Tryd.prog w = .ok (.enter 142 args) w := run_callFunc Tryd.func142 (by kernel_rfl) (by kernel_rfl) args w
theorem en143 (args : Array Value) (w : World) : (callFunc 143 args).run Tryd.prog w = .ok (.enter 143 args) w := run_callFunc Tryd.func143 (by kernel_rfl) (by kernel_rfl) args w
theorem en144 (args : Array Value) (w : World) : (callFunc 144 args).run Tryd.prog w = .ok (.enter 144 args) w := run_callFunc Tryd.func144 (by kernel_rfl) (by kernel_rfl) args w
theorem en145 (args : Array Value) (w : World) : (callFunc 145 args).run Tryd.prog w = .ok (.enter 145 args) w := run_callFunc Tryd.func145 (by kernel_rfl) (by kernel_rfl) args w
theorem en146 (args : Array Value) (w : World) : (callFunc 146 args).run Tryd.prog w = .ok (.enter 146 args) w := run_callFunc Tryd.func146 (by kernel_rfl) (by kernel_rfl) args w
theorem en147 (args : Array Value) (w : World) : (callFunc 147 args).run Tryd.prog w = .ok (.enter 147 args) w := run_callFunc Tryd.func147 (by kernel_rfl) (by kernel_rfl) args w
theorem en148 (args : Array Value) (w : World) : (callFunc 148 args).run Tryd.prog w = .ok (.enter 148 args) w := run_callFunc Tryd.func148 (by kernel_rfl) (by kernel_rfl) args w
theorem en149 (args : Array Value) (w : World) : (callFunc 149 args).run Tryd.prog w = .ok (.enter 149 args) w := run_callFunc Tryd.func149 (by kernel_rfl) (by kernel_rfl) args w
theorem en150 (args : Array Value) (w : World) : (callFunc 150 args).run Tryd.prog w = .ok (.enter 150 args) w := run_callFunc Tryd.func150 (by kernel_rfl) (by kernel_rfl) args w
theorem en151 (args : Array Value) (w : World) : (callFunc 151 args).run Tryd.prog w = .ok (.enter 151 args) w := run_callFunc Tryd.func151 (by kernel_rfl) (by kernel_rfl) args w
theorem en152 (args : Array Value) (w : World) : (callFunc 152 args).run Tryd.prog w = .ok (.enter 152 args) w := run_callFunc Tryd.func152 (by kernel_rfl) (by kernel_rfl) args w
theorem en153 (args : Array Value) (w : World) : (callFunc 153 args).run Tryd.prog w = .ok (.enter 153 args) w := run_callFunc Tryd.func153 (by kernel_rfl) (by kernel_rfl) args w
theorem en154 (args : Array Value) (w : World) : (callFunc 154 args).run Tryd.prog w = .ok (.enter 154 args) w := run_callFunc Tryd.func154 (by kernel_rfl) (by kernel_rfl) args w
theorem en155 (args : Array Value) (w : World) : (callFunc 155 args).run Tryd.prog w = .ok (.enter 155 args) w := run_callFunc Tryd.func155 (by kernel_rfl) (by kernel_rfl) args w
theorem en156 (args : Array Value) (w : World) : (callFunc 156 args).run Tryd.prog w = .ok (.enter 156 args) w := run_callFunc Tryd.func156 (by kernel_rfl) (by kernel_rfl) args w
theorem en157 (args : Array Value) (w : World) : (callFunc 157 args).run Tryd.prog w = .ok (.enter 157 args) w := run_callFunc Tryd.func157 (by kernel_rfl) (by kernel_rfl) args w
theorem en158 (args : Array Value) (w : World) : (callFunc 158 args).run Tryd.prog w = .ok (.enter 158 args) w := run_callFunc Tryd.func158 (by kernel_rfl) (by kernel_rfl) args w
theorem en159 (args : Array Value) (w : World) : (callFunc 159 args).run Tryd.prog w = .ok (.enter 159 args) w := run_callFunc Tryd.func159 (by kernel_rfl) (by kernel_rfl) args w
theorem en161 (args : Array Value) (w : World) : (callFunc 161 args).run Tryd.prog w = .ok (.enter 161 args) w := run_callFunc Tryd.func161 (by kernel_rfl) (by kernel_rfl) args w
theorem en162 (args : Array Value) (w : World) : (callFunc 162 args).run Tryd.prog w = .ok (.enter 162 args) w := run_callFunc Tryd.func162 (by kernel_rfl) (by kernel_rfl) args w
theorem en163 (args : Array Value) (w : World) : (callFunc 163 args).run Tryd.prog w = .ok (.enter 163 args) w := run_callFunc Tryd.func163 (by kernel_rfl) (by kernel_rfl) args w
theorem en164 (args : Array Value) (w : World) : (callFunc 164 args).run Tryd.prog w = .ok (.enter 164 args) w := run_callFunc Tryd.func164 (by kernel_rfl) (by kernel_rfl) args w
theorem en165 (args : Array Value) (w : World) : (callFunc 165 args).run Tryd.prog w = .ok (.enter 165 args) w := run_callFunc Tryd.func165 (by kernel_rfl) (by kernel_rfl) args w
theorem en166 (args : Array Value) (w : World) : (callFunc 166 args).run Tryd.prog w = .ok (.enter 166 args) w := run_callFunc Tryd.func166 (by kernel_rfl) (by kernel_rfl) args w
theorem en167 (args : Array Value) (w : World) : (callFunc 167 args).run Tryd.prog w = .ok (.enter 167 args) w := run_callFunc Tryd.func167 (by kernel_rfl) (by kernel_rfl) args w
theorem en168 (args : Array Value) (w : World) : (callFunc 168 args).run Tryd.prog w = .ok (.enter 168 args) w := run_callFunc Tryd.func168 (by kernel_rfl) (by kernel_rfl) args w
theorem en169 (args : Array Value) (w : World) : (callFunc 169 args).run Tryd.prog w = .ok (.enter 169 args) w := run_callFunc Tryd.func169 (by kernel_rfl) (by kernel_rfl) args w
theorem en170 (args : Array Value) (w : World) : (callFunc 170 args).run Tryd.prog w = .ok (.enter 170 args) w := run_callFunc Tryd.func170 (by kernel_rfl) (by kernel_rfl) args w
theorem mixed : Tryd.prog.follows .mixedOrders = true := by kernel_rfl
end Go.Proofs.YtahdekllphehkaaDoor

namespace Go.Proofs.YtahdekllphehkaaDoor
open Go.WL Go.Spec
set_option maxRecDepth 100000
theorem ti1 : tinfo Tryd.prog 1 = some (1, false, 8) := by kernel_rfl
theorem tz1 : tzero Tryd.prog 1 = some ([.nilFunc]) := by kernel_rfl
theorem ti2 : tinfo Tryd.prog 2 = some (1, false, 8) := by kernel_rfl
theorem tz2 : tzero Tryd.prog 2 = some ([.int .i64 0]) := by kernel_rfl
theorem ti3 : tinfo Tryd.prog 3 = some (1, false, 8) := by kernel_rfl
theorem tz3 : tzero Tryd.prog 3 = some ([.int .i64 0]) := by kernel_rfl
theorem ti4 : tinfo Tryd.prog 4 = some (1, false, 1) := by kernel_rfl
theorem tz4 : tzero Tryd.prog 4 = some ([.bool false]) := by kernel_rfl
theorem ti5 : tinfo Tryd.prog 5 = some (1, false, 1) := by kernel_rfl
theorem tz5 : tzero Tryd.prog 5 = some ([.int .u8 0]) := by kernel_rfl
theorem ti6 : tinfo Tryd.prog 6 = some (1, false, 1) := by kernel_rfl
theorem tz6 : tzero Tryd.prog 6 = some ([.int .u8 0]) := by kernel_rfl
theorem ti7 : tinfo Tryd.prog 7 = some (4, true, 24) := by kernel_rfl
theorem tz7 : tzero Tryd.prog 7 = some ([.int .i64 0, .int .i64 0, .bool false, .int .u8 0]) := by kernel_rfl
theorem tf7_0 : tfield Tryd.prog 7 0 = some (0, 2) := by kernel_rfl
theorem tf7_1 : tfield Tryd.prog 7 1 = some (1, 3) := by kernel_rfl
theorem tf7_2 : tfield Tryd.prog 7 2 = some (2, 4) := by kernel_rfl
theorem tf7_3 : tfield Tryd.prog 7 3 = some (3, 6) := by kernel_rfl
theorem ti8 : tinfo Tryd.prog 8 = some (4, true, 24) := by kernel_rfl
theorem tz8 : tzero Tryd.prog 8 = some ([.int .i64 0, .int .i64 0, .bool false, .int .u8 0]) := by kernel_rfl
theorem tf8_0 : tfield Tryd.prog 8 0 = some (0, 2) := by kernel_rfl
theorem tf8_1 : tfield Tryd.prog 8 1 = some (1, 3) := by kernel_rfl
theorem tf8_2 : tfield Tryd.prog 8 2 = some (2, 4) := by kernel_rfl
theorem tf8_3 : tfield Tryd.prog 8 3 = some (3, 6) := by kernel_rfl
theorem ti9 : tinfo Tryd.prog 9 = some (1, false, 16) := by kernel_rfl
theorem tz9 : tzero Tryd.prog 9 = some ([.string ⟨#[]⟩]) := by kernel_rfl
theorem tt9 : tstr Tryd.prog 9 = true := by kernel_rfl
theorem ti10 : tinfo Tryd.prog 10 = some (1, false, 16) := by kernel_rfl
theorem tz10 : tzero Tryd.prog 10 = some ([.string ⟨#[]⟩]) := by kernel_rfl
theorem tt10 : tstr Tryd.prog 10 = true := by kernel_rfl
theorem ti11 : tinfo Tryd.prog 11 = some (1, false, 16) := by kernel_rfl
theorem tz11 : tzero Tryd.prog 11 = some ([.string ⟨#[]⟩]) := by kernel_rfl
theorem tt11 : tstr Tryd.prog 11 = true := by kernel_rfl
theorem ti12 : tinfo Tryd.prog 12 = some (1, false, 8) := by kernel_rfl
theorem tz12 : tzero Tryd.prog 12 = some ([.int .u64 0]) := by kernel_rfl
theorem ti13 : tinfo Tryd.prog 13 = some (2, true, 24) := by kernel_rfl
theorem tz13 : tzero Tryd.prog 13 = some ([.string ⟨#[]⟩, .int .u64 0]) := by kernel_rfl
theorem tf13_0 : tfield Tryd.prog 13 0 = some (0, 9) := by kernel_rfl
theorem tf13_1 : tfield Tryd.prog 13 1 = some (1, 12) := by kernel_rfl
theorem ti14 : tinfo Tryd.prog 14 = some (2, true, 24) := by kernel_rfl
theorem tz14 : tzero Tryd.prog 14 = some ([.string ⟨#[]⟩, .int .u64 0]) := by kernel_rfl
theorem tf14_0 : tfield Tryd.prog 14 0 = some (0, 9) := by kernel_rfl
theorem tf14_1 : tfield Tryd.prog 14 1 = some (1, 12) := by kernel_rfl
theorem ti15 : tinfo Tryd.prog 15 = some (1, false, 8) := by kernel_rfl
theorem tz15 : tzero Tryd.prog 15 = some ([.pointer none]) := by kernel_rfl
theorem ti16 : tinfo Tryd.prog 16 = some (1, false, 8) := by kernel_rfl
theorem tz16 : tzero Tryd.prog 16 = some ([.pointer none]) := by kernel_rfl
theorem ti17 : tinfo Tryd.prog 17 = some (1, false, 8) := by kernel_rfl
theorem tz17 : tzero Tryd.prog 17 = some ([.pointer none]) := by kernel_rfl
theorem ti18 : tinfo Tryd.prog 18 = some (1, true, 8) := by kernel_rfl
theorem tz18 : tzero Tryd.prog 18 = some ([.pointer none]) := by kernel_rfl
theorem tf18_0 : tfield Tryd.prog 18 0 = some (0, 17) := by kernel_rfl
theorem ti19 : tinfo Tryd.prog 19 = some (1, true, 8) := by kernel_rfl
theorem tz19 : tzero Tryd.prog 19 = some ([.pointer none]) := by kernel_rfl
theorem tf19_0 : tfield Tryd.prog 19 0 = some (0, 17) := by kernel_rfl
theorem ti21 : tinfo Tryd.prog 21 = some (1, false, 4) := by kernel_rfl
theorem tz21 : tzero Tryd.prog 21 = some ([.int .i32 0]) := by kernel_rfl
theorem ti22 : tinfo Tryd.prog 22 = some (1, false, 24) := by kernel_rfl
theorem tz22 : tzero Tryd.prog 22 = some ([.slice none 0 0]) := by kernel_rfl
theorem ts22 : tslice Tryd.prog 22 = some 25 := by kernel_rfl
theorem ti23 : tinfo Tryd.prog 23 = some (1, false, 8) := by kernel_rfl
theorem tz23 : tzero Tryd.prog 23 = some ([.nilFunc]) := by kernel_rfl
theorem ti24 : tinfo Tryd.prog 24 = some (32, true, 32) := by kernel_rfl
theorem tz24 : tzero Tryd.prog 24 = some (hc zeroHash) := by kernel_rfl
theorem ta24 : tarr Tryd.prog 24 = some (32, 5) := by kernel_rfl
theorem ti25 : tinfo Tryd.prog 25 = some (32, true, 32) := by kernel_rfl
theorem tz25 : tzero Tryd.prog 25 = some (hc zeroHash) := by kernel_rfl
theorem ta25 : tarr Tryd.prog 25 = some (32, 5) := by kernel_rfl
theorem ti26 : tinfo Tryd.prog 26 = some (1, false, 8) := by kernel_rfl
theorem tz26 : tzero Tryd.prog 26 = some ([.nilFunc]) := by kernel_rfl
theorem ti27 : tinfo Tryd.prog 27 = some (1, false, 8) := by kernel_rfl
theorem tz27 : tzero Tryd.prog 27 = some ([.nilFunc]) := by kernel_rfl
theorem ti28 : tinfo Tryd.prog 28 = some (1, false, 8) := by kernel_rfl
theorem tz28 : tzero Tryd.prog 28 = some ([.nilFunc]) := by kernel_rfl
theorem ti29 : tinfo Tryd.prog 29 = some (1, false, 8) := by kernel_rfl
theorem tz29 : tzero Tryd.prog 29 = some ([.nilFunc]) := by kernel_rfl
theorem ti30 : tinfo Tryd.prog 30 = some (1, false, 8) := by kernel_rfl
theorem tz30 : tzero Tryd.prog 30 = some ([.nilFunc]) := by kernel_rfl
theorem ti31 : tinfo Tryd.prog 31 = some (1, false, 8) := by kernel_rfl
theorem tz31 : tzero Tryd.prog 31 = some ([.nilFunc]) := by kernel_rfl
theorem ti32 : tinfo Tryd.prog 32 = some (33, true, 40) := by kernel_rfl
theorem tz32 : tzero Tryd.prog 32 = some ([.int .i64 0] ++ (hc zeroHash)) := by kernel_rfl
theorem tf32_0 : tfield Tryd.prog 32 0 = some (0, 3) := by kernel_rfl
theorem tf32_1 : tfield Tryd.prog 32 1 = some (1, 25) := by kernel_rfl
theorem ti33 : tinfo Tryd.prog 33 = some (33, true, 40) := by kernel_rfl
theorem tz33 : tzero Tryd.prog 33 = some ([.int .i64 0] ++ (hc zeroHash)) := by kernel_rfl
theorem tf33_0 : tfield Tryd.prog 33 0 = some (0, 3) := by kernel_rfl
theorem tf33_1 : tfield Tryd.prog 33 1 = some (1, 25) := by kernel_rfl
theorem ti34 : tinfo Tryd.prog 34 = some (1, false, 1) := by kernel_rfl
theorem tz34 : tzero Tryd.prog 34 = some ([.int .i8 0]) := by kernel_rfl
theorem ti35 : tinfo Tryd.prog 35 = some (37, true, 96) := by kernel_rfl
theorem tz35 : tzero Tryd.prog 35 = some ([.int .i64 0] ++ (hc zeroHash) ++ [.int .i64 0, .string ⟨#[]⟩, .int .i8 0, .slice none 0 0]) := by kernel_rfl
theorem tf35_0 : tfield Tryd.prog 35 0 = some (0, 33) := by kernel_rfl
theorem tf35_1 : tfield Tryd.prog 35 1 = some (33, 3) := by kernel_rfl
theorem tf35_2 : tfield Tryd.prog 35 2 = some (34, 9) := by kernel_rfl
theorem tf35_3 : tfield Tryd.prog 35 3 = some (35, 34) := by kernel_rfl
theorem tf35_4 : tfield Tryd.prog 35 4 = some (36, 22) := by kernel_rfl
theorem ti36 : tinfo Tryd.prog 36 = some (37, true, 96) := by kernel_rfl
theorem tz36 : tzero Tryd.prog 36 = some ([.int .i64 0] ++ (hc zeroHash) ++ [.int .i64 0, .string ⟨#[]⟩, .int .i8 0, .slice none 0 0]) := by kernel_rfl
theorem tf36_0 : tfield Tryd.prog 36 0 = some (0, 33) := by kernel_rfl
theorem tf36_1 : tfield Tryd.prog 36 1 = some (33, 3) := by kernel_rfl
theorem tf36_2 : tfield Tryd.prog 36 2 = some (34, 9) := by kernel_rfl
theorem tf36_3 : tfield Tryd.prog 36 3 = some (35, 34) := by kernel_rfl
theorem tf36_4 : tfield Tryd.prog 36 4 = some (36, 22) := by kernel_rfl
theorem ti37 : tinfo Tryd.prog 37 = some (108, true, 256) := by kernel_rfl
theorem tz37 : tzero Tryd.prog 37 = some ([.int .i64 0, .int .i64 0] ++ (hc zeroHash) ++ [.int .i64 0, .string ⟨#[]⟩, .int .i8 0, .slice none 0 0, .int .i64 0] ++ (hc zeroHash) ++ [.int .i64 0, .string ⟨#[]⟩, .int .i8 0, .slice none 0 0] ++ (hc zeroHash) ++ [.slice none 0 0]) := by kernel_rfl
theorem tf37_0 : tfield Tryd.prog 37 0 = some (0, 3) := by kernel_rfl
theorem tf37_1 : tfield Tryd.prog 37 1 = some (1, 36) := by kernel_rfl
theorem tf37_2 : tfield Tryd.prog 37 2 = some (38, 36) := by kernel_rfl
theorem tf37_3 : tfield Tryd.prog 37 3 = some (75, 25) := by kernel_rfl
theorem tf37_4 : tfield Tryd.prog 37 4 = some (107, 22) := by kernel_rfl
theorem ti38 : tinfo Tryd.prog 38 = some (108, true, 256) := by kernel_rfl
theorem tz38 : tzero Tryd.prog 38 = some ([.int .i64 0, .int .i64 0] ++ (hc zeroHash) ++ [.int .i64 0, .string ⟨#[]⟩, .int .i8 0, .slice none 0 0, .int .i64 0] ++ (hc zeroHash) ++ [.int .i64 0, .string ⟨#[]⟩, .int .i8 0, .slice none 0 0] ++ (hc zeroHash) ++ [.slice none 0 0]) := by kernel_rfl
theorem tf38_0 : tfield Tryd.prog 38 0 = some (0, 3) := by kernel_rfl
theorem tf38_1 : tfield Tryd.prog 38 1 = some (1, 36) := by kernel_rfl
theorem tf38_2 : tfield Tryd.prog 38 2 = some (38, 36) := by kernel_rfl
theorem tf38_3 : tfield Tryd.prog 38 3 = some (75, 25) := by kernel_rfl
theorem tf38_4 : tfield Tryd.prog 38 4 = some (107, 22) := by kernel_rfl
theorem ti39 : tinfo Tryd.prog 39 = some (1, false, 2) := by kernel_rfl
theorem tz39 : tzero Tryd.prog 39 = some ([.int .u16 0]) := by kernel_rfl
theorem ti40 : tinfo Tryd.prog 40 = some (1, false, 8) := by kernel_rfl
theorem tz40 : tzero Tryd.prog 40 = some ([.int .i64 0]) := by kernel_rfl
theorem ti42 : tinfo Tryd.prog 42 = some (1, false, 8) := by kernel_rfl
theorem tz42 : tzero Tryd.prog 42 = some ([.nilFunc]) := by kernel_rfl
theorem ti43 : tinfo Tryd.prog 43 = some (3, true, 48) := by kernel_rfl
theorem tz43 : tzero Tryd.prog 43 = some ([.int .i64 0, .string ⟨#[]⟩, .slice none 0 0]) := by kernel_rfl
theorem tf43_0 : tfield Tryd.prog 43 0 = some (0, 3) := by kernel_rfl
theorem tf43_1 : tfield Tryd.prog 43 1 = some (1, 9) := by kernel_rfl
theorem tf43_2 : tfield Tryd.prog 43 2 = some (2, 22) := by kernel_rfl
theorem ti44 : tinfo Tryd.prog 44 = some (3, true, 48) := by kernel_rfl
theorem tz44 : tzero Tryd.prog 44 = some ([.int .i64 0, .string ⟨#[]⟩, .slice none 0 0]) := by kernel_rfl
theorem tf44_0 : tfield Tryd.prog 44 0 = some (0, 3) := by kernel_rfl
theorem tf44_1 : tfield Tryd.prog 44 1 = some (1, 9) := by kernel_rfl
theorem tf44_2 : tfield Tryd.prog 44 2 = some (2, 22) := by kernel_rfl
theorem ti45 : tinfo Tryd.prog 45 = some (36, true, 88) := by kernel_rfl
theorem tz45 : tzero Tryd.prog 45 = some ([.int .i64 0] ++ (hc zeroHash) ++ [.int .i64 0, .string ⟨#[]⟩, .slice none 0 0]) := by kernel_rfl
theorem tf45_0 : tfield Tryd.prog 45 0 = some (0, 33) := by kernel_rfl
theorem tf45_1 : tfield Tryd.prog 45 1 = some (33, 44) := by kernel_rfl
theorem ti46 : tinfo Tryd.prog 46 = some (36, true, 88) := by kernel_rfl
theorem tz46 : tzero Tryd.prog 46 = some ([.int .i64 0] ++ (hc zeroHash) ++ [.int .i64 0, .string ⟨#[]⟩, .slice none 0 0]) := by kernel_rfl
theorem tf46_0 : tfield Tryd.prog 46 0 = some (0, 33) := by kernel_rfl
theorem tf46_1 : tfield Tryd.prog 46 1 = some (33, 44) := by kernel_rfl
theorem ti47 : tinfo Tryd.prog 47 = some (106, true, 240) := by kernel_rfl
theorem tz47 : tzero Tryd.prog 47 = some ([.int .i64 0, .int .i64 0] ++ (hc zeroHash) ++ [.int .i64 0, .string ⟨#[]⟩, .slice none 0 0, .int .i64 0] ++ (hc zeroHash) ++ [.int .i64 0, .string ⟨#[]⟩, .slice none 0 0] ++ (hc zeroHash) ++ [.slice none 0 0]) := by kernel_rfl
theorem tf47_0 : tfield Tryd.prog 47 0 = some (0, 3) := by kernel_rfl
theorem tf47_1 : tfield Tryd.prog 47 1 = some (1, 46) := by kernel_rfl
theorem tf47_2 : tfield Tryd.prog 47 2 = some (37, 46) := by kernel_rfl
theorem tf47_3 : tfield Tryd.prog 47 3 = some (73, 25) := by kernel_rfl
theorem tf47_4 : tfield Tryd.prog 47 4 = some (105, 22) := by kernel_rfl
theorem ti48 : tinfo Tryd.prog 48 = some (106, true, 240) := by kernel_rfl
theorem tz48 : tzero Tryd.prog 48 = some ([.int .i64 0, .int .i64 0] ++ (hc zeroHash) ++ [.int .i64 0, .string ⟨#[]⟩, .slice none 0 0, .int .i64 0] ++ (hc zeroHash) ++ [.int .i64 0, .string ⟨#[]⟩, .slice none 0 0] ++ (hc zeroHash) ++ [.slice none 0 0]) := by kernel_rfl
theorem tf48_0 : tfield Tryd.prog 48 0 = some (0, 3) := by kernel_rfl
theorem tf48_1 : tfield Tryd.prog 48 1 = some (1, 46) := by kernel_rfl
theorem tf48_2 : tfield Tryd.prog 48 2 = some (37, 46) := by kernel_rfl
theorem tf48_3 : tfield Tryd.prog 48 3 = some (73, 25) := by kernel_rfl
theorem tf48_4 : tfield Tryd.prog 48 4 = some (105, 22) := by kernel_rfl
theorem ti49 : tinfo Tryd.prog 49 = some (1, false, 8) := by kernel_rfl
theorem tz49 : tzero Tryd.prog 49 = some ([.nilFunc]) := by kernel_rfl
theorem ti50 : tinfo Tryd.prog 50 = some (1, false, 8) := by kernel_rfl
theorem tz50 : tzero Tryd.prog 50 = some ([.nilFunc]) := by kernel_rfl
theorem ti52 : tinfo Tryd.prog 52 = some (1, false, 8) := by kernel_rfl
theorem tz52 : tzero Tryd.prog 52 = some ([.nilFunc]) := by kernel_rfl
theorem ti53 : tinfo Tryd.prog 53 = some (1, false, 8) := by kernel_rfl
theorem tz53 : tzero Tryd.prog 53 = some ([.nilFunc]) := by kernel_rfl
theorem ti54 : tinfo Tryd.prog 54 = some (1, false, 8) := by kernel_rfl
theorem tz54 : tzero Tryd.prog 54 = some ([.nilFunc]) := by kernel_rfl
theorem ti55 : tinfo Tryd.prog 55 = some (64, true, 64) := by kernel_rfl
theorem tz55 : tzero Tryd.prog 55 = some ((hc zeroHash) ++ (hc zeroHash)) := by kernel_rfl
theorem ta55 : tarr Tryd.prog 55 = some (2, 25) := by kernel_rfl
theorem ti56 : tinfo Tryd.prog 56 = some (1, false, 8) := by kernel_rfl
theorem tz56 : tzero Tryd.prog 56 = some ([.nilFunc]) := by kernel_rfl
theorem ti57 : tinfo Tryd.prog 57 = some (1, false, 8) := by kernel_rfl
theorem tz57 : tzero Tryd.prog 57 = some ([.nilFunc]) := by kernel_rfl
theorem ti59 : tinfo Tryd.prog 59 = some (1, false, 8) := by kernel_rfl
theorem tz59 : tzero Tryd.prog 59 = some ([.nilFunc]) := by kernel_rfl
theorem ti60 : tinfo Tryd.prog 60 = some (1, false, 8) := by kernel_rfl
theorem tz60 : tzero Tryd.prog 60 = some ([.nilFunc]) := by kernel_rfl
theorem ti61 : tinfo Tryd.prog 61 = some (1, false, 8) := by kernel_rfl
theorem tz61 : tzero Tryd.prog 61 = some ([.nilFunc]) := by kernel_rfl
theorem ti62 : tinfo Tryd.prog 62 = some (1, false, 24) := by kernel_rfl
theorem tz62 : tzero Tryd.prog 62 = some ([.slice none 0 0]) := by kernel_rfl
theorem ts62 : tslice Tryd.prog 62 = some 9 := by kernel_rfl
theorem ti63 : tinfo Tryd.prog 63 = some (2, true, 2) := by kernel_rfl
theorem tz63 : tzero Tryd.prog 63 = some (List.replicate 2 (.int .u8 0)) := by kernel_rfl
theorem ta63 : tarr Tryd.prog 63 = some (2, 5) := by kernel_rfl
theorem ti64 : tinfo Tryd.prog 64 = some (1, false, 8) := by kernel_rfl
theorem tz64 : tzero Tryd.prog 64 = some ([.nilFunc]) := by kernel_rfl
theorem ti65 : tinfo Tryd.prog 65 = some (1, false, 8) := by kernel_rfl
theorem tz65 : tzero Tryd.prog 65 = some ([.pointer none]) := by kernel_rfl
theorem ti66 : tinfo Tryd.prog 66 = some (2, true, 32) := by kernel_rfl
theorem tz66 : tzero Tryd.prog 66 = some ([.pointer none, .slice none 0 0]) := by kernel_rfl
theorem tf66_0 : tfield Tryd.prog 66 0 = some (0, 65) := by kernel_rfl
theorem tf66_1 : tfield Tryd.prog 66 1 = some (1, 62) := by kernel_rfl
theorem ti67 : tinfo Tryd.prog 67 = some (2, true, 32) := by kernel_rfl
theorem tz67 : tzero Tryd.prog 67 = some ([.pointer none, .slice none 0 0]) := by kernel_rfl
theorem tf67_0 : tfield Tryd.prog 67 0 = some (0, 65) := by kernel_rfl
theorem tf67_1 : tfield Tryd.prog 67 1 = some (1, 62) := by kernel_rfl
theorem ti68 : tinfo Tryd.prog 68 = some (1, false, 8) := by kernel_rfl
theorem tz68 : tzero Tryd.prog 68 = some ([.nilFunc]) := by kernel_rfl
theorem ti70 : tinfo Tryd.prog 70 = some (1, false, 8) := by kernel_rfl
theorem tz70 : tzero Tryd.prog 70 = some ([.nilFunc]) := by kernel_rfl
theorem ti71 : tinfo Tryd.prog 71 = some (1, false, 8) := by kernel_rfl
theorem tz71 : tzero Tryd.prog 71 = some ([.nilFunc]) := by kernel_rfl
theorem ti72 : tinfo Tryd.prog 72 = some (1, false, 24) := by kernel_rfl
theorem tz72 : tzero Tryd.prog 72 = some ([.slice none 0 0]) := by kernel_rfl
theorem ts72 : tslice Tryd.prog 72 = some 46 := by kernel_rfl
theorem ti73 : tinfo Tryd.prog 73 = some (1, false, 8) := by kernel_rfl
theorem tz73 : tzero Tryd.prog 73 = some ([.nilFunc]) := by kernel_rfl
theorem ti74 : tinfo Tryd.prog 74 = some (1, false, 8) := by kernel_rfl
theorem tz74 : tzero Tryd.prog 74 = some ([.nilFunc]) := by kernel_rfl
theorem ti75 : tinfo Tryd.prog 75 = some (66, true, 80) := by kernel_rfl
theorem tz75 : tzero Tryd.prog 75 = some ((hc zeroHash) ++ (hc zeroHash) ++ [.int .i64 0, .int .i64 0]) := by kernel_rfl
theorem tf75_0 : tfield Tryd.prog 75 0 = some (0, 25) := by kernel_rfl
theorem tf75_1 : tfield Tryd.prog 75 1 = some (32, 25) := by kernel_rfl
theorem tf75_2 : tfield Tryd.prog 75 2 = some (64, 3) := by kernel_rfl
theorem tf75_3 : tfield Tryd.prog 75 3 = some (65, 3) := by kernel_rfl
theorem ti76 : tinfo Tryd.prog 76 = some (66, true, 80) := by kernel_rfl
theorem tz76 : tzero Tryd.prog 76 = some ((hc zeroHash) ++ (hc zeroHash) ++ [.int .i64 0, .int .i64 0]) := by kernel_rfl
theorem tf76_0 : tfield Tryd.prog 76 0 = some (0, 25) := by kernel_rfl
theorem tf76_1 : tfield Tryd.prog 76 1 = some (32, 25) := by kernel_rfl
theorem tf76_2 : tfield Tryd.prog 76 2 = some (64, 3) := by kernel_rfl
theorem tf76_3 : tfield Tryd.prog 76 3 = some (65, 3) := by kernel_rfl
theorem ti77 : tinfo Tryd.prog 77 = some (1, false, 8) := by kernel_rfl
theorem tz77 : tzero Tryd.prog 77 = some ([.nilFunc]) := by kernel_rfl
theorem ti78 : tinfo Tryd.prog 78 = some (1, false, 8) := by kernel_rfl
theorem tz78 : tzero Tryd.prog 78 = some ([.nilFunc]) := by kernel_rfl
theorem ti79 : tinfo Tryd.prog 79 = some (1, false, 8) := by kernel_rfl
theorem tz79 : tzero Tryd.prog 79 = some ([.nilFunc]) := by kernel_rfl
theorem ti80 : tinfo Tryd.prog 80 = some (3, true, 24) := by kernel_rfl
theorem tz80 : tzero Tryd.prog 80 = some (List.replicate 3 (.int .i64 0)) := by kernel_rfl
theorem ta80 : tarr Tryd.prog 80 = some (3, 3) := by kernel_rfl
theorem ti81 : tinfo Tryd.prog 81 = some (1, false, 8) := by kernel_rfl
theorem tz81 : tzero Tryd.prog 81 = some ([.nilFunc]) := by kernel_rfl
theorem ti82 : tinfo Tryd.prog 82 = some (1, false, 8) := by kernel_rfl
theorem tz82 : tzero Tryd.prog 82 = some ([.nilFunc]) := by kernel_rfl
theorem ti84 : tinfo Tryd.prog 84 = some (1, false, 8) := by kernel_rfl
theorem tz84 : tzero Tryd.prog 84 = some ([.nilFunc]) := by kernel_rfl
theorem ti85 : tinfo Tryd.prog 85 = some (1, false, 8) := by kernel_rfl
theorem tz85 : tzero Tryd.prog 85 = some ([.nilFunc]) := by kernel_rfl
theorem ti86 : tinfo Tryd.prog 86 = some (1, false, 8) := by kernel_rfl
theorem tz86 : tzero Tryd.prog 86 = some ([.nilFunc]) := by kernel_rfl
theorem ti87 : tinfo Tryd.prog 87 = some (1, false, 8) := by kernel_rfl
theorem tz87 : tzero Tryd.prog 87 = some ([.nilFunc]) := by kernel_rfl
theorem ti88 : tinfo Tryd.prog 88 = some (1, false, 8) := by kernel_rfl
theorem tz88 : tzero Tryd.prog 88 = some ([.nilFunc]) := by kernel_rfl
theorem ti89 : tinfo Tryd.prog 89 = some (3, true, 6) := by kernel_rfl
theorem tz89 : tzero Tryd.prog 89 = some (List.replicate 3 (.int .u16 0)) := by kernel_rfl
theorem ta89 : tarr Tryd.prog 89 = some (3, 39) := by kernel_rfl
theorem ti90 : tinfo Tryd.prog 90 = some (1, false, 8) := by kernel_rfl
theorem tz90 : tzero Tryd.prog 90 = some ([.nilFunc]) := by kernel_rfl
theorem ti91 : tinfo Tryd.prog 91 = some (1, false, 8) := by kernel_rfl
theorem tz91 : tzero Tryd.prog 91 = some ([.nilFunc]) := by kernel_rfl
theorem ti92 : tinfo Tryd.prog 92 = some (1, false, 24) := by kernel_rfl
theorem tz92 : tzero Tryd.prog 92 = some ([.slice none 0 0]) := by kernel_rfl
theorem ts92 : tslice Tryd.prog 92 = some 5 := by kernel_rfl
theorem ti94 : tinfo Tryd.prog 94 = some (1, false, 8) := by kernel_rfl
theorem tz94 : tzero Tryd.prog 94 = some ([.nilFunc]) := by kernel_rfl
theorem ti95 : tinfo Tryd.prog 95 = some (1, false, 8) := by kernel_rfl
theorem tz95 : tzero Tryd.prog 95 = some ([.nilFunc]) := by kernel_rfl
theorem ti96 : tinfo Tryd.prog 96 = some (1, false, 8) := by kernel_rfl
theorem tz96 : tzero Tryd.prog 96 = some ([.nilFunc]) := by kernel_rfl
theorem ti97 : tinfo Tryd.prog 97 = some (1, false, 8) := by kernel_rfl
theorem tz97 : tzero Tryd.prog 97 = some ([.nilFunc]) := by kernel_rfl
theorem ti98 : tinfo Tryd.prog 98 = some (1, false, 8) := by kernel_rfl
theorem tz98 : tzero Tryd.prog 98 = some ([.nilFunc]) := by kernel_rfl
theorem ti99 : tinfo Tryd.prog 99 = some (1, false, 8) := by kernel_rfl
theorem tz99 : tzero Tryd.prog 99 = some ([.nilFunc]) := by kernel_rfl
theorem ti100 : tinfo Tryd.prog 100 = some (1, false, 8) := by kernel_rfl
theorem tz100 : tzero Tryd.prog 100 = some ([.nilFunc]) := by kernel_rfl
theorem ti102 : tinfo Tryd.prog 102 = some (1, false, 8) := by kernel_rfl
theorem tz102 : tzero Tryd.prog 102 = some ([.nilFunc]) := by kernel_rfl
theorem ti103 : tinfo Tryd.prog 103 = some (1, false, 8) := by kernel_rfl
theorem tz103 : tzero Tryd.prog 103 = some ([.nilFunc]) := by kernel_rfl
theorem ti104 : tinfo Tryd.prog 104 = some (1, false, 8) := by kernel_rfl
theorem tz104 : tzero Tryd.prog 104 = some ([.nilFunc]) := by kernel_rfl
theorem ti105 : tinfo Tryd.prog 105 = some (1, false, 8) := by kernel_rfl
theorem tz105 : tzero Tryd.prog 105 = some ([.nilFunc]) := by kernel_rfl
theorem ti106 : tinfo Tryd.prog 106 = some (5, true, 48) := by kernel_rfl
theorem tz106 : tzero Tryd.prog 106 = some ([.int .i64 0, .int .u16 0, .int .u8 0, .slice none 0 0, .int .u16 0]) := by kernel_rfl
theorem tf106_0 : tfield Tryd.prog 106 0 = some (0, 3) := by kernel_rfl
theorem tf106_1 : tfield Tryd.prog 106 1 = some (1, 39) := by kernel_rfl
theorem tf106_2 : tfield Tryd.prog 106 2 = some (2, 5) := by kernel_rfl
theorem tf106_3 : tfield Tryd.prog 106 3 = some (3, 22) := by kernel_rfl
theorem tf106_4 : tfield Tryd.prog 106 4 = some (4, 39) := by kernel_rfl
theorem ti107 : tinfo Tryd.prog 107 = some (5, true, 48) := by kernel_rfl
theorem tz107 : tzero Tryd.prog 107 = some ([.int .i64 0, .int .u16 0, .int .u8 0, .slice none 0 0, .int .u16 0]) := by kernel_rfl
theorem tf107_0 : tfield Tryd.prog 107 0 = some (0, 3) := by kernel_rfl
theorem tf107_1 : tfield Tryd.prog 107 1 = some (1, 39) := by kernel_rfl
theorem tf107_2 : tfield Tryd.prog 107 2 = some (2, 5) := by kernel_rfl
theorem tf107_3 : tfield Tryd.prog 107 3 = some (3, 22) := by kernel_rfl
theorem tf107_4 : tfield Tryd.prog 107 4 = some (4, 39) := by kernel_rfl
theorem ti108 : tinfo Tryd.prog 108 = some (1, false, 8) := by kernel_rfl
theorem tz108 : tzero Tryd.prog 108 = some ([.nilFunc]) := by kernel_rfl
theorem ti109 : tinfo Tryd.prog 109 = some (1, false, 8) := by kernel_rfl
theorem tz109 : tzero Tryd.prog 109 = some ([.nilFunc]) := by kernel_rfl
theorem ti110 : tinfo Tryd.prog 110 = some (256, true, 256) := by kernel_rfl
theorem tz110 : tzero Tryd.prog 110 = some ((hc zeroHash) ++ (hc zeroHash) ++ (hc zeroHash) ++ (hc zeroHash) ++ (hc zeroHash) ++ (hc zeroHash) ++ (hc zeroHash) ++ (hc zeroHash)) := by kernel_rfl
theorem ta110 : tarr Tryd.prog 110 = some (8, 25) := by kernel_rfl
theorem ti111 : tinfo Tryd.prog 111 = some (258, true, 280) := by kernel_rfl
theorem tz111 : tzero Tryd.prog 111 = some ([.bool false, .string ⟨#[]⟩] ++ (hc zeroHash) ++ (hc zeroHash) ++ (hc zeroHash) ++ (hc zeroHash) ++ (hc zeroHash) ++ (hc zeroHash) ++ (hc zeroHash) ++ (hc zeroHash)) := by kernel_rfl
theorem tf111_0 : tfield Tryd.prog 111 0 = some (0, 4) := by kernel_rfl
theorem tf111_1 : tfield Tryd.prog 111 1 = some (1, 9) := by kernel_rfl
theorem tf111_2 : tfield Tryd.prog 111 2 = some (2, 110) := by kernel_rfl
theorem ti112 : tinfo Tryd.prog 112 = some (258, true, 280) := by kernel_rfl
theorem tz112 : tzero Tryd.prog 112 = some ([.bool false, .string ⟨#[]⟩] ++ (hc zeroHash) ++ (hc zeroHash) ++ (hc zeroHash) ++ (hc zeroHash) ++ (hc zeroHash) ++ (hc zeroHash) ++ (hc zeroHash) ++ (hc zeroHash)) := by kernel_rfl
theorem tf112_0 : tfield Tryd.prog 112 0 = some (0, 4) := by kernel_rfl
theorem tf112_1 : tfield Tryd.prog 112 1 = some (1, 9) := by kernel_rfl
theorem tf112_2 : tfield Tryd.prog 112 2 = some (2, 110) := by kernel_rfl
theorem ti113 : tinfo Tryd.prog 113 = some (1, false, 8) := by kernel_rfl
theorem tz113 : tzero Tryd.prog 113 = some ([.nilFunc]) := by kernel_rfl
theorem ti114 : tinfo Tryd.prog 114 = some (1, false, 8) := by kernel_rfl
theorem tz114 : tzero Tryd.prog 114 = some ([.nilFunc]) := by kernel_rfl
theorem ti115 : tinfo Tryd.prog 115 = some (1, false, 8) := by kernel_rfl
theorem tz115 : tzero Tryd.prog 115 = some ([.nilFunc]) := by kernel_rfl
theorem ti116 : tinfo Tryd.prog 116 = some (1, false, 8) := by kernel_rfl
theorem tz116 : tzero Tryd.prog 116 = some ([.nilFunc]) := by kernel_rfl
theorem ti117 : tinfo Tryd.prog 117 = some (1, false, 8) := by kernel_rfl
theorem tz117 : tzero Tryd.prog 117 = some ([.nilFunc]) := by kernel_rfl
theorem ti118 : tinfo Tryd.prog 118 = some (5, true, 48) := by kernel_rfl
theorem tz118 : tzero Tryd.prog 118 = some ([.int .u8 0, .int .u8 0, .int .u8 0, .string ⟨#[]⟩, .slice none 0 0]) := by kernel_rfl
theorem tf118_0 : tfield Tryd.prog 118 0 = some (0, 5) := by kernel_rfl
theorem tf118_1 : tfield Tryd.prog 118 1 = some (1, 5) := by kernel_rfl
theorem tf118_2 : tfield Tryd.prog 118 2 = some (2, 5) := by kernel_rfl
theorem tf118_3 : tfield Tryd.prog 118 3 = some (3, 9) := by kernel_rfl
theorem tf118_4 : tfield Tryd.prog 118 4 = some (4, 22) := by kernel_rfl
theorem ti119 : tinfo Tryd.prog 119 = some (5, true, 48) := by kernel_rfl
theorem tz119 : tzero Tryd.prog 119 = some ([.int .u8 0, .int .u8 0, .int .u8 0, .string ⟨#[]⟩, .slice none 0 0]) := by kernel_rfl
theorem tf119_0 : tfield Tryd.prog 119 0 = some (0, 5) := by kernel_rfl
theorem tf119_1 : tfield Tryd.prog 119 1 = some (1, 5) := by kernel_rfl
theorem tf119_2 : tfield Tryd.prog 119 2 = some (2, 5) := by kernel_rfl
theorem tf119_3 : tfield Tryd.prog 119 3 = some (3, 9) := by kernel_rfl
theorem tf119_4 : tfield Tryd.prog 119 4 = some (4, 22) := by kernel_rfl
theorem ti120 : tinfo Tryd.prog 120 = some (1, false, 8) := by kernel_rfl
theorem tz120 : tzero Tryd.prog 120 = some ([.nilFunc]) := by kernel_rfl
theorem ti121 : tinfo Tryd.prog 121 = some (1, false, 24) := by kernel_rfl
theorem tz121 : tzero Tryd.prog 121 = some ([.slice none 0 0]) := by kernel_rfl
theorem ts121 : tslice Tryd.prog 121 = some 119 := by kernel_rfl
theorem ti122 : tinfo Tryd.prog 122 = some (1, false, 8) := by kernel_rfl
theorem tz122 : tzero Tryd.prog 122 = some ([.pointer none]) := by kernel_rfl
theorem ti124 : tinfo Tryd.prog 124 = some (1, false, 8) := by kernel_rfl
theorem tz124 : tzero Tryd.prog 124 = some ([.nilFunc]) := by kernel_rfl
theorem ti125 : tinfo Tryd.prog 125 = some (1, false, 8) := by kernel_rfl
theorem tz125 : tzero Tryd.prog 125 = some ([.nilFunc]) := by kernel_rfl
theorem ti126 : tinfo Tryd.prog 126 = some (1, false, 8) := by kernel_rfl
theorem tz126 : tzero Tryd.prog 126 = some ([.nilFunc]) := by kernel_rfl
theorem ti127 : tinfo Tryd.prog 127 = some (1, false, 8) := by kernel_rfl
theorem tz127 : tzero Tryd.prog 127 = some ([.nilFunc]) := by kernel_rfl
theorem ti128 : tinfo Tryd.prog 128 = some (1, false, 8) := by kernel_rfl
theorem tz128 : tzero Tryd.prog 128 = some ([.pointer none]) := by kernel_rfl
theorem ti129 : tinfo Tryd.prog 129 = some (71, true, 136) := by kernel_rfl
theorem tz129 : tzero Tryd.prog 129 = some ([.bool false] ++ (hc zeroHash) ++ [.bool false, .int .i64 0] ++ (hc zeroHash) ++ [.int .i64 0, .string ⟨#[]⟩, .slice none 0 0, .pointer none]) := by kernel_rfl
theorem tf129_0 : tfield Tryd.prog 129 0 = some (0, 4) := by kernel_rfl
theorem tf129_1 : tfield Tryd.prog 129 1 = some (1, 25) := by kernel_rfl
theorem tf129_2 : tfield Tryd.prog 129 2 = some (33, 4) := by kernel_rfl
theorem tf129_3 : tfield Tryd.prog 129 3 = some (34, 46) := by kernel_rfl
theorem tf129_4 : tfield Tryd.prog 129 4 = some (70, 128) := by kernel_rfl
theorem ti130 : tinfo Tryd.prog 130 = some (71, true, 136) := by kernel_rfl
theorem tz130 : tzero Tryd.prog 130 = some ([.bool false] ++ (hc zeroHash) ++ [.bool false, .int .i64 0] ++ (hc zeroHash) ++ [.int .i64 0, .string ⟨#[]⟩, .slice none 0 0, .pointer none]) := by kernel_rfl
theorem tf130_0 : tfield Tryd.prog 130 0 = some (0, 4) := by kernel_rfl
theorem tf130_1 : tfield Tryd.prog 130 1 = some (1, 25) := by kernel_rfl
theorem tf130_2 : tfield Tryd.prog 130 2 = some (33, 4) := by kernel_rfl
theorem tf130_3 : tfield Tryd.prog 130 3 = some (34, 46) := by kernel_rfl
theorem tf130_4 : tfield Tryd.prog 130 4 = some (70, 128) := by kernel_rfl
theorem ti131 : tinfo Tryd.prog 131 = some (1, false, 8) := by kernel_rfl
theorem tz131 : tzero Tryd.prog 131 = some ([.nilFunc]) := by kernel_rfl
theorem ti132 : tinfo Tryd.prog 132 = some (3, true, 3) := by kernel_rfl
theorem tz132 : tzero Tryd.prog 132 = some ([.int .u8 0, .int .u8 0, .int .u8 0]) := by kernel_rfl
theorem tf132_0 : tfield Tryd.prog 132 0 = some (0, 5) := by kernel_rfl
theorem tf132_1 : tfield Tryd.prog 132 1 = some (1, 5) := by kernel_rfl
theorem tf132_2 : tfield Tryd.prog 132 2 = some (2, 5) := by kernel_rfl
theorem ti133 : tinfo Tryd.prog 133 = some (3, true, 3) := by kernel_rfl
theorem tz133 : tzero Tryd.prog 133 = some ([.int .u8 0, .int .u8 0, .int .u8 0]) := by kernel_rfl
theorem tf133_0 : tfield Tryd.prog 133 0 = some (0, 5) := by kernel_rfl
theorem tf133_1 : tfield Tryd.prog 133 1 = some (1, 5) := by kernel_rfl
theorem tf133_2 : tfield Tryd.prog 133 2 = some (2, 5) := by kernel_rfl
theorem ti134 : tinfo Tryd.prog 134 = some (1, false, 8) := by kernel_rfl
theorem tz134 : tzero Tryd.prog 134 = some ([.nilFunc]) := by kernel_rfl
theorem ti135 : tinfo Tryd.prog 135 = some (1, false, 8) := by kernel_rfl
theorem tz135 : tzero Tryd.prog 135 = some ([.nilFunc]) := by kernel_rfl
theorem ti136 : tinfo Tryd.prog 136 = some (106, true, 240) := by kernel_rfl
theorem tz136 : tzero Tryd.prog 136 = some ([.int .i64 0, .int .i64 0] ++ (hc zeroHash) ++ [.int .i64 0, .string ⟨#[]⟩, .slice none 0 0, .int .i64 0] ++ (hc zeroHash) ++ [.int .i64 0, .string ⟨#[]⟩, .slice none 0 0] ++ (hc zeroHash) ++ [.slice none 0 0]) := by kernel_rfl
theorem tf136_0 : tfield Tryd.prog 136 0 = some (0, 3) := by kernel_rfl
theorem tf136_1 : tfield Tryd.prog 136 1 = some (1, 46) := by kernel_rfl
theorem tf136_2 : tfield Tryd.prog 136 2 = some (37, 46) := by kernel_rfl
theorem tf136_3 : tfield Tryd.prog 136 3 = some (73, 25) := by kernel_rfl
theorem tf136_4 : tfield Tryd.prog 136 4 = some (105, 22) := by kernel_rfl
theorem ti137 : tinfo Tryd.prog 137 = some (1, false, 8) := by kernel_rfl
theorem tz137 : tzero Tryd.prog 137 = some ([.nilFunc]) := by kernel_rfl
theorem ti138 : tinfo Tryd.prog 138 = some (1, false, 24) := by kernel_rfl
theorem tz138 : tzero Tryd.prog 138 = some ([.slice none 0 0]) := by kernel_rfl
theorem ts138 : tslice Tryd.prog 138 = some 36 := by kernel_rfl
theorem ti140 : tinfo Tryd.prog 140 = some (1, false, 8) := by kernel_rfl
theorem tz140 : tzero Tryd.prog 140 = some ([.nilFunc]) := by kernel_rfl
theorem ti141 : tinfo Tryd.prog 141 = some (1, false, 8) := by kernel_rfl
theorem tz141 : tzero Tryd.prog 141 = some ([.nilFunc]) := by kernel_rfl
theorem ti142 : tinfo Tryd.prog 142 = some (1, false, 8) := by kernel_rfl
theorem tz142 : tzero Tryd.prog 142 = some ([.nilFunc]) := by kernel_rfl
theorem ti143 : tinfo Tryd.prog 143 = some (1, false, 8) := by kernel_rfl
theorem tz143 : tzero Tryd.prog 143 = some ([.nilFunc]) := by kernel_rfl
theorem ti144 : tinfo Tryd.prog 144 = some (1, false, 8) := by kernel_rfl
theorem tz144 : tzero Tryd.prog 144 = some ([.nilFunc]) := by kernel_rfl
theorem ti145 : tinfo Tryd.prog 145 = some (1, false, 8) := by kernel_rfl
theorem tz145 : tzero Tryd.prog 145 = some ([.nilFunc]) := by kernel_rfl
theorem ti146 : tinfo Tryd.prog 146 = some (1, false, 8) := by kernel_rfl
theorem tz146 : tzero Tryd.prog 146 = some ([.nilFunc]) := by kernel_rfl
theorem ti147 : tinfo Tryd.prog 147 = some (1, false, 8) := by kernel_rfl
theorem tz147 : tzero Tryd.prog 147 = some ([.int .u64 0]) := by kernel_rfl
theorem ti148 : tinfo Tryd.prog 148 = some (1, false, 8) := by kernel_rfl
theorem tz148 : tzero Tryd.prog 148 = some ([.nilFunc]) := by kernel_rfl
theorem ti149 : tinfo Tryd.prog 149 = some (1, false, 8) := by kernel_rfl
theorem tz149 : tzero Tryd.prog 149 = some ([.nilFunc]) := by kernel_rfl
theorem ti150 : tinfo Tryd.prog 150 = some (1, false, 8) := by kernel_rfl
theorem tz150 : tzero Tryd.prog 150 = some ([.nilFunc]) := by kernel_rfl
theorem ti152 : tinfo Tryd.prog 152 = some (1, false, 8) := by kernel_rfl
theorem tz152 : tzero Tryd.prog 152 = some ([.nilFunc]) := by kernel_rfl
theorem ti154 : tinfo Tryd.prog 154 = some (1, false, 8) := by kernel_rfl
theorem tz154 : tzero Tryd.prog 154 = some ([.nilFunc]) := by kernel_rfl
theorem ti156 : tinfo Tryd.prog 156 = some (1, false, 8) := by kernel_rfl
theorem tz156 : tzero Tryd.prog 156 = some ([.nilFunc]) := by kernel_rfl
theorem ti158 : tinfo Tryd.prog 158 = some (1, false, 8) := by kernel_rfl
theorem tz158 : tzero Tryd.prog 158 = some ([.nilFunc]) := by kernel_rfl
theorem ti159 : tinfo Tryd.prog 159 = some (1, false, 8) := by kernel_rfl
theorem tz159 : tzero Tryd.prog 159 = some ([.nilFunc]) := by kernel_rfl
theorem ti160 : tinfo Tryd.prog 160 = some (1, false, 24) := by kernel_rfl
theorem tz160 : tzero Tryd.prog 160 = some ([.slice none 0 0]) := by kernel_rfl
theorem ts160 : tslice Tryd.prog 160 = some 162 := by kernel_rfl
theorem ti161 : tinfo Tryd.prog 161 = some (4, true, 40) := by kernel_rfl
theorem tz161 : tzero Tryd.prog 161 = some ([.int .u8 0, .int .i64 0, .int .i64 0, .string ⟨#[]⟩]) := by kernel_rfl
theorem tf161_0 : tfield Tryd.prog 161 0 = some (0, 5) := by kernel_rfl
theorem tf161_1 : tfield Tryd.prog 161 1 = some (1, 3) := by kernel_rfl
theorem tf161_2 : tfield Tryd.prog 161 2 = some (2, 3) := by kernel_rfl
theorem tf161_3 : tfield Tryd.prog 161 3 = some (3, 9) := by kernel_rfl
theorem ti162 : tinfo Tryd.prog 162 = some (4, true, 40) := by kernel_rfl
theorem tz162 : tzero Tryd.prog 162 = some ([.int .u8 0, .int .i64 0, .int .i64 0, .string ⟨#[]⟩]) := by kernel_rfl
theorem tf162_0 : tfield Tryd.prog 162 0 = some (0, 5) := by kernel_rfl
theorem tf162_1 : tfield Tryd.prog 162 1 = some (1, 3) := by kernel_rfl
theorem tf162_2 : tfield Tryd.prog 162 2 = some (2, 3) := by kernel_rfl
theorem tf162_3 : tfield Tryd.prog 162 3 = some (3, 9) := by kernel_rfl
theorem ti163 : tinfo Tryd.prog 163 = some (1, false, 8) := by kernel_rfl
theorem tz163 : tzero Tryd.prog 163 = some ([.nilFunc]) := by kernel_rfl
theorem ti164 : tinfo Tryd.prog 164 = some (1, false, 8) := by kernel_rfl
theorem tz164 : tzero Tryd.prog 164 = some ([.nilFunc]) := by kernel_rfl
theorem ti165 : tinfo Tryd.prog 165 = some (1, false, 8) := by kernel_rfl
theorem tz165 : tzero Tryd.prog 165 = some ([.nilFunc]) := by kernel_rfl
theorem ti167 : tinfo Tryd.prog 167 = some (1, false, 8) := by kernel_rfl
theorem tz167 : tzero Tryd.prog 167 = some ([.nilFunc]) := by kernel_rfl
theorem ti168 : tinfo Tryd.prog 168 = some (1, false, 8) := by kernel_rfl
theorem tz168 : tzero Tryd.prog 168 = some ([.pointer none]) := by kernel_rfl
theorem ti169 : tinfo Tryd.prog 169 = some (2, true, 32) := by kernel_rfl
theorem tz169 : tzero Tryd.prog 169 = some ([.pointer none, .slice none 0 0]) := by kernel_rfl
theorem tf169_0 : tfield Tryd.prog 169 0 = some (0, 168) := by kernel_rfl
theorem tf169_1 : tfield Tryd.prog 169 1 = some (1, 92) := by kernel_rfl
theorem ti170 : tinfo Tryd.prog 170 = some (2, true, 32) := by kernel_rfl
theorem tz170 : tzero Tryd.prog 170 = some ([.pointer none, .slice none 0 0]) := by kernel_rfl
theorem tf170_0 : tfield Tryd.prog 170 0 = some (0, 168) := by kernel_rfl
theorem tf170_1 : tfield Tryd.prog 170 1 = some (1, 92) := by kernel_rfl
theorem ti171 : tinfo Tryd.prog 171 = some (1, false, 8) := by kernel_rfl
theorem tz171 : tzero Tryd.prog 171 = some ([.nilFunc]) := by kernel_rfl
theorem ti175 : tinfo Tryd.prog 175 = some (1, false, 8) := by kernel_rfl
theorem tz175 : tzero Tryd.prog 175 = some ([.nilFunc]) := by kernel_rfl
theorem ti176 : tinfo Tryd.prog 176 = some (1, false, 8) := by kernel_rfl
theorem tz176 : tzero Tryd.prog 176 = some ([.nilFunc]) := by kernel_rfl
theorem ti177 : tinfo Tryd.prog 177 = some (1, false, 8) := by kernel_rfl
theorem tz177 : tzero Tryd.prog 177 = some ([.nilFunc]) := by kernel_rfl
theorem ti178 : tinfo Tryd.prog 178 = some (1, false, 8) := by kernel_rfl
theorem tz178 : tzero Tryd.prog 178 = some ([.nilFunc]) := by kernel_rfl
theorem ti180 : tinfo Tryd.prog 180 = some (1, false, 8) := by kernel_rfl
theorem tz180 : tzero Tryd.prog 180 = some ([.nilFunc]) := by kernel_rfl
theorem ti181 : tinfo Tryd.prog 181 = some (1, false, 8) := by kernel_rfl
theorem tz181 : tzero Tryd.prog 181 = some ([.nilFunc]) := by kernel_rfl
theorem ti182 : tinfo Tryd.prog 182 = some (1, false, 8) := by kernel_rfl
theorem tz182 : tzero Tryd.prog 182 = some ([.nilFunc]) := by kernel_rfl
theorem ti183 : tinfo Tryd.prog 183 = some (1, false, 8) := by kernel_rfl
theorem tz183 : tzero Tryd.prog 183 = some ([.nilFunc]) := by kernel_rfl
theorem ti184 : tinfo Tryd.prog 184 = some (1, false, 8) := by kernel_rfl
theorem tz184 : tzero Tryd.prog 184 = some ([.nilFunc]) := by kernel_rfl
theorem ti185 : tinfo Tryd.prog 185 = some (1, false, 8) := by kernel_rfl
theorem tz185 : tzero Tryd.prog 185 = some ([.nilFunc]) := by kernel_rfl
theorem ti186 : tinfo Tryd.prog 186 = some (1, false, 8) := by kernel_rfl
theorem tz186 : tzero Tryd.prog 186 = some ([.nilFunc]) := by kernel_rfl
theorem ti187 : tinfo Tryd.prog 187 = some (1, false, 4) := by kernel_rfl
theorem tz187 : tzero Tryd.prog 187 = some ([.int .u32 0]) := by kernel_rfl
theorem ti188 : tinfo Tryd.prog 188 = some (8, true, 32) := by kernel_rfl
theorem tz188 : tzero Tryd.prog 188 = some (List.replicate 8 (.int .u32 0)) := by kernel_rfl
theorem ta188 : tarr Tryd.prog 188 = some (8, 187) := by kernel_rfl
theorem ti189 : tinfo Tryd.prog 189 = some (1, false, 8) := by kernel_rfl
theorem tz189 : tzero Tryd.prog 189 = some ([.nilFunc]) := by kernel_rfl
theorem ti190 : tinfo Tryd.prog 190 = some (64, true, 256) := by kernel_rfl
theorem tz190 : tzero Tryd.prog 190 = some (List.replicate 64 (.int .u32 0)) := by kernel_rfl
theorem ta190 : tarr Tryd.prog 190 = some (64, 187) := by kernel_rfl
theorem ti191 : tinfo Tryd.prog 191 = some (1, false, 8) := by kernel_rfl
theorem tz191 : tzero Tryd.prog 191 = some ([.nilFunc]) := by kernel_rfl
theorem ti192 : tinfo Tryd.prog 192 = some (1, false, 8) := by kernel_rfl
theorem tz192 : tzero Tryd.prog 192 = some ([.int .u64 0]) := by kernel_rfl
theorem ti193 : tinfo Tryd.prog 193 = some (1, false, 8) := by kernel_rfl
theorem tz193 : tzero Tryd.prog 193 = some ([.nilFunc]) := by kernel_rfl
theorem ti194 : tinfo Tryd.prog 194 = some (1, false, 8) := by kernel_rfl
theorem tz194 : tzero Tryd.prog 194 = some ([.nilFunc]) := by kernel_rfl
theorem ti195 : tinfo Tryd.prog 195 = some (1, false, 8) := by kernel_rfl
theorem tz195 : tzero Tryd.prog 195 = some ([.nilFunc]) := by kernel_rfl
theorem ti196 : tinfo Tryd.prog 196 = some (1, false, 8) := by kernel_rfl
theorem tz196 : tzero Tryd.prog 196 = some ([.nilFunc]) := by kernel_rfl
theorem ti197 : tinfo Tryd.prog 197 = some (1, false, 8) := by kernel_rfl
theorem tz197 : tzero Tryd.prog 197 = some ([.nilFunc]) := by kernel_rfl
theorem ti198 : tinfo Tryd.prog 198 = some (1, false, 8) := by kernel_rfl
theorem tz198 : tzero Tryd.prog 198 = some ([.nilFunc]) := by kernel_rfl
theorem ti199 : tinfo Tryd.prog 199 = some (1, false, 8) := by kernel_rfl
theorem tz199 : tzero Tryd.prog 199 = some ([.pointer none]) := by kernel_rfl
end Go.Proofs.YtahdekllphehkaaDoor

namespace Go.Proofs
open Go.Shelf
def Tryd.lays105_ren : Go.Shelf.Ren := ⟨fun | 105 => 157 | 212 => 161 | 99 => 162 | 165 => 163 | 166 => 122 | 170 => 164 | 169 => 123 | 263 => 167 | 264 => 168 | 206 => 169 | 240 => 154 | 241 => 170 | 276 => 160 | 277 => 171 | n => n, fun | 9 => 9 | 3 => 3 | 4 => 4 | 20 => 20 | 0 => 0 | 46 => 192 | 109 => 207 | 5 => 5 | 72 => 170 | 76 => 174 | 51 => 187 | 146 => 213 | 53 => 147 | 148 => 215 | 70 => 168 | 37 => 92 | 75 => 173 | 127 => 199 | 164 => 205 | 80 => 176 | n => n, fun | n => n⟩
theorem Tryd.lays105 : Go.Proofs.Lays.n105 Tryd.prog Tryd.lays105_ren := {
  mixed := by kernel_rfl
  f99 := Tryd.func162.trans (congrArg some (by kernel_rfl))
  f105 := Tryd.func157.trans (congrArg some (by kernel_rfl))
  f165 := Tryd.func163.trans (congrArg some (by kernel_rfl))
  f166 := Tryd.func122.trans (congrArg some (by kernel_rfl))
  f169 := Tryd.func123.trans (congrArg some (by kernel_rfl))
  f170 := Tryd.func164.trans (congrArg some (by kernel_rfl))
  f206 := Tryd.func169.trans (congrArg some (by kernel_rfl))
  f212 := Tryd.func161.trans (congrArg some (by kernel_rfl))
  f240 := Tryd.func154.trans (congrArg some (by kernel_rfl))
  f241 := Tryd.func170.trans (congrArg some (by kernel_rfl))
  f263 := Tryd.func167.trans (congrArg some (by kernel_rfl))
  f264 := Tryd.func168.trans (congrArg some (by kernel_rfl))
  f276 := Tryd.func160.trans (congrArg some (by kernel_rfl))
  f277 := Tryd.func171.trans (congrArg some (by kernel_rfl))
  t0 := Tryd.underlying0
  a0 := Tryd.isAgg0
  z0 := Tryd.sizeOf0
  v0 := Tryd.zeroValue0
  t3 := Tryd.underlying3
  a3 := Tryd.isAgg3
  z3 := Tryd.sizeOf3
  v3 := Tryd.zeroValue3
  t4 := Tryd.underlying4
  a4 := Tryd.isAgg4
  z4 := Tryd.sizeOf4
  v4 := Tryd.zeroValue4
  t5 := Tryd.underlying5
  a5 := Tryd.isAgg5
  z5 := Tryd.sizeOf5
  v5 := Tryd.zeroValue5
  t9 := Tryd.underlying9
  a9 := Tryd.isAgg9
  z9 := Tryd.sizeOf9
  v9 := Tryd.zeroValue9
  t20 := Tryd.underlying20
  a20 := Tryd.isAgg20
  z20 := Tryd.sizeOf20
  v20 := Tryd.zeroValue20
  t37 := Tryd.underlying92
  a37 := Tryd.isAgg92
  z37 := Tryd.sizeOf92
  v37 := Tryd.zeroValue92
  t46 := Tryd.underlying192
  a46 := Tryd.isAgg192
  z46 := Tryd.sizeOf192
  v46 := Tryd.zeroValue192
  t51 := Tryd.underlying187
  a51 := Tryd.isAgg187
  z51 := Tryd.sizeOf187
  v51 := Tryd.zeroValue187
  t53 := Tryd.underlying147
  a53 := Tryd.isAgg147
  z53 := Tryd.sizeOf147
  v53 := Tryd.zeroValue147
  t70 := Tryd.underlying168
  a70 := Tryd.isAgg168
  z70 := Tryd.sizeOf168
  v70 := Tryd.zeroValue168
  t72 := Tryd.underlying170
  a72 := Tryd.isAgg170
  z72 := Tryd.sizeOf170
  v72 := Tryd.zeroValue170
  t75 := Tryd.underlying173
  a75 := Tryd.isAgg173
  z75 := Tryd.sizeOf173
  v75 := Tryd.zeroValue173
  t76 := Tryd.underlying174
  a76 := Tryd.isAgg174
  z76 := Tryd.sizeOf174
  v76 := Tryd.zeroValue174
  t109 := Tryd.underlying207
  a109 := Tryd.isAgg207
  z109 := Tryd.sizeOf207
  v109 := Tryd.zeroValue207
  t127 := Tryd.underlying199
  a127 := Tryd.isAgg199
  z127 := Tryd.sizeOf199
  v127 := Tryd.zeroValue199
  t146 := Tryd.underlying213
  a146 := Tryd.isAgg213
  z146 := Tryd.sizeOf213
  v146 := Tryd.zeroValue213
  t148 := Tryd.underlying215
  a148 := Tryd.isAgg215
  z148 := Tryd.sizeOf215
  v148 := Tryd.zeroValue215
  t164 := Tryd.underlying205
  a164 := Tryd.isAgg205
  z164 := Tryd.sizeOf205
  v164 := Tryd.zeroValue205 }
theorem Tryd.Builder_Extra_105 : Builder.Extra Tryd.prog Tryd.lays105_ren := {
  sizeBuilder := by kernel_rfl
  liesBuilder := by kernel_rfl
  t5 := Tryd.underlying5
  a5 := Tryd.isAgg5
  z5 := Tryd.sizeOf5
  v5 := Tryd.zeroValue5
  infoByte := by kernel_rfl
  cellsByte := by kernel_rfl
  sizeByte := by kernel_rfl
  neB5 := by decide }
open Go.RowKit Go.Lib in
theorem Tryd.strings_Repeat (s : ByteArray) (c : Nat) (w : World) (hc : c ≤ 9223372036854775807) (hlen : s.size * c ≤ 140737488355328) :
    Calls Tryd.prog 157 #[.string s, .int .i64 c] w fun e w' => e = .returned (.string ⟨(Lib.repeatL s.data.toList c).toArray⟩) ∧ Below w.heap.size w w' := Any.strings_Repeat Tryd.lays105 Tryd.Builder_Extra_105 s c w hc hlen
end Go.Proofs

