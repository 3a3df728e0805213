/- That a call of each function of the seat's program enters it; no statement of the seat is proved here. -/
import Derived.Test.YtahdekllphehkaaDoorML
import Derived.Test.YtahdekllphehkaaProg
namespace Go.Proofs.Ytahdekllphehkaa
open Go.WL
theorem en3 (args : Array Value) (w : World) : (callFunc 3 args).run Try.prog w = .ok (.enter 3 args) w := run_callFunc Try.func3 (by kernel_rfl) (by kernel_rfl) args w
theorem en4 (args : Array Value) (w : World) : (callFunc 4 args).run Try.prog w = .ok (.enter 4 args) w := run_callFunc Try.func4 (by kernel_rfl) (by kernel_rfl) args w
theorem en5 (args : Array Value) (w : World) : (callFunc 5 args).run Try.prog w = .ok (.enter 5 args) w := run_callFunc Try.func5 (by kernel_rfl) (by kernel_rfl) args w
theorem en6 (args : Array Value) (w : World) : (callFunc 6 args).run Try.prog w = .ok (.enter 6 args) w := run_callFunc Try.func6 (by kernel_rfl) (by kernel_rfl) args w
theorem en7 (args : Array Value) (w : World) : (callFunc 7 args).run Try.prog w = .ok (.enter 7 args) w := run_callFunc Try.func7 (by kernel_rfl) (by kernel_rfl) args w
theorem en8 (args : Array Value) (w : World) : (callFunc 8 args).run Try.prog w = .ok (.enter 8 args) w := run_callFunc Try.func8 (by kernel_rfl) (by kernel_rfl) args w
theorem en9 (args : Array Value) (w : World) : (callFunc 9 args).run Try.prog w = .ok (.enter 9 args) w := run_callFunc Try.func9 (by kernel_rfl) (by kernel_rfl) args w
theorem en10 (args : Array Value) (w : World) : (callFunc 10 args).run Try.prog w = .ok (.enter 10 args) w := run_callFunc Try.func10 (by kernel_rfl) (by kernel_rfl) args w
theorem en11 (args : Array Value) (w : World) : (callFunc 11 args).run Try.prog w = .ok (.enter 11 args) w := run_callFunc Try.func11 (by kernel_rfl) (by kernel_rfl) args w
theorem en12 (args : Array Value) (w : World) : (callFunc 12 args).run Try.prog w = .ok (.enter 12 args) w := run_callFunc Try.func12 (by kernel_rfl) (by kernel_rfl) args w
theorem en13 (args : Array Value) (w : World) : (callFunc 13 args).run Try.prog w = .ok (.enter 13 args) w := run_callFunc Try.func13 (by kernel_rfl) (by kernel_rfl) args w
theorem en14 (args : Array Value) (w : World) : (callFunc 14 args).run Try.prog w = .ok (.enter 14 args) w := run_callFunc Try.func14 (by kernel_rfl) (by kernel_rfl) args w
theorem en15 (args : Array Value) (w : World) : (callFunc 15 args).run Try.prog w = .ok (.enter 15 args) w := run_callFunc Try.func15 (by kernel_rfl) (by kernel_rfl) args w
theorem en16 (args : Array Value) (w : World) : (callFunc 16 args).run Try.prog w = .ok (.enter 16 args) w := run_callFunc Try.func16 (by kernel_rfl) (by kernel_rfl) args w
theorem en17 (args : Array Value) (w : World) : (callFunc 17 args).run Try.prog w = .ok (.enter 17 args) w := run_callFunc Try.func17 (by kernel_rfl) (by kernel_rfl) args w
theorem en18 (args : Array Value) (w : World) : (callFunc 18 args).run Try.prog w = .ok (.enter 18 args) w := run_callFunc Try.func18 (by kernel_rfl) (by kernel_rfl) args w
theorem en19 (args : Array Value) (w : World) : (callFunc 19 args).run Try.prog w = .ok (.enter 19 args) w := run_callFunc Try.func19 (by kernel_rfl) (by kernel_rfl) args w
theorem en20 (args : Array Value) (w : World) : (callFunc 20 args).run Try.prog w = .ok (.enter 20 args) w := run_callFunc Try.func20 (by kernel_rfl) (by kernel_rfl) args w
theorem en21 (args : Array Value) (w : World) : (callFunc 21 args).run Try.prog w = .ok (.enter 21 args) w := run_callFunc Try.func21 (by kernel_rfl) (by kernel_rfl) args w
theorem en22 (args : Array Value) (w : World) : (callFunc 22 args).run Try.prog w = .ok (.enter 22 args) w := run_callFunc Try.func22 (by kernel_rfl) (by kernel_rfl) args w
theorem en23 (args : Array Value) (w : World) : (callFunc 23 args).run Try.prog w = .ok (.enter 23 args) w := run_callFunc Try.func23 (by kernel_rfl) (by kernel_rfl) args w
theorem en24 (args : Array Value) (w : World) : (callFunc 24 args).run Try.prog w = .ok (.enter 24 args) w := run_callFunc Try.func24 (by kernel_rfl) (by kernel_rfl) args w
theorem en25 (args : Array Value) (w : World) : (callFunc 25 args).run Try.prog w = .ok (.enter 25 args) w := run_callFunc Try.func25 (by kernel_rfl) (by kernel_rfl) args w
theorem en26 (args : Array Value) (w : World) : (callFunc 26 args).run Try.prog w = .ok (.enter 26 args) w := run_callFunc Try.func26 (by kernel_rfl) (by kernel_rfl) args w
theorem en27 (args : Array Value) (w : World) : (callFunc 27 args).run Try.prog w = .ok (.enter 27 args) w := run_callFunc Try.func27 (by kernel_rfl) (by kernel_rfl) args w
theorem en28 (args : Array Value) (w : World) : (callFunc 28 args).run Try.prog w = .ok (.enter 28 args) w := run_callFunc Try.func28 (by kernel_rfl) (by kernel_rfl) args w
theorem en29 (args : Array Value) (w : World) : (callFunc 29 args).run Try.prog w = .ok (.enter 29 args) w := run_callFunc Try.func29 (by kernel_rfl) (by kernel_rfl) args w
theorem en30 (args : Array Value) (w : World) : (callFunc 30 args).run Try.prog w = .ok (.enter 30 args) w := run_callFunc Try.func30 (by kernel_rfl) (by kernel_rfl) args w
theorem en31 (args : Array Value) (w : World) : (callFunc 31 args).run Try.prog w = .ok (.enter 31 args) w := run_callFunc Try.func31 (by kernel_rfl) (by kernel_rfl) args w
theorem en32 (args : Array Value) (w : World) : (callFunc 32 args).run Try.prog w = .ok (.enter 32 args) w := run_callFunc Try.func32 (by kernel_rfl) (by kernel_rfl) args w
theorem en33 (args : Array Value) (w : World) : (callFunc 33 args).run Try.prog w = .ok (.enter 33 args) w := run_callFunc Try.func33 (by kernel_rfl) (by kernel_rfl) args w
theorem en34 (args : Array Value) (w : World) : (callFunc 34 args).run Try.prog w = .ok (.enter 34 args) w := run_callFunc Try.func34 (by kernel_rfl) (by kernel_rfl) args w
theorem en35 (args : Array Value) (w : World) : (callFunc 35 args).run Try.prog w = .ok (.enter 35 args) w := run_callFunc Try.func35 (by kernel_rfl) (by kernel_rfl) args w
theorem en36 (args : Array Value) (w : World) : (callFunc 36 args).run Try.prog w = .ok (.enter 36 args) w := run_callFunc Try.func36 (by kernel_rfl) (by kernel_rfl) args w
theorem en37 (args : Array Value) (w : World) : (callFunc 37 args).run Try.prog w = .ok (.enter 37 args) w := run_callFunc Try.func37 (by kernel_rfl) (by kernel_rfl) args w
theorem mixed : Try.prog.follows .mixedOrders = true := by kernel_rfl
end Go.Proofs.Ytahdekllphehkaa
