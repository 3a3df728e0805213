/- Facts on the types of the seat's program; no statement of the seat is proved here. -/
import Derived.Test.YtahdekllphehkaaDoorL5
import Derived.Test.YtahdekllphehkaaDoorProg
namespace Go.Proofs.YtahdekllphehkaaDoor
open Go.WL Go.Spec
set_option maxRecDepth 100000
theorem ti1 : tinfo Tryd.prog 1 = some (1, false, 8) := by kernel_rfl
theorem tz1 : tzero Tryd.prog 1 = some ([.nilFunc]) := by kernel_rfl
theorem ti2 : tinfo Tryd.prog 2 = some (1, false, 8) := by kernel_rfl
theorem tz2 : tzero Tryd.prog 2 = some ([.int .i64 0]) := by kernel_rfl
theorem ti3 : tinfo Tryd.prog 3 = some (1, false, 8) := by kernel_rfl
theorem tz3 : tzero Tryd.prog 3 = some ([.int .i64 0]) := by kernel_rfl
theorem ti4 : tinfo Tryd.prog 4 = some (1, false, 1) := by kernel_rfl
theorem tz4 : tzero Tryd.prog 4 = some ([.bool false]) := by kernel_rfl
theorem ti5 : tinfo Tryd.prog 5 = some (1, false, 1) := by kernel_rfl
theorem tz5 : tzero Tryd.prog 5 = some ([.int .u8 0]) := by kernel_rfl
theorem ti6 : tinfo Tryd.prog 6 = some (1, false, 1) := by kernel_rfl
theorem tz6 : tzero Tryd.prog 6 = some ([.int .u8 0]) := by kernel_rfl
theorem ti7 : tinfo Tryd.prog 7 = some (4, true, 24) := by kernel_rfl
theorem tz7 : tzero Tryd.prog 7 = some ([.int .i64 0, .int .i64 0, .bool false, .int .u8 0]) := by kernel_rfl
theorem tf7_0 : tfield Tryd.prog 7 0 = some (0, 2) := by kernel_rfl
theorem tf7_1 : tfield Tryd.prog 7 1 = some (1, 3) := by kernel_rfl
theorem tf7_2 : tfield Tryd.prog 7 2 = some (2, 4) := by kernel_rfl
theorem tf7_3 : tfield Tryd.prog 7 3 = some (3, 6) := by kernel_rfl
theorem ti8 : tinfo Tryd.prog 8 = some (4, true, 24) := by kernel_rfl
theorem tz8 : tzero Tryd.prog 8 = some ([.int .i64 0, .int .i64 0, .bool false, .int .u8 0]) := by kernel_rfl
theorem tf8_0 : tfield Tryd.prog 8 0 = some (0, 2) := by kernel_rfl
theorem tf8_1 : tfield Tryd.prog 8 1 = some (1, 3) := by kernel_rfl
theorem tf8_2 : tfield Tryd.prog 8 2 = some (2, 4) := by kernel_rfl
theorem tf8_3 : tfield Tryd.prog 8 3 = some (3, 6) := by kernel_rfl
theorem ti9 : tinfo Tryd.prog 9 = some (1, false, 16) := by kernel_rfl
theorem tz9 : tzero Tryd.prog 9 = some ([.string ⟨#[]⟩]) := by kernel_rfl
theorem tt9 : tstr Tryd.prog 9 = true := by kernel_rfl
theorem ti10 : tinfo Tryd.prog 10 = some (1, false, 16) := by kernel_rfl
theorem tz10 : tzero Tryd.prog 10 = some ([.string ⟨#[]⟩]) := by kernel_rfl
theorem tt10 : tstr Tryd.prog 10 = true := by kernel_rfl
theorem ti11 : tinfo Tryd.prog 11 = some (1, false, 16) := by kernel_rfl
theorem tz11 : tzero Tryd.prog 11 = some ([.string ⟨#[]⟩]) := by kernel_rfl
theorem tt11 : tstr Tryd.prog 11 = true := by kernel_rfl
theorem ti12 : tinfo Tryd.prog 12 = some (1, false, 8) := by kernel_rfl
theorem tz12 : tzero Tryd.prog 12 = some ([.int .u64 0]) := by kernel_rfl
theorem ti13 : tinfo Tryd.prog 13 = some (2, true, 24) := by kernel_rfl
theorem tz13 : tzero Tryd.prog 13 = some ([.string ⟨#[]⟩, .int .u64 0]) := by kernel_rfl
theorem tf13_0 : tfield Tryd.prog 13 0 = some (0, 9) := by kernel_rfl
theorem tf13_1 : tfield Tryd.prog 13 1 = some (1, 12) := by kernel_rfl
theorem ti14 : tinfo Tryd.prog 14 = some (2, true, 24) := by kernel_rfl
theorem tz14 : tzero Tryd.prog 14 = some ([.string ⟨#[]⟩, .int .u64 0]) := by kernel_rfl
theorem tf14_0 : tfield Tryd.prog 14 0 = some (0, 9) := by kernel_rfl
theorem tf14_1 : tfield Tryd.prog 14 1 = some (1, 12) := by kernel_rfl
theorem ti15 : tinfo Tryd.prog 15 = some (1, false, 8) := by kernel_rfl
theorem tz15 : tzero Tryd.prog 15 = some ([.pointer none]) := by kernel_rfl
theorem ti16 : tinfo Tryd.prog 16 = some (1, false, 8) := by kernel_rfl
theorem tz16 : tzero Tryd.prog 16 = some ([.pointer none]) := by kernel_rfl
theorem ti17 : tinfo Tryd.prog 17 = some (1, false, 8) := by kernel_rfl
theorem tz17 : tzero Tryd.prog 17 = some ([.pointer none]) := by kernel_rfl
theorem ti18 : tinfo Tryd.prog 18 = some (1, true, 8) := by kernel_rfl
theorem tz18 : tzero Tryd.prog 18 = some ([.pointer none]) := by kernel_rfl
theorem tf18_0 : tfield Tryd.prog 18 0 = some (0, 17) := by kernel_rfl
theorem ti19 : tinfo Tryd.prog 19 = some (1, true, 8) := by kernel_rfl
theorem tz19 : tzero Tryd.prog 19 = some ([.pointer none]) := by kernel_rfl
theorem tf19_0 : tfield Tryd.prog 19 0 = some (0, 17) := by kernel_rfl
theorem ti21 : tinfo Tryd.prog 21 = some (1, false, 4) := by kernel_rfl
theorem tz21 : tzero Tryd.prog 21 = some ([.int .i32 0]) := by kernel_rfl
theorem ti22 : tinfo Tryd.prog 22 = some (1, false, 24) := by kernel_rfl
theorem tz22 : tzero Tryd.prog 22 = some ([.slice none 0 0]) := by kernel_rfl
theorem ts22 : tslice Tryd.prog 22 = some 25 := by kernel_rfl
theorem ti23 : tinfo Tryd.prog 23 = some (1, false, 8) := by kernel_rfl
theorem tz23 : tzero Tryd.prog 23 = some ([.nilFunc]) := by kernel_rfl
theorem ti24 : tinfo Tryd.prog 24 = some (32, true, 32) := by kernel_rfl
theorem tz24 : tzero Tryd.prog 24 = some (hc zeroHash) := by kernel_rfl
theorem ta24 : tarr Tryd.prog 24 = some (32, 5) := by kernel_rfl
theorem ti25 : tinfo Tryd.prog 25 = some (32, true, 32) := by kernel_rfl
theorem tz25 : tzero Tryd.prog 25 = some (hc zeroHash) := by kernel_rfl
theorem ta25 : tarr Tryd.prog 25 = some (32, 5) := by kernel_rfl
theorem ti26 : tinfo Tryd.prog 26 = some (1, false, 8) := by kernel_rfl
theorem tz26 : tzero Tryd.prog 26 = some ([.nilFunc]) := by kernel_rfl
theorem ti27 : tinfo Tryd.prog 27 = some (1, false, 8) := by kernel_rfl
theorem tz27 : tzero Tryd.prog 27 = some ([.nilFunc]) := by kernel_rfl
theorem ti28 : tinfo Tryd.prog 28 = some (1, false, 8) := by kernel_rfl
theorem tz28 : tzero Tryd.prog 28 = some ([.nilFunc]) := by kernel_rfl
theorem ti29 : tinfo Tryd.prog 29 = some (1, false, 8) := by kernel_rfl
theorem tz29 : tzero Tryd.prog 29 = some ([.nilFunc]) := by kernel_rfl
theorem ti30 : tinfo Tryd.prog 30 = some (1, false, 8) := by kernel_rfl
theorem tz30 : tzero Tryd.prog 30 = some ([.nilFunc]) := by kernel_rfl
theorem ti31 : tinfo Tryd.prog 31 = some (1, false, 8) := by kernel_rfl
theorem tz31 : tzero Tryd.prog 31 = some ([.nilFunc]) := by kernel_rfl
theorem ti32 : tinfo Tryd.prog 32 = some (33, true, 40) := by kernel_rfl
theorem tz32 : tzero Tryd.prog 32 = some ([.int .i64 0] ++ (hc zeroHash)) := by kernel_rfl
theorem tf32_0 : tfield Tryd.prog 32 0 = some (0, 3) := by kernel_rfl
theorem tf32_1 : tfield Tryd.prog 32 1 = some (1, 25) := by kernel_rfl
theorem ti33 : tinfo Tryd.prog 33 = some (33, true, 40) := by kernel_rfl
theorem tz33 : tzero Tryd.prog 33 = some ([.int .i64 0] ++ (hc zeroHash)) := by kernel_rfl
theorem tf33_0 : tfield Tryd.prog 33 0 = some (0, 3) := by kernel_rfl
theorem tf33_1 : tfield Tryd.prog 33 1 = some (1, 25) := by kernel_rfl
theorem ti34 : tinfo Tryd.prog 34 = some (1, false, 1) := by kernel_rfl
theorem tz34 : tzero Tryd.prog 34 = some ([.int .i8 0]) := by kernel_rfl
theorem ti35 : tinfo Tryd.prog 35 = some (37, true, 96) := by kernel_rfl
theorem tz35 : tzero Tryd.prog 35 = some ([.int .i64 0] ++ (hc zeroHash) ++ [.int .i64 0, .string ⟨#[]⟩, .int .i8 0, .slice none 0 0]) := by kernel_rfl
theorem tf35_0 : tfield Tryd.prog 35 0 = some (0, 33) := by kernel_rfl
theorem tf35_1 : tfield Tryd.prog 35 1 = some (33, 3) := by kernel_rfl
theorem tf35_2 : tfield Tryd.prog 35 2 = some (34, 9) := by kernel_rfl
theorem tf35_3 : tfield Tryd.prog 35 3 = some (35, 34) := by kernel_rfl
theorem tf35_4 : tfield Tryd.prog 35 4 = some (36, 22) := by kernel_rfl
theorem ti36 : tinfo Tryd.prog 36 = some (37, true, 96) := by kernel_rfl
theorem tz36 : tzero Tryd.prog 36 = some ([.int .i64 0] ++ (hc zeroHash) ++ [.int .i64 0, .string ⟨#[]⟩, .int .i8 0, .slice none 0 0]) := by kernel_rfl
theorem tf36_0 : tfield Tryd.prog 36 0 = some (0, 33) := by kernel_rfl
theorem tf36_1 : tfield Tryd.prog 36 1 = some (33, 3) := by kernel_rfl
theorem tf36_2 : tfield Tryd.prog 36 2 = some (34, 9) := by kernel_rfl
theorem tf36_3 : tfield Tryd.prog 36 3 = some (35, 34) := by kernel_rfl
theorem tf36_4 : tfield Tryd.prog 36 4 = some (36, 22) := by kernel_rfl
theorem ti37 : tinfo Tryd.prog 37 = some (108, true, 256) := by kernel_rfl
theorem tz37 : tzero Tryd.prog 37 = some ([.int .i64 0, .int .i64 0] ++ (hc zeroHash) ++ [.int .i64 0, .string ⟨#[]⟩, .int .i8 0, .slice none 0 0, .int .i64 0] ++ (hc zeroHash) ++ [.int .i64 0, .string ⟨#[]⟩, .int .i8 0, .slice none 0 0] ++ (hc zeroHash) ++ [.slice none 0 0]) := by kernel_rfl
theorem tf37_0 : tfield Tryd.prog 37 0 = some (0, 3) := by kernel_rfl
theorem tf37_1 : tfield Tryd.prog 37 1 = some (1, 36) := by kernel_rfl
theorem tf37_2 : tfield Tryd.prog 37 2 = some (38, 36) := by kernel_rfl
theorem tf37_3 : tfield Tryd.prog 37 3 = some (75, 25) := by kernel_rfl
theorem tf37_4 : tfield Tryd.prog 37 4 = some (107, 22) := by kernel_rfl
theorem ti38 : tinfo Tryd.prog 38 = some (108, true, 256) := by kernel_rfl
theorem tz38 : tzero Tryd.prog 38 = some ([.int .i64 0, .int .i64 0] ++ (hc zeroHash) ++ [.int .i64 0, .string ⟨#[]⟩, .int .i8 0, .slice none 0 0, .int .i64 0] ++ (hc zeroHash) ++ [.int .i64 0, .string ⟨#[]⟩, .int .i8 0, .slice none 0 0] ++ (hc zeroHash) ++ [.slice none 0 0]) := by kernel_rfl
theorem tf38_0 : tfield Tryd.prog 38 0 = some (0, 3) := by kernel_rfl
theorem tf38_1 : tfield Tryd.prog 38 1 = some (1, 36) := by kernel_rfl
theorem tf38_2 : tfield Tryd.prog 38 2 = some (38, 36) := by kernel_rfl
theorem tf38_3 : tfield Tryd.prog 38 3 = some (75, 25) := by kernel_rfl
theorem tf38_4 : tfield Tryd.prog 38 4 = some (107, 22) := by kernel_rfl
theorem ti39 : tinfo Tryd.prog 39 = some (1, false, 2) := by kernel_rfl
theorem tz39 : tzero Tryd.prog 39 = some ([.int .u16 0]) := by kernel_rfl
theorem ti40 : tinfo Tryd.prog 40 = some (1, false, 8) := by kernel_rfl
theorem tz40 : tzero Tryd.prog 40 = some ([.int .i64 0]) := by kernel_rfl
theorem ti42 : tinfo Tryd.prog 42 = some (1, false, 8) := by kernel_rfl
theorem tz42 : tzero Tryd.prog 42 = some ([.nilFunc]) := by kernel_rfl
theorem ti43 : tinfo Tryd.prog 43 = some (3, true, 48) := by kernel_rfl
theorem tz43 : tzero Tryd.prog 43 = some ([.int .i64 0, .string ⟨#[]⟩, .slice none 0 0]) := by kernel_rfl
theorem tf43_0 : tfield Tryd.prog 43 0 = some (0, 3) := by kernel_rfl
theorem tf43_1 : tfield Tryd.prog 43 1 = some (1, 9) := by kernel_rfl
theorem tf43_2 : tfield Tryd.prog 43 2 = some (2, 22) := by kernel_rfl
theorem ti44 : tinfo Tryd.prog 44 = some (3, true, 48) := by kernel_rfl
theorem tz44 : tzero Tryd.prog 44 = some ([.int .i64 0, .string ⟨#[]⟩, .slice none 0 0]) := by kernel_rfl
theorem tf44_0 : tfield Tryd.prog 44 0 = some (0, 3) := by kernel_rfl
theorem tf44_1 : tfield Tryd.prog 44 1 = some (1, 9) := by kernel_rfl
theorem tf44_2 : tfield Tryd.prog 44 2 = some (2, 22) := by kernel_rfl
theorem ti45 : tinfo Tryd.prog 45 = some (36, true, 88) := by kernel_rfl
theorem tz45 : tzero Tryd.prog 45 = some ([.int .i64 0] ++ (hc zeroHash) ++ [.int .i64 0, .string ⟨#[]⟩, .slice none 0 0]) := by kernel_rfl
theorem tf45_0 : tfield Tryd.prog 45 0 = some (0, 33) := by kernel_rfl
theorem tf45_1 : tfield Tryd.prog 45 1 = some (33, 44) := by kernel_rfl
theorem ti46 : tinfo Tryd.prog 46 = some (36, true, 88) := by kernel_rfl
theorem tz46 : tzero Tryd.prog 46 = some ([.int .i64 0] ++ (hc zeroHash) ++ [.int .i64 0, .string ⟨#[]⟩, .slice none 0 0]) := by kernel_rfl
theorem tf46_0 : tfield Tryd.prog 46 0 = some (0, 33) := by kernel_rfl
theorem tf46_1 : tfield Tryd.prog 46 1 = some (33, 44) := by kernel_rfl
theorem ti47 : tinfo Tryd.prog 47 = some (106, true, 240) := by kernel_rfl
theorem tz47 : tzero Tryd.prog 47 = some ([.int .i64 0, .int .i64 0] ++ (hc zeroHash) ++ [.int .i64 0, .string ⟨#[]⟩, .slice none 0 0, .int .i64 0] ++ (hc zeroHash) ++ [.int .i64 0, .string ⟨#[]⟩, .slice none 0 0] ++ (hc zeroHash) ++ [.slice none 0 0]) := by kernel_rfl
theorem tf47_0 : tfield Tryd.prog 47 0 = some (0, 3) := by kernel_rfl
theorem tf47_1 : tfield Tryd.prog 47 1 = some (1, 46) := by kernel_rfl
theorem tf47_2 : tfield Tryd.prog 47 2 = some (37, 46) := by kernel_rfl
theorem tf47_3 : tfield Tryd.prog 47 3 = some (73, 25) := by kernel_rfl
theorem tf47_4 : tfield Tryd.prog 47 4 = some (105, 22) := by kernel_rfl
theorem ti48 : tinfo Tryd.prog 48 = some (106, true, 240) := by kernel_rfl
theorem tz48 : tzero Tryd.prog 48 = some ([.int .i64 0, .int .i64 0] ++ (hc zeroHash) ++ [.int .i64 0, .string ⟨#[]⟩, .slice none 0 0, .int .i64 0] ++ (hc zeroHash) ++ [.int .i64 0, .string ⟨#[]⟩, .slice none 0 0] ++ (hc zeroHash) ++ [.slice none 0 0]) := by kernel_rfl
theorem tf48_0 : tfield Tryd.prog 48 0 = some (0, 3) := by kernel_rfl
theorem tf48_1 : tfield Tryd.prog 48 1 = some (1, 46) := by kernel_rfl
theorem tf48_2 : tfield Tryd.prog 48 2 = some (37, 46) := by kernel_rfl
theorem tf48_3 : tfield Tryd.prog 48 3 = some (73, 25) := by kernel_rfl
theorem tf48_4 : tfield Tryd.prog 48 4 = some (105, 22) := by kernel_rfl
theorem ti49 : tinfo Tryd.prog 49 = some (1, false, 8) := by kernel_rfl
theorem tz49 : tzero Tryd.prog 49 = some ([.nilFunc]) := by kernel_rfl
theorem ti50 : tinfo Tryd.prog 50 = some (1, false, 8) := by kernel_rfl
theorem tz50 : tzero Tryd.prog 50 = some ([.nilFunc]) := by kernel_rfl
theorem ti52 : tinfo Tryd.prog 52 = some (1, false, 8) := by kernel_rfl
theorem tz52 : tzero Tryd.prog 52 = some ([.nilFunc]) := by kernel_rfl
theorem ti53 : tinfo Tryd.prog 53 = some (1, false, 8) := by kernel_rfl
theorem tz53 : tzero Tryd.prog 53 = some ([.nilFunc]) := by kernel_rfl
theorem ti54 : tinfo Tryd.prog 54 = some (1, false, 8) := by kernel_rfl
theorem tz54 : tzero Tryd.prog 54 = some ([.nilFunc]) := by kernel_rfl
theorem ti55 : tinfo Tryd.prog 55 = some (64, true, 64) := by kernel_rfl
theorem tz55 : tzero Tryd.prog 55 = some ((hc zeroHash) ++ (hc zeroHash)) := by kernel_rfl
theorem ta55 : tarr Tryd.prog 55 = some (2, 25) := by kernel_rfl
theorem ti56 : tinfo Tryd.prog 56 = some (1, false, 8) := by kernel_rfl
theorem tz56 : tzero Tryd.prog 56 = some ([.nilFunc]) := by kernel_rfl
theorem ti57 : tinfo Tryd.prog 57 = some (1, false, 8) := by kernel_rfl
theorem tz57 : tzero Tryd.prog 57 = some ([.nilFunc]) := by kernel_rfl
theorem ti59 : tinfo Tryd.prog 59 = some (1, false, 8) := by kernel_rfl
theorem tz59 : tzero Tryd.prog 59 = some ([.nilFunc]) := by kernel_rfl
theorem ti60 : tinfo Tryd.prog 60 = some (1, false, 8) := by kernel_rfl
theorem tz60 : tzero Tryd.prog 60 = some ([.nilFunc]) := by kernel_rfl
theorem ti61 : tinfo Tryd.prog 61 = some (1, false, 8) := by kernel_rfl
theorem tz61 : tzero Tryd.prog 61 = some ([.nilFunc]) := by kernel_rfl
theorem ti62 : tinfo Tryd.prog 62 = some (1, false, 24) := by kernel_rfl
theorem tz62 : tzero Tryd.prog 62 = some ([.slice none 0 0]) := by kernel_rfl
theorem ts62 : tslice Tryd.prog 62 = some 9 := by kernel_rfl
theorem ti63 : tinfo Tryd.prog 63 = some (2, true, 2) := by kernel_rfl
theorem tz63 : tzero Tryd.prog 63 = some (List.replicate 2 (.int .u8 0)) := by kernel_rfl
theorem ta63 : tarr Tryd.prog 63 = some (2, 5) := by kernel_rfl
theorem ti64 : tinfo Tryd.prog 64 = some (1, false, 8) := by kernel_rfl
theorem tz64 : tzero Tryd.prog 64 = some ([.nilFunc]) := by kernel_rfl
theorem ti65 : tinfo Tryd.prog 65 = some (1, false, 8) := by kernel_rfl
theorem tz65 : tzero Tryd.prog 65 = some ([.pointer none]) := by kernel_rfl
theorem ti66 : tinfo Tryd.prog 66 = some (2, true, 32) := by kernel_rfl
theorem tz66 : tzero Tryd.prog 66 = some ([.pointer none, .slice none 0 0]) := by kernel_rfl
theorem tf66_0 : tfield Tryd.prog 66 0 = some (0, 65) := by kernel_rfl
theorem tf66_1 : tfield Tryd.prog 66 1 = some (1, 62) := by kernel_rfl
theorem ti67 : tinfo Tryd.prog 67 = some (2, true, 32) := by kernel_rfl
theorem tz67 : tzero Tryd.prog 67 = some ([.pointer none, .slice none 0 0]) := by kernel_rfl
theorem tf67_0 : tfield Tryd.prog 67 0 = some (0, 65) := by kernel_rfl
theorem tf67_1 : tfield Tryd.prog 67 1 = some (1, 62) := by kernel_rfl
theorem ti68 : tinfo Tryd.prog 68 = some (1, false, 8) := by kernel_rfl
theorem tz68 : tzero Tryd.prog 68 = some ([.nilFunc]) := by kernel_rfl
theorem ti70 : tinfo Tryd.prog 70 = some (1, false, 8) := by kernel_rfl
theorem tz70 : tzero Tryd.prog 70 = some ([.nilFunc]) := by kernel_rfl
theorem ti71 : tinfo Tryd.prog 71 = some (1, false, 8) := by kernel_rfl
theorem tz71 : tzero Tryd.prog 71 = some ([.nilFunc]) := by kernel_rfl
theorem ti72 : tinfo Tryd.prog 72 = some (1, false, 24) := by kernel_rfl
theorem tz72 : tzero Tryd.prog 72 = some ([.slice none 0 0]) := by kernel_rfl
theorem ts72 : tslice Tryd.prog 72 = some 46 := by kernel_rfl
theorem ti73 : tinfo Tryd.prog 73 = some (1, false, 8) := by kernel_rfl
theorem tz73 : tzero Tryd.prog 73 = some ([.nilFunc]) := by kernel_rfl
theorem ti74 : tinfo Tryd.prog 74 = some (1, false, 8) := by kernel_rfl
theorem tz74 : tzero Tryd.prog 74 = some ([.nilFunc]) := by kernel_rfl
theorem ti75 : tinfo Tryd.prog 75 = some (66, true, 80) := by kernel_rfl
theorem tz75 : tzero Tryd.prog 75 = some ((hc zeroHash) ++ (hc zeroHash) ++ [.int .i64 0, .int .i64 0]) := by kernel_rfl
theorem tf75_0 : tfield Tryd.prog 75 0 = some (0, 25) := by kernel_rfl
theorem tf75_1 : tfield Tryd.prog 75 1 = some (32, 25) := by kernel_rfl
theorem tf75_2 : tfield Tryd.prog 75 2 = some (64, 3) := by kernel_rfl
theorem tf75_3 : tfield Tryd.prog 75 3 = some (65, 3) := by kernel_rfl
theorem ti76 : tinfo Tryd.prog 76 = some (66, true, 80) := by kernel_rfl
theorem tz76 : tzero Tryd.prog 76 = some ((hc zeroHash) ++ (hc zeroHash) ++ [.int .i64 0, .int .i64 0]) := by kernel_rfl
theorem tf76_0 : tfield Tryd.prog 76 0 = some (0, 25) := by kernel_rfl
theorem tf76_1 : tfield Tryd.prog 76 1 = some (32, 25) := by kernel_rfl
theorem tf76_2 : tfield Tryd.prog 76 2 = some (64, 3) := by kernel_rfl
theorem tf76_3 : tfield Tryd.prog 76 3 = some (65, 3) := by kernel_rfl
theorem ti77 : tinfo Tryd.prog 77 = some (1, false, 8) := by kernel_rfl
theorem tz77 : tzero Tryd.prog 77 = some ([.nilFunc]) := by kernel_rfl
theorem ti78 : tinfo Tryd.prog 78 = some (1, false, 8) := by kernel_rfl
theorem tz78 : tzero Tryd.prog 78 = some ([.nilFunc]) := by kernel_rfl
theorem ti79 : tinfo Tryd.prog 79 = some (1, false, 8) := by kernel_rfl
theorem tz79 : tzero Tryd.prog 79 = some ([.nilFunc]) := by kernel_rfl
theorem ti80 : tinfo Tryd.prog 80 = some (3, true, 24) := by kernel_rfl
theorem tz80 : tzero Tryd.prog 80 = some (List.replicate 3 (.int .i64 0)) := by kernel_rfl
theorem ta80 : tarr Tryd.prog 80 = some (3, 3) := by kernel_rfl
theorem ti81 : tinfo Tryd.prog 81 = some (1, false, 8) := by kernel_rfl
theorem tz81 : tzero Tryd.prog 81 = some ([.nilFunc]) := by kernel_rfl
theorem ti82 : tinfo Tryd.prog 82 = some (1, false, 8) := by kernel_rfl
theorem tz82 : tzero Tryd.prog 82 = some ([.nilFunc]) := by kernel_rfl
theorem ti84 : tinfo Tryd.prog 84 = some (1, false, 8) := by kernel_rfl
theorem tz84 : tzero Tryd.prog 84 = some ([.nilFunc]) := by kernel_rfl
theorem ti85 : tinfo Tryd.prog 85 = some (1, false, 8) := by kernel_rfl
theorem tz85 : tzero Tryd.prog 85 = some ([.nilFunc]) := by kernel_rfl
theorem ti86 : tinfo Tryd.prog 86 = some (1, false, 8) := by kernel_rfl
theorem tz86 : tzero Tryd.prog 86 = some ([.nilFunc]) := by kernel_rfl
theorem ti87 : tinfo Tryd.prog 87 = some (1, false, 8) := by kernel_rfl
theorem tz87 : tzero Tryd.prog 87 = some ([.nilFunc]) := by kernel_rfl
theorem ti88 : tinfo Tryd.prog 88 = some (1, false, 8) := by kernel_rfl
theorem tz88 : tzero Tryd.prog 88 = some ([.nilFunc]) := by kernel_rfl
theorem ti89 : tinfo Tryd.prog 89 = some (3, true, 6) := by kernel_rfl
theorem tz89 : tzero Tryd.prog 89 = some (List.replicate 3 (.int .u16 0)) := by kernel_rfl
theorem ta89 : tarr Tryd.prog 89 = some (3, 39) := by kernel_rfl
theorem ti90 : tinfo Tryd.prog 90 = some (1, false, 8) := by kernel_rfl
theorem tz90 : tzero Tryd.prog 90 = some ([.nilFunc]) := by kernel_rfl
theorem ti91 : tinfo Tryd.prog 91 = some (1, false, 8) := by kernel_rfl
theorem tz91 : tzero Tryd.prog 91 = some ([.nilFunc]) := by kernel_rfl
theorem ti92 : tinfo Tryd.prog 92 = some (1, false, 24) := by kernel_rfl
theorem tz92 : tzero Tryd.prog 92 = some ([.slice none 0 0]) := by kernel_rfl
theorem ts92 : tslice Tryd.prog 92 = some 5 := by kernel_rfl
theorem ti94 : tinfo Tryd.prog 94 = some (1, false, 8) := by kernel_rfl
theorem tz94 : tzero Tryd.prog 94 = some ([.nilFunc]) := by kernel_rfl
theorem ti95 : tinfo Tryd.prog 95 = some (1, false, 8) := by kernel_rfl
theorem tz95 : tzero Tryd.prog 95 = some ([.nilFunc]) := by kernel_rfl
theorem ti96 : tinfo Tryd.prog 96 = some (1, false, 8) := by kernel_rfl
theorem tz96 : tzero Tryd.prog 96 = some ([.nilFunc]) := by kernel_rfl
theorem ti97 : tinfo Tryd.prog 97 = some (1, false, 8) := by kernel_rfl
theorem tz97 : tzero Tryd.prog 97 = some ([.nilFunc]) := by kernel_rfl
theorem ti98 : tinfo Tryd.prog 98 = some (1, false, 8) := by kernel_rfl
theorem tz98 : tzero Tryd.prog 98 = some ([.nilFunc]) := by kernel_rfl
theorem ti99 : tinfo Tryd.prog 99 = some (1, false, 8) := by kernel_rfl
theorem tz99 : tzero Tryd.prog 99 = some ([.nilFunc]) := by kernel_rfl
theorem ti100 : tinfo Tryd.prog 100 = some (1, false, 8) := by kernel_rfl
theorem tz100 : tzero Tryd.prog 100 = some ([.nilFunc]) := by kernel_rfl
theorem ti102 : tinfo Tryd.prog 102 = some (1, false, 8) := by kernel_rfl
theorem tz102 : tzero Tryd.prog 102 = some ([.nilFunc]) := by kernel_rfl
theorem ti103 : tinfo Tryd.prog 103 = some (1, false, 8) := by kernel_rfl
theorem tz103 : tzero Tryd.prog 103 = some ([.nilFunc]) := by kernel_rfl
theorem ti104 : tinfo Tryd.prog 104 = some (1, false, 8) := by kernel_rfl
theorem tz104 : tzero Tryd.prog 104 = some ([.nilFunc]) := by kernel_rfl
theorem ti105 : tinfo Tryd.prog 105 = some (1, false, 8) := by kernel_rfl
theorem tz105 : tzero Tryd.prog 105 = some ([.nilFunc]) := by kernel_rfl
theorem ti106 : tinfo Tryd.prog 106 = some (5, true, 48) := by kernel_rfl
theorem tz106 : tzero Tryd.prog 106 = some ([.int .i64 0, .int .u16 0, .int .u8 0, .slice none 0 0, .int .u16 0]) := by kernel_rfl
theorem tf106_0 : tfield Tryd.prog 106 0 = some (0, 3) := by kernel_rfl
theorem tf106_1 : tfield Tryd.prog 106 1 = some (1, 39) := by kernel_rfl
theorem tf106_2 : tfield Tryd.prog 106 2 = some (2, 5) := by kernel_rfl
theorem tf106_3 : tfield Tryd.prog 106 3 = some (3, 22) := by kernel_rfl
theorem tf106_4 : tfield Tryd.prog 106 4 = some (4, 39) := by kernel_rfl
theorem ti107 : tinfo Tryd.prog 107 = some (5, true, 48) := by kernel_rfl
theorem tz107 : tzero Tryd.prog 107 = some ([.int .i64 0, .int .u16 0, .int .u8 0, .slice none 0 0, .int .u16 0]) := by kernel_rfl
theorem tf107_0 : tfield Tryd.prog 107 0 = some (0, 3) := by kernel_rfl
theorem tf107_1 : tfield Tryd.prog 107 1 = some (1, 39) := by kernel_rfl
theorem tf107_2 : tfield Tryd.prog 107 2 = some (2, 5) := by kernel_rfl
theorem tf107_3 : tfield Tryd.prog 107 3 = some (3, 22) := by kernel_rfl
theorem tf107_4 : tfield Tryd.prog 107 4 = some (4, 39) := by kernel_rfl
theorem ti108 : tinfo Tryd.prog 108 = some (1, false, 8) := by kernel_rfl
theorem tz108 : tzero Tryd.prog 108 = some ([.nilFunc]) := by kernel_rfl
theorem ti109 : tinfo Tryd.prog 109 = some (1, false, 8) := by kernel_rfl
theorem tz109 : tzero Tryd.prog 109 = some ([.nilFunc]) := by kernel_rfl
theorem ti110 : tinfo Tryd.prog 110 = some (256, true, 256) := by kernel_rfl
theorem tz110 : tzero Tryd.prog 110 = some ((hc zeroHash) ++ (hc zeroHash) ++ (hc zeroHash) ++ (hc zeroHash) ++ (hc zeroHash) ++ (hc zeroHash) ++ (hc zeroHash) ++ (hc zeroHash)) := by kernel_rfl
theorem ta110 : tarr Tryd.prog 110 = some (8, 25) := by kernel_rfl
theorem ti111 : tinfo Tryd.prog 111 = some (258, true, 280) := by kernel_rfl
theorem tz111 : tzero Tryd.prog 111 = some ([.bool false, .string ⟨#[]⟩] ++ (hc zeroHash) ++ (hc zeroHash) ++ (hc zeroHash) ++ (hc zeroHash) ++ (hc zeroHash) ++ (hc zeroHash) ++ (hc zeroHash) ++ (hc zeroHash)) := by kernel_rfl
theorem tf111_0 : tfield Tryd.prog 111 0 = some (0, 4) := by kernel_rfl
theorem tf111_1 : tfield Tryd.prog 111 1 = some (1, 9) := by kernel_rfl
theorem tf111_2 : tfield Tryd.prog 111 2 = some (2, 110) := by kernel_rfl
theorem ti112 : tinfo Tryd.prog 112 = some (258, true, 280) := by kernel_rfl
theorem tz112 : tzero Tryd.prog 112 = some ([.bool false, .string ⟨#[]⟩] ++ (hc zeroHash) ++ (hc zeroHash) ++ (hc zeroHash) ++ (hc zeroHash) ++ (hc zeroHash) ++ (hc zeroHash) ++ (hc zeroHash) ++ (hc zeroHash)) := by kernel_rfl
theorem tf112_0 : tfield Tryd.prog 112 0 = some (0, 4) := by kernel_rfl
theorem tf112_1 : tfield Tryd.prog 112 1 = some (1, 9) := by kernel_rfl
theorem tf112_2 : tfield Tryd.prog 112 2 = some (2, 110) := by kernel_rfl
theorem ti113 : tinfo Tryd.prog 113 = some (1, false, 8) := by kernel_rfl
theorem tz113 : tzero Tryd.prog 113 = some ([.nilFunc]) := by kernel_rfl
theorem ti114 : tinfo Tryd.prog 114 = some (1, false, 8) := by kernel_rfl
theorem tz114 : tzero Tryd.prog 114 = some ([.nilFunc]) := by kernel_rfl
theorem ti115 : tinfo Tryd.prog 115 = some (1, false, 8) := by kernel_rfl
theorem tz115 : tzero Tryd.prog 115 = some ([.nilFunc]) := by kernel_rfl
theorem ti116 : tinfo Tryd.prog 116 = some (1, false, 8) := by kernel_rfl
theorem tz116 : tzero Tryd.prog 116 = some ([.nilFunc]) := by kernel_rfl
theorem ti117 : tinfo Tryd.prog 117 = some (1, false, 8) := by kernel_rfl
theorem tz117 : tzero Tryd.prog 117 = some ([.nilFunc]) := by kernel_rfl
theorem ti118 : tinfo Tryd.prog 118 = some (5, true, 48) := by kernel_rfl
theorem tz118 : tzero Tryd.prog 118 = some ([.int .u8 0, .int .u8 0, .int .u8 0, .string ⟨#[]⟩, .slice none 0 0]) := by kernel_rfl
theorem tf118_0 : tfield Tryd.prog 118 0 = some (0, 5) := by kernel_rfl
theorem tf118_1 : tfield Tryd.prog 118 1 = some (1, 5) := by kernel_rfl
theorem tf118_2 : tfield Tryd.prog 118 2 = some (2, 5) := by kernel_rfl
theorem tf118_3 : tfield Tryd.prog 118 3 = some (3, 9) := by kernel_rfl
theorem tf118_4 : tfield Tryd.prog 118 4 = some (4, 22) := by kernel_rfl
theorem ti119 : tinfo Tryd.prog 119 = some (5, true, 48) := by kernel_rfl
theorem tz119 : tzero Tryd.prog 119 = some ([.int .u8 0, .int .u8 0, .int .u8 0, .string ⟨#[]⟩, .slice none 0 0]) := by kernel_rfl
theorem tf119_0 : tfield Tryd.prog 119 0 = some (0, 5) := by kernel_rfl
theorem tf119_1 : tfield Tryd.prog 119 1 = some (1, 5) := by kernel_rfl
theorem tf119_2 : tfield Tryd.prog 119 2 = some (2, 5) := by kernel_rfl
theorem tf119_3 : tfield Tryd.prog 119 3 = some (3, 9) := by kernel_rfl
theorem tf119_4 : tfield Tryd.prog 119 4 = some (4, 22) := by kernel_rfl
theorem ti120 : tinfo Tryd.prog 120 = some (1, false, 8) := by kernel_rfl
theorem tz120 : tzero Tryd.prog 120 = some ([.nilFunc]) := by kernel_rfl
theorem ti121 : tinfo Tryd.prog 121 = some (1, false, 24) := by kernel_rfl
theorem tz121 : tzero Tryd.prog 121 = some ([.slice none 0 0]) := by kernel_rfl
theorem ts121 : tslice Tryd.prog 121 = some 119 := by kernel_rfl
theorem ti122 : tinfo Tryd.prog 122 = some (1, false, 8) := by kernel_rfl
theorem tz122 : tzero Tryd.prog 122 = some ([.pointer none]) := by kernel_rfl
theorem ti124 : tinfo Tryd.prog 124 = some (1, false, 8) := by kernel_rfl
theorem tz124 : tzero Tryd.prog 124 = some ([.nilFunc]) := by kernel_rfl
theorem ti125 : tinfo Tryd.prog 125 = some (1, false, 8) := by kernel_rfl
theorem tz125 : tzero Tryd.prog 125 = some ([.nilFunc]) := by kernel_rfl
theorem ti126 : tinfo Tryd.prog 126 = some (1, false, 8) := by kernel_rfl
theorem tz126 : tzero Tryd.prog 126 = some ([.nilFunc]) := by kernel_rfl
theorem ti127 : tinfo Tryd.prog 127 = some (1, false, 8) := by kernel_rfl
theorem tz127 : tzero Tryd.prog 127 = some ([.nilFunc]) := by kernel_rfl
theorem ti128 : tinfo Tryd.prog 128 = some (1, false, 8) := by kernel_rfl
theorem tz128 : tzero Tryd.prog 128 = some ([.pointer none]) := by kernel_rfl
theorem ti129 : tinfo Tryd.prog 129 = some (71, true, 136) := by kernel_rfl
theorem tz129 : tzero Tryd.prog 129 = some ([.bool false] ++ (hc zeroHash) ++ [.bool false, .int .i64 0] ++ (hc zeroHash) ++ [.int .i64 0, .string ⟨#[]⟩, .slice none 0 0, .pointer none]) := by kernel_rfl
theorem tf129_0 : tfield Tryd.prog 129 0 = some (0, 4) := by kernel_rfl
theorem tf129_1 : tfield Tryd.prog 129 1 = some (1, 25) := by kernel_rfl
theorem tf129_2 : tfield Tryd.prog 129 2 = some (33, 4) := by kernel_rfl
theorem tf129_3 : tfield Tryd.prog 129 3 = some (34, 46) := by kernel_rfl
theorem tf129_4 : tfield Tryd.prog 129 4 = some (70, 128) := by kernel_rfl
theorem ti130 : tinfo Tryd.prog 130 = some (71, true, 136) := by kernel_rfl
theorem tz130 : tzero Tryd.prog 130 = some ([.bool false] ++ (hc zeroHash) ++ [.bool false, .int .i64 0] ++ (hc zeroHash) ++ [.int .i64 0, .string ⟨#[]⟩, .slice none 0 0, .pointer none]) := by kernel_rfl
theorem tf130_0 : tfield Tryd.prog 130 0 = some (0, 4) := by kernel_rfl
theorem tf130_1 : tfield Tryd.prog 130 1 = some (1, 25) := by kernel_rfl
theorem tf130_2 : tfield Tryd.prog 130 2 = some (33, 4) := by kernel_rfl
theorem tf130_3 : tfield Tryd.prog 130 3 = some (34, 46) := by kernel_rfl
theorem tf130_4 : tfield Tryd.prog 130 4 = some (70, 128) := by kernel_rfl
theorem ti131 : tinfo Tryd.prog 131 = some (1, false, 8) := by kernel_rfl
theorem tz131 : tzero Tryd.prog 131 = some ([.nilFunc]) := by kernel_rfl
theorem ti132 : tinfo Tryd.prog 132 = some (3, true, 3) := by kernel_rfl
theorem tz132 : tzero Tryd.prog 132 = some ([.int .u8 0, .int .u8 0, .int .u8 0]) := by kernel_rfl
theorem tf132_0 : tfield Tryd.prog 132 0 = some (0, 5) := by kernel_rfl
theorem tf132_1 : tfield Tryd.prog 132 1 = some (1, 5) := by kernel_rfl
theorem tf132_2 : tfield Tryd.prog 132 2 = some (2, 5) := by kernel_rfl
theorem ti133 : tinfo Tryd.prog 133 = some (3, true, 3) := by kernel_rfl
theorem tz133 : tzero Tryd.prog 133 = some ([.int .u8 0, .int .u8 0, .int .u8 0]) := by kernel_rfl
theorem tf133_0 : tfield Tryd.prog 133 0 = some (0, 5) := by kernel_rfl
theorem tf133_1 : tfield Tryd.prog 133 1 = some (1, 5) := by kernel_rfl
theorem tf133_2 : tfield Tryd.prog 133 2 = some (2, 5) := by kernel_rfl
theorem ti134 : tinfo Tryd.prog 134 = some (1, false, 8) := by kernel_rfl
theorem tz134 : tzero Tryd.prog 134 = some ([.nilFunc]) := by kernel_rfl
theorem ti135 : tinfo Tryd.prog 135 = some (1, false, 8) := by kernel_rfl
theorem tz135 : tzero Tryd.prog 135 = some ([.nilFunc]) := by kernel_rfl
theorem ti136 : tinfo Tryd.prog 136 = some (106, true, 240) := by kernel_rfl
theorem tz136 : tzero Tryd.prog 136 = some ([.int .i64 0, .int .i64 0] ++ (hc zeroHash) ++ [.int .i64 0, .string ⟨#[]⟩, .slice none 0 0, .int .i64 0] ++ (hc zeroHash) ++ [.int .i64 0, .string ⟨#[]⟩, .slice none 0 0] ++ (hc zeroHash) ++ [.slice none 0 0]) := by kernel_rfl
theorem tf136_0 : tfield Tryd.prog 136 0 = some (0, 3) := by kernel_rfl
theorem tf136_1 : tfield Tryd.prog 136 1 = some (1, 46) := by kernel_rfl
theorem tf136_2 : tfield Tryd.prog 136 2 = some (37, 46) := by kernel_rfl
theorem tf136_3 : tfield Tryd.prog 136 3 = some (73, 25) := by kernel_rfl
theorem tf136_4 : tfield Tryd.prog 136 4 = some (105, 22) := by kernel_rfl
theorem ti137 : tinfo Tryd.prog 137 = some (1, false, 8) := by kernel_rfl
theorem tz137 : tzero Tryd.prog 137 = some ([.nilFunc]) := by kernel_rfl
theorem ti138 : tinfo Tryd.prog 138 = some (1, false, 24) := by kernel_rfl
theorem tz138 : tzero Tryd.prog 138 = some ([.slice none 0 0]) := by kernel_rfl
theorem ts138 : tslice Tryd.prog 138 = some 36 := by kernel_rfl
theorem ti140 : tinfo Tryd.prog 140 = some (1, false, 8) := by kernel_rfl
theorem tz140 : tzero Tryd.prog 140 = some ([.nilFunc]) := by kernel_rfl
theorem ti141 : tinfo Tryd.prog 141 = some (1, false, 8) := by kernel_rfl
theorem tz141 : tzero Tryd.prog 141 = some ([.nilFunc]) := by kernel_rfl
theorem ti142 : tinfo Tryd.prog 142 = some (1, false, 8) := by kernel_rfl
theorem tz142 : tzero Tryd.prog 142 = some ([.nilFunc]) := by kernel_rfl
theorem ti143 : tinfo Tryd.prog 143 = some (1, false, 8) := by kernel_rfl
theorem tz143 : tzero Tryd.prog 143 = some ([.nilFunc]) := by kernel_rfl
theorem ti144 : tinfo Tryd.prog 144 = some (1, false, 8) := by kernel_rfl
theorem tz144 : tzero Tryd.prog 144 = some ([.nilFunc]) := by kernel_rfl
theorem ti145 : tinfo Tryd.prog 145 = some (1, false, 8) := by kernel_rfl
theorem tz145 : tzero Tryd.prog 145 = some ([.nilFunc]) := by kernel_rfl
theorem ti146 : tinfo Tryd.prog 146 = some (1, false, 8) := by kernel_rfl
theorem tz146 : tzero Tryd.prog 146 = some ([.nilFunc]) := by kernel_rfl
theorem ti147 : tinfo Tryd.prog 147 = some (1, false, 8) := by kernel_rfl
theorem tz147 : tzero Tryd.prog 147 = some ([.int .u64 0]) := by kernel_rfl
theorem ti148 : tinfo Tryd.prog 148 = some (1, false, 8) := by kernel_rfl
theorem tz148 : tzero Tryd.prog 148 = some ([.nilFunc]) := by kernel_rfl
theorem ti149 : tinfo Tryd.prog 149 = some (1, false, 8) := by kernel_rfl
theorem tz149 : tzero Tryd.prog 149 = some ([.nilFunc]) := by kernel_rfl
theorem ti150 : tinfo Tryd.prog 150 = some (1, false, 8) := by kernel_rfl
theorem tz150 : tzero Tryd.prog 150 = some ([.nilFunc]) := by kernel_rfl
theorem ti152 : tinfo Tryd.prog 152 = some (1, false, 8) := by kernel_rfl
theorem tz152 : tzero Tryd.prog 152 = some ([.nilFunc]) := by kernel_rfl
theorem ti154 : tinfo Tryd.prog 154 = some (1, false, 8) := by kernel_rfl
theorem tz154 : tzero Tryd.prog 154 = some ([.nilFunc]) := by kernel_rfl
theorem ti156 : tinfo Tryd.prog 156 = some (1, false, 8) := by kernel_rfl
theorem tz156 : tzero Tryd.prog 156 = some ([.nilFunc]) := by kernel_rfl
theorem ti158 : tinfo Tryd.prog 158 = some (1, false, 8) := by kernel_rfl
theorem tz158 : tzero Tryd.prog 158 = some ([.nilFunc]) := by kernel_rfl
theorem ti159 : tinfo Tryd.prog 159 = some (1, false, 8) := by kernel_rfl
theorem tz159 : tzero Tryd.prog 159 = some ([.nilFunc]) := by kernel_rfl
theorem ti160 : tinfo Tryd.prog 160 = some (1, false, 24) := by kernel_rfl
theorem tz160 : tzero Tryd.prog 160 = some ([.slice none 0 0]) := by kernel_rfl
theorem ts160 : tslice Tryd.prog 160 = some 162 := by kernel_rfl
theorem ti161 : tinfo Tryd.prog 161 = some (4, true, 40) := by kernel_rfl
theorem tz161 : tzero Tryd.prog 161 = some ([.int .u8 0, .int .i64 0, .int .i64 0, .string ⟨#[]⟩]) := by kernel_rfl
theorem tf161_0 : tfield Tryd.prog 161 0 = some (0, 5) := by kernel_rfl
theorem tf161_1 : tfield Tryd.prog 161 1 = some (1, 3) := by kernel_rfl
theorem tf161_2 : tfield Tryd.prog 161 2 = some (2, 3) := by kernel_rfl
theorem tf161_3 : tfield Tryd.prog 161 3 = some (3, 9) := by kernel_rfl
theorem ti162 : tinfo Tryd.prog 162 = some (4, true, 40) := by kernel_rfl
theorem tz162 : tzero Tryd.prog 162 = some ([.int .u8 0, .int .i64 0, .int .i64 0, .string ⟨#[]⟩]) := by kernel_rfl
theorem tf162_0 : tfield Tryd.prog 162 0 = some (0, 5) := by kernel_rfl
theorem tf162_1 : tfield Tryd.prog 162 1 = some (1, 3) := by kernel_rfl
theorem tf162_2 : tfield Tryd.prog 162 2 = some (2, 3) := by kernel_rfl
theorem tf162_3 : tfield Tryd.prog 162 3 = some (3, 9) := by kernel_rfl
theorem ti163 : tinfo Tryd.prog 163 = some (1, false, 8) := by kernel_rfl
theorem tz163 : tzero Tryd.prog 163 = some ([.nilFunc]) := by kernel_rfl
theorem ti164 : tinfo Tryd.prog 164 = some (1, false, 8) := by kernel_rfl
theorem tz164 : tzero Tryd.prog 164 = some ([.nilFunc]) := by kernel_rfl
theorem ti165 : tinfo Tryd.prog 165 = some (1, false, 8) := by kernel_rfl
theorem tz165 : tzero Tryd.prog 165 = some ([.nilFunc]) := by kernel_rfl
theorem ti167 : tinfo Tryd.prog 167 = some (1, false, 8) := by kernel_rfl
theorem tz167 : tzero Tryd.prog 167 = some ([.nilFunc]) := by kernel_rfl
theorem ti168 : tinfo Tryd.prog 168 = some (1, false, 8) := by kernel_rfl
theorem tz168 : tzero Tryd.prog 168 = some ([.pointer none]) := by kernel_rfl
theorem ti169 : tinfo Tryd.prog 169 = some (2, true, 32) := by kernel_rfl
theorem tz169 : tzero Tryd.prog 169 = some ([.pointer none, .slice none 0 0]) := by kernel_rfl
theorem tf169_0 : tfield Tryd.prog 169 0 = some (0, 168) := by kernel_rfl
theorem tf169_1 : tfield Tryd.prog 169 1 = some (1, 92) := by kernel_rfl
theorem ti170 : tinfo Tryd.prog 170 = some (2, true, 32) := by kernel_rfl
theorem tz170 : tzero Tryd.prog 170 = some ([.pointer none, .slice none 0 0]) := by kernel_rfl
theorem tf170_0 : tfield Tryd.prog 170 0 = some (0, 168) := by kernel_rfl
theorem tf170_1 : tfield Tryd.prog 170 1 = some (1, 92) := by kernel_rfl
theorem ti171 : tinfo Tryd.prog 171 = some (1, false, 8) := by kernel_rfl
theorem tz171 : tzero Tryd.prog 171 = some ([.nilFunc]) := by kernel_rfl
theorem ti175 : tinfo Tryd.prog 175 = some (1, false, 8) := by kernel_rfl
theorem tz175 : tzero Tryd.prog 175 = some ([.nilFunc]) := by kernel_rfl
theorem ti176 : tinfo Tryd.prog 176 = some (1, false, 8) := by kernel_rfl
theorem tz176 : tzero Tryd.prog 176 = some ([.nilFunc]) := by kernel_rfl
theorem ti177 : tinfo Tryd.prog 177 = some (1, false, 8) := by kernel_rfl
theorem tz177 : tzero Tryd.prog 177 = some ([.nilFunc]) := by kernel_rfl
theorem ti178 : tinfo Tryd.prog 178 = some (1, false, 8) := by kernel_rfl
theorem tz178 : tzero Tryd.prog 178 = some ([.nilFunc]) := by kernel_rfl
theorem ti180 : tinfo Tryd.prog 180 = some (1, false, 8) := by kernel_rfl
theorem tz180 : tzero Tryd.prog 180 = some ([.nilFunc]) := by kernel_rfl
theorem ti181 : tinfo Tryd.prog 181 = some (1, false, 8) := by kernel_rfl
theorem tz181 : tzero Tryd.prog 181 = some ([.nilFunc]) := by kernel_rfl
theorem ti182 : tinfo Tryd.prog 182 = some (1, false, 8) := by kernel_rfl
theorem tz182 : tzero Tryd.prog 182 = some ([.nilFunc]) := by kernel_rfl
theorem ti183 : tinfo Tryd.prog 183 = some (1, false, 8) := by kernel_rfl
theorem tz183 : tzero Tryd.prog 183 = some ([.nilFunc]) := by kernel_rfl
theorem ti184 : tinfo Tryd.prog 184 = some (1, false, 8) := by kernel_rfl
theorem tz184 : tzero Tryd.prog 184 = some ([.nilFunc]) := by kernel_rfl
theorem ti185 : tinfo Tryd.prog 185 = some (1, false, 8) := by kernel_rfl
theorem tz185 : tzero Tryd.prog 185 = some ([.nilFunc]) := by kernel_rfl
theorem ti186 : tinfo Tryd.prog 186 = some (1, false, 8) := by kernel_rfl
theorem tz186 : tzero Tryd.prog 186 = some ([.nilFunc]) := by kernel_rfl
theorem ti187 : tinfo Tryd.prog 187 = some (1, false, 4) := by kernel_rfl
theorem tz187 : tzero Tryd.prog 187 = some ([.int .u32 0]) := by kernel_rfl
theorem ti188 : tinfo Tryd.prog 188 = some (8, true, 32) := by kernel_rfl
theorem tz188 : tzero Tryd.prog 188 = some (List.replicate 8 (.int .u32 0)) := by kernel_rfl
theorem ta188 : tarr Tryd.prog 188 = some (8, 187) := by kernel_rfl
theorem ti189 : tinfo Tryd.prog 189 = some (1, false, 8) := by kernel_rfl
theorem tz189 : tzero Tryd.prog 189 = some ([.nilFunc]) := by kernel_rfl
theorem ti190 : tinfo Tryd.prog 190 = some (64, true, 256) := by kernel_rfl
theorem tz190 : tzero Tryd.prog 190 = some (List.replicate 64 (.int .u32 0)) := by kernel_rfl
theorem ta190 : tarr Tryd.prog 190 = some (64, 187) := by kernel_rfl
theorem ti191 : tinfo Tryd.prog 191 = some (1, false, 8) := by kernel_rfl
theorem tz191 : tzero Tryd.prog 191 = some ([.nilFunc]) := by kernel_rfl
theorem ti192 : tinfo Tryd.prog 192 = some (1, false, 8) := by kernel_rfl
theorem tz192 : tzero Tryd.prog 192 = some ([.int .u64 0]) := by kernel_rfl
theorem ti193 : tinfo Tryd.prog 193 = some (1, false, 8) := by kernel_rfl
theorem tz193 : tzero Tryd.prog 193 = some ([.nilFunc]) := by kernel_rfl
theorem ti194 : tinfo Tryd.prog 194 = some (1, false, 8) := by kernel_rfl
theorem tz194 : tzero Tryd.prog 194 = some ([.nilFunc]) := by kernel_rfl
theorem ti195 : tinfo Tryd.prog 195 = some (1, false, 8) := by kernel_rfl
theorem tz195 : tzero Tryd.prog 195 = some ([.nilFunc]) := by kernel_rfl
theorem ti196 : tinfo Tryd.prog 196 = some (1, false, 8) := by kernel_rfl
theorem tz196 : tzero Tryd.prog 196 = some ([.nilFunc]) := by kernel_rfl
theorem ti197 : tinfo Tryd.prog 197 = some (1, false, 8) := by kernel_rfl
theorem tz197 : tzero Tryd.prog 197 = some ([.nilFunc]) := by kernel_rfl
theorem ti198 : tinfo Tryd.prog 198 = some (1, false, 8) := by kernel_rfl
theorem tz198 : tzero Tryd.prog 198 = some ([.nilFunc]) := by kernel_rfl
theorem ti199 : tinfo Tryd.prog 199 = some (1, false, 8) := by kernel_rfl
theorem tz199 : tzero Tryd.prog 199 = some ([.pointer none]) := by kernel_rfl
end Go.Proofs.YtahdekllphehkaaDoor
