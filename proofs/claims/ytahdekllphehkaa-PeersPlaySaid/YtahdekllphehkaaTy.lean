/- Facts on the types of the seat's program; no statement of the seat is proved here. -/
import Derived.Test.YtahdekllphehkaaDoorML
import Derived.Test.YtahdekllphehkaaProg
namespace Go.Proofs.Ytahdekllphehkaa
open Go.WL Go.Spec
set_option maxRecDepth 100000
theorem ti1 : tinfo Try.prog 1 = some (1, false, 8) := by kernel_rfl
theorem tz1 : tzero Try.prog 1 = some ([.nilFunc]) := by kernel_rfl
theorem ti2 : tinfo Try.prog 2 = some (1, false, 8) := by kernel_rfl
theorem tz2 : tzero Try.prog 2 = some ([.int .i64 0]) := by kernel_rfl
theorem ti3 : tinfo Try.prog 3 = some (1, false, 8) := by kernel_rfl
theorem tz3 : tzero Try.prog 3 = some ([.int .i64 0]) := by kernel_rfl
theorem ti4 : tinfo Try.prog 4 = some (1, false, 1) := by kernel_rfl
theorem tz4 : tzero Try.prog 4 = some ([.bool false]) := by kernel_rfl
theorem ti5 : tinfo Try.prog 5 = some (1, false, 1) := by kernel_rfl
theorem tz5 : tzero Try.prog 5 = some ([.int .u8 0]) := by kernel_rfl
theorem ti6 : tinfo Try.prog 6 = some (1, false, 1) := by kernel_rfl
theorem tz6 : tzero Try.prog 6 = some ([.int .u8 0]) := by kernel_rfl
theorem ti7 : tinfo Try.prog 7 = some (4, true, 24) := by kernel_rfl
theorem tz7 : tzero Try.prog 7 = some ([.int .i64 0, .int .i64 0, .bool false, .int .u8 0]) := by kernel_rfl
theorem tf7_0 : tfield Try.prog 7 0 = some (0, 2) := by kernel_rfl
theorem tf7_1 : tfield Try.prog 7 1 = some (1, 3) := by kernel_rfl
theorem tf7_2 : tfield Try.prog 7 2 = some (2, 4) := by kernel_rfl
theorem tf7_3 : tfield Try.prog 7 3 = some (3, 6) := by kernel_rfl
theorem ti8 : tinfo Try.prog 8 = some (4, true, 24) := by kernel_rfl
theorem tz8 : tzero Try.prog 8 = some ([.int .i64 0, .int .i64 0, .bool false, .int .u8 0]) := by kernel_rfl
theorem tf8_0 : tfield Try.prog 8 0 = some (0, 2) := by kernel_rfl
theorem tf8_1 : tfield Try.prog 8 1 = some (1, 3) := by kernel_rfl
theorem tf8_2 : tfield Try.prog 8 2 = some (2, 4) := by kernel_rfl
theorem tf8_3 : tfield Try.prog 8 3 = some (3, 6) := by kernel_rfl
theorem ti9 : tinfo Try.prog 9 = some (1, false, 16) := by kernel_rfl
theorem tz9 : tzero Try.prog 9 = some ([.string ⟨#[]⟩]) := by kernel_rfl
theorem tt9 : tstr Try.prog 9 = true := by kernel_rfl
theorem ti10 : tinfo Try.prog 10 = some (1, false, 16) := by kernel_rfl
theorem tz10 : tzero Try.prog 10 = some ([.string ⟨#[]⟩]) := by kernel_rfl
theorem tt10 : tstr Try.prog 10 = true := by kernel_rfl
theorem ti11 : tinfo Try.prog 11 = some (1, false, 16) := by kernel_rfl
theorem tz11 : tzero Try.prog 11 = some ([.string ⟨#[]⟩]) := by kernel_rfl
theorem tt11 : tstr Try.prog 11 = true := by kernel_rfl
theorem ti12 : tinfo Try.prog 12 = some (1, false, 8) := by kernel_rfl
theorem tz12 : tzero Try.prog 12 = some ([.int .u64 0]) := by kernel_rfl
theorem ti13 : tinfo Try.prog 13 = some (2, true, 24) := by kernel_rfl
theorem tz13 : tzero Try.prog 13 = some ([.string ⟨#[]⟩, .int .u64 0]) := by kernel_rfl
theorem tf13_0 : tfield Try.prog 13 0 = some (0, 9) := by kernel_rfl
theorem tf13_1 : tfield Try.prog 13 1 = some (1, 12) := by kernel_rfl
theorem ti14 : tinfo Try.prog 14 = some (2, true, 24) := by kernel_rfl
theorem tz14 : tzero Try.prog 14 = some ([.string ⟨#[]⟩, .int .u64 0]) := by kernel_rfl
theorem tf14_0 : tfield Try.prog 14 0 = some (0, 9) := by kernel_rfl
theorem tf14_1 : tfield Try.prog 14 1 = some (1, 12) := by kernel_rfl
theorem ti15 : tinfo Try.prog 15 = some (1, false, 8) := by kernel_rfl
theorem tz15 : tzero Try.prog 15 = some ([.pointer none]) := by kernel_rfl
theorem ti16 : tinfo Try.prog 16 = some (1, false, 8) := by kernel_rfl
theorem tz16 : tzero Try.prog 16 = some ([.pointer none]) := by kernel_rfl
theorem ti17 : tinfo Try.prog 17 = some (1, false, 8) := by kernel_rfl
theorem tz17 : tzero Try.prog 17 = some ([.pointer none]) := by kernel_rfl
theorem ti18 : tinfo Try.prog 18 = some (1, true, 8) := by kernel_rfl
theorem tz18 : tzero Try.prog 18 = some ([.pointer none]) := by kernel_rfl
theorem tf18_0 : tfield Try.prog 18 0 = some (0, 17) := by kernel_rfl
theorem ti19 : tinfo Try.prog 19 = some (1, true, 8) := by kernel_rfl
theorem tz19 : tzero Try.prog 19 = some ([.pointer none]) := by kernel_rfl
theorem tf19_0 : tfield Try.prog 19 0 = some (0, 17) := by kernel_rfl
theorem ti21 : tinfo Try.prog 21 = some (1, false, 4) := by kernel_rfl
theorem tz21 : tzero Try.prog 21 = some ([.int .i32 0]) := by kernel_rfl
theorem ti22 : tinfo Try.prog 22 = some (1, false, 8) := by kernel_rfl
theorem tz22 : tzero Try.prog 22 = some ([.nilFunc]) := by kernel_rfl
theorem ti23 : tinfo Try.prog 23 = some (1, false, 8) := by kernel_rfl
theorem tz23 : tzero Try.prog 23 = some ([.nilFunc]) := by kernel_rfl
theorem ti24 : tinfo Try.prog 24 = some (1, false, 8) := by kernel_rfl
theorem tz24 : tzero Try.prog 24 = some ([.nilFunc]) := by kernel_rfl
theorem ti25 : tinfo Try.prog 25 = some (1, false, 8) := by kernel_rfl
theorem tz25 : tzero Try.prog 25 = some ([.nilFunc]) := by kernel_rfl
theorem ti26 : tinfo Try.prog 26 = some (1, false, 24) := by kernel_rfl
theorem tz26 : tzero Try.prog 26 = some ([.slice none 0 0]) := by kernel_rfl
theorem ts26 : tslice Try.prog 26 = some 4 := by kernel_rfl
theorem ti27 : tinfo Try.prog 27 = some (1, false, 8) := by kernel_rfl
theorem tz27 : tzero Try.prog 27 = some ([.nilFunc]) := by kernel_rfl
theorem ti28 : tinfo Try.prog 28 = some (1, false, 24) := by kernel_rfl
theorem tz28 : tzero Try.prog 28 = some ([.slice none 0 0]) := by kernel_rfl
theorem ts28 : tslice Try.prog 28 = some 35 := by kernel_rfl
theorem ti29 : tinfo Try.prog 29 = some (1, false, 8) := by kernel_rfl
theorem tz29 : tzero Try.prog 29 = some ([.pointer none]) := by kernel_rfl
theorem ti30 : tinfo Try.prog 30 = some (1, false, 8) := by kernel_rfl
theorem tz30 : tzero Try.prog 30 = some ([.int .i64 0]) := by kernel_rfl
theorem ti32 : tinfo Try.prog 32 = some (1, false, 8) := by kernel_rfl
theorem tz32 : tzero Try.prog 32 = some ([.nilFunc]) := by kernel_rfl
theorem ti33 : tinfo Try.prog 33 = some (4, true, 4) := by kernel_rfl
theorem tz33 : tzero Try.prog 33 = some (List.replicate 4 (.bool false)) := by kernel_rfl
theorem ta33 : tarr Try.prog 33 = some (4, 4) := by kernel_rfl
theorem ti34 : tinfo Try.prog 34 = some (4, true, 32) := by kernel_rfl
theorem tz34 : tzero Try.prog 34 = some ([.int .u8 0, .int .i64 0, .int .i64 0, .int .u8 0]) := by kernel_rfl
theorem tf34_0 : tfield Try.prog 34 0 = some (0, 5) := by kernel_rfl
theorem tf34_1 : tfield Try.prog 34 1 = some (1, 3) := by kernel_rfl
theorem tf34_2 : tfield Try.prog 34 2 = some (2, 3) := by kernel_rfl
theorem tf34_3 : tfield Try.prog 34 3 = some (3, 5) := by kernel_rfl
theorem ti35 : tinfo Try.prog 35 = some (4, true, 32) := by kernel_rfl
theorem tz35 : tzero Try.prog 35 = some ([.int .u8 0, .int .i64 0, .int .i64 0, .int .u8 0]) := by kernel_rfl
theorem tf35_0 : tfield Try.prog 35 0 = some (0, 5) := by kernel_rfl
theorem tf35_1 : tfield Try.prog 35 1 = some (1, 3) := by kernel_rfl
theorem tf35_2 : tfield Try.prog 35 2 = some (2, 3) := by kernel_rfl
theorem tf35_3 : tfield Try.prog 35 3 = some (3, 5) := by kernel_rfl
theorem ti36 : tinfo Try.prog 36 = some (1, false, 8) := by kernel_rfl
theorem tz36 : tzero Try.prog 36 = some ([.nilFunc]) := by kernel_rfl
theorem ti37 : tinfo Try.prog 37 = some (1, false, 8) := by kernel_rfl
theorem tz37 : tzero Try.prog 37 = some ([.nilFunc]) := by kernel_rfl
theorem ti38 : tinfo Try.prog 38 = some (1, false, 8) := by kernel_rfl
theorem tz38 : tzero Try.prog 38 = some ([.nilFunc]) := by kernel_rfl
theorem ti40 : tinfo Try.prog 40 = some (1, false, 8) := by kernel_rfl
theorem tz40 : tzero Try.prog 40 = some ([.nilFunc]) := by kernel_rfl
theorem ti41 : tinfo Try.prog 41 = some (4, true, 32) := by kernel_rfl
theorem tz41 : tzero Try.prog 41 = some ([.int .i64 0, .int .i64 0, .int .i64 0, .bool false]) := by kernel_rfl
theorem tf41_0 : tfield Try.prog 41 0 = some (0, 3) := by kernel_rfl
theorem tf41_1 : tfield Try.prog 41 1 = some (1, 3) := by kernel_rfl
theorem tf41_2 : tfield Try.prog 41 2 = some (2, 3) := by kernel_rfl
theorem tf41_3 : tfield Try.prog 41 3 = some (3, 4) := by kernel_rfl
theorem ti42 : tinfo Try.prog 42 = some (4, true, 32) := by kernel_rfl
theorem tz42 : tzero Try.prog 42 = some ([.int .i64 0, .int .i64 0, .int .i64 0, .bool false]) := by kernel_rfl
theorem tf42_0 : tfield Try.prog 42 0 = some (0, 3) := by kernel_rfl
theorem tf42_1 : tfield Try.prog 42 1 = some (1, 3) := by kernel_rfl
theorem tf42_2 : tfield Try.prog 42 2 = some (2, 3) := by kernel_rfl
theorem tf42_3 : tfield Try.prog 42 3 = some (3, 4) := by kernel_rfl
theorem ti44 : tinfo Try.prog 44 = some (1, false, 8) := by kernel_rfl
theorem tz44 : tzero Try.prog 44 = some ([.nilFunc]) := by kernel_rfl
theorem ti45 : tinfo Try.prog 45 = some (1, false, 8) := by kernel_rfl
theorem tz45 : tzero Try.prog 45 = some ([.nilFunc]) := by kernel_rfl
theorem ti46 : tinfo Try.prog 46 = some (1, false, 8) := by kernel_rfl
theorem tz46 : tzero Try.prog 46 = some ([.nilFunc]) := by kernel_rfl
theorem ti47 : tinfo Try.prog 47 = some (1, false, 8) := by kernel_rfl
theorem tz47 : tzero Try.prog 47 = some ([.pointer none]) := by kernel_rfl
theorem ti49 : tinfo Try.prog 49 = some (1, false, 8) := by kernel_rfl
theorem tz49 : tzero Try.prog 49 = some ([.nilFunc]) := by kernel_rfl
theorem ti50 : tinfo Try.prog 50 = some (1, false, 8) := by kernel_rfl
theorem tz50 : tzero Try.prog 50 = some ([.nilFunc]) := by kernel_rfl
theorem ti51 : tinfo Try.prog 51 = some (1, false, 8) := by kernel_rfl
theorem tz51 : tzero Try.prog 51 = some ([.nilFunc]) := by kernel_rfl
theorem ti52 : tinfo Try.prog 52 = some (1, false, 8) := by kernel_rfl
theorem tz52 : tzero Try.prog 52 = some ([.nilFunc]) := by kernel_rfl
theorem ti53 : tinfo Try.prog 53 = some (1, false, 24) := by kernel_rfl
theorem tz53 : tzero Try.prog 53 = some ([.slice none 0 0]) := by kernel_rfl
theorem ts53 : tslice Try.prog 53 = some 42 := by kernel_rfl
theorem ti54 : tinfo Try.prog 54 = some (2, true, 32) := by kernel_rfl
theorem tz54 : tzero Try.prog 54 = some ([.slice none 0 0, .int .i64 0]) := by kernel_rfl
theorem tf54_0 : tfield Try.prog 54 0 = some (0, 53) := by kernel_rfl
theorem tf54_1 : tfield Try.prog 54 1 = some (1, 3) := by kernel_rfl
theorem ti55 : tinfo Try.prog 55 = some (2, true, 32) := by kernel_rfl
theorem tz55 : tzero Try.prog 55 = some ([.slice none 0 0, .int .i64 0]) := by kernel_rfl
theorem tf55_0 : tfield Try.prog 55 0 = some (0, 53) := by kernel_rfl
theorem tf55_1 : tfield Try.prog 55 1 = some (1, 3) := by kernel_rfl
theorem ti56 : tinfo Try.prog 56 = some (1, false, 8) := by kernel_rfl
theorem tz56 : tzero Try.prog 56 = some ([.nilFunc]) := by kernel_rfl
theorem ti57 : tinfo Try.prog 57 = some (1, false, 8) := by kernel_rfl
theorem tz57 : tzero Try.prog 57 = some ([.pointer none]) := by kernel_rfl
theorem ti58 : tinfo Try.prog 58 = some (1, false, 24) := by kernel_rfl
theorem tz58 : tzero Try.prog 58 = some ([.slice none 0 0]) := by kernel_rfl
theorem ts58 : tslice Try.prog 58 = some 61 := by kernel_rfl
theorem ti59 : tinfo Try.prog 59 = some (2, true, 32) := by kernel_rfl
theorem tz59 : tzero Try.prog 59 = some ([.slice none 0 0, .int .i64 0]) := by kernel_rfl
theorem tf59_0 : tfield Try.prog 59 0 = some (0, 58) := by kernel_rfl
theorem tf59_1 : tfield Try.prog 59 1 = some (1, 3) := by kernel_rfl
theorem ti60 : tinfo Try.prog 60 = some (2, true, 32) := by kernel_rfl
theorem tz60 : tzero Try.prog 60 = some ([.slice none 0 0, .int .i64 0]) := by kernel_rfl
theorem tf60_0 : tfield Try.prog 60 0 = some (0, 58) := by kernel_rfl
theorem tf60_1 : tfield Try.prog 60 1 = some (1, 3) := by kernel_rfl
theorem ti61 : tinfo Try.prog 61 = some (4, true, 32) := by kernel_rfl
theorem tz61 : tzero Try.prog 61 = some ([.int .i64 0, .int .i64 0, .int .i64 0, .bool false]) := by kernel_rfl
theorem tf61_0 : tfield Try.prog 61 0 = some (0, 3) := by kernel_rfl
theorem tf61_1 : tfield Try.prog 61 1 = some (1, 3) := by kernel_rfl
theorem tf61_2 : tfield Try.prog 61 2 = some (2, 3) := by kernel_rfl
theorem tf61_3 : tfield Try.prog 61 3 = some (3, 4) := by kernel_rfl
theorem ti62 : tinfo Try.prog 62 = some (1, false, 8) := by kernel_rfl
theorem tz62 : tzero Try.prog 62 = some ([.nilFunc]) := by kernel_rfl
theorem ti63 : tinfo Try.prog 63 = some (1, false, 8) := by kernel_rfl
theorem tz63 : tzero Try.prog 63 = some ([.nilFunc]) := by kernel_rfl
theorem ti64 : tinfo Try.prog 64 = some (5, true, 40) := by kernel_rfl
theorem tz64 : tzero Try.prog 64 = some (List.replicate 5 (.int .i64 0)) := by kernel_rfl
theorem ta64 : tarr Try.prog 64 = some (5, 3) := by kernel_rfl
theorem ti65 : tinfo Try.prog 65 = some (1, false, 8) := by kernel_rfl
theorem tz65 : tzero Try.prog 65 = some ([.nilFunc]) := by kernel_rfl
theorem ti66 : tinfo Try.prog 66 = some (1, false, 8) := by kernel_rfl
theorem tz66 : tzero Try.prog 66 = some ([.nilFunc]) := by kernel_rfl
theorem ti67 : tinfo Try.prog 67 = some (4, true, 40) := by kernel_rfl
theorem tz67 : tzero Try.prog 67 = some ([.pointer none, .pointer none, .pointer none, .string ⟨#[]⟩]) := by kernel_rfl
theorem tf67_0 : tfield Try.prog 67 0 = some (0, 17) := by kernel_rfl
theorem tf67_1 : tfield Try.prog 67 1 = some (1, 17) := by kernel_rfl
theorem tf67_2 : tfield Try.prog 67 2 = some (2, 17) := by kernel_rfl
theorem tf67_3 : tfield Try.prog 67 3 = some (3, 9) := by kernel_rfl
theorem ti68 : tinfo Try.prog 68 = some (4, true, 40) := by kernel_rfl
theorem tz68 : tzero Try.prog 68 = some ([.pointer none, .pointer none, .pointer none, .string ⟨#[]⟩]) := by kernel_rfl
theorem tf68_0 : tfield Try.prog 68 0 = some (0, 17) := by kernel_rfl
theorem tf68_1 : tfield Try.prog 68 1 = some (1, 17) := by kernel_rfl
theorem tf68_2 : tfield Try.prog 68 2 = some (2, 17) := by kernel_rfl
theorem tf68_3 : tfield Try.prog 68 3 = some (3, 9) := by kernel_rfl
theorem ti69 : tinfo Try.prog 69 = some (0, true, 0) := by kernel_rfl
theorem tz69 : tzero Try.prog 69 = some (List.replicate 0 (.pointer none)) := by kernel_rfl
theorem ta69 : tarr Try.prog 69 = some (0, 16) := by kernel_rfl
theorem ti70 : tinfo Try.prog 70 = some (0, true, 0) := by kernel_rfl
theorem tz70 : tzero Try.prog 70 = some (List.replicate 0 (.pointer none)) := by kernel_rfl
theorem tf70_0 : tfield Try.prog 70 0 = some (0, 69) := by kernel_rfl
theorem ti71 : tinfo Try.prog 71 = some (0, true, 0) := by kernel_rfl
theorem tz71 : tzero Try.prog 71 = some (List.replicate 0 (.pointer none)) := by kernel_rfl
theorem tf71_0 : tfield Try.prog 71 0 = some (0, 69) := by kernel_rfl
theorem ti72 : tinfo Try.prog 72 = some (1, false, 8) := by kernel_rfl
theorem tz72 : tzero Try.prog 72 = some ([.nilFunc]) := by kernel_rfl
theorem ti73 : tinfo Try.prog 73 = some (1, false, 4) := by kernel_rfl
theorem tz73 : tzero Try.prog 73 = some ([.int .u32 0]) := by kernel_rfl
theorem ti74 : tinfo Try.prog 74 = some (1, false, 1) := by kernel_rfl
theorem tz74 : tzero Try.prog 74 = some ([.int .u8 0]) := by kernel_rfl
theorem ti75 : tinfo Try.prog 75 = some (1, false, 1) := by kernel_rfl
theorem tz75 : tzero Try.prog 75 = some ([.int .u8 0]) := by kernel_rfl
theorem ti76 : tinfo Try.prog 76 = some (1, false, 8) := by kernel_rfl
theorem tz76 : tzero Try.prog 76 = some ([.nilFunc]) := by kernel_rfl
theorem ti77 : tinfo Try.prog 77 = some (1, false, 8) := by kernel_rfl
theorem tz77 : tzero Try.prog 77 = some ([.pointer none]) := by kernel_rfl
theorem ti78 : tinfo Try.prog 78 = some (1, false, 4) := by kernel_rfl
theorem tz78 : tzero Try.prog 78 = some ([.int .i32 0]) := by kernel_rfl
theorem ti79 : tinfo Try.prog 79 = some (1, false, 4) := by kernel_rfl
theorem tz79 : tzero Try.prog 79 = some ([.int .i32 0]) := by kernel_rfl
theorem ti80 : tinfo Try.prog 80 = some (11, true, 48) := by kernel_rfl
theorem tz80 : tzero Try.prog 80 = some ([.int .u64 0, .int .u64 0, .int .u32 0, .int .u8 0, .int .u8 0, .int .u8 0, .int .u8 0, .nilFunc, .pointer none, .int .i32 0, .int .i32 0]) := by kernel_rfl
theorem tf80_0 : tfield Try.prog 80 0 = some (0, 12) := by kernel_rfl
theorem tf80_1 : tfield Try.prog 80 1 = some (1, 12) := by kernel_rfl
theorem tf80_2 : tfield Try.prog 80 2 = some (2, 73) := by kernel_rfl
theorem tf80_3 : tfield Try.prog 80 3 = some (3, 74) := by kernel_rfl
theorem tf80_4 : tfield Try.prog 80 4 = some (4, 5) := by kernel_rfl
theorem tf80_5 : tfield Try.prog 80 5 = some (5, 5) := by kernel_rfl
theorem tf80_6 : tfield Try.prog 80 6 = some (6, 75) := by kernel_rfl
theorem tf80_7 : tfield Try.prog 80 7 = some (7, 76) := by kernel_rfl
theorem tf80_8 : tfield Try.prog 80 8 = some (8, 77) := by kernel_rfl
theorem tf80_9 : tfield Try.prog 80 9 = some (9, 78) := by kernel_rfl
theorem tf80_10 : tfield Try.prog 80 10 = some (10, 79) := by kernel_rfl
theorem ti81 : tinfo Try.prog 81 = some (11, true, 48) := by kernel_rfl
theorem tz81 : tzero Try.prog 81 = some ([.int .u64 0, .int .u64 0, .int .u32 0, .int .u8 0, .int .u8 0, .int .u8 0, .int .u8 0, .nilFunc, .pointer none, .int .i32 0, .int .i32 0]) := by kernel_rfl
theorem tf81_0 : tfield Try.prog 81 0 = some (0, 12) := by kernel_rfl
theorem tf81_1 : tfield Try.prog 81 1 = some (1, 12) := by kernel_rfl
theorem tf81_2 : tfield Try.prog 81 2 = some (2, 73) := by kernel_rfl
theorem tf81_3 : tfield Try.prog 81 3 = some (3, 74) := by kernel_rfl
theorem tf81_4 : tfield Try.prog 81 4 = some (4, 5) := by kernel_rfl
theorem tf81_5 : tfield Try.prog 81 5 = some (5, 5) := by kernel_rfl
theorem tf81_6 : tfield Try.prog 81 6 = some (6, 75) := by kernel_rfl
theorem tf81_7 : tfield Try.prog 81 7 = some (7, 76) := by kernel_rfl
theorem tf81_8 : tfield Try.prog 81 8 = some (8, 77) := by kernel_rfl
theorem tf81_9 : tfield Try.prog 81 9 = some (9, 78) := by kernel_rfl
theorem tf81_10 : tfield Try.prog 81 10 = some (10, 79) := by kernel_rfl
end Go.Proofs.Ytahdekllphehkaa
