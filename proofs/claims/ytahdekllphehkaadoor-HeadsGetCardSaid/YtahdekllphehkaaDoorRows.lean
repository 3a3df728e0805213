/-
  NARROWER THAN 'FOR EVERY INPUT', by the rows' own cells (each row's printed sentence says how): TreesRoot: laid · TreesHalves: laid · EvidenceBack: laid · TreesHash: laid · PathsPath: laid · EvidenceFound: laid · PathsCheck: laid · PathsBack: laid · LamportSign: laid · LamportPublic: laid · LamportBytes: laid · HeadsGet: laid · HeadsBack: laid · KeytreeSign: laid · KeytreeVerify: laid · KeytreeNone: laid · HeadsTell: laid · AuditNone: laid · EvidenceCheck: laid · EvidenceFind: laid.
  DERIVED. THE GIVEN ROWS OF THIS SEAT. 20 by the template 'for every input the law returns true; each argument reads behind the call as it read before'; 0 by the template 'total and deterministic' (their statements: YtahdekllphehkaaDoorTotals.lean).
  GIVEN WITH THE SEED: the statements are not yours to turn. If you find one false, say at which input.
  Laid BY PROGRAM, IN A SANDBOX (cutbox-rows.mjs): the forced cells as the released guide's own fill.sh prints them over the translation 96aa27e72f7c47c3… (all of the seat's roots in one cut). By AI agents, Wed Nov 11 2026. No macro, syntax, notation, axiom, sorry.
-/
import Derived.Test.YtahdekllphehkaaDoorChecked
import GoSem.Claim
import GoSem.ClaimJoined
import GoSem.ClaimMapViews
import Derived.JoinedTies
import Derived.KernelRfl
namespace Go.Proofs.YtahdekllphehkaaDoor
/- THE CELL 'sum', in the pinned program and in every row, IS THE sha256 OF THE DUMP (.gsa) THAT YtahdekllphehkaaDoorProg.lean LOADS. Nothing in Lean hashes anything: it is a label: what it is worth is what the hold of that sum in a sandbox is worth. -/
noncomputable def Tryd.pinned : Pinned := { name := "ytahdekllphehkaadoor", sum := "96aa27e72f7c47c377a08be0d4657151ba724c8c360d2af3f61aeddba876f392", checked := Tryd.checked }
namespace Rows
def none {H : Type} : Left H := { results := [], args := [] }

/- WHAT THE LISTED PACKAGE-LEVEL VARIABLES READ AS WHEN THE CALL BEGINS. Each datum BY PROGRAM (the guide's laid-datum.mjs) off the statement by which the dump's own 'gosem.cut.vars' lays the variable. In a bare row this is a premise. The card (YtahdekllphehkaaDoorCards.lean) ties it to the program's text. -/
def laid_speculum_sha_first {H : Type} : DataW H := .agg [.lit (.int .u32 1779033703), .lit (.int .u32 3144134277), .lit (.int .u32 1013904242), .lit (.int .u32 2773480762), .lit (.int .u32 1359893119), .lit (.int .u32 2600822924), .lit (.int .u32 528734635), .lit (.int .u32 1541459225)]
def laid_speculum_sha_rounds {H : Type} : DataW H := .agg [.lit (.int .u32 1116352408), .lit (.int .u32 1899447441), .lit (.int .u32 3049323471), .lit (.int .u32 3921009573), .lit (.int .u32 961987163), .lit (.int .u32 1508970993), .lit (.int .u32 2453635748), .lit (.int .u32 2870763221), .lit (.int .u32 3624381080), .lit (.int .u32 310598401), .lit (.int .u32 607225278), .lit (.int .u32 1426881987), .lit (.int .u32 1925078388), .lit (.int .u32 2162078206), .lit (.int .u32 2614888103), .lit (.int .u32 3248222580), .lit (.int .u32 3835390401), .lit (.int .u32 4022224774), .lit (.int .u32 264347078), .lit (.int .u32 604807628), .lit (.int .u32 770255983), .lit (.int .u32 1249150122), .lit (.int .u32 1555081692), .lit (.int .u32 1996064986), .lit (.int .u32 2554220882), .lit (.int .u32 2821834349), .lit (.int .u32 2952996808), .lit (.int .u32 3210313671), .lit (.int .u32 3336571891), .lit (.int .u32 3584528711), .lit (.int .u32 113926993), .lit (.int .u32 338241895), .lit (.int .u32 666307205), .lit (.int .u32 773529912), .lit (.int .u32 1294757372), .lit (.int .u32 1396182291), .lit (.int .u32 1695183700), .lit (.int .u32 1986661051), .lit (.int .u32 2177026350), .lit (.int .u32 2456956037), .lit (.int .u32 2730485921), .lit (.int .u32 2820302411), .lit (.int .u32 3259730800), .lit (.int .u32 3345764771), .lit (.int .u32 3516065817), .lit (.int .u32 3600352804), .lit (.int .u32 4094571909), .lit (.int .u32 275423344), .lit (.int .u32 430227734), .lit (.int .u32 506948616), .lit (.int .u32 659060556), .lit (.int .u32 883997877), .lit (.int .u32 958139571), .lit (.int .u32 1322822218), .lit (.int .u32 1537002063), .lit (.int .u32 1747873779), .lit (.int .u32 1955562222), .lit (.int .u32 2024104815), .lit (.int .u32 2227730452), .lit (.int .u32 2361852424), .lit (.int .u32 2428436474), .lit (.int .u32 2756734187), .lit (.int .u32 3204031479), .lit (.int .u32 3329325298)]

/-- 'speculumlaw04.TreesRoot': WHATEVER THE INPUT: true; the input reads as it did. -/
def treesRootSpec : ChangeSpec := { name := "treesRoot", fn := fun _ => fun
  | [d] => { results := [.lit (.bool true)], args := [d] }
  | _ => none }
def treesRootRow : OpenClaim := { program := "ytahdekllphehkaadoor", sum := "96aa27e72f7c47c377a08be0d4657151ba724c8c360d2af3f61aeddba876f392", func := "speculum/speculumlaw04.TreesRoot", spec := "treesRoot", inPlace := ["internal/abi.NoEscape", "internal/bytealg.MakeNoZero"], unfollowed := true, recurses := true, named := ["speculum/sha.first", "speculum/sha.rounds"], apart := false, laid := [("speculum/sha.first", laid_speculum_sha_first), ("speculum/sha.rounds", laid_speculum_sha_rounds)] }
def TreesRootSaid : Prop := treesRootRow.holds Tryd.pinned (OpenSpec.ofChange treesRootSpec)

/-- ITS FALSE NEIGHBOUR: 'it returns false'. Refute it at one input. -/
def treesRootWrong : ChangeSpec := { name := "treesRoot", fn := fun _ => fun
  | [d] => { results := [.lit (.bool false)], args := [d] }
  | _ => none }
def TreesRootWrongFalsely : Prop := treesRootRow.holds Tryd.pinned (OpenSpec.ofChange treesRootWrong)

/-- 'speculumlaw04.TreesHalves': WHATEVER THE INPUT: true; the input reads as it did. -/
def treesHalvesSpec : ChangeSpec := { name := "treesHalves", fn := fun _ => fun
  | [d1, d2, d3] => { results := [.lit (.bool true)], args := [d1, d2, d3] }
  | _ => none }
def treesHalvesRow : OpenClaim := { program := "ytahdekllphehkaadoor", sum := "96aa27e72f7c47c377a08be0d4657151ba724c8c360d2af3f61aeddba876f392", func := "speculum/speculumlaw04.TreesHalves", spec := "treesHalves", inPlace := ["internal/abi.NoEscape", "internal/bytealg.MakeNoZero"], unfollowed := true, recurses := true, named := ["speculum/sha.first", "speculum/sha.rounds"], apart := false, laid := [("speculum/sha.first", laid_speculum_sha_first), ("speculum/sha.rounds", laid_speculum_sha_rounds)] }
def TreesHalvesSaid : Prop := treesHalvesRow.holds Tryd.pinned (OpenSpec.ofChange treesHalvesSpec)

/-- ITS FALSE NEIGHBOUR: 'it returns false'. Refute it at one input. -/
def treesHalvesWrong : ChangeSpec := { name := "treesHalves", fn := fun _ => fun
  | [d1, d2, d3] => { results := [.lit (.bool false)], args := [d1, d2, d3] }
  | _ => none }
def TreesHalvesWrongFalsely : Prop := treesHalvesRow.holds Tryd.pinned (OpenSpec.ofChange treesHalvesWrong)

/-- 'speculumlaw32.EvidenceBack': WHATEVER THE INPUT: true; the input reads as it did. -/
def evidenceBackSpec : ChangeSpec := { name := "evidenceBack", fn := fun _ => fun
  | [d1, d2] => { results := [.lit (.bool true)], args := [d1, d2] }
  | _ => none }
def evidenceBackRow : OpenClaim := { program := "ytahdekllphehkaadoor", sum := "96aa27e72f7c47c377a08be0d4657151ba724c8c360d2af3f61aeddba876f392", func := "speculum/speculumlaw32.EvidenceBack", spec := "evidenceBack", inPlace := ["internal/abi.NoEscape", "internal/bytealg.MakeNoZero"], unfollowed := true, recurses := true, named := ["speculum/sha.first", "speculum/sha.rounds"], apart := false, laid := [("speculum/sha.first", laid_speculum_sha_first), ("speculum/sha.rounds", laid_speculum_sha_rounds)] }
def EvidenceBackSaid : Prop := evidenceBackRow.holds Tryd.pinned (OpenSpec.ofChange evidenceBackSpec)

/-- ITS FALSE NEIGHBOUR: 'it returns false'. Refute it at one input. -/
def evidenceBackWrong : ChangeSpec := { name := "evidenceBack", fn := fun _ => fun
  | [d1, d2] => { results := [.lit (.bool false)], args := [d1, d2] }
  | _ => none }
def EvidenceBackWrongFalsely : Prop := evidenceBackRow.holds Tryd.pinned (OpenSpec.ofChange evidenceBackWrong)

/-- 'speculumlaw04.TreesHash': WHATEVER THE INPUT: true; the input reads as it did. -/
def treesHashSpec : ChangeSpec := { name := "treesHash", fn := fun _ => fun
  | [d1, d2, d3] => { results := [.lit (.bool true)], args := [d1, d2, d3] }
  | _ => none }
def treesHashRow : OpenClaim := { program := "ytahdekllphehkaadoor", sum := "96aa27e72f7c47c377a08be0d4657151ba724c8c360d2af3f61aeddba876f392", func := "speculum/speculumlaw04.TreesHash", spec := "treesHash", inPlace := ["internal/abi.NoEscape", "internal/bytealg.MakeNoZero"], unfollowed := true, recurses := true, named := ["speculum/sha.first", "speculum/sha.rounds"], apart := false, laid := [("speculum/sha.first", laid_speculum_sha_first), ("speculum/sha.rounds", laid_speculum_sha_rounds)] }
def TreesHashSaid : Prop := treesHashRow.holds Tryd.pinned (OpenSpec.ofChange treesHashSpec)

/-- ITS FALSE NEIGHBOUR: 'it returns false'. Refute it at one input. -/
def treesHashWrong : ChangeSpec := { name := "treesHash", fn := fun _ => fun
  | [d1, d2, d3] => { results := [.lit (.bool false)], args := [d1, d2, d3] }
  | _ => none }
def TreesHashWrongFalsely : Prop := treesHashRow.holds Tryd.pinned (OpenSpec.ofChange treesHashWrong)

/-- 'speculumlaw06.PathsPath': WHATEVER THE INPUT: true; the input reads as it did. -/
def pathsPathSpec : ChangeSpec := { name := "pathsPath", fn := fun _ => fun
  | [d1, d2] => { results := [.lit (.bool true)], args := [d1, d2] }
  | _ => none }
def pathsPathRow : OpenClaim := { program := "ytahdekllphehkaadoor", sum := "96aa27e72f7c47c377a08be0d4657151ba724c8c360d2af3f61aeddba876f392", func := "speculum/speculumlaw06.PathsPath", spec := "pathsPath", inPlace := ["internal/abi.NoEscape", "internal/bytealg.MakeNoZero"], unfollowed := true, recurses := true, named := ["speculum/sha.first", "speculum/sha.rounds"], apart := false, laid := [("speculum/sha.first", laid_speculum_sha_first), ("speculum/sha.rounds", laid_speculum_sha_rounds)] }
def PathsPathSaid : Prop := pathsPathRow.holds Tryd.pinned (OpenSpec.ofChange pathsPathSpec)

/-- ITS FALSE NEIGHBOUR: 'it returns false'. Refute it at one input. -/
def pathsPathWrong : ChangeSpec := { name := "pathsPath", fn := fun _ => fun
  | [d1, d2] => { results := [.lit (.bool false)], args := [d1, d2] }
  | _ => none }
def PathsPathWrongFalsely : Prop := pathsPathRow.holds Tryd.pinned (OpenSpec.ofChange pathsPathWrong)

/-- 'speculumlaw32.EvidenceFound': WHATEVER THE INPUT: true; the input reads as it did. -/
def evidenceFoundSpec : ChangeSpec := { name := "evidenceFound", fn := fun _ => fun
  | [d1, d2, d3] => { results := [.lit (.bool true)], args := [d1, d2, d3] }
  | _ => none }
def evidenceFoundRow : OpenClaim := { program := "ytahdekllphehkaadoor", sum := "96aa27e72f7c47c377a08be0d4657151ba724c8c360d2af3f61aeddba876f392", func := "speculum/speculumlaw32.EvidenceFound", spec := "evidenceFound", inPlace := ["internal/abi.NoEscape", "internal/bytealg.MakeNoZero"], unfollowed := true, recurses := true, named := ["speculum/sha.first", "speculum/sha.rounds"], apart := false, laid := [("speculum/sha.first", laid_speculum_sha_first), ("speculum/sha.rounds", laid_speculum_sha_rounds)] }
def EvidenceFoundSaid : Prop := evidenceFoundRow.holds Tryd.pinned (OpenSpec.ofChange evidenceFoundSpec)

/-- ITS FALSE NEIGHBOUR: 'it returns false'. Refute it at one input. -/
def evidenceFoundWrong : ChangeSpec := { name := "evidenceFound", fn := fun _ => fun
  | [d1, d2, d3] => { results := [.lit (.bool false)], args := [d1, d2, d3] }
  | _ => none }
def EvidenceFoundWrongFalsely : Prop := evidenceFoundRow.holds Tryd.pinned (OpenSpec.ofChange evidenceFoundWrong)

/-- 'speculumlaw06.PathsCheck': WHATEVER THE INPUT: true; the input reads as it did. -/
def pathsCheckSpec : ChangeSpec := { name := "pathsCheck", fn := fun _ => fun
  | [d1, d2, d3] => { results := [.lit (.bool true)], args := [d1, d2, d3] }
  | _ => none }
def pathsCheckRow : OpenClaim := { program := "ytahdekllphehkaadoor", sum := "96aa27e72f7c47c377a08be0d4657151ba724c8c360d2af3f61aeddba876f392", func := "speculum/speculumlaw06.PathsCheck", spec := "pathsCheck", inPlace := ["internal/abi.NoEscape", "internal/bytealg.MakeNoZero"], unfollowed := true, recurses := true, named := ["speculum/sha.first", "speculum/sha.rounds"], apart := false, laid := [("speculum/sha.first", laid_speculum_sha_first), ("speculum/sha.rounds", laid_speculum_sha_rounds)] }
def PathsCheckSaid : Prop := pathsCheckRow.holds Tryd.pinned (OpenSpec.ofChange pathsCheckSpec)

/-- ITS FALSE NEIGHBOUR: 'it returns false'. Refute it at one input. -/
def pathsCheckWrong : ChangeSpec := { name := "pathsCheck", fn := fun _ => fun
  | [d1, d2, d3] => { results := [.lit (.bool false)], args := [d1, d2, d3] }
  | _ => none }
def PathsCheckWrongFalsely : Prop := pathsCheckRow.holds Tryd.pinned (OpenSpec.ofChange pathsCheckWrong)

/-- 'speculumlaw06.PathsBack': WHATEVER THE INPUT: true; the input reads as it did. -/
def pathsBackSpec : ChangeSpec := { name := "pathsBack", fn := fun _ => fun
  | [d1, d2] => { results := [.lit (.bool true)], args := [d1, d2] }
  | _ => none }
def pathsBackRow : OpenClaim := { program := "ytahdekllphehkaadoor", sum := "96aa27e72f7c47c377a08be0d4657151ba724c8c360d2af3f61aeddba876f392", func := "speculum/speculumlaw06.PathsBack", spec := "pathsBack", inPlace := ["internal/abi.NoEscape", "internal/bytealg.MakeNoZero"], unfollowed := true, recurses := true, named := ["speculum/sha.first", "speculum/sha.rounds"], apart := false, laid := [("speculum/sha.first", laid_speculum_sha_first), ("speculum/sha.rounds", laid_speculum_sha_rounds)] }
def PathsBackSaid : Prop := pathsBackRow.holds Tryd.pinned (OpenSpec.ofChange pathsBackSpec)

/-- ITS FALSE NEIGHBOUR: 'it returns false'. Refute it at one input. -/
def pathsBackWrong : ChangeSpec := { name := "pathsBack", fn := fun _ => fun
  | [d1, d2] => { results := [.lit (.bool false)], args := [d1, d2] }
  | _ => none }
def PathsBackWrongFalsely : Prop := pathsBackRow.holds Tryd.pinned (OpenSpec.ofChange pathsBackWrong)

/-- 'speculumlaw08.LamportSign': WHATEVER THE INPUT: true; the input reads as it did. -/
def lamportSignSpec : ChangeSpec := { name := "lamportSign", fn := fun _ => fun
  | [d1, d2, d3] => { results := [.lit (.bool true)], args := [d1, d2, d3] }
  | _ => none }
def lamportSignRow : OpenClaim := { program := "ytahdekllphehkaadoor", sum := "96aa27e72f7c47c377a08be0d4657151ba724c8c360d2af3f61aeddba876f392", func := "speculum/speculumlaw08.LamportSign", spec := "lamportSign", inPlace := ["internal/abi.NoEscape", "internal/bytealg.MakeNoZero"], recurses := true, named := ["speculum/sha.first", "speculum/sha.rounds"], apart := false, laid := [("speculum/sha.first", laid_speculum_sha_first), ("speculum/sha.rounds", laid_speculum_sha_rounds)] }
def LamportSignSaid : Prop := lamportSignRow.holds Tryd.pinned (OpenSpec.ofChange lamportSignSpec)

/-- ITS FALSE NEIGHBOUR: 'it returns false'. Refute it at one input. -/
def lamportSignWrong : ChangeSpec := { name := "lamportSign", fn := fun _ => fun
  | [d1, d2, d3] => { results := [.lit (.bool false)], args := [d1, d2, d3] }
  | _ => none }
def LamportSignWrongFalsely : Prop := lamportSignRow.holds Tryd.pinned (OpenSpec.ofChange lamportSignWrong)

/-- 'speculumlaw08.LamportPublic': WHATEVER THE INPUT: true; the input reads as it did. -/
def lamportPublicSpec : ChangeSpec := { name := "lamportPublic", fn := fun _ => fun
  | [d1, d2, d3] => { results := [.lit (.bool true)], args := [d1, d2, d3] }
  | _ => none }
def lamportPublicRow : OpenClaim := { program := "ytahdekllphehkaadoor", sum := "96aa27e72f7c47c377a08be0d4657151ba724c8c360d2af3f61aeddba876f392", func := "speculum/speculumlaw08.LamportPublic", spec := "lamportPublic", inPlace := ["internal/abi.NoEscape", "internal/bytealg.MakeNoZero"], recurses := true, named := ["speculum/sha.first", "speculum/sha.rounds"], apart := false, laid := [("speculum/sha.first", laid_speculum_sha_first), ("speculum/sha.rounds", laid_speculum_sha_rounds)] }
def LamportPublicSaid : Prop := lamportPublicRow.holds Tryd.pinned (OpenSpec.ofChange lamportPublicSpec)

/-- ITS FALSE NEIGHBOUR: 'it returns false'. Refute it at one input. -/
def lamportPublicWrong : ChangeSpec := { name := "lamportPublic", fn := fun _ => fun
  | [d1, d2, d3] => { results := [.lit (.bool false)], args := [d1, d2, d3] }
  | _ => none }
def LamportPublicWrongFalsely : Prop := lamportPublicRow.holds Tryd.pinned (OpenSpec.ofChange lamportPublicWrong)

/-- 'speculumlaw08.LamportBytes': WHATEVER THE INPUT: true; the input reads as it did. -/
def lamportBytesSpec : ChangeSpec := { name := "lamportBytes", fn := fun _ => fun
  | [d1, d2] => { results := [.lit (.bool true)], args := [d1, d2] }
  | _ => none }
def lamportBytesRow : OpenClaim := { program := "ytahdekllphehkaadoor", sum := "96aa27e72f7c47c377a08be0d4657151ba724c8c360d2af3f61aeddba876f392", func := "speculum/speculumlaw08.LamportBytes", spec := "lamportBytes", inPlace := ["internal/abi.NoEscape", "internal/bytealg.MakeNoZero"], named := ["speculum/sha.first", "speculum/sha.rounds"], apart := false, laid := [("speculum/sha.first", laid_speculum_sha_first), ("speculum/sha.rounds", laid_speculum_sha_rounds)] }
def LamportBytesSaid : Prop := lamportBytesRow.holds Tryd.pinned (OpenSpec.ofChange lamportBytesSpec)

/-- ITS FALSE NEIGHBOUR: 'it returns false'. Refute it at one input. -/
def lamportBytesWrong : ChangeSpec := { name := "lamportBytes", fn := fun _ => fun
  | [d1, d2] => { results := [.lit (.bool false)], args := [d1, d2] }
  | _ => none }
def LamportBytesWrongFalsely : Prop := lamportBytesRow.holds Tryd.pinned (OpenSpec.ofChange lamportBytesWrong)

/-- 'speculumlaw10.HeadsGet': WHATEVER THE INPUT: true; the input reads as it did. -/
def headsGetSpec : ChangeSpec := { name := "headsGet", fn := fun _ => fun
  | [d1, d2, d3] => { results := [.lit (.bool true)], args := [d1, d2, d3] }
  | _ => none }
def headsGetRow : OpenClaim := { program := "ytahdekllphehkaadoor", sum := "96aa27e72f7c47c377a08be0d4657151ba724c8c360d2af3f61aeddba876f392", func := "speculum/speculumlaw10.HeadsGet", spec := "headsGet", inPlace := ["internal/abi.NoEscape", "internal/bytealg.MakeNoZero"], recurses := true, named := ["speculum/sha.first", "speculum/sha.rounds"], apart := false, laid := [("speculum/sha.first", laid_speculum_sha_first), ("speculum/sha.rounds", laid_speculum_sha_rounds)] }
def HeadsGetSaid : Prop := headsGetRow.holds Tryd.pinned (OpenSpec.ofChange headsGetSpec)

/-- ITS FALSE NEIGHBOUR: 'it returns false'. Refute it at one input. -/
def headsGetWrong : ChangeSpec := { name := "headsGet", fn := fun _ => fun
  | [d1, d2, d3] => { results := [.lit (.bool false)], args := [d1, d2, d3] }
  | _ => none }
def HeadsGetWrongFalsely : Prop := headsGetRow.holds Tryd.pinned (OpenSpec.ofChange headsGetWrong)

/-- 'speculumlaw10.HeadsBack': WHATEVER THE INPUT: true; the input reads as it did. -/
def headsBackSpec : ChangeSpec := { name := "headsBack", fn := fun _ => fun
  | [d1, d2, d3] => { results := [.lit (.bool true)], args := [d1, d2, d3] }
  | _ => none }
def headsBackRow : OpenClaim := { program := "ytahdekllphehkaadoor", sum := "96aa27e72f7c47c377a08be0d4657151ba724c8c360d2af3f61aeddba876f392", func := "speculum/speculumlaw10.HeadsBack", spec := "headsBack", inPlace := ["internal/abi.NoEscape", "internal/bytealg.MakeNoZero"], named := ["speculum/sha.first", "speculum/sha.rounds"], apart := false, laid := [("speculum/sha.first", laid_speculum_sha_first), ("speculum/sha.rounds", laid_speculum_sha_rounds)] }
def HeadsBackSaid : Prop := headsBackRow.holds Tryd.pinned (OpenSpec.ofChange headsBackSpec)

/-- ITS FALSE NEIGHBOUR: 'it returns false'. Refute it at one input. -/
def headsBackWrong : ChangeSpec := { name := "headsBack", fn := fun _ => fun
  | [d1, d2, d3] => { results := [.lit (.bool false)], args := [d1, d2, d3] }
  | _ => none }
def HeadsBackWrongFalsely : Prop := headsBackRow.holds Tryd.pinned (OpenSpec.ofChange headsBackWrong)

/-- 'speculumlaw09.KeytreeSign': WHATEVER THE INPUT: true; the input reads as it did. -/
def keytreeSignSpec : ChangeSpec := { name := "keytreeSign", fn := fun _ => fun
  | [d1, d2, d3] => { results := [.lit (.bool true)], args := [d1, d2, d3] }
  | _ => none }
def keytreeSignRow : OpenClaim := { program := "ytahdekllphehkaadoor", sum := "96aa27e72f7c47c377a08be0d4657151ba724c8c360d2af3f61aeddba876f392", func := "speculum/speculumlaw09.KeytreeSign", spec := "keytreeSign", inPlace := ["internal/abi.NoEscape", "internal/bytealg.MakeNoZero"], unfollowed := true, recurses := true, named := ["speculum/sha.first", "speculum/sha.rounds"], apart := false, laid := [("speculum/sha.first", laid_speculum_sha_first), ("speculum/sha.rounds", laid_speculum_sha_rounds)] }
def KeytreeSignSaid : Prop := keytreeSignRow.holds Tryd.pinned (OpenSpec.ofChange keytreeSignSpec)

/-- ITS FALSE NEIGHBOUR: 'it returns false'. Refute it at one input. -/
def keytreeSignWrong : ChangeSpec := { name := "keytreeSign", fn := fun _ => fun
  | [d1, d2, d3] => { results := [.lit (.bool false)], args := [d1, d2, d3] }
  | _ => none }
def KeytreeSignWrongFalsely : Prop := keytreeSignRow.holds Tryd.pinned (OpenSpec.ofChange keytreeSignWrong)

/-- 'speculumlaw09.KeytreeVerify': WHATEVER THE INPUT: true; the input reads as it did. -/
def keytreeVerifySpec : ChangeSpec := { name := "keytreeVerify", fn := fun _ => fun
  | [d1, d2, d3] => { results := [.lit (.bool true)], args := [d1, d2, d3] }
  | _ => none }
def keytreeVerifyRow : OpenClaim := { program := "ytahdekllphehkaadoor", sum := "96aa27e72f7c47c377a08be0d4657151ba724c8c360d2af3f61aeddba876f392", func := "speculum/speculumlaw09.KeytreeVerify", spec := "keytreeVerify", inPlace := ["internal/abi.NoEscape", "internal/bytealg.MakeNoZero"], unfollowed := true, recurses := true, named := ["speculum/sha.first", "speculum/sha.rounds"], apart := false, laid := [("speculum/sha.first", laid_speculum_sha_first), ("speculum/sha.rounds", laid_speculum_sha_rounds)] }
def KeytreeVerifySaid : Prop := keytreeVerifyRow.holds Tryd.pinned (OpenSpec.ofChange keytreeVerifySpec)

/-- ITS FALSE NEIGHBOUR: 'it returns false'. Refute it at one input. -/
def keytreeVerifyWrong : ChangeSpec := { name := "keytreeVerify", fn := fun _ => fun
  | [d1, d2, d3] => { results := [.lit (.bool false)], args := [d1, d2, d3] }
  | _ => none }
def KeytreeVerifyWrongFalsely : Prop := keytreeVerifyRow.holds Tryd.pinned (OpenSpec.ofChange keytreeVerifyWrong)

/-- 'speculumlaw09.KeytreeNone': WHATEVER THE INPUT: true; the input reads as it did. -/
def keytreeNoneSpec : ChangeSpec := { name := "keytreeNone", fn := fun _ => fun
  | [d1, d2] => { results := [.lit (.bool true)], args := [d1, d2] }
  | _ => none }
def keytreeNoneRow : OpenClaim := { program := "ytahdekllphehkaadoor", sum := "96aa27e72f7c47c377a08be0d4657151ba724c8c360d2af3f61aeddba876f392", func := "speculum/speculumlaw09.KeytreeNone", spec := "keytreeNone", inPlace := ["internal/abi.NoEscape", "internal/bytealg.MakeNoZero"], unfollowed := true, recurses := true, named := ["speculum/sha.first", "speculum/sha.rounds"], apart := false, laid := [("speculum/sha.first", laid_speculum_sha_first), ("speculum/sha.rounds", laid_speculum_sha_rounds)] }
def KeytreeNoneSaid : Prop := keytreeNoneRow.holds Tryd.pinned (OpenSpec.ofChange keytreeNoneSpec)

/-- ITS FALSE NEIGHBOUR: 'it returns false'. Refute it at one input. -/
def keytreeNoneWrong : ChangeSpec := { name := "keytreeNone", fn := fun _ => fun
  | [d1, d2] => { results := [.lit (.bool false)], args := [d1, d2] }
  | _ => none }
def KeytreeNoneWrongFalsely : Prop := keytreeNoneRow.holds Tryd.pinned (OpenSpec.ofChange keytreeNoneWrong)

/-- 'speculumlaw10.HeadsTell': WHATEVER THE INPUT: true; the input reads as it did. -/
def headsTellSpec : ChangeSpec := { name := "headsTell", fn := fun _ => fun
  | [d1, d2, d3] => { results := [.lit (.bool true)], args := [d1, d2, d3] }
  | _ => none }
def headsTellRow : OpenClaim := { program := "ytahdekllphehkaadoor", sum := "96aa27e72f7c47c377a08be0d4657151ba724c8c360d2af3f61aeddba876f392", func := "speculum/speculumlaw10.HeadsTell", spec := "headsTell", inPlace := ["internal/abi.NoEscape", "internal/bytealg.MakeNoZero"], recurses := true, named := ["speculum/sha.first", "speculum/sha.rounds"], apart := false, laid := [("speculum/sha.first", laid_speculum_sha_first), ("speculum/sha.rounds", laid_speculum_sha_rounds)] }
def HeadsTellSaid : Prop := headsTellRow.holds Tryd.pinned (OpenSpec.ofChange headsTellSpec)

/-- ITS FALSE NEIGHBOUR: 'it returns false'. Refute it at one input. -/
def headsTellWrong : ChangeSpec := { name := "headsTell", fn := fun _ => fun
  | [d1, d2, d3] => { results := [.lit (.bool false)], args := [d1, d2, d3] }
  | _ => none }
def HeadsTellWrongFalsely : Prop := headsTellRow.holds Tryd.pinned (OpenSpec.ofChange headsTellWrong)

/-- 'speculumlaw33.AuditNone': WHATEVER THE INPUT: true; the input reads as it did. -/
def auditNoneSpec : ChangeSpec := { name := "auditNone", fn := fun _ => fun
  | [d1, d2] => { results := [.lit (.bool true)], args := [d1, d2] }
  | _ => none }
def auditNoneRow : OpenClaim := { program := "ytahdekllphehkaadoor", sum := "96aa27e72f7c47c377a08be0d4657151ba724c8c360d2af3f61aeddba876f392", func := "speculum/speculumlaw33.AuditNone", spec := "auditNone", inPlace := ["internal/abi.NoEscape", "internal/bytealg.MakeNoZero"], unfollowed := true, recurses := true, named := ["speculum/sha.first", "speculum/sha.rounds"], apart := false, laid := [("speculum/sha.first", laid_speculum_sha_first), ("speculum/sha.rounds", laid_speculum_sha_rounds)] }
def AuditNoneSaid : Prop := auditNoneRow.holds Tryd.pinned (OpenSpec.ofChange auditNoneSpec)

/-- ITS FALSE NEIGHBOUR: 'it returns false'. Refute it at one input. -/
def auditNoneWrong : ChangeSpec := { name := "auditNone", fn := fun _ => fun
  | [d1, d2] => { results := [.lit (.bool false)], args := [d1, d2] }
  | _ => none }
def AuditNoneWrongFalsely : Prop := auditNoneRow.holds Tryd.pinned (OpenSpec.ofChange auditNoneWrong)

/-- 'speculumlaw32.EvidenceCheck': WHATEVER THE INPUT: true; the input reads as it did. -/
def evidenceCheckSpec : ChangeSpec := { name := "evidenceCheck", fn := fun _ => fun
  | [d1, d2, d3] => { results := [.lit (.bool true)], args := [d1, d2, d3] }
  | _ => none }
def evidenceCheckRow : OpenClaim := { program := "ytahdekllphehkaadoor", sum := "96aa27e72f7c47c377a08be0d4657151ba724c8c360d2af3f61aeddba876f392", func := "speculum/speculumlaw32.EvidenceCheck", spec := "evidenceCheck", inPlace := ["internal/abi.NoEscape", "internal/bytealg.MakeNoZero"], unfollowed := true, recurses := true, named := ["speculum/sha.first", "speculum/sha.rounds"], apart := false, laid := [("speculum/sha.first", laid_speculum_sha_first), ("speculum/sha.rounds", laid_speculum_sha_rounds)] }
def EvidenceCheckSaid : Prop := evidenceCheckRow.holds Tryd.pinned (OpenSpec.ofChange evidenceCheckSpec)

/-- ITS FALSE NEIGHBOUR: 'it returns false'. Refute it at one input. -/
def evidenceCheckWrong : ChangeSpec := { name := "evidenceCheck", fn := fun _ => fun
  | [d1, d2, d3] => { results := [.lit (.bool false)], args := [d1, d2, d3] }
  | _ => none }
def EvidenceCheckWrongFalsely : Prop := evidenceCheckRow.holds Tryd.pinned (OpenSpec.ofChange evidenceCheckWrong)

/-- 'speculumlaw32.EvidenceFind': WHATEVER THE INPUT: true; the input reads as it did. -/
def evidenceFindSpec : ChangeSpec := { name := "evidenceFind", fn := fun _ => fun
  | [d1, d2, d3] => { results := [.lit (.bool true)], args := [d1, d2, d3] }
  | _ => none }
def evidenceFindRow : OpenClaim := { program := "ytahdekllphehkaadoor", sum := "96aa27e72f7c47c377a08be0d4657151ba724c8c360d2af3f61aeddba876f392", func := "speculum/speculumlaw32.EvidenceFind", spec := "evidenceFind", inPlace := ["internal/abi.NoEscape", "internal/bytealg.MakeNoZero"], unfollowed := true, recurses := true, named := ["speculum/sha.first", "speculum/sha.rounds"], apart := false, laid := [("speculum/sha.first", laid_speculum_sha_first), ("speculum/sha.rounds", laid_speculum_sha_rounds)] }
def EvidenceFindSaid : Prop := evidenceFindRow.holds Tryd.pinned (OpenSpec.ofChange evidenceFindSpec)

/-- ITS FALSE NEIGHBOUR: 'it returns false'. Refute it at one input. -/
def evidenceFindWrong : ChangeSpec := { name := "evidenceFind", fn := fun _ => fun
  | [d1, d2, d3] => { results := [.lit (.bool false)], args := [d1, d2, d3] }
  | _ => none }
def EvidenceFindWrongFalsely : Prop := evidenceFindRow.holds Tryd.pinned (OpenSpec.ofChange evidenceFindWrong)

/- THE SECOND FORM. 'bulk': how many values and letters a reading holds, each counted each time it is reached (what is shared counts as often as it is met; a slice's spare places count too). A statement '..UptoSaid' is the law's where the arguments, and the package variables that the reading takes, are together of bulk at most 1048576: NARROWER than '..Said'. Prove '..Said' where nothing that the law and all that it calls make is longer than what came in: it says more and counts as full. Else prove '..UptoSaid'. A law counts once. -/
mutual
def uptoBulk {H : Type} : DataW H → Nat
  | .lit (.string bytes) => bytes.length + 1
  | .lit _ => 1
  | .nil => 1
  | .ptr d => uptoBulk d + 1
  | .slice elems spare => uptoBulkAll elems + uptoBulkAll spare + 1
  | .agg parts => uptoBulkAll parts + 1
  | .iface _ d => uptoBulk d + 1
  | .map entries => uptoBulkEntries entries + 1
  | .held _ => 1
def uptoBulkAll {H : Type} : List (DataW H) → Nat
  | [] => 0
  | d :: r => uptoBulk d + uptoBulkAll r
def uptoBulkEntries {H : Type} : List (Lit × DataW H) → Nat
  | [] => 0
  | x :: r => uptoBulkEntry x + uptoBulkEntries r
def uptoBulkEntry {H : Type} : Lit × DataW H → Nat
  | (.string bytes, d) => bytes.length + uptoBulk d + 1
  | (_, d) => uptoBulk d + 1
 end
def uptoSmall : (H : Type) → List (DataW H) → Bool := fun _ ds => decide (uptoBulkAll ds ≤ 1048576)
def OpenSpec.upto (s : _root_.Go.ChangeSpec) : _root_.Go.OpenSpec := { _root_.Go.OpenSpec.ofChange s with cond := some uptoSmall }

/-- 'speculumlaw04.TreesRoot', WHERE WHAT IT READS IS OF BULK AT MOST 1048576: true; the input reads as it did. -/
def treesRootUptoRow : OpenClaim := { program := "ytahdekllphehkaadoor", sum := "96aa27e72f7c47c377a08be0d4657151ba724c8c360d2af3f61aeddba876f392", func := "speculum/speculumlaw04.TreesRoot", spec := "treesRoot", inPlace := ["internal/abi.NoEscape", "internal/bytealg.MakeNoZero"], unfollowed := true, recurses := true, named := ["speculum/sha.first", "speculum/sha.rounds"], apart := false, laid := [("speculum/sha.first", laid_speculum_sha_first), ("speculum/sha.rounds", laid_speculum_sha_rounds)], narrowed := true }
def TreesRootUptoSaid : Prop := treesRootUptoRow.holds Tryd.pinned (OpenSpec.upto treesRootSpec)

/-- 'speculumlaw04.TreesHalves', WHERE WHAT IT READS IS OF BULK AT MOST 1048576: true; the input reads as it did. -/
def treesHalvesUptoRow : OpenClaim := { program := "ytahdekllphehkaadoor", sum := "96aa27e72f7c47c377a08be0d4657151ba724c8c360d2af3f61aeddba876f392", func := "speculum/speculumlaw04.TreesHalves", spec := "treesHalves", inPlace := ["internal/abi.NoEscape", "internal/bytealg.MakeNoZero"], unfollowed := true, recurses := true, named := ["speculum/sha.first", "speculum/sha.rounds"], apart := false, laid := [("speculum/sha.first", laid_speculum_sha_first), ("speculum/sha.rounds", laid_speculum_sha_rounds)], narrowed := true }
def TreesHalvesUptoSaid : Prop := treesHalvesUptoRow.holds Tryd.pinned (OpenSpec.upto treesHalvesSpec)

/-- 'speculumlaw32.EvidenceBack', WHERE WHAT IT READS IS OF BULK AT MOST 1048576: true; the input reads as it did. -/
def evidenceBackUptoRow : OpenClaim := { program := "ytahdekllphehkaadoor", sum := "96aa27e72f7c47c377a08be0d4657151ba724c8c360d2af3f61aeddba876f392", func := "speculum/speculumlaw32.EvidenceBack", spec := "evidenceBack", inPlace := ["internal/abi.NoEscape", "internal/bytealg.MakeNoZero"], unfollowed := true, recurses := true, named := ["speculum/sha.first", "speculum/sha.rounds"], apart := false, laid := [("speculum/sha.first", laid_speculum_sha_first), ("speculum/sha.rounds", laid_speculum_sha_rounds)], narrowed := true }
def EvidenceBackUptoSaid : Prop := evidenceBackUptoRow.holds Tryd.pinned (OpenSpec.upto evidenceBackSpec)

/-- 'speculumlaw04.TreesHash', WHERE WHAT IT READS IS OF BULK AT MOST 1048576: true; the input reads as it did. -/
def treesHashUptoRow : OpenClaim := { program := "ytahdekllphehkaadoor", sum := "96aa27e72f7c47c377a08be0d4657151ba724c8c360d2af3f61aeddba876f392", func := "speculum/speculumlaw04.TreesHash", spec := "treesHash", inPlace := ["internal/abi.NoEscape", "internal/bytealg.MakeNoZero"], unfollowed := true, recurses := true, named := ["speculum/sha.first", "speculum/sha.rounds"], apart := false, laid := [("speculum/sha.first", laid_speculum_sha_first), ("speculum/sha.rounds", laid_speculum_sha_rounds)], narrowed := true }
def TreesHashUptoSaid : Prop := treesHashUptoRow.holds Tryd.pinned (OpenSpec.upto treesHashSpec)

/-- 'speculumlaw06.PathsPath', WHERE WHAT IT READS IS OF BULK AT MOST 1048576: true; the input reads as it did. -/
def pathsPathUptoRow : OpenClaim := { program := "ytahdekllphehkaadoor", sum := "96aa27e72f7c47c377a08be0d4657151ba724c8c360d2af3f61aeddba876f392", func := "speculum/speculumlaw06.PathsPath", spec := "pathsPath", inPlace := ["internal/abi.NoEscape", "internal/bytealg.MakeNoZero"], unfollowed := true, recurses := true, named := ["speculum/sha.first", "speculum/sha.rounds"], apart := false, laid := [("speculum/sha.first", laid_speculum_sha_first), ("speculum/sha.rounds", laid_speculum_sha_rounds)], narrowed := true }
def PathsPathUptoSaid : Prop := pathsPathUptoRow.holds Tryd.pinned (OpenSpec.upto pathsPathSpec)

/-- 'speculumlaw32.EvidenceFound', WHERE WHAT IT READS IS OF BULK AT MOST 1048576: true; the input reads as it did. -/
def evidenceFoundUptoRow : OpenClaim := { program := "ytahdekllphehkaadoor", sum := "96aa27e72f7c47c377a08be0d4657151ba724c8c360d2af3f61aeddba876f392", func := "speculum/speculumlaw32.EvidenceFound", spec := "evidenceFound", inPlace := ["internal/abi.NoEscape", "internal/bytealg.MakeNoZero"], unfollowed := true, recurses := true, named := ["speculum/sha.first", "speculum/sha.rounds"], apart := false, laid := [("speculum/sha.first", laid_speculum_sha_first), ("speculum/sha.rounds", laid_speculum_sha_rounds)], narrowed := true }
def EvidenceFoundUptoSaid : Prop := evidenceFoundUptoRow.holds Tryd.pinned (OpenSpec.upto evidenceFoundSpec)

/-- 'speculumlaw06.PathsCheck', WHERE WHAT IT READS IS OF BULK AT MOST 1048576: true; the input reads as it did. -/
def pathsCheckUptoRow : OpenClaim := { program := "ytahdekllphehkaadoor", sum := "96aa27e72f7c47c377a08be0d4657151ba724c8c360d2af3f61aeddba876f392", func := "speculum/speculumlaw06.PathsCheck", spec := "pathsCheck", inPlace := ["internal/abi.NoEscape", "internal/bytealg.MakeNoZero"], unfollowed := true, recurses := true, named := ["speculum/sha.first", "speculum/sha.rounds"], apart := false, laid := [("speculum/sha.first", laid_speculum_sha_first), ("speculum/sha.rounds", laid_speculum_sha_rounds)], narrowed := true }
def PathsCheckUptoSaid : Prop := pathsCheckUptoRow.holds Tryd.pinned (OpenSpec.upto pathsCheckSpec)

/-- 'speculumlaw06.PathsBack', WHERE WHAT IT READS IS OF BULK AT MOST 1048576: true; the input reads as it did. -/
def pathsBackUptoRow : OpenClaim := { program := "ytahdekllphehkaadoor", sum := "96aa27e72f7c47c377a08be0d4657151ba724c8c360d2af3f61aeddba876f392", func := "speculum/speculumlaw06.PathsBack", spec := "pathsBack", inPlace := ["internal/abi.NoEscape", "internal/bytealg.MakeNoZero"], unfollowed := true, recurses := true, named := ["speculum/sha.first", "speculum/sha.rounds"], apart := false, laid := [("speculum/sha.first", laid_speculum_sha_first), ("speculum/sha.rounds", laid_speculum_sha_rounds)], narrowed := true }
def PathsBackUptoSaid : Prop := pathsBackUptoRow.holds Tryd.pinned (OpenSpec.upto pathsBackSpec)

/-- 'speculumlaw08.LamportSign', WHERE WHAT IT READS IS OF BULK AT MOST 1048576: true; the input reads as it did. -/
def lamportSignUptoRow : OpenClaim := { program := "ytahdekllphehkaadoor", sum := "96aa27e72f7c47c377a08be0d4657151ba724c8c360d2af3f61aeddba876f392", func := "speculum/speculumlaw08.LamportSign", spec := "lamportSign", inPlace := ["internal/abi.NoEscape", "internal/bytealg.MakeNoZero"], recurses := true, named := ["speculum/sha.first", "speculum/sha.rounds"], apart := false, laid := [("speculum/sha.first", laid_speculum_sha_first), ("speculum/sha.rounds", laid_speculum_sha_rounds)], narrowed := true }
def LamportSignUptoSaid : Prop := lamportSignUptoRow.holds Tryd.pinned (OpenSpec.upto lamportSignSpec)

/-- 'speculumlaw08.LamportPublic', WHERE WHAT IT READS IS OF BULK AT MOST 1048576: true; the input reads as it did. -/
def lamportPublicUptoRow : OpenClaim := { program := "ytahdekllphehkaadoor", sum := "96aa27e72f7c47c377a08be0d4657151ba724c8c360d2af3f61aeddba876f392", func := "speculum/speculumlaw08.LamportPublic", spec := "lamportPublic", inPlace := ["internal/abi.NoEscape", "internal/bytealg.MakeNoZero"], recurses := true, named := ["speculum/sha.first", "speculum/sha.rounds"], apart := false, laid := [("speculum/sha.first", laid_speculum_sha_first), ("speculum/sha.rounds", laid_speculum_sha_rounds)], narrowed := true }
def LamportPublicUptoSaid : Prop := lamportPublicUptoRow.holds Tryd.pinned (OpenSpec.upto lamportPublicSpec)

/-- 'speculumlaw08.LamportBytes', WHERE WHAT IT READS IS OF BULK AT MOST 1048576: true; the input reads as it did. -/
def lamportBytesUptoRow : OpenClaim := { program := "ytahdekllphehkaadoor", sum := "96aa27e72f7c47c377a08be0d4657151ba724c8c360d2af3f61aeddba876f392", func := "speculum/speculumlaw08.LamportBytes", spec := "lamportBytes", inPlace := ["internal/abi.NoEscape", "internal/bytealg.MakeNoZero"], named := ["speculum/sha.first", "speculum/sha.rounds"], apart := false, laid := [("speculum/sha.first", laid_speculum_sha_first), ("speculum/sha.rounds", laid_speculum_sha_rounds)], narrowed := true }
def LamportBytesUptoSaid : Prop := lamportBytesUptoRow.holds Tryd.pinned (OpenSpec.upto lamportBytesSpec)

/-- 'speculumlaw10.HeadsGet', WHERE WHAT IT READS IS OF BULK AT MOST 1048576: true; the input reads as it did. -/
def headsGetUptoRow : OpenClaim := { program := "ytahdekllphehkaadoor", sum := "96aa27e72f7c47c377a08be0d4657151ba724c8c360d2af3f61aeddba876f392", func := "speculum/speculumlaw10.HeadsGet", spec := "headsGet", inPlace := ["internal/abi.NoEscape", "internal/bytealg.MakeNoZero"], recurses := true, named := ["speculum/sha.first", "speculum/sha.rounds"], apart := false, laid := [("speculum/sha.first", laid_speculum_sha_first), ("speculum/sha.rounds", laid_speculum_sha_rounds)], narrowed := true }
def HeadsGetUptoSaid : Prop := headsGetUptoRow.holds Tryd.pinned (OpenSpec.upto headsGetSpec)

/-- 'speculumlaw10.HeadsBack', WHERE WHAT IT READS IS OF BULK AT MOST 1048576: true; the input reads as it did. -/
def headsBackUptoRow : OpenClaim := { program := "ytahdekllphehkaadoor", sum := "96aa27e72f7c47c377a08be0d4657151ba724c8c360d2af3f61aeddba876f392", func := "speculum/speculumlaw10.HeadsBack", spec := "headsBack", inPlace := ["internal/abi.NoEscape", "internal/bytealg.MakeNoZero"], named := ["speculum/sha.first", "speculum/sha.rounds"], apart := false, laid := [("speculum/sha.first", laid_speculum_sha_first), ("speculum/sha.rounds", laid_speculum_sha_rounds)], narrowed := true }
def HeadsBackUptoSaid : Prop := headsBackUptoRow.holds Tryd.pinned (OpenSpec.upto headsBackSpec)

/-- 'speculumlaw09.KeytreeSign', WHERE WHAT IT READS IS OF BULK AT MOST 1048576: true; the input reads as it did. -/
def keytreeSignUptoRow : OpenClaim := { program := "ytahdekllphehkaadoor", sum := "96aa27e72f7c47c377a08be0d4657151ba724c8c360d2af3f61aeddba876f392", func := "speculum/speculumlaw09.KeytreeSign", spec := "keytreeSign", inPlace := ["internal/abi.NoEscape", "internal/bytealg.MakeNoZero"], unfollowed := true, recurses := true, named := ["speculum/sha.first", "speculum/sha.rounds"], apart := false, laid := [("speculum/sha.first", laid_speculum_sha_first), ("speculum/sha.rounds", laid_speculum_sha_rounds)], narrowed := true }
def KeytreeSignUptoSaid : Prop := keytreeSignUptoRow.holds Tryd.pinned (OpenSpec.upto keytreeSignSpec)

/-- 'speculumlaw09.KeytreeVerify', WHERE WHAT IT READS IS OF BULK AT MOST 1048576: true; the input reads as it did. -/
def keytreeVerifyUptoRow : OpenClaim := { program := "ytahdekllphehkaadoor", sum := "96aa27e72f7c47c377a08be0d4657151ba724c8c360d2af3f61aeddba876f392", func := "speculum/speculumlaw09.KeytreeVerify", spec := "keytreeVerify", inPlace := ["internal/abi.NoEscape", "internal/bytealg.MakeNoZero"], unfollowed := true, recurses := true, named := ["speculum/sha.first", "speculum/sha.rounds"], apart := false, laid := [("speculum/sha.first", laid_speculum_sha_first), ("speculum/sha.rounds", laid_speculum_sha_rounds)], narrowed := true }
def KeytreeVerifyUptoSaid : Prop := keytreeVerifyUptoRow.holds Tryd.pinned (OpenSpec.upto keytreeVerifySpec)

/-- 'speculumlaw09.KeytreeNone', WHERE WHAT IT READS IS OF BULK AT MOST 1048576: true; the input reads as it did. -/
def keytreeNoneUptoRow : OpenClaim := { program := "ytahdekllphehkaadoor", sum := "96aa27e72f7c47c377a08be0d4657151ba724c8c360d2af3f61aeddba876f392", func := "speculum/speculumlaw09.KeytreeNone", spec := "keytreeNone", inPlace := ["internal/abi.NoEscape", "internal/bytealg.MakeNoZero"], unfollowed := true, recurses := true, named := ["speculum/sha.first", "speculum/sha.rounds"], apart := false, laid := [("speculum/sha.first", laid_speculum_sha_first), ("speculum/sha.rounds", laid_speculum_sha_rounds)], narrowed := true }
def KeytreeNoneUptoSaid : Prop := keytreeNoneUptoRow.holds Tryd.pinned (OpenSpec.upto keytreeNoneSpec)

/-- 'speculumlaw10.HeadsTell', WHERE WHAT IT READS IS OF BULK AT MOST 1048576: true; the input reads as it did. -/
def headsTellUptoRow : OpenClaim := { program := "ytahdekllphehkaadoor", sum := "96aa27e72f7c47c377a08be0d4657151ba724c8c360d2af3f61aeddba876f392", func := "speculum/speculumlaw10.HeadsTell", spec := "headsTell", inPlace := ["internal/abi.NoEscape", "internal/bytealg.MakeNoZero"], recurses := true, named := ["speculum/sha.first", "speculum/sha.rounds"], apart := false, laid := [("speculum/sha.first", laid_speculum_sha_first), ("speculum/sha.rounds", laid_speculum_sha_rounds)], narrowed := true }
def HeadsTellUptoSaid : Prop := headsTellUptoRow.holds Tryd.pinned (OpenSpec.upto headsTellSpec)

/-- 'speculumlaw33.AuditNone', WHERE WHAT IT READS IS OF BULK AT MOST 1048576: true; the input reads as it did. -/
def auditNoneUptoRow : OpenClaim := { program := "ytahdekllphehkaadoor", sum := "96aa27e72f7c47c377a08be0d4657151ba724c8c360d2af3f61aeddba876f392", func := "speculum/speculumlaw33.AuditNone", spec := "auditNone", inPlace := ["internal/abi.NoEscape", "internal/bytealg.MakeNoZero"], unfollowed := true, recurses := true, named := ["speculum/sha.first", "speculum/sha.rounds"], apart := false, laid := [("speculum/sha.first", laid_speculum_sha_first), ("speculum/sha.rounds", laid_speculum_sha_rounds)], narrowed := true }
def AuditNoneUptoSaid : Prop := auditNoneUptoRow.holds Tryd.pinned (OpenSpec.upto auditNoneSpec)

/-- 'speculumlaw32.EvidenceCheck', WHERE WHAT IT READS IS OF BULK AT MOST 1048576: true; the input reads as it did. -/
def evidenceCheckUptoRow : OpenClaim := { program := "ytahdekllphehkaadoor", sum := "96aa27e72f7c47c377a08be0d4657151ba724c8c360d2af3f61aeddba876f392", func := "speculum/speculumlaw32.EvidenceCheck", spec := "evidenceCheck", inPlace := ["internal/abi.NoEscape", "internal/bytealg.MakeNoZero"], unfollowed := true, recurses := true, named := ["speculum/sha.first", "speculum/sha.rounds"], apart := false, laid := [("speculum/sha.first", laid_speculum_sha_first), ("speculum/sha.rounds", laid_speculum_sha_rounds)], narrowed := true }
def EvidenceCheckUptoSaid : Prop := evidenceCheckUptoRow.holds Tryd.pinned (OpenSpec.upto evidenceCheckSpec)

/-- 'speculumlaw32.EvidenceFind', WHERE WHAT IT READS IS OF BULK AT MOST 1048576: true; the input reads as it did. -/
def evidenceFindUptoRow : OpenClaim := { program := "ytahdekllphehkaadoor", sum := "96aa27e72f7c47c377a08be0d4657151ba724c8c360d2af3f61aeddba876f392", func := "speculum/speculumlaw32.EvidenceFind", spec := "evidenceFind", inPlace := ["internal/abi.NoEscape", "internal/bytealg.MakeNoZero"], unfollowed := true, recurses := true, named := ["speculum/sha.first", "speculum/sha.rounds"], apart := false, laid := [("speculum/sha.first", laid_speculum_sha_first), ("speculum/sha.rounds", laid_speculum_sha_rounds)], narrowed := true }
def EvidenceFindUptoSaid : Prop := evidenceFindUptoRow.holds Tryd.pinned (OpenSpec.upto evidenceFindSpec)

end Rows
end Go.Proofs.YtahdekllphehkaaDoor
