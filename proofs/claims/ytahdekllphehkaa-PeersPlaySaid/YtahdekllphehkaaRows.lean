/-
  No cell of these rows narrows 'for every input' (looked for: loops, veiled, ifaces, maps, wideKeys, modest, calm, conditions, laid).
  DERIVED. THE GIVEN ROWS OF THIS SEAT. 5 by the template 'for every input the law returns true; each argument reads behind the call as it read before'; 0 by the template 'total and deterministic' (their statements: YtahdekllphehkaaTotals.lean).
  GIVEN WITH THE SEED: the statements are not yours to turn. If you find one false, say at which input.
  Laid BY PROGRAM, IN A SANDBOX (cutbox-rows.mjs): the forced cells as the released guide's own fill.sh prints them over the translation 5d3abdefa111330d… (all of the seat's roots in one cut). By AI agents, Wed Nov 11 2026. No macro, syntax, notation, axiom, sorry.
-/
import Derived.Test.YtahdekllphehkaaChecked
import GoSem.Claim
import GoSem.ClaimJoined
import GoSem.ClaimMapViews
import Derived.JoinedTies
import Derived.KernelRfl
namespace Go.Proofs.Ytahdekllphehkaa
/- THE CELL 'sum', in the pinned program and in every row, IS THE sha256 OF THE DUMP (.gsa) THAT YtahdekllphehkaaProg.lean LOADS. Nothing in Lean hashes anything: it is a label: what it is worth is what the hold of that sum in a sandbox is worth. -/
noncomputable def Try.pinned : Pinned := { name := "ytahdekllphehkaa", sum := "5d3abdefa111330d3e99a2cd20f9e631f1ebc96b98f39bef17aa7d7e6d62a804", checked := Try.checked }
namespace Rows
def none {H : Type} : Left H := { results := [], args := [] }

/-- 'speculumlaw19.BackoffTell': WHATEVER THE INPUT: true; the input reads as it did. -/
def backoffTellSpec : ChangeSpec := { name := "backoffTell", fn := fun _ => fun
  | [d1, d2] => { results := [.lit (.bool true)], args := [d1, d2] }
  | _ => none }
def backoffTellRow : OpenClaim := { program := "ytahdekllphehkaa", sum := "5d3abdefa111330d3e99a2cd20f9e631f1ebc96b98f39bef17aa7d7e6d62a804", func := "speculum/speculumlaw19.BackoffTell", spec := "backoffTell", apart := false }
def BackoffTellSaid : Prop := backoffTellRow.holds Try.pinned (OpenSpec.ofChange backoffTellSpec)

/-- ITS FALSE NEIGHBOUR: 'it returns false'. Refute it at one input. -/
def backoffTellWrong : ChangeSpec := { name := "backoffTell", fn := fun _ => fun
  | [d1, d2] => { results := [.lit (.bool false)], args := [d1, d2] }
  | _ => none }
def BackoffTellWrongFalsely : Prop := backoffTellRow.holds Try.pinned (OpenSpec.ofChange backoffTellWrong)

/-- 'speculumlaw19.BackoffBounds': WHATEVER THE INPUT: true; the input reads as it did. -/
def backoffBoundsSpec : ChangeSpec := { name := "backoffBounds", fn := fun _ => fun
  | [d] => { results := [.lit (.bool true)], args := [d] }
  | _ => none }
def backoffBoundsRow : OpenClaim := { program := "ytahdekllphehkaa", sum := "5d3abdefa111330d3e99a2cd20f9e631f1ebc96b98f39bef17aa7d7e6d62a804", func := "speculum/speculumlaw19.BackoffBounds", spec := "backoffBounds", apart := false }
def BackoffBoundsSaid : Prop := backoffBoundsRow.holds Try.pinned (OpenSpec.ofChange backoffBoundsSpec)

/-- ITS FALSE NEIGHBOUR: 'it returns false'. Refute it at one input. -/
def backoffBoundsWrong : ChangeSpec := { name := "backoffBounds", fn := fun _ => fun
  | [d] => { results := [.lit (.bool false)], args := [d] }
  | _ => none }
def BackoffBoundsWrongFalsely : Prop := backoffBoundsRow.holds Try.pinned (OpenSpec.ofChange backoffBoundsWrong)

/-- 'speculumlaw23.PeersAgain': WHATEVER THE INPUT: true; the input reads as it did. -/
def peersAgainSpec : ChangeSpec := { name := "peersAgain", fn := fun _ => fun
  | [d] => { results := [.lit (.bool true)], args := [d] }
  | _ => none }
def peersAgainRow : OpenClaim := { program := "ytahdekllphehkaa", sum := "5d3abdefa111330d3e99a2cd20f9e631f1ebc96b98f39bef17aa7d7e6d62a804", func := "speculum/speculumlaw23.PeersAgain", spec := "peersAgain", apart := false }
def PeersAgainSaid : Prop := peersAgainRow.holds Try.pinned (OpenSpec.ofChange peersAgainSpec)

/-- ITS FALSE NEIGHBOUR: 'it returns false'. Refute it at one input. -/
def peersAgainWrong : ChangeSpec := { name := "peersAgain", fn := fun _ => fun
  | [d] => { results := [.lit (.bool false)], args := [d] }
  | _ => none }
def PeersAgainWrongFalsely : Prop := peersAgainRow.holds Try.pinned (OpenSpec.ofChange peersAgainWrong)

/-- 'speculumlaw23.PeersPlay': WHATEVER THE INPUT: true; the input reads as it did. -/
def peersPlaySpec : ChangeSpec := { name := "peersPlay", fn := fun _ => fun
  | [d1, d2] => { results := [.lit (.bool true)], args := [d1, d2] }
  | _ => none }
def peersPlayRow : OpenClaim := { program := "ytahdekllphehkaa", sum := "5d3abdefa111330d3e99a2cd20f9e631f1ebc96b98f39bef17aa7d7e6d62a804", func := "speculum/speculumlaw23.PeersPlay", spec := "peersPlay", apart := false }
def PeersPlaySaid : Prop := peersPlayRow.holds Try.pinned (OpenSpec.ofChange peersPlaySpec)

/-- ITS FALSE NEIGHBOUR: 'it returns false'. Refute it at one input. -/
def peersPlayWrong : ChangeSpec := { name := "peersPlay", fn := fun _ => fun
  | [d1, d2] => { results := [.lit (.bool false)], args := [d1, d2] }
  | _ => none }
def PeersPlayWrongFalsely : Prop := peersPlayRow.holds Try.pinned (OpenSpec.ofChange peersPlayWrong)

/-- 'speculumlaw23.PeersNone': WHATEVER THE INPUT: true; the input reads as it did. -/
def peersNoneSpec : ChangeSpec := { name := "peersNone", fn := fun _ => fun
  | [d] => { results := [.lit (.bool true)], args := [d] }
  | _ => none }
def peersNoneRow : OpenClaim := { program := "ytahdekllphehkaa", sum := "5d3abdefa111330d3e99a2cd20f9e631f1ebc96b98f39bef17aa7d7e6d62a804", func := "speculum/speculumlaw23.PeersNone", spec := "peersNone", apart := false }
def PeersNoneSaid : Prop := peersNoneRow.holds Try.pinned (OpenSpec.ofChange peersNoneSpec)

/-- ITS FALSE NEIGHBOUR: 'it returns false'. Refute it at one input. -/
def peersNoneWrong : ChangeSpec := { name := "peersNone", fn := fun _ => fun
  | [d] => { results := [.lit (.bool false)], args := [d] }
  | _ => none }
def PeersNoneWrongFalsely : Prop := peersNoneRow.holds Try.pinned (OpenSpec.ofChange peersNoneWrong)

/- THE SECOND FORM. 'bulk': how many values and letters a reading holds, each counted each time it is reached (what is shared counts as often as it is met; a slice's spare places count too). A statement '..UptoSaid' is the law's where the arguments, and the package variables that the reading takes, are together of bulk at most 1048576: NARROWER than '..Said'. Prove '..Said' where nothing that the law and all that it calls make is longer than what came in: it says more and counts as full. Else prove '..UptoSaid'. A law counts once. -/
mutual
def uptoBulk {H : Type} : DataW H → Nat
  | .lit (.string bytes) => bytes.length + 1
  | .lit _ => 1
  | .nil => 1
  | .ptr d => uptoBulk d + 1
  | .slice elems spare => uptoBulkAll elems + uptoBulkAll spare + 1
  | .agg parts => uptoBulkAll parts + 1
  | .iface _ d => uptoBulk d + 1
  | .map entries => uptoBulkEntries entries + 1
  | .held _ => 1
def uptoBulkAll {H : Type} : List (DataW H) → Nat
  | [] => 0
  | d :: r => uptoBulk d + uptoBulkAll r
def uptoBulkEntries {H : Type} : List (Lit × DataW H) → Nat
  | [] => 0
  | x :: r => uptoBulkEntry x + uptoBulkEntries r
def uptoBulkEntry {H : Type} : Lit × DataW H → Nat
  | (.string bytes, d) => bytes.length + uptoBulk d + 1
  | (_, d) => uptoBulk d + 1
 end
def uptoSmall : (H : Type) → List (DataW H) → Bool := fun _ ds => decide (uptoBulkAll ds ≤ 1048576)
def OpenSpec.upto (s : _root_.Go.ChangeSpec) : _root_.Go.OpenSpec := { _root_.Go.OpenSpec.ofChange s with cond := some uptoSmall }

/-- 'speculumlaw19.BackoffTell', WHERE WHAT IT READS IS OF BULK AT MOST 1048576: true; the input reads as it did. -/
def backoffTellUptoRow : OpenClaim := { program := "ytahdekllphehkaa", sum := "5d3abdefa111330d3e99a2cd20f9e631f1ebc96b98f39bef17aa7d7e6d62a804", func := "speculum/speculumlaw19.BackoffTell", spec := "backoffTell", apart := false, narrowed := true }
def BackoffTellUptoSaid : Prop := backoffTellUptoRow.holds Try.pinned (OpenSpec.upto backoffTellSpec)

/-- 'speculumlaw19.BackoffBounds', WHERE WHAT IT READS IS OF BULK AT MOST 1048576: true; the input reads as it did. -/
def backoffBoundsUptoRow : OpenClaim := { program := "ytahdekllphehkaa", sum := "5d3abdefa111330d3e99a2cd20f9e631f1ebc96b98f39bef17aa7d7e6d62a804", func := "speculum/speculumlaw19.BackoffBounds", spec := "backoffBounds", apart := false, narrowed := true }
def BackoffBoundsUptoSaid : Prop := backoffBoundsUptoRow.holds Try.pinned (OpenSpec.upto backoffBoundsSpec)

/-- 'speculumlaw23.PeersAgain', WHERE WHAT IT READS IS OF BULK AT MOST 1048576: true; the input reads as it did. -/
def peersAgainUptoRow : OpenClaim := { program := "ytahdekllphehkaa", sum := "5d3abdefa111330d3e99a2cd20f9e631f1ebc96b98f39bef17aa7d7e6d62a804", func := "speculum/speculumlaw23.PeersAgain", spec := "peersAgain", apart := false, narrowed := true }
def PeersAgainUptoSaid : Prop := peersAgainUptoRow.holds Try.pinned (OpenSpec.upto peersAgainSpec)

/-- 'speculumlaw23.PeersPlay', WHERE WHAT IT READS IS OF BULK AT MOST 1048576: true; the input reads as it did. -/
def peersPlayUptoRow : OpenClaim := { program := "ytahdekllphehkaa", sum := "5d3abdefa111330d3e99a2cd20f9e631f1ebc96b98f39bef17aa7d7e6d62a804", func := "speculum/speculumlaw23.PeersPlay", spec := "peersPlay", apart := false, narrowed := true }
def PeersPlayUptoSaid : Prop := peersPlayUptoRow.holds Try.pinned (OpenSpec.upto peersPlaySpec)

/-- 'speculumlaw23.PeersNone', WHERE WHAT IT READS IS OF BULK AT MOST 1048576: true; the input reads as it did. -/
def peersNoneUptoRow : OpenClaim := { program := "ytahdekllphehkaa", sum := "5d3abdefa111330d3e99a2cd20f9e631f1ebc96b98f39bef17aa7d7e6d62a804", func := "speculum/speculumlaw23.PeersNone", spec := "peersNone", apart := false, narrowed := true }
def PeersNoneUptoSaid : Prop := peersNoneUptoRow.holds Try.pinned (OpenSpec.upto peersNoneSpec)

end Rows
end Go.Proofs.Ytahdekllphehkaa
