/-
  No cell of these rows narrows 'for every input' (looked for: loops, veiled, ifaces, maps, wideKeys, modest, calm, conditions, laid).
  DERIVED. THE GIVEN ROWS OF THIS SEAT. 7 by the template 'for every input the law returns true; each argument reads behind the call as it read before'; 0 by the template 'total and deterministic' (their statements: YtehmaafnbgpkcaaTotals.lean).
  GIVEN WITH THE SEED: the statements are not yours to turn. If you find one false, say at which input.
  Laid BY PROGRAM, IN A SANDBOX (cutbox-rows.mjs): the forced cells as the released guide's own fill.sh prints them over the translation 67ba2b4da0469aef… (all of the seat's roots in one cut). By AI agents, Wed Nov 11 2026. No macro, syntax, notation, axiom, sorry.
-/
import Derived.Test.YtehmaafnbgpkcaaChecked
import GoSem.Claim
import GoSem.ClaimJoined
import GoSem.ClaimMapViews
import Derived.JoinedTies
import Derived.KernelRfl
namespace Go.Proofs.Ytehmaafnbgpkcaa
/- THE CELL 'sum', in the pinned program and in every row, IS THE sha256 OF THE DUMP (.gsa) THAT YtehmaafnbgpkcaaProg.lean LOADS. Nothing in Lean hashes anything: it is a label: what it is worth is what the hold of that sum in a sandbox is worth. -/
noncomputable def Try.pinned : Pinned := { name := "ytehmaafnbgpkcaa", sum := "67ba2b4da0469aef37e472d126ce6ae3c3beaa412200c68ce9c3d45e36020df0", checked := Try.checked }
namespace Rows
def none {H : Type} : Left H := { results := [], args := [] }

/-- 'majordomolaw28.ReplicaRecovers': WHATEVER THE INPUT: true; the input reads as it did. -/
def replicaRecoversSpec : ChangeSpec := { name := "replicaRecovers", fn := fun _ => fun
  | [d1, d2, d3] => { results := [.lit (.bool true)], args := [d1, d2, d3] }
  | _ => none }
def replicaRecoversRow : OpenClaim := { program := "ytehmaafnbgpkcaa", sum := "67ba2b4da0469aef37e472d126ce6ae3c3beaa412200c68ce9c3d45e36020df0", func := "majordomo/majordomolaw28.ReplicaRecovers", spec := "replicaRecovers", unfollowed := true, recurses := true, apart := false }
def ReplicaRecoversSaid : Prop := replicaRecoversRow.holds Try.pinned (OpenSpec.ofChange replicaRecoversSpec)

/-- ITS FALSE NEIGHBOUR: 'it returns false'. Refute it at one input. -/
def replicaRecoversWrong : ChangeSpec := { name := "replicaRecovers", fn := fun _ => fun
  | [d1, d2, d3] => { results := [.lit (.bool false)], args := [d1, d2, d3] }
  | _ => none }
def ReplicaRecoversWrongFalsely : Prop := replicaRecoversRow.holds Try.pinned (OpenSpec.ofChange replicaRecoversWrong)

/-- 'majordomolaw28.ReplicaWrites': WHATEVER THE INPUT: true; the input reads as it did. -/
def replicaWritesSpec : ChangeSpec := { name := "replicaWrites", fn := fun _ => fun
  | [d1, d2, d3, d4] => { results := [.lit (.bool true)], args := [d1, d2, d3, d4] }
  | _ => none }
def replicaWritesRow : OpenClaim := { program := "ytehmaafnbgpkcaa", sum := "67ba2b4da0469aef37e472d126ce6ae3c3beaa412200c68ce9c3d45e36020df0", func := "majordomo/majordomolaw28.ReplicaWrites", spec := "replicaWrites", unfollowed := true, recurses := true, apart := false }
def ReplicaWritesSaid : Prop := replicaWritesRow.holds Try.pinned (OpenSpec.ofChange replicaWritesSpec)

/-- ITS FALSE NEIGHBOUR: 'it returns false'. Refute it at one input. -/
def replicaWritesWrong : ChangeSpec := { name := "replicaWrites", fn := fun _ => fun
  | [d1, d2, d3, d4] => { results := [.lit (.bool false)], args := [d1, d2, d3, d4] }
  | _ => none }
def ReplicaWritesWrongFalsely : Prop := replicaWritesRow.holds Try.pinned (OpenSpec.ofChange replicaWritesWrong)

/-- 'majordomolaw28.ReplicaOnce': WHATEVER THE INPUT: true; the input reads as it did. -/
def replicaOnceSpec : ChangeSpec := { name := "replicaOnce", fn := fun _ => fun
  | [d1, d2, d3, d4, d5] => { results := [.lit (.bool true)], args := [d1, d2, d3, d4, d5] }
  | _ => none }
def replicaOnceRow : OpenClaim := { program := "ytehmaafnbgpkcaa", sum := "67ba2b4da0469aef37e472d126ce6ae3c3beaa412200c68ce9c3d45e36020df0", func := "majordomo/majordomolaw28.ReplicaOnce", spec := "replicaOnce", unfollowed := true, recurses := true, apart := false }
def ReplicaOnceSaid : Prop := replicaOnceRow.holds Try.pinned (OpenSpec.ofChange replicaOnceSpec)

/-- ITS FALSE NEIGHBOUR: 'it returns false'. Refute it at one input. -/
def replicaOnceWrong : ChangeSpec := { name := "replicaOnce", fn := fun _ => fun
  | [d1, d2, d3, d4, d5] => { results := [.lit (.bool false)], args := [d1, d2, d3, d4, d5] }
  | _ => none }
def ReplicaOnceWrongFalsely : Prop := replicaOnceRow.holds Try.pinned (OpenSpec.ofChange replicaOnceWrong)

/-- 'majordomolaw28.ReplicaKeeps': WHATEVER THE INPUT: true; the input reads as it did. -/
def replicaKeepsSpec : ChangeSpec := { name := "replicaKeeps", fn := fun _ => fun
  | [d] => { results := [.lit (.bool true)], args := [d] }
  | _ => none }
def replicaKeepsRow : OpenClaim := { program := "ytehmaafnbgpkcaa", sum := "67ba2b4da0469aef37e472d126ce6ae3c3beaa412200c68ce9c3d45e36020df0", func := "majordomo/majordomolaw28.ReplicaKeeps", spec := "replicaKeeps", unfollowed := true, recurses := true, apart := false }
def ReplicaKeepsSaid : Prop := replicaKeepsRow.holds Try.pinned (OpenSpec.ofChange replicaKeepsSpec)

/-- ITS FALSE NEIGHBOUR: 'it returns false'. Refute it at one input. -/
def replicaKeepsWrong : ChangeSpec := { name := "replicaKeeps", fn := fun _ => fun
  | [d] => { results := [.lit (.bool false)], args := [d] }
  | _ => none }
def ReplicaKeepsWrongFalsely : Prop := replicaKeepsRow.holds Try.pinned (OpenSpec.ofChange replicaKeepsWrong)

/-- 'majordomolaw28.ReplicaFronts': WHATEVER THE INPUT: true; the input reads as it did. -/
def replicaFrontsSpec : ChangeSpec := { name := "replicaFronts", fn := fun _ => fun
  | [d] => { results := [.lit (.bool true)], args := [d] }
  | _ => none }
def replicaFrontsRow : OpenClaim := { program := "ytehmaafnbgpkcaa", sum := "67ba2b4da0469aef37e472d126ce6ae3c3beaa412200c68ce9c3d45e36020df0", func := "majordomo/majordomolaw28.ReplicaFronts", spec := "replicaFronts", unfollowed := true, recurses := true, apart := false }
def ReplicaFrontsSaid : Prop := replicaFrontsRow.holds Try.pinned (OpenSpec.ofChange replicaFrontsSpec)

/-- ITS FALSE NEIGHBOUR: 'it returns false'. Refute it at one input. -/
def replicaFrontsWrong : ChangeSpec := { name := "replicaFronts", fn := fun _ => fun
  | [d] => { results := [.lit (.bool false)], args := [d] }
  | _ => none }
def ReplicaFrontsWrongFalsely : Prop := replicaFrontsRow.holds Try.pinned (OpenSpec.ofChange replicaFrontsWrong)

/-- 'majordomolaw28.ReplicaNodes': WHATEVER THE INPUT: true; the input reads as it did. -/
def replicaNodesSpec : ChangeSpec := { name := "replicaNodes", fn := fun _ => fun
  | [d1, d2, d3] => { results := [.lit (.bool true)], args := [d1, d2, d3] }
  | _ => none }
def replicaNodesRow : OpenClaim := { program := "ytehmaafnbgpkcaa", sum := "67ba2b4da0469aef37e472d126ce6ae3c3beaa412200c68ce9c3d45e36020df0", func := "majordomo/majordomolaw28.ReplicaNodes", spec := "replicaNodes", unfollowed := true, recurses := true, apart := false }
def ReplicaNodesSaid : Prop := replicaNodesRow.holds Try.pinned (OpenSpec.ofChange replicaNodesSpec)

/-- ITS FALSE NEIGHBOUR: 'it returns false'. Refute it at one input. -/
def replicaNodesWrong : ChangeSpec := { name := "replicaNodes", fn := fun _ => fun
  | [d1, d2, d3] => { results := [.lit (.bool false)], args := [d1, d2, d3] }
  | _ => none }
def ReplicaNodesWrongFalsely : Prop := replicaNodesRow.holds Try.pinned (OpenSpec.ofChange replicaNodesWrong)

/-- 'majordomolaw28.ReplicaKnown': WHATEVER THE INPUT: true; the input reads as it did. -/
def replicaKnownSpec : ChangeSpec := { name := "replicaKnown", fn := fun _ => fun
  | [] => { results := [.lit (.bool true)], args := [] }
  | _ => none }
def replicaKnownRow : OpenClaim := { program := "ytehmaafnbgpkcaa", sum := "67ba2b4da0469aef37e472d126ce6ae3c3beaa412200c68ce9c3d45e36020df0", func := "majordomo/majordomolaw28.ReplicaKnown", spec := "replicaKnown", unfollowed := true, recurses := true, apart := false }
def ReplicaKnownSaid : Prop := replicaKnownRow.holds Try.pinned (OpenSpec.ofChange replicaKnownSpec)

/-- ITS FALSE NEIGHBOUR: 'it returns false'. Refute it at one input. -/
def replicaKnownWrong : ChangeSpec := { name := "replicaKnown", fn := fun _ => fun
  | [] => { results := [.lit (.bool false)], args := [] }
  | _ => none }
def ReplicaKnownWrongFalsely : Prop := replicaKnownRow.holds Try.pinned (OpenSpec.ofChange replicaKnownWrong)

/- THE SECOND FORM. 'bulk': how many values and letters a reading holds, each counted each time it is reached (what is shared counts as often as it is met; a slice's spare places count too). A statement '..UptoSaid' is the law's where the arguments, and the package variables that the reading takes, are together of bulk at most 1048576: NARROWER than '..Said'. Prove '..Said' where nothing that the law and all that it calls make is longer than what came in: it says more and counts as full. Else prove '..UptoSaid'. A law counts once. -/
mutual
def uptoBulk {H : Type} : DataW H → Nat
  | .lit (.string bytes) => bytes.length + 1
  | .lit _ => 1
  | .nil => 1
  | .ptr d => uptoBulk d + 1
  | .slice elems spare => uptoBulkAll elems + uptoBulkAll spare + 1
  | .agg parts => uptoBulkAll parts + 1
  | .iface _ d => uptoBulk d + 1
  | .map entries => uptoBulkEntries entries + 1
  | .held _ => 1
def uptoBulkAll {H : Type} : List (DataW H) → Nat
  | [] => 0
  | d :: r => uptoBulk d + uptoBulkAll r
def uptoBulkEntries {H : Type} : List (Lit × DataW H) → Nat
  | [] => 0
  | x :: r => uptoBulkEntry x + uptoBulkEntries r
def uptoBulkEntry {H : Type} : Lit × DataW H → Nat
  | (.string bytes, d) => bytes.length + uptoBulk d + 1
  | (_, d) => uptoBulk d + 1
 end
def uptoSmall : (H : Type) → List (DataW H) → Bool := fun _ ds => decide (uptoBulkAll ds ≤ 1048576)
def OpenSpec.upto (s : _root_.Go.ChangeSpec) : _root_.Go.OpenSpec := { _root_.Go.OpenSpec.ofChange s with cond := some uptoSmall }

/-- 'majordomolaw28.ReplicaRecovers', WHERE WHAT IT READS IS OF BULK AT MOST 1048576: true; the input reads as it did. -/
def replicaRecoversUptoRow : OpenClaim := { program := "ytehmaafnbgpkcaa", sum := "67ba2b4da0469aef37e472d126ce6ae3c3beaa412200c68ce9c3d45e36020df0", func := "majordomo/majordomolaw28.ReplicaRecovers", spec := "replicaRecovers", unfollowed := true, recurses := true, apart := false, narrowed := true }
def ReplicaRecoversUptoSaid : Prop := replicaRecoversUptoRow.holds Try.pinned (OpenSpec.upto replicaRecoversSpec)

/-- 'majordomolaw28.ReplicaWrites', WHERE WHAT IT READS IS OF BULK AT MOST 1048576: true; the input reads as it did. -/
def replicaWritesUptoRow : OpenClaim := { program := "ytehmaafnbgpkcaa", sum := "67ba2b4da0469aef37e472d126ce6ae3c3beaa412200c68ce9c3d45e36020df0", func := "majordomo/majordomolaw28.ReplicaWrites", spec := "replicaWrites", unfollowed := true, recurses := true, apart := false, narrowed := true }
def ReplicaWritesUptoSaid : Prop := replicaWritesUptoRow.holds Try.pinned (OpenSpec.upto replicaWritesSpec)

/-- 'majordomolaw28.ReplicaOnce', WHERE WHAT IT READS IS OF BULK AT MOST 1048576: true; the input reads as it did. -/
def replicaOnceUptoRow : OpenClaim := { program := "ytehmaafnbgpkcaa", sum := "67ba2b4da0469aef37e472d126ce6ae3c3beaa412200c68ce9c3d45e36020df0", func := "majordomo/majordomolaw28.ReplicaOnce", spec := "replicaOnce", unfollowed := true, recurses := true, apart := false, narrowed := true }
def ReplicaOnceUptoSaid : Prop := replicaOnceUptoRow.holds Try.pinned (OpenSpec.upto replicaOnceSpec)

/-- 'majordomolaw28.ReplicaKeeps', WHERE WHAT IT READS IS OF BULK AT MOST 1048576: true; the input reads as it did. -/
def replicaKeepsUptoRow : OpenClaim := { program := "ytehmaafnbgpkcaa", sum := "67ba2b4da0469aef37e472d126ce6ae3c3beaa412200c68ce9c3d45e36020df0", func := "majordomo/majordomolaw28.ReplicaKeeps", spec := "replicaKeeps", unfollowed := true, recurses := true, apart := false, narrowed := true }
def ReplicaKeepsUptoSaid : Prop := replicaKeepsUptoRow.holds Try.pinned (OpenSpec.upto replicaKeepsSpec)

/-- 'majordomolaw28.ReplicaFronts', WHERE WHAT IT READS IS OF BULK AT MOST 1048576: true; the input reads as it did. -/
def replicaFrontsUptoRow : OpenClaim := { program := "ytehmaafnbgpkcaa", sum := "67ba2b4da0469aef37e472d126ce6ae3c3beaa412200c68ce9c3d45e36020df0", func := "majordomo/majordomolaw28.ReplicaFronts", spec := "replicaFronts", unfollowed := true, recurses := true, apart := false, narrowed := true }
def ReplicaFrontsUptoSaid : Prop := replicaFrontsUptoRow.holds Try.pinned (OpenSpec.upto replicaFrontsSpec)

/-- 'majordomolaw28.ReplicaNodes', WHERE WHAT IT READS IS OF BULK AT MOST 1048576: true; the input reads as it did. -/
def replicaNodesUptoRow : OpenClaim := { program := "ytehmaafnbgpkcaa", sum := "67ba2b4da0469aef37e472d126ce6ae3c3beaa412200c68ce9c3d45e36020df0", func := "majordomo/majordomolaw28.ReplicaNodes", spec := "replicaNodes", unfollowed := true, recurses := true, apart := false, narrowed := true }
def ReplicaNodesUptoSaid : Prop := replicaNodesUptoRow.holds Try.pinned (OpenSpec.upto replicaNodesSpec)

/-- 'majordomolaw28.ReplicaKnown', WHERE WHAT IT READS IS OF BULK AT MOST 1048576: true; the input reads as it did. -/
def replicaKnownUptoRow : OpenClaim := { program := "ytehmaafnbgpkcaa", sum := "67ba2b4da0469aef37e472d126ce6ae3c3beaa412200c68ce9c3d45e36020df0", func := "majordomo/majordomolaw28.ReplicaKnown", spec := "replicaKnown", unfollowed := true, recurses := true, apart := false, narrowed := true }
def ReplicaKnownUptoSaid : Prop := replicaKnownUptoRow.holds Try.pinned (OpenSpec.upto replicaKnownSpec)

end Rows
end Go.Proofs.Ytehmaafnbgpkcaa
