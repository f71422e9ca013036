/-
  No cell of these rows narrows 'for every input' (looked for: loops, veiled, ifaces, maps, wideKeys, modest, calm, conditions, laid).
  DERIVED. THE GIVEN ROWS OF THIS SEAT. 7 by the template 'for every input the law returns true; each argument reads behind the call as it read before'; 0 by the template 'total and deterministic' (their statements: YtbdodpippgakjaaTotals.lean).
  GIVEN WITH THE SEED: the statements are not yours to turn. If you find one false, say at which input.
  Laid BY PROGRAM, IN A SANDBOX (cutbox-rows.mjs): the forced cells as the released guide's own fill.sh prints them over the translation bc4770ff4749c027… (all of the seat's roots in one cut). By AI agents, Wed Nov 11 2026. No macro, syntax, notation, axiom, sorry.
-/
import Derived.Test.YtbdodpippgakjaaChecked
import GoSem.Claim
import GoSem.ClaimJoined
import GoSem.ClaimMapViews
import Derived.JoinedTies
import Derived.KernelRfl
namespace Go.Proofs.Ytbdodpippgakjaa
/- THE CELL 'sum', in the pinned program and in every row, IS THE sha256 OF THE DUMP (.gsa) THAT YtbdodpippgakjaaProg.lean LOADS. Nothing in Lean hashes anything: it is a label: what it is worth is what the hold of that sum in a sandbox is worth. -/
noncomputable def Try.pinned : Pinned := { name := "ytbdodpippgakjaa", sum := "bc4770ff4749c027ebe4e3967a45e4ce5a89a579bead3baf757c2cc7c2fe0635", checked := Try.checked }
namespace Rows
def none {H : Type} : Left H := { results := [], args := [] }

/-- 'majordomolaw29.ExecutorNexts': WHATEVER THE INPUT: true; the input reads as it did. -/
def executorNextsSpec : ChangeSpec := { name := "executorNexts", fn := fun _ => fun
  | [d1, d2] => { results := [.lit (.bool true)], args := [d1, d2] }
  | _ => none }
def executorNextsRow : OpenClaim := { program := "ytbdodpippgakjaa", sum := "bc4770ff4749c027ebe4e3967a45e4ce5a89a579bead3baf757c2cc7c2fe0635", func := "majordomo/majordomolaw29.ExecutorNexts", spec := "executorNexts", unfollowed := true, recurses := true, apart := false }
def ExecutorNextsSaid : Prop := executorNextsRow.holds Try.pinned (OpenSpec.ofChange executorNextsSpec)

/-- ITS FALSE NEIGHBOUR: 'it returns false'. Refute it at one input. -/
def executorNextsWrong : ChangeSpec := { name := "executorNexts", fn := fun _ => fun
  | [d1, d2] => { results := [.lit (.bool false)], args := [d1, d2] }
  | _ => none }
def ExecutorNextsWrongFalsely : Prop := executorNextsRow.holds Try.pinned (OpenSpec.ofChange executorNextsWrong)

/-- 'majordomolaw29.ExecutorLooks': WHATEVER THE INPUT: true; the input reads as it did. -/
def executorLooksSpec : ChangeSpec := { name := "executorLooks", fn := fun _ => fun
  | [d] => { results := [.lit (.bool true)], args := [d] }
  | _ => none }
def executorLooksRow : OpenClaim := { program := "ytbdodpippgakjaa", sum := "bc4770ff4749c027ebe4e3967a45e4ce5a89a579bead3baf757c2cc7c2fe0635", func := "majordomo/majordomolaw29.ExecutorLooks", spec := "executorLooks", unfollowed := true, recurses := true, apart := false }
def ExecutorLooksSaid : Prop := executorLooksRow.holds Try.pinned (OpenSpec.ofChange executorLooksSpec)

/-- ITS FALSE NEIGHBOUR: 'it returns false'. Refute it at one input. -/
def executorLooksWrong : ChangeSpec := { name := "executorLooks", fn := fun _ => fun
  | [d] => { results := [.lit (.bool false)], args := [d] }
  | _ => none }
def ExecutorLooksWrongFalsely : Prop := executorLooksRow.holds Try.pinned (OpenSpec.ofChange executorLooksWrong)

/-- 'majordomolaw29.ExecutorReplays': WHATEVER THE INPUT: true; the input reads as it did. -/
def executorReplaysSpec : ChangeSpec := { name := "executorReplays", fn := fun _ => fun
  | [d] => { results := [.lit (.bool true)], args := [d] }
  | _ => none }
def executorReplaysRow : OpenClaim := { program := "ytbdodpippgakjaa", sum := "bc4770ff4749c027ebe4e3967a45e4ce5a89a579bead3baf757c2cc7c2fe0635", func := "majordomo/majordomolaw29.ExecutorReplays", spec := "executorReplays", unfollowed := true, recurses := true, apart := false }
def ExecutorReplaysSaid : Prop := executorReplaysRow.holds Try.pinned (OpenSpec.ofChange executorReplaysSpec)

/-- ITS FALSE NEIGHBOUR: 'it returns false'. Refute it at one input. -/
def executorReplaysWrong : ChangeSpec := { name := "executorReplays", fn := fun _ => fun
  | [d] => { results := [.lit (.bool false)], args := [d] }
  | _ => none }
def ExecutorReplaysWrongFalsely : Prop := executorReplaysRow.holds Try.pinned (OpenSpec.ofChange executorReplaysWrong)

/-- 'majordomolaw29.ExecutorIdeal': WHATEVER THE INPUT: true; the input reads as it did. -/
def executorIdealSpec : ChangeSpec := { name := "executorIdeal", fn := fun _ => fun
  | [d] => { results := [.lit (.bool true)], args := [d] }
  | _ => none }
def executorIdealRow : OpenClaim := { program := "ytbdodpippgakjaa", sum := "bc4770ff4749c027ebe4e3967a45e4ce5a89a579bead3baf757c2cc7c2fe0635", func := "majordomo/majordomolaw29.ExecutorIdeal", spec := "executorIdeal", unfollowed := true, recurses := true, apart := false }
def ExecutorIdealSaid : Prop := executorIdealRow.holds Try.pinned (OpenSpec.ofChange executorIdealSpec)

/-- ITS FALSE NEIGHBOUR: 'it returns false'. Refute it at one input. -/
def executorIdealWrong : ChangeSpec := { name := "executorIdeal", fn := fun _ => fun
  | [d] => { results := [.lit (.bool false)], args := [d] }
  | _ => none }
def ExecutorIdealWrongFalsely : Prop := executorIdealRow.holds Try.pinned (OpenSpec.ofChange executorIdealWrong)

/-- 'majordomolaw29.ExecutorOnce': WHATEVER THE INPUT: true; the input reads as it did. -/
def executorOnceSpec : ChangeSpec := { name := "executorOnce", fn := fun _ => fun
  | [d] => { results := [.lit (.bool true)], args := [d] }
  | _ => none }
def executorOnceRow : OpenClaim := { program := "ytbdodpippgakjaa", sum := "bc4770ff4749c027ebe4e3967a45e4ce5a89a579bead3baf757c2cc7c2fe0635", func := "majordomo/majordomolaw29.ExecutorOnce", spec := "executorOnce", unfollowed := true, recurses := true, apart := false }
def ExecutorOnceSaid : Prop := executorOnceRow.holds Try.pinned (OpenSpec.ofChange executorOnceSpec)

/-- ITS FALSE NEIGHBOUR: 'it returns false'. Refute it at one input. -/
def executorOnceWrong : ChangeSpec := { name := "executorOnce", fn := fun _ => fun
  | [d] => { results := [.lit (.bool false)], args := [d] }
  | _ => none }
def ExecutorOnceWrongFalsely : Prop := executorOnceRow.holds Try.pinned (OpenSpec.ofChange executorOnceWrong)

/-- 'majordomolaw29.ExecutorGoes': WHATEVER THE INPUT: true; the input reads as it did. -/
def executorGoesSpec : ChangeSpec := { name := "executorGoes", fn := fun _ => fun
  | [d] => { results := [.lit (.bool true)], args := [d] }
  | _ => none }
def executorGoesRow : OpenClaim := { program := "ytbdodpippgakjaa", sum := "bc4770ff4749c027ebe4e3967a45e4ce5a89a579bead3baf757c2cc7c2fe0635", func := "majordomo/majordomolaw29.ExecutorGoes", spec := "executorGoes", unfollowed := true, recurses := true, apart := false }
def ExecutorGoesSaid : Prop := executorGoesRow.holds Try.pinned (OpenSpec.ofChange executorGoesSpec)

/-- ITS FALSE NEIGHBOUR: 'it returns false'. Refute it at one input. -/
def executorGoesWrong : ChangeSpec := { name := "executorGoes", fn := fun _ => fun
  | [d] => { results := [.lit (.bool false)], args := [d] }
  | _ => none }
def ExecutorGoesWrongFalsely : Prop := executorGoesRow.holds Try.pinned (OpenSpec.ofChange executorGoesWrong)

/-- 'majordomolaw29.ExecutorKnown': WHATEVER THE INPUT: true; the input reads as it did. -/
def executorKnownSpec : ChangeSpec := { name := "executorKnown", fn := fun _ => fun
  | [] => { results := [.lit (.bool true)], args := [] }
  | _ => none }
def executorKnownRow : OpenClaim := { program := "ytbdodpippgakjaa", sum := "bc4770ff4749c027ebe4e3967a45e4ce5a89a579bead3baf757c2cc7c2fe0635", func := "majordomo/majordomolaw29.ExecutorKnown", spec := "executorKnown", unfollowed := true, recurses := true, apart := false }
def ExecutorKnownSaid : Prop := executorKnownRow.holds Try.pinned (OpenSpec.ofChange executorKnownSpec)

/-- ITS FALSE NEIGHBOUR: 'it returns false'. Refute it at one input. -/
def executorKnownWrong : ChangeSpec := { name := "executorKnown", fn := fun _ => fun
  | [] => { results := [.lit (.bool false)], args := [] }
  | _ => none }
def ExecutorKnownWrongFalsely : Prop := executorKnownRow.holds Try.pinned (OpenSpec.ofChange executorKnownWrong)

/- THE SECOND FORM. 'bulk': how many values and letters a reading holds, each counted each time it is reached (what is shared counts as often as it is met; a slice's spare places count too). A statement '..UptoSaid' is the law's where the arguments, and the package variables that the reading takes, are together of bulk at most 1048576: NARROWER than '..Said'. Prove '..Said' where nothing that the law and all that it calls make is longer than what came in: it says more and counts as full. Else prove '..UptoSaid'. A law counts once. -/
mutual
def uptoBulk {H : Type} : DataW H → Nat
  | .lit (.string bytes) => bytes.length + 1
  | .lit _ => 1
  | .nil => 1
  | .ptr d => uptoBulk d + 1
  | .slice elems spare => uptoBulkAll elems + uptoBulkAll spare + 1
  | .agg parts => uptoBulkAll parts + 1
  | .iface _ d => uptoBulk d + 1
  | .map entries => uptoBulkEntries entries + 1
  | .held _ => 1
def uptoBulkAll {H : Type} : List (DataW H) → Nat
  | [] => 0
  | d :: r => uptoBulk d + uptoBulkAll r
def uptoBulkEntries {H : Type} : List (Lit × DataW H) → Nat
  | [] => 0
  | x :: r => uptoBulkEntry x + uptoBulkEntries r
def uptoBulkEntry {H : Type} : Lit × DataW H → Nat
  | (.string bytes, d) => bytes.length + uptoBulk d + 1
  | (_, d) => uptoBulk d + 1
 end
def uptoSmall : (H : Type) → List (DataW H) → Bool := fun _ ds => decide (uptoBulkAll ds ≤ 1048576)
def OpenSpec.upto (s : _root_.Go.ChangeSpec) : _root_.Go.OpenSpec := { _root_.Go.OpenSpec.ofChange s with cond := some uptoSmall }

/-- 'majordomolaw29.ExecutorNexts', WHERE WHAT IT READS IS OF BULK AT MOST 1048576: true; the input reads as it did. -/
def executorNextsUptoRow : OpenClaim := { program := "ytbdodpippgakjaa", sum := "bc4770ff4749c027ebe4e3967a45e4ce5a89a579bead3baf757c2cc7c2fe0635", func := "majordomo/majordomolaw29.ExecutorNexts", spec := "executorNexts", unfollowed := true, recurses := true, apart := false, narrowed := true }
def ExecutorNextsUptoSaid : Prop := executorNextsUptoRow.holds Try.pinned (OpenSpec.upto executorNextsSpec)

/-- 'majordomolaw29.ExecutorLooks', WHERE WHAT IT READS IS OF BULK AT MOST 1048576: true; the input reads as it did. -/
def executorLooksUptoRow : OpenClaim := { program := "ytbdodpippgakjaa", sum := "bc4770ff4749c027ebe4e3967a45e4ce5a89a579bead3baf757c2cc7c2fe0635", func := "majordomo/majordomolaw29.ExecutorLooks", spec := "executorLooks", unfollowed := true, recurses := true, apart := false, narrowed := true }
def ExecutorLooksUptoSaid : Prop := executorLooksUptoRow.holds Try.pinned (OpenSpec.upto executorLooksSpec)

/-- 'majordomolaw29.ExecutorReplays', WHERE WHAT IT READS IS OF BULK AT MOST 1048576: true; the input reads as it did. -/
def executorReplaysUptoRow : OpenClaim := { program := "ytbdodpippgakjaa", sum := "bc4770ff4749c027ebe4e3967a45e4ce5a89a579bead3baf757c2cc7c2fe0635", func := "majordomo/majordomolaw29.ExecutorReplays", spec := "executorReplays", unfollowed := true, recurses := true, apart := false, narrowed := true }
def ExecutorReplaysUptoSaid : Prop := executorReplaysUptoRow.holds Try.pinned (OpenSpec.upto executorReplaysSpec)

/-- 'majordomolaw29.ExecutorIdeal', WHERE WHAT IT READS IS OF BULK AT MOST 1048576: true; the input reads as it did. -/
def executorIdealUptoRow : OpenClaim := { program := "ytbdodpippgakjaa", sum := "bc4770ff4749c027ebe4e3967a45e4ce5a89a579bead3baf757c2cc7c2fe0635", func := "majordomo/majordomolaw29.ExecutorIdeal", spec := "executorIdeal", unfollowed := true, recurses := true, apart := false, narrowed := true }
def ExecutorIdealUptoSaid : Prop := executorIdealUptoRow.holds Try.pinned (OpenSpec.upto executorIdealSpec)

/-- 'majordomolaw29.ExecutorOnce', WHERE WHAT IT READS IS OF BULK AT MOST 1048576: true; the input reads as it did. -/
def executorOnceUptoRow : OpenClaim := { program := "ytbdodpippgakjaa", sum := "bc4770ff4749c027ebe4e3967a45e4ce5a89a579bead3baf757c2cc7c2fe0635", func := "majordomo/majordomolaw29.ExecutorOnce", spec := "executorOnce", unfollowed := true, recurses := true, apart := false, narrowed := true }
def ExecutorOnceUptoSaid : Prop := executorOnceUptoRow.holds Try.pinned (OpenSpec.upto executorOnceSpec)

/-- 'majordomolaw29.ExecutorGoes', WHERE WHAT IT READS IS OF BULK AT MOST 1048576: true; the input reads as it did. -/
def executorGoesUptoRow : OpenClaim := { program := "ytbdodpippgakjaa", sum := "bc4770ff4749c027ebe4e3967a45e4ce5a89a579bead3baf757c2cc7c2fe0635", func := "majordomo/majordomolaw29.ExecutorGoes", spec := "executorGoes", unfollowed := true, recurses := true, apart := false, narrowed := true }
def ExecutorGoesUptoSaid : Prop := executorGoesUptoRow.holds Try.pinned (OpenSpec.upto executorGoesSpec)

/-- 'majordomolaw29.ExecutorKnown', WHERE WHAT IT READS IS OF BULK AT MOST 1048576: true; the input reads as it did. -/
def executorKnownUptoRow : OpenClaim := { program := "ytbdodpippgakjaa", sum := "bc4770ff4749c027ebe4e3967a45e4ce5a89a579bead3baf757c2cc7c2fe0635", func := "majordomo/majordomolaw29.ExecutorKnown", spec := "executorKnown", unfollowed := true, recurses := true, apart := false, narrowed := true }
def ExecutorKnownUptoSaid : Prop := executorKnownUptoRow.holds Try.pinned (OpenSpec.upto executorKnownSpec)

end Rows
end Go.Proofs.Ytbdodpippgakjaa
