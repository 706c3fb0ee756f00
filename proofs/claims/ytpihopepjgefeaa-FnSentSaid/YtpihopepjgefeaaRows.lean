/-
  No cell of these rows narrows 'for every input' (looked for: loops, veiled, ifaces, maps, wideKeys, modest, calm, conditions, laid).
  DERIVED. THE GIVEN ROWS OF THIS SEAT. 10 by the template 'for every input the law returns true; each argument reads behind the call as it read before'; 0 by the template 'total and deterministic' (their statements: YtpihopepjgefeaaTotals.lean).
  GIVEN WITH THE SEED: the statements are not yours to turn. If you find one false, say at which input.
  Laid BY PROGRAM, IN A SANDBOX (cutbox-rows.mjs): the forced cells as the released guide's own fill.sh prints them over the translation e544c2c43eb38388… (all of the seat's roots in one cut). By AI agents, Wed Nov 11 2026. No macro, syntax, notation, axiom, sorry.
-/
import Derived.Test.YtpihopepjgefeaaChecked
import GoSem.Claim
import GoSem.ClaimJoined
import GoSem.ClaimMapViews
import Derived.JoinedTies
import Derived.KernelRfl
namespace Go.Proofs.Ytpihopepjgefeaa
/- THE CELL 'sum', in the pinned program and in every row, IS THE sha256 OF THE DUMP (.gsa) THAT YtpihopepjgefeaaProg.lean LOADS. Nothing in Lean hashes anything: it is a label: what it is worth is what the hold of that sum in a sandbox is worth. -/
noncomputable def Try.pinned : Pinned := { name := "ytpihopepjgefeaa", sum := "e544c2c43eb38388662305f1b7a99eeb51a7fcbe71c5402c4bfb73429037de95", checked := Try.checked }
namespace Rows
def none {H : Type} : Left H := { results := [], args := [] }

/-- 'laws.FnExactLinkOk': WHATEVER THE INPUT: true; the input reads as it did. -/
def fnExactLinkOkSpec : ChangeSpec := { name := "fnExactLinkOk", fn := fun _ => fun
  | [d] => { results := [.lit (.bool true)], args := [d] }
  | _ => none }
def fnExactLinkOkRow : OpenClaim := { program := "ytpihopepjgefeaa", sum := "e544c2c43eb38388662305f1b7a99eeb51a7fcbe71c5402c4bfb73429037de95", func := "loop.example/g00189/laws.FnExactLinkOk", spec := "fnExactLinkOk", apart := false }
def FnExactLinkOkSaid : Prop := fnExactLinkOkRow.holds Try.pinned (OpenSpec.ofChange fnExactLinkOkSpec)

/-- ITS FALSE NEIGHBOUR: 'it returns false'. Refute it at one input. -/
def fnExactLinkOkWrong : ChangeSpec := { name := "fnExactLinkOk", fn := fun _ => fun
  | [d] => { results := [.lit (.bool false)], args := [d] }
  | _ => none }
def FnExactLinkOkWrongFalsely : Prop := fnExactLinkOkRow.holds Try.pinned (OpenSpec.ofChange fnExactLinkOkWrong)

/-- 'laws.FnShown': WHATEVER THE INPUT: true; the input reads as it did. -/
def fnShownSpec : ChangeSpec := { name := "fnShown", fn := fun _ => fun
  | [d] => { results := [.lit (.bool true)], args := [d] }
  | _ => none }
def fnShownRow : OpenClaim := { program := "ytpihopepjgefeaa", sum := "e544c2c43eb38388662305f1b7a99eeb51a7fcbe71c5402c4bfb73429037de95", func := "loop.example/g00189/laws.FnShown", spec := "fnShown", apart := false }
def FnShownSaid : Prop := fnShownRow.holds Try.pinned (OpenSpec.ofChange fnShownSpec)

/-- ITS FALSE NEIGHBOUR: 'it returns false'. Refute it at one input. -/
def fnShownWrong : ChangeSpec := { name := "fnShown", fn := fun _ => fun
  | [d] => { results := [.lit (.bool false)], args := [d] }
  | _ => none }
def FnShownWrongFalsely : Prop := fnShownRow.holds Try.pinned (OpenSpec.ofChange fnShownWrong)

/-- 'laws.FnAcked': WHATEVER THE INPUT: true; the input reads as it did. -/
def fnAckedSpec : ChangeSpec := { name := "fnAcked", fn := fun _ => fun
  | [d] => { results := [.lit (.bool true)], args := [d] }
  | _ => none }
def fnAckedRow : OpenClaim := { program := "ytpihopepjgefeaa", sum := "e544c2c43eb38388662305f1b7a99eeb51a7fcbe71c5402c4bfb73429037de95", func := "loop.example/g00189/laws.FnAcked", spec := "fnAcked", apart := false }
def FnAckedSaid : Prop := fnAckedRow.holds Try.pinned (OpenSpec.ofChange fnAckedSpec)

/-- ITS FALSE NEIGHBOUR: 'it returns false'. Refute it at one input. -/
def fnAckedWrong : ChangeSpec := { name := "fnAcked", fn := fun _ => fun
  | [d] => { results := [.lit (.bool false)], args := [d] }
  | _ => none }
def FnAckedWrongFalsely : Prop := fnAckedRow.holds Try.pinned (OpenSpec.ofChange fnAckedWrong)

/-- 'laws.FnSent': WHATEVER THE INPUT: true; the input reads as it did. -/
def fnSentSpec : ChangeSpec := { name := "fnSent", fn := fun _ => fun
  | [d] => { results := [.lit (.bool true)], args := [d] }
  | _ => none }
def fnSentRow : OpenClaim := { program := "ytpihopepjgefeaa", sum := "e544c2c43eb38388662305f1b7a99eeb51a7fcbe71c5402c4bfb73429037de95", func := "loop.example/g00189/laws.FnSent", spec := "fnSent", apart := false }
def FnSentSaid : Prop := fnSentRow.holds Try.pinned (OpenSpec.ofChange fnSentSpec)

/-- ITS FALSE NEIGHBOUR: 'it returns false'. Refute it at one input. -/
def fnSentWrong : ChangeSpec := { name := "fnSent", fn := fun _ => fun
  | [d] => { results := [.lit (.bool false)], args := [d] }
  | _ => none }
def FnSentWrongFalsely : Prop := fnSentRow.holds Try.pinned (OpenSpec.ofChange fnSentWrong)

/-- 'laws.FnExactLinkShow': WHATEVER THE INPUT: true; the input reads as it did. -/
def fnExactLinkShowSpec : ChangeSpec := { name := "fnExactLinkShow", fn := fun _ => fun
  | [d] => { results := [.lit (.bool true)], args := [d] }
  | _ => none }
def fnExactLinkShowRow : OpenClaim := { program := "ytpihopepjgefeaa", sum := "e544c2c43eb38388662305f1b7a99eeb51a7fcbe71c5402c4bfb73429037de95", func := "loop.example/g00189/laws.FnExactLinkShow", spec := "fnExactLinkShow", apart := false }
def FnExactLinkShowSaid : Prop := fnExactLinkShowRow.holds Try.pinned (OpenSpec.ofChange fnExactLinkShowSpec)

/-- ITS FALSE NEIGHBOUR: 'it returns false'. Refute it at one input. -/
def fnExactLinkShowWrong : ChangeSpec := { name := "fnExactLinkShow", fn := fun _ => fun
  | [d] => { results := [.lit (.bool false)], args := [d] }
  | _ => none }
def FnExactLinkShowWrongFalsely : Prop := fnExactLinkShowRow.holds Try.pinned (OpenSpec.ofChange fnExactLinkShowWrong)

/-- 'laws.FnWay': WHATEVER THE INPUT: true; the input reads as it did. -/
def fnWaySpec : ChangeSpec := { name := "fnWay", fn := fun _ => fun
  | [d] => { results := [.lit (.bool true)], args := [d] }
  | _ => none }
def fnWayRow : OpenClaim := { program := "ytpihopepjgefeaa", sum := "e544c2c43eb38388662305f1b7a99eeb51a7fcbe71c5402c4bfb73429037de95", func := "loop.example/g00189/laws.FnWay", spec := "fnWay", inPlace := ["slices.overlaps[loop.example/g00189/impl.Piece]"], unfollowed := true, recurses := true, apart := false }
def FnWaySaid : Prop := fnWayRow.holds Try.pinned (OpenSpec.ofChange fnWaySpec)

/-- ITS FALSE NEIGHBOUR: 'it returns false'. Refute it at one input. -/
def fnWayWrong : ChangeSpec := { name := "fnWay", fn := fun _ => fun
  | [d] => { results := [.lit (.bool false)], args := [d] }
  | _ => none }
def FnWayWrongFalsely : Prop := fnWayRow.holds Try.pinned (OpenSpec.ofChange fnWayWrong)

/-- 'laws.FnExactLinkAck': WHATEVER THE INPUT: true; the input reads as it did. -/
def fnExactLinkAckSpec : ChangeSpec := { name := "fnExactLinkAck", fn := fun _ => fun
  | [d1, d2] => { results := [.lit (.bool true)], args := [d1, d2] }
  | _ => none }
def fnExactLinkAckRow : OpenClaim := { program := "ytpihopepjgefeaa", sum := "e544c2c43eb38388662305f1b7a99eeb51a7fcbe71c5402c4bfb73429037de95", func := "loop.example/g00189/laws.FnExactLinkAck", spec := "fnExactLinkAck", apart := false }
def FnExactLinkAckSaid : Prop := fnExactLinkAckRow.holds Try.pinned (OpenSpec.ofChange fnExactLinkAckSpec)

/-- ITS FALSE NEIGHBOUR: 'it returns false'. Refute it at one input. -/
def fnExactLinkAckWrong : ChangeSpec := { name := "fnExactLinkAck", fn := fun _ => fun
  | [d1, d2] => { results := [.lit (.bool false)], args := [d1, d2] }
  | _ => none }
def FnExactLinkAckWrongFalsely : Prop := fnExactLinkAckRow.holds Try.pinned (OpenSpec.ofChange fnExactLinkAckWrong)

/-- 'laws.FnExactLinkSend': WHATEVER THE INPUT: true; the input reads as it did. -/
def fnExactLinkSendSpec : ChangeSpec := { name := "fnExactLinkSend", fn := fun _ => fun
  | [d1, d2] => { results := [.lit (.bool true)], args := [d1, d2] }
  | _ => none }
def fnExactLinkSendRow : OpenClaim := { program := "ytpihopepjgefeaa", sum := "e544c2c43eb38388662305f1b7a99eeb51a7fcbe71c5402c4bfb73429037de95", func := "loop.example/g00189/laws.FnExactLinkSend", spec := "fnExactLinkSend", apart := false }
def FnExactLinkSendSaid : Prop := fnExactLinkSendRow.holds Try.pinned (OpenSpec.ofChange fnExactLinkSendSpec)

/-- ITS FALSE NEIGHBOUR: 'it returns false'. Refute it at one input. -/
def fnExactLinkSendWrong : ChangeSpec := { name := "fnExactLinkSend", fn := fun _ => fun
  | [d1, d2] => { results := [.lit (.bool false)], args := [d1, d2] }
  | _ => none }
def FnExactLinkSendWrongFalsely : Prop := fnExactLinkSendRow.holds Try.pinned (OpenSpec.ofChange fnExactLinkSendWrong)

/-- 'laws.FnTaken': WHATEVER THE INPUT: true; the input reads as it did. -/
def fnTakenSpec : ChangeSpec := { name := "fnTaken", fn := fun _ => fun
  | [d] => { results := [.lit (.bool true)], args := [d] }
  | _ => none }
def fnTakenRow : OpenClaim := { program := "ytpihopepjgefeaa", sum := "e544c2c43eb38388662305f1b7a99eeb51a7fcbe71c5402c4bfb73429037de95", func := "loop.example/g00189/laws.FnTaken", spec := "fnTaken", inPlace := ["slices.overlaps[loop.example/g00189/impl.Piece]"], unfollowed := true, recurses := true, apart := false }
def FnTakenSaid : Prop := fnTakenRow.holds Try.pinned (OpenSpec.ofChange fnTakenSpec)

/-- ITS FALSE NEIGHBOUR: 'it returns false'. Refute it at one input. -/
def fnTakenWrong : ChangeSpec := { name := "fnTaken", fn := fun _ => fun
  | [d] => { results := [.lit (.bool false)], args := [d] }
  | _ => none }
def FnTakenWrongFalsely : Prop := fnTakenRow.holds Try.pinned (OpenSpec.ofChange fnTakenWrong)

/-- 'laws.FnExactLinkTake': WHATEVER THE INPUT: true; the input reads as it did. -/
def fnExactLinkTakeSpec : ChangeSpec := { name := "fnExactLinkTake", fn := fun _ => fun
  | [d1, d2] => { results := [.lit (.bool true)], args := [d1, d2] }
  | _ => none }
def fnExactLinkTakeRow : OpenClaim := { program := "ytpihopepjgefeaa", sum := "e544c2c43eb38388662305f1b7a99eeb51a7fcbe71c5402c4bfb73429037de95", func := "loop.example/g00189/laws.FnExactLinkTake", spec := "fnExactLinkTake", inPlace := ["slices.overlaps[loop.example/g00189/impl.Piece]"], unfollowed := true, recurses := true, apart := false }
def FnExactLinkTakeSaid : Prop := fnExactLinkTakeRow.holds Try.pinned (OpenSpec.ofChange fnExactLinkTakeSpec)

/-- ITS FALSE NEIGHBOUR: 'it returns false'. Refute it at one input. -/
def fnExactLinkTakeWrong : ChangeSpec := { name := "fnExactLinkTake", fn := fun _ => fun
  | [d1, d2] => { results := [.lit (.bool false)], args := [d1, d2] }
  | _ => none }
def FnExactLinkTakeWrongFalsely : Prop := fnExactLinkTakeRow.holds Try.pinned (OpenSpec.ofChange fnExactLinkTakeWrong)

/- THE SECOND FORM. 'bulk': how many values and letters a reading holds, each counted each time it is reached (what is shared counts as often as it is met; a slice's spare places count too). A statement '..UptoSaid' is the law's where the arguments, and the package variables that the reading takes, are together of bulk at most 1048576: NARROWER than '..Said'. Prove '..Said' where nothing that the law and all that it calls make is longer than what came in: it says more and counts as full. Else prove '..UptoSaid'. A law counts once. -/
mutual
def uptoBulk {H : Type} : DataW H → Nat
  | .lit (.string bytes) => bytes.length + 1
  | .lit _ => 1
  | .nil => 1
  | .ptr d => uptoBulk d + 1
  | .slice elems spare => uptoBulkAll elems + uptoBulkAll spare + 1
  | .agg parts => uptoBulkAll parts + 1
  | .iface _ d => uptoBulk d + 1
  | .map entries => uptoBulkEntries entries + 1
  | .held _ => 1
def uptoBulkAll {H : Type} : List (DataW H) → Nat
  | [] => 0
  | d :: r => uptoBulk d + uptoBulkAll r
def uptoBulkEntries {H : Type} : List (Lit × DataW H) → Nat
  | [] => 0
  | x :: r => uptoBulkEntry x + uptoBulkEntries r
def uptoBulkEntry {H : Type} : Lit × DataW H → Nat
  | (.string bytes, d) => bytes.length + uptoBulk d + 1
  | (_, d) => uptoBulk d + 1
 end
def uptoSmall : (H : Type) → List (DataW H) → Bool := fun _ ds => decide (uptoBulkAll ds ≤ 1048576)
def OpenSpec.upto (s : _root_.Go.ChangeSpec) : _root_.Go.OpenSpec := { _root_.Go.OpenSpec.ofChange s with cond := some uptoSmall }

/-- 'laws.FnExactLinkOk', WHERE WHAT IT READS IS OF BULK AT MOST 1048576: true; the input reads as it did. -/
def fnExactLinkOkUptoRow : OpenClaim := { program := "ytpihopepjgefeaa", sum := "e544c2c43eb38388662305f1b7a99eeb51a7fcbe71c5402c4bfb73429037de95", func := "loop.example/g00189/laws.FnExactLinkOk", spec := "fnExactLinkOk", apart := false, narrowed := true }
def FnExactLinkOkUptoSaid : Prop := fnExactLinkOkUptoRow.holds Try.pinned (OpenSpec.upto fnExactLinkOkSpec)

/-- 'laws.FnShown', WHERE WHAT IT READS IS OF BULK AT MOST 1048576: true; the input reads as it did. -/
def fnShownUptoRow : OpenClaim := { program := "ytpihopepjgefeaa", sum := "e544c2c43eb38388662305f1b7a99eeb51a7fcbe71c5402c4bfb73429037de95", func := "loop.example/g00189/laws.FnShown", spec := "fnShown", apart := false, narrowed := true }
def FnShownUptoSaid : Prop := fnShownUptoRow.holds Try.pinned (OpenSpec.upto fnShownSpec)

/-- 'laws.FnAcked', WHERE WHAT IT READS IS OF BULK AT MOST 1048576: true; the input reads as it did. -/
def fnAckedUptoRow : OpenClaim := { program := "ytpihopepjgefeaa", sum := "e544c2c43eb38388662305f1b7a99eeb51a7fcbe71c5402c4bfb73429037de95", func := "loop.example/g00189/laws.FnAcked", spec := "fnAcked", apart := false, narrowed := true }
def FnAckedUptoSaid : Prop := fnAckedUptoRow.holds Try.pinned (OpenSpec.upto fnAckedSpec)

/-- 'laws.FnSent', WHERE WHAT IT READS IS OF BULK AT MOST 1048576: true; the input reads as it did. -/
def fnSentUptoRow : OpenClaim := { program := "ytpihopepjgefeaa", sum := "e544c2c43eb38388662305f1b7a99eeb51a7fcbe71c5402c4bfb73429037de95", func := "loop.example/g00189/laws.FnSent", spec := "fnSent", apart := false, narrowed := true }
def FnSentUptoSaid : Prop := fnSentUptoRow.holds Try.pinned (OpenSpec.upto fnSentSpec)

/-- 'laws.FnExactLinkShow', WHERE WHAT IT READS IS OF BULK AT MOST 1048576: true; the input reads as it did. -/
def fnExactLinkShowUptoRow : OpenClaim := { program := "ytpihopepjgefeaa", sum := "e544c2c43eb38388662305f1b7a99eeb51a7fcbe71c5402c4bfb73429037de95", func := "loop.example/g00189/laws.FnExactLinkShow", spec := "fnExactLinkShow", apart := false, narrowed := true }
def FnExactLinkShowUptoSaid : Prop := fnExactLinkShowUptoRow.holds Try.pinned (OpenSpec.upto fnExactLinkShowSpec)

/-- 'laws.FnWay', WHERE WHAT IT READS IS OF BULK AT MOST 1048576: true; the input reads as it did. -/
def fnWayUptoRow : OpenClaim := { program := "ytpihopepjgefeaa", sum := "e544c2c43eb38388662305f1b7a99eeb51a7fcbe71c5402c4bfb73429037de95", func := "loop.example/g00189/laws.FnWay", spec := "fnWay", inPlace := ["slices.overlaps[loop.example/g00189/impl.Piece]"], unfollowed := true, recurses := true, apart := false, narrowed := true }
def FnWayUptoSaid : Prop := fnWayUptoRow.holds Try.pinned (OpenSpec.upto fnWaySpec)

/-- 'laws.FnExactLinkAck', WHERE WHAT IT READS IS OF BULK AT MOST 1048576: true; the input reads as it did. -/
def fnExactLinkAckUptoRow : OpenClaim := { program := "ytpihopepjgefeaa", sum := "e544c2c43eb38388662305f1b7a99eeb51a7fcbe71c5402c4bfb73429037de95", func := "loop.example/g00189/laws.FnExactLinkAck", spec := "fnExactLinkAck", apart := false, narrowed := true }
def FnExactLinkAckUptoSaid : Prop := fnExactLinkAckUptoRow.holds Try.pinned (OpenSpec.upto fnExactLinkAckSpec)

/-- 'laws.FnExactLinkSend', WHERE WHAT IT READS IS OF BULK AT MOST 1048576: true; the input reads as it did. -/
def fnExactLinkSendUptoRow : OpenClaim := { program := "ytpihopepjgefeaa", sum := "e544c2c43eb38388662305f1b7a99eeb51a7fcbe71c5402c4bfb73429037de95", func := "loop.example/g00189/laws.FnExactLinkSend", spec := "fnExactLinkSend", apart := false, narrowed := true }
def FnExactLinkSendUptoSaid : Prop := fnExactLinkSendUptoRow.holds Try.pinned (OpenSpec.upto fnExactLinkSendSpec)

/-- 'laws.FnTaken', WHERE WHAT IT READS IS OF BULK AT MOST 1048576: true; the input reads as it did. -/
def fnTakenUptoRow : OpenClaim := { program := "ytpihopepjgefeaa", sum := "e544c2c43eb38388662305f1b7a99eeb51a7fcbe71c5402c4bfb73429037de95", func := "loop.example/g00189/laws.FnTaken", spec := "fnTaken", inPlace := ["slices.overlaps[loop.example/g00189/impl.Piece]"], unfollowed := true, recurses := true, apart := false, narrowed := true }
def FnTakenUptoSaid : Prop := fnTakenUptoRow.holds Try.pinned (OpenSpec.upto fnTakenSpec)

/-- 'laws.FnExactLinkTake', WHERE WHAT IT READS IS OF BULK AT MOST 1048576: true; the input reads as it did. -/
def fnExactLinkTakeUptoRow : OpenClaim := { program := "ytpihopepjgefeaa", sum := "e544c2c43eb38388662305f1b7a99eeb51a7fcbe71c5402c4bfb73429037de95", func := "loop.example/g00189/laws.FnExactLinkTake", spec := "fnExactLinkTake", inPlace := ["slices.overlaps[loop.example/g00189/impl.Piece]"], unfollowed := true, recurses := true, apart := false, narrowed := true }
def FnExactLinkTakeUptoSaid : Prop := fnExactLinkTakeUptoRow.holds Try.pinned (OpenSpec.upto fnExactLinkTakeSpec)

end Rows
end Go.Proofs.Ytpihopepjgefeaa
