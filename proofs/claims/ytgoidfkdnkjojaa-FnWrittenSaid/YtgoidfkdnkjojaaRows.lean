/-
  No cell of these rows narrows 'for every input' (looked for: loops, veiled, ifaces, maps, wideKeys, modest, calm, conditions, laid).
  DERIVED. THE GIVEN ROWS OF THIS SEAT. 8 by the template 'for every input the law returns true; each argument reads behind the call as it read before'; 0 by the template 'total and deterministic' (their statements: YtgoidfkdnkjojaaTotals.lean).
  GIVEN WITH THE SEED: the statements are not yours to turn. If you find one false, say at which input.
  Laid BY PROGRAM, IN A SANDBOX (cutbox-rows.mjs): the forced cells as the released guide's own fill.sh prints them over the translation e0151376e4b3c1fb… (all of the seat's roots in one cut). By AI agents, Wed Nov 11 2026. No macro, syntax, notation, axiom, sorry.
-/
import Derived.Test.YtgoidfkdnkjojaaChecked
import GoSem.Claim
import GoSem.ClaimJoined
import GoSem.ClaimMapViews
import Derived.JoinedTies
import Derived.KernelRfl
namespace Go.Proofs.Ytgoidfkdnkjojaa
/- THE CELL 'sum', in the pinned program and in every row, IS THE sha256 OF THE DUMP (.gsa) THAT YtgoidfkdnkjojaaProg.lean LOADS. Nothing in Lean hashes anything: it is a label: what it is worth is what the hold of that sum in a sandbox is worth. -/
noncomputable def Try.pinned : Pinned := { name := "ytgoidfkdnkjojaa", sum := "e0151376e4b3c1fbe2d12eec286b0a74b6832f796661631fac1b4d42b722432b", checked := Try.checked }
namespace Rows
def none {H : Type} : Left H := { results := [], args := [] }

/-- 'laws.FnKeep': WHATEVER THE INPUT: true; the input reads as it did. -/
def fnKeepSpec : ChangeSpec := { name := "fnKeep", fn := fun _ => fun
  | [d] => { results := [.lit (.bool true)], args := [d] }
  | _ => none }
def fnKeepRow : OpenClaim := { program := "ytgoidfkdnkjojaa", sum := "e0151376e4b3c1fbe2d12eec286b0a74b6832f796661631fac1b4d42b722432b", func := "loop.example/g00189/laws.FnKeep", spec := "fnKeep", unfollowed := true, recurses := true, plainKeys := false, apart := false }
def FnKeepSaid : Prop := fnKeepRow.holds Try.pinned (OpenSpec.ofChange fnKeepSpec)

/-- ITS FALSE NEIGHBOUR: 'it returns false'. Refute it at one input. -/
def fnKeepWrong : ChangeSpec := { name := "fnKeep", fn := fun _ => fun
  | [d] => { results := [.lit (.bool false)], args := [d] }
  | _ => none }
def FnKeepWrongFalsely : Prop := fnKeepRow.holds Try.pinned (OpenSpec.ofChange fnKeepWrong)

/-- 'laws.FnWritten': WHATEVER THE INPUT: true; the input reads as it did. -/
def fnWrittenSpec : ChangeSpec := { name := "fnWritten", fn := fun _ => fun
  | [d] => { results := [.lit (.bool true)], args := [d] }
  | _ => none }
def fnWrittenRow : OpenClaim := { program := "ytgoidfkdnkjojaa", sum := "e0151376e4b3c1fbe2d12eec286b0a74b6832f796661631fac1b4d42b722432b", func := "loop.example/g00189/laws.FnWritten", spec := "fnWritten", recurses := true, plainKeys := false, apart := false }
def FnWrittenSaid : Prop := fnWrittenRow.holds Try.pinned (OpenSpec.ofChange fnWrittenSpec)

/-- ITS FALSE NEIGHBOUR: 'it returns false'. Refute it at one input. -/
def fnWrittenWrong : ChangeSpec := { name := "fnWritten", fn := fun _ => fun
  | [d] => { results := [.lit (.bool false)], args := [d] }
  | _ => none }
def FnWrittenWrongFalsely : Prop := fnWrittenRow.holds Try.pinned (OpenSpec.ofChange fnWrittenWrong)

/-- 'laws.FnExactRead': WHATEVER THE INPUT: true; the input reads as it did. -/
def fnExactReadSpec : ChangeSpec := { name := "fnExactRead", fn := fun _ => fun
  | [d1, d2] => { results := [.lit (.bool true)], args := [d1, d2] }
  | _ => none }
def fnExactReadRow : OpenClaim := { program := "ytgoidfkdnkjojaa", sum := "e0151376e4b3c1fbe2d12eec286b0a74b6832f796661631fac1b4d42b722432b", func := "loop.example/g00189/laws.FnExactRead", spec := "fnExactRead", recurses := true, plainKeys := false, apart := false }
def FnExactReadSaid : Prop := fnExactReadRow.holds Try.pinned (OpenSpec.ofChange fnExactReadSpec)

/-- ITS FALSE NEIGHBOUR: 'it returns false'. Refute it at one input. -/
def fnExactReadWrong : ChangeSpec := { name := "fnExactRead", fn := fun _ => fun
  | [d1, d2] => { results := [.lit (.bool false)], args := [d1, d2] }
  | _ => none }
def FnExactReadWrongFalsely : Prop := fnExactReadRow.holds Try.pinned (OpenSpec.ofChange fnExactReadWrong)

/-- 'laws.FnExactValueRead': WHATEVER THE INPUT: true; the input reads as it did. -/
def fnExactValueReadSpec : ChangeSpec := { name := "fnExactValueRead", fn := fun _ => fun
  | [d] => { results := [.lit (.bool true)], args := [d] }
  | _ => none }
def fnExactValueReadRow : OpenClaim := { program := "ytgoidfkdnkjojaa", sum := "e0151376e4b3c1fbe2d12eec286b0a74b6832f796661631fac1b4d42b722432b", func := "loop.example/g00189/laws.FnExactValueRead", spec := "fnExactValueRead", plainKeys := false, apart := false }
def FnExactValueReadSaid : Prop := fnExactValueReadRow.holds Try.pinned (OpenSpec.ofChange fnExactValueReadSpec)

/-- ITS FALSE NEIGHBOUR: 'it returns false'. Refute it at one input. -/
def fnExactValueReadWrong : ChangeSpec := { name := "fnExactValueRead", fn := fun _ => fun
  | [d] => { results := [.lit (.bool false)], args := [d] }
  | _ => none }
def FnExactValueReadWrongFalsely : Prop := fnExactValueReadRow.holds Try.pinned (OpenSpec.ofChange fnExactValueReadWrong)

/-- 'laws.FnRead': WHATEVER THE INPUT: true; the input reads as it did. -/
def fnReadSpec : ChangeSpec := { name := "fnRead", fn := fun _ => fun
  | [d] => { results := [.lit (.bool true)], args := [d] }
  | _ => none }
def fnReadRow : OpenClaim := { program := "ytgoidfkdnkjojaa", sum := "e0151376e4b3c1fbe2d12eec286b0a74b6832f796661631fac1b4d42b722432b", func := "loop.example/g00189/laws.FnRead", spec := "fnRead", recurses := true, plainKeys := false, apart := false }
def FnReadSaid : Prop := fnReadRow.holds Try.pinned (OpenSpec.ofChange fnReadSpec)

/-- ITS FALSE NEIGHBOUR: 'it returns false'. Refute it at one input. -/
def fnReadWrong : ChangeSpec := { name := "fnRead", fn := fun _ => fun
  | [d] => { results := [.lit (.bool false)], args := [d] }
  | _ => none }
def FnReadWrongFalsely : Prop := fnReadRow.holds Try.pinned (OpenSpec.ofChange fnReadWrong)

/-- 'laws.FnValueBytes': WHATEVER THE INPUT: true; the input reads as it did. -/
def fnValueBytesSpec : ChangeSpec := { name := "fnValueBytes", fn := fun _ => fun
  | [d] => { results := [.lit (.bool true)], args := [d] }
  | _ => none }
def fnValueBytesRow : OpenClaim := { program := "ytgoidfkdnkjojaa", sum := "e0151376e4b3c1fbe2d12eec286b0a74b6832f796661631fac1b4d42b722432b", func := "loop.example/g00189/laws.FnValueBytes", spec := "fnValueBytes", recurses := true, plainKeys := false, apart := false }
def FnValueBytesSaid : Prop := fnValueBytesRow.holds Try.pinned (OpenSpec.ofChange fnValueBytesSpec)

/-- ITS FALSE NEIGHBOUR: 'it returns false'. Refute it at one input. -/
def fnValueBytesWrong : ChangeSpec := { name := "fnValueBytes", fn := fun _ => fun
  | [d] => { results := [.lit (.bool false)], args := [d] }
  | _ => none }
def FnValueBytesWrongFalsely : Prop := fnValueBytesRow.holds Try.pinned (OpenSpec.ofChange fnValueBytesWrong)

/-- 'laws.FnExactMachinePack': WHATEVER THE INPUT: true; the input reads as it did. -/
def fnExactMachinePackSpec : ChangeSpec := { name := "fnExactMachinePack", fn := fun _ => fun
  | [d1, d2] => { results := [.lit (.bool true)], args := [d1, d2] }
  | _ => none }
def fnExactMachinePackRow : OpenClaim := { program := "ytgoidfkdnkjojaa", sum := "e0151376e4b3c1fbe2d12eec286b0a74b6832f796661631fac1b4d42b722432b", func := "loop.example/g00189/laws.FnExactMachinePack", spec := "fnExactMachinePack", unfollowed := true, recurses := true, plainKeys := false, apart := false }
def FnExactMachinePackSaid : Prop := fnExactMachinePackRow.holds Try.pinned (OpenSpec.ofChange fnExactMachinePackSpec)

/-- ITS FALSE NEIGHBOUR: 'it returns false'. Refute it at one input. -/
def fnExactMachinePackWrong : ChangeSpec := { name := "fnExactMachinePack", fn := fun _ => fun
  | [d1, d2] => { results := [.lit (.bool false)], args := [d1, d2] }
  | _ => none }
def FnExactMachinePackWrongFalsely : Prop := fnExactMachinePackRow.holds Try.pinned (OpenSpec.ofChange fnExactMachinePackWrong)

/-- 'laws.FnExactProcOk': WHATEVER THE INPUT: true; the input reads as it did. -/
def fnExactProcOkSpec : ChangeSpec := { name := "fnExactProcOk", fn := fun _ => fun
  | [d1, d2] => { results := [.lit (.bool true)], args := [d1, d2] }
  | _ => none }
def fnExactProcOkRow : OpenClaim := { program := "ytgoidfkdnkjojaa", sum := "e0151376e4b3c1fbe2d12eec286b0a74b6832f796661631fac1b4d42b722432b", func := "loop.example/g00189/laws.FnExactProcOk", spec := "fnExactProcOk", unfollowed := true, recurses := true, plainKeys := false, apart := false }
def FnExactProcOkSaid : Prop := fnExactProcOkRow.holds Try.pinned (OpenSpec.ofChange fnExactProcOkSpec)

/-- ITS FALSE NEIGHBOUR: 'it returns false'. Refute it at one input. -/
def fnExactProcOkWrong : ChangeSpec := { name := "fnExactProcOk", fn := fun _ => fun
  | [d1, d2] => { results := [.lit (.bool false)], args := [d1, d2] }
  | _ => none }
def FnExactProcOkWrongFalsely : Prop := fnExactProcOkRow.holds Try.pinned (OpenSpec.ofChange fnExactProcOkWrong)

/- THE SECOND FORM. 'bulk': how many values and letters a reading holds, each counted each time it is reached (what is shared counts as often as it is met; a slice's spare places count too). A statement '..UptoSaid' is the law's where the arguments, and the package variables that the reading takes, are together of bulk at most 1048576: NARROWER than '..Said'. Prove '..Said' where nothing that the law and all that it calls make is longer than what came in: it says more and counts as full. Else prove '..UptoSaid'. A law counts once. -/
mutual
def uptoBulk {H : Type} : DataW H → Nat
  | .lit (.string bytes) => bytes.length + 1
  | .lit _ => 1
  | .nil => 1
  | .ptr d => uptoBulk d + 1
  | .slice elems spare => uptoBulkAll elems + uptoBulkAll spare + 1
  | .agg parts => uptoBulkAll parts + 1
  | .iface _ d => uptoBulk d + 1
  | .map entries => uptoBulkEntries entries + 1
  | .held _ => 1
def uptoBulkAll {H : Type} : List (DataW H) → Nat
  | [] => 0
  | d :: r => uptoBulk d + uptoBulkAll r
def uptoBulkEntries {H : Type} : List (Lit × DataW H) → Nat
  | [] => 0
  | x :: r => uptoBulkEntry x + uptoBulkEntries r
def uptoBulkEntry {H : Type} : Lit × DataW H → Nat
  | (.string bytes, d) => bytes.length + uptoBulk d + 1
  | (_, d) => uptoBulk d + 1
 end
def uptoSmall : (H : Type) → List (DataW H) → Bool := fun _ ds => decide (uptoBulkAll ds ≤ 1048576)
def OpenSpec.upto (s : _root_.Go.ChangeSpec) : _root_.Go.OpenSpec := { _root_.Go.OpenSpec.ofChange s with cond := some uptoSmall }

/-- 'laws.FnKeep', WHERE WHAT IT READS IS OF BULK AT MOST 1048576: true; the input reads as it did. -/
def fnKeepUptoRow : OpenClaim := { program := "ytgoidfkdnkjojaa", sum := "e0151376e4b3c1fbe2d12eec286b0a74b6832f796661631fac1b4d42b722432b", func := "loop.example/g00189/laws.FnKeep", spec := "fnKeep", unfollowed := true, recurses := true, plainKeys := false, apart := false, narrowed := true }
def FnKeepUptoSaid : Prop := fnKeepUptoRow.holds Try.pinned (OpenSpec.upto fnKeepSpec)

/-- 'laws.FnWritten', WHERE WHAT IT READS IS OF BULK AT MOST 1048576: true; the input reads as it did. -/
def fnWrittenUptoRow : OpenClaim := { program := "ytgoidfkdnkjojaa", sum := "e0151376e4b3c1fbe2d12eec286b0a74b6832f796661631fac1b4d42b722432b", func := "loop.example/g00189/laws.FnWritten", spec := "fnWritten", recurses := true, plainKeys := false, apart := false, narrowed := true }
def FnWrittenUptoSaid : Prop := fnWrittenUptoRow.holds Try.pinned (OpenSpec.upto fnWrittenSpec)

/-- 'laws.FnExactRead', WHERE WHAT IT READS IS OF BULK AT MOST 1048576: true; the input reads as it did. -/
def fnExactReadUptoRow : OpenClaim := { program := "ytgoidfkdnkjojaa", sum := "e0151376e4b3c1fbe2d12eec286b0a74b6832f796661631fac1b4d42b722432b", func := "loop.example/g00189/laws.FnExactRead", spec := "fnExactRead", recurses := true, plainKeys := false, apart := false, narrowed := true }
def FnExactReadUptoSaid : Prop := fnExactReadUptoRow.holds Try.pinned (OpenSpec.upto fnExactReadSpec)

/-- 'laws.FnExactValueRead', WHERE WHAT IT READS IS OF BULK AT MOST 1048576: true; the input reads as it did. -/
def fnExactValueReadUptoRow : OpenClaim := { program := "ytgoidfkdnkjojaa", sum := "e0151376e4b3c1fbe2d12eec286b0a74b6832f796661631fac1b4d42b722432b", func := "loop.example/g00189/laws.FnExactValueRead", spec := "fnExactValueRead", plainKeys := false, apart := false, narrowed := true }
def FnExactValueReadUptoSaid : Prop := fnExactValueReadUptoRow.holds Try.pinned (OpenSpec.upto fnExactValueReadSpec)

/-- 'laws.FnRead', WHERE WHAT IT READS IS OF BULK AT MOST 1048576: true; the input reads as it did. -/
def fnReadUptoRow : OpenClaim := { program := "ytgoidfkdnkjojaa", sum := "e0151376e4b3c1fbe2d12eec286b0a74b6832f796661631fac1b4d42b722432b", func := "loop.example/g00189/laws.FnRead", spec := "fnRead", recurses := true, plainKeys := false, apart := false, narrowed := true }
def FnReadUptoSaid : Prop := fnReadUptoRow.holds Try.pinned (OpenSpec.upto fnReadSpec)

/-- 'laws.FnValueBytes', WHERE WHAT IT READS IS OF BULK AT MOST 1048576: true; the input reads as it did. -/
def fnValueBytesUptoRow : OpenClaim := { program := "ytgoidfkdnkjojaa", sum := "e0151376e4b3c1fbe2d12eec286b0a74b6832f796661631fac1b4d42b722432b", func := "loop.example/g00189/laws.FnValueBytes", spec := "fnValueBytes", recurses := true, plainKeys := false, apart := false, narrowed := true }
def FnValueBytesUptoSaid : Prop := fnValueBytesUptoRow.holds Try.pinned (OpenSpec.upto fnValueBytesSpec)

/-- 'laws.FnExactMachinePack', WHERE WHAT IT READS IS OF BULK AT MOST 1048576: true; the input reads as it did. -/
def fnExactMachinePackUptoRow : OpenClaim := { program := "ytgoidfkdnkjojaa", sum := "e0151376e4b3c1fbe2d12eec286b0a74b6832f796661631fac1b4d42b722432b", func := "loop.example/g00189/laws.FnExactMachinePack", spec := "fnExactMachinePack", unfollowed := true, recurses := true, plainKeys := false, apart := false, narrowed := true }
def FnExactMachinePackUptoSaid : Prop := fnExactMachinePackUptoRow.holds Try.pinned (OpenSpec.upto fnExactMachinePackSpec)

/-- 'laws.FnExactProcOk', WHERE WHAT IT READS IS OF BULK AT MOST 1048576: true; the input reads as it did. -/
def fnExactProcOkUptoRow : OpenClaim := { program := "ytgoidfkdnkjojaa", sum := "e0151376e4b3c1fbe2d12eec286b0a74b6832f796661631fac1b4d42b722432b", func := "loop.example/g00189/laws.FnExactProcOk", spec := "fnExactProcOk", unfollowed := true, recurses := true, plainKeys := false, apart := false, narrowed := true }
def FnExactProcOkUptoSaid : Prop := fnExactProcOkUptoRow.holds Try.pinned (OpenSpec.upto fnExactProcOkSpec)

end Rows
end Go.Proofs.Ytgoidfkdnkjojaa
