/-
  No cell of these rows narrows 'for every input' (looked for: loops, veiled, ifaces, maps, wideKeys, modest, calm, conditions, laid).
  DERIVED. THE GIVEN ROWS OF THIS SEAT. 4 by the template 'for every input the law returns true; each argument reads behind the call as it read before'; 0 by the template 'total and deterministic' (their statements: YtgoidfkdnkjojaaGreatTotals.lean).
  GIVEN WITH THE SEED: the statements are not yours to turn. If you find one false, say at which input.
  Laid BY PROGRAM, IN A SANDBOX (cutbox-rows.mjs): the forced cells as the released guide's own fill.sh prints them over the translation dea66ccba49f1ac5… (all of the seat's roots in one cut). By AI agents, Wed Nov 11 2026. No macro, syntax, notation, axiom, sorry.
-/
import Derived.Test.YtgoidfkdnkjojaaGreatChecked
import GoSem.Claim
import GoSem.ClaimJoined
import GoSem.ClaimMapViews
import Derived.JoinedTies
import Derived.KernelRfl
namespace Go.Proofs.YtgoidfkdnkjojaaGreat
/- THE CELL 'sum', in the pinned program and in every row, IS THE sha256 OF THE DUMP (.gsa) THAT YtgoidfkdnkjojaaGreatProg.lean LOADS. Nothing in Lean hashes anything: it is a label: what it is worth is what the hold of that sum in a sandbox is worth. -/
noncomputable def Tryz.pinned : Pinned := { name := "ytgoidfkdnkjojaagreat", sum := "dea66ccba49f1ac5dcf20c8a3ca3f3e4dacb79d0d57f64ad819b2e83e655e0bd", checked := Tryz.checked }
namespace Rows
def none {H : Type} : Left H := { results := [], args := [] }

/-- 'laws.FnExactMachineRead': WHATEVER THE INPUT: true; the input reads as it did. -/
def fnExactMachineReadSpec : ChangeSpec := { name := "fnExactMachineRead", fn := fun _ => fun
  | [d1, d2] => { results := [.lit (.bool true)], args := [d1, d2] }
  | _ => none }
def fnExactMachineReadRow : OpenClaim := { program := "ytgoidfkdnkjojaagreat", sum := "dea66ccba49f1ac5dcf20c8a3ca3f3e4dacb79d0d57f64ad819b2e83e655e0bd", func := "loop.example/g00189/laws.FnExactMachineRead", spec := "fnExactMachineRead", unfollowed := true, recurses := true, apart := false }
def FnExactMachineReadSaid : Prop := fnExactMachineReadRow.holds Tryz.pinned (OpenSpec.ofChange fnExactMachineReadSpec)

/-- ITS FALSE NEIGHBOUR: 'it returns false'. Refute it at one input. -/
def fnExactMachineReadWrong : ChangeSpec := { name := "fnExactMachineRead", fn := fun _ => fun
  | [d1, d2] => { results := [.lit (.bool false)], args := [d1, d2] }
  | _ => none }
def FnExactMachineReadWrongFalsely : Prop := fnExactMachineReadRow.holds Tryz.pinned (OpenSpec.ofChange fnExactMachineReadWrong)

/-- 'laws.FnExactProcNew': WHATEVER THE INPUT: true; the input reads as it did. -/
def fnExactProcNewSpec : ChangeSpec := { name := "fnExactProcNew", fn := fun _ => fun
  | [d1, d2, d3] => { results := [.lit (.bool true)], args := [d1, d2, d3] }
  | _ => none }
def fnExactProcNewRow : OpenClaim := { program := "ytgoidfkdnkjojaagreat", sum := "dea66ccba49f1ac5dcf20c8a3ca3f3e4dacb79d0d57f64ad819b2e83e655e0bd", func := "loop.example/g00189/laws.FnExactProcNew", spec := "fnExactProcNew", unfollowed := true, recurses := true, apart := false }
def FnExactProcNewSaid : Prop := fnExactProcNewRow.holds Tryz.pinned (OpenSpec.ofChange fnExactProcNewSpec)

/-- ITS FALSE NEIGHBOUR: 'it returns false'. Refute it at one input. -/
def fnExactProcNewWrong : ChangeSpec := { name := "fnExactProcNew", fn := fun _ => fun
  | [d1, d2, d3] => { results := [.lit (.bool false)], args := [d1, d2, d3] }
  | _ => none }
def FnExactProcNewWrongFalsely : Prop := fnExactProcNewRow.holds Tryz.pinned (OpenSpec.ofChange fnExactProcNewWrong)

/-- 'laws.FnExactProcPack': WHATEVER THE INPUT: true; the input reads as it did. -/
def fnExactProcPackSpec : ChangeSpec := { name := "fnExactProcPack", fn := fun _ => fun
  | [d1, d2] => { results := [.lit (.bool true)], args := [d1, d2] }
  | _ => none }
def fnExactProcPackRow : OpenClaim := { program := "ytgoidfkdnkjojaagreat", sum := "dea66ccba49f1ac5dcf20c8a3ca3f3e4dacb79d0d57f64ad819b2e83e655e0bd", func := "loop.example/g00189/laws.FnExactProcPack", spec := "fnExactProcPack", unfollowed := true, recurses := true, apart := false }
def FnExactProcPackSaid : Prop := fnExactProcPackRow.holds Tryz.pinned (OpenSpec.ofChange fnExactProcPackSpec)

/-- ITS FALSE NEIGHBOUR: 'it returns false'. Refute it at one input. -/
def fnExactProcPackWrong : ChangeSpec := { name := "fnExactProcPack", fn := fun _ => fun
  | [d1, d2] => { results := [.lit (.bool false)], args := [d1, d2] }
  | _ => none }
def FnExactProcPackWrongFalsely : Prop := fnExactProcPackRow.holds Tryz.pinned (OpenSpec.ofChange fnExactProcPackWrong)

/-- 'laws.FnExactProcPost': WHATEVER THE INPUT: true; the input reads as it did. -/
def fnExactProcPostSpec : ChangeSpec := { name := "fnExactProcPost", fn := fun _ => fun
  | [d1, d2, d3] => { results := [.lit (.bool true)], args := [d1, d2, d3] }
  | _ => none }
def fnExactProcPostRow : OpenClaim := { program := "ytgoidfkdnkjojaagreat", sum := "dea66ccba49f1ac5dcf20c8a3ca3f3e4dacb79d0d57f64ad819b2e83e655e0bd", func := "loop.example/g00189/laws.FnExactProcPost", spec := "fnExactProcPost", unfollowed := true, recurses := true, apart := false }
def FnExactProcPostSaid : Prop := fnExactProcPostRow.holds Tryz.pinned (OpenSpec.ofChange fnExactProcPostSpec)

/-- ITS FALSE NEIGHBOUR: 'it returns false'. Refute it at one input. -/
def fnExactProcPostWrong : ChangeSpec := { name := "fnExactProcPost", fn := fun _ => fun
  | [d1, d2, d3] => { results := [.lit (.bool false)], args := [d1, d2, d3] }
  | _ => none }
def FnExactProcPostWrongFalsely : Prop := fnExactProcPostRow.holds Tryz.pinned (OpenSpec.ofChange fnExactProcPostWrong)

/- THE SECOND FORM. 'bulk': how many values and letters a reading holds, each counted each time it is reached (what is shared counts as often as it is met; a slice's spare places count too). A statement '..UptoSaid' is the law's where the arguments, and the package variables that the reading takes, are together of bulk at most 1048576: NARROWER than '..Said'. Prove '..Said' where nothing that the law and all that it calls make is longer than what came in: it says more and counts as full. Else prove '..UptoSaid'. A law counts once. -/
mutual
def uptoBulk {H : Type} : DataW H → Nat
  | .lit (.string bytes) => bytes.length + 1
  | .lit _ => 1
  | .nil => 1
  | .ptr d => uptoBulk d + 1
  | .slice elems spare => uptoBulkAll elems + uptoBulkAll spare + 1
  | .agg parts => uptoBulkAll parts + 1
  | .iface _ d => uptoBulk d + 1
  | .map entries => uptoBulkEntries entries + 1
  | .held _ => 1
def uptoBulkAll {H : Type} : List (DataW H) → Nat
  | [] => 0
  | d :: r => uptoBulk d + uptoBulkAll r
def uptoBulkEntries {H : Type} : List (Lit × DataW H) → Nat
  | [] => 0
  | x :: r => uptoBulkEntry x + uptoBulkEntries r
def uptoBulkEntry {H : Type} : Lit × DataW H → Nat
  | (.string bytes, d) => bytes.length + uptoBulk d + 1
  | (_, d) => uptoBulk d + 1
 end
def uptoSmall : (H : Type) → List (DataW H) → Bool := fun _ ds => decide (uptoBulkAll ds ≤ 1048576)
def OpenSpec.upto (s : _root_.Go.ChangeSpec) : _root_.Go.OpenSpec := { _root_.Go.OpenSpec.ofChange s with cond := some uptoSmall }

/-- 'laws.FnExactMachineRead', WHERE WHAT IT READS IS OF BULK AT MOST 1048576: true; the input reads as it did. -/
def fnExactMachineReadUptoRow : OpenClaim := { program := "ytgoidfkdnkjojaagreat", sum := "dea66ccba49f1ac5dcf20c8a3ca3f3e4dacb79d0d57f64ad819b2e83e655e0bd", func := "loop.example/g00189/laws.FnExactMachineRead", spec := "fnExactMachineRead", unfollowed := true, recurses := true, apart := false, narrowed := true }
def FnExactMachineReadUptoSaid : Prop := fnExactMachineReadUptoRow.holds Tryz.pinned (OpenSpec.upto fnExactMachineReadSpec)

/-- 'laws.FnExactProcNew', WHERE WHAT IT READS IS OF BULK AT MOST 1048576: true; the input reads as it did. -/
def fnExactProcNewUptoRow : OpenClaim := { program := "ytgoidfkdnkjojaagreat", sum := "dea66ccba49f1ac5dcf20c8a3ca3f3e4dacb79d0d57f64ad819b2e83e655e0bd", func := "loop.example/g00189/laws.FnExactProcNew", spec := "fnExactProcNew", unfollowed := true, recurses := true, apart := false, narrowed := true }
def FnExactProcNewUptoSaid : Prop := fnExactProcNewUptoRow.holds Tryz.pinned (OpenSpec.upto fnExactProcNewSpec)

/-- 'laws.FnExactProcPack', WHERE WHAT IT READS IS OF BULK AT MOST 1048576: true; the input reads as it did. -/
def fnExactProcPackUptoRow : OpenClaim := { program := "ytgoidfkdnkjojaagreat", sum := "dea66ccba49f1ac5dcf20c8a3ca3f3e4dacb79d0d57f64ad819b2e83e655e0bd", func := "loop.example/g00189/laws.FnExactProcPack", spec := "fnExactProcPack", unfollowed := true, recurses := true, apart := false, narrowed := true }
def FnExactProcPackUptoSaid : Prop := fnExactProcPackUptoRow.holds Tryz.pinned (OpenSpec.upto fnExactProcPackSpec)

/-- 'laws.FnExactProcPost', WHERE WHAT IT READS IS OF BULK AT MOST 1048576: true; the input reads as it did. -/
def fnExactProcPostUptoRow : OpenClaim := { program := "ytgoidfkdnkjojaagreat", sum := "dea66ccba49f1ac5dcf20c8a3ca3f3e4dacb79d0d57f64ad819b2e83e655e0bd", func := "loop.example/g00189/laws.FnExactProcPost", spec := "fnExactProcPost", unfollowed := true, recurses := true, apart := false, narrowed := true }
def FnExactProcPostUptoSaid : Prop := fnExactProcPostUptoRow.holds Tryz.pinned (OpenSpec.upto fnExactProcPostSpec)

end Rows
end Go.Proofs.YtgoidfkdnkjojaaGreat
