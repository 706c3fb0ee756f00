/-
  No cell of these rows narrows 'for every input' (looked for: loops, veiled, ifaces, maps, wideKeys, modest, calm, conditions, laid).
  DERIVED. THE GIVEN ROWS OF THIS SEAT. 4 by the template 'for every input the law returns true; each argument reads behind the call as it read before'; 0 by the template 'total and deterministic' (their statements: YtkndfhaehnfnmaaTotals.lean).
  GIVEN WITH THE SEED: the statements are not yours to turn. If you find one false, say at which input.
  Laid BY PROGRAM, IN A SANDBOX (cutbox-rows.mjs): the forced cells as the released guide's own fill.sh prints them over the translation c287c1d668b6b4d5… (all of the seat's roots in one cut). By AI agents, Wed Nov 11 2026. No macro, syntax, notation, axiom, sorry.
-/
import Derived.Test.YtkndfhaehnfnmaaChecked
import GoSem.Claim
import GoSem.ClaimJoined
import GoSem.ClaimMapViews
import Derived.JoinedTies
import Derived.KernelRfl
namespace Go.Proofs.Ytkndfhaehnfnmaa
/- THE CELL 'sum', in the pinned program and in every row, IS THE sha256 OF THE DUMP (.gsa) THAT YtkndfhaehnfnmaaProg.lean LOADS. Nothing in Lean hashes anything: it is a label: what it is worth is what the hold of that sum in a sandbox is worth. -/
noncomputable def Try.pinned : Pinned := { name := "ytkndfhaehnfnmaa", sum := "c287c1d668b6b4d5f0742185ea1ac24ecd359868a36d2f83a4df8b099e78fb22", checked := Try.checked }
namespace Rows
def none {H : Type} : Left H := { results := [], args := [] }

/-- 'laws.FnCont': WHATEVER THE INPUT: true; the input reads as it did. -/
def fnContSpec : ChangeSpec := { name := "fnCont", fn := fun _ => fun
  | [d] => { results := [.lit (.bool true)], args := [d] }
  | _ => none }
def fnContRow : OpenClaim := { program := "ytkndfhaehnfnmaa", sum := "c287c1d668b6b4d5f0742185ea1ac24ecd359868a36d2f83a4df8b099e78fb22", func := "loop.example/g00189/laws.FnCont", spec := "fnCont", unfollowed := true, recurses := true, plainKeys := false, apart := false }
def FnContSaid : Prop := fnContRow.holds Try.pinned (OpenSpec.ofChange fnContSpec)

/-- ITS FALSE NEIGHBOUR: 'it returns false'. Refute it at one input. -/
def fnContWrong : ChangeSpec := { name := "fnCont", fn := fun _ => fun
  | [d] => { results := [.lit (.bool false)], args := [d] }
  | _ => none }
def FnContWrongFalsely : Prop := fnContRow.holds Try.pinned (OpenSpec.ofChange fnContWrong)

/-- 'laws.FnClosure': WHATEVER THE INPUT: true; the input reads as it did. -/
def fnClosureSpec : ChangeSpec := { name := "fnClosure", fn := fun _ => fun
  | [d] => { results := [.lit (.bool true)], args := [d] }
  | _ => none }
def fnClosureRow : OpenClaim := { program := "ytkndfhaehnfnmaa", sum := "c287c1d668b6b4d5f0742185ea1ac24ecd359868a36d2f83a4df8b099e78fb22", func := "loop.example/g00189/laws.FnClosure", spec := "fnClosure", unfollowed := true, recurses := true, plainKeys := false, apart := false }
def FnClosureSaid : Prop := fnClosureRow.holds Try.pinned (OpenSpec.ofChange fnClosureSpec)

/-- ITS FALSE NEIGHBOUR: 'it returns false'. Refute it at one input. -/
def fnClosureWrong : ChangeSpec := { name := "fnClosure", fn := fun _ => fun
  | [d] => { results := [.lit (.bool false)], args := [d] }
  | _ => none }
def FnClosureWrongFalsely : Prop := fnClosureRow.holds Try.pinned (OpenSpec.ofChange fnClosureWrong)

/-- 'laws.FnRecursion': WHATEVER THE INPUT: true; the input reads as it did. -/
def fnRecursionSpec : ChangeSpec := { name := "fnRecursion", fn := fun _ => fun
  | [d] => { results := [.lit (.bool true)], args := [d] }
  | _ => none }
def fnRecursionRow : OpenClaim := { program := "ytkndfhaehnfnmaa", sum := "c287c1d668b6b4d5f0742185ea1ac24ecd359868a36d2f83a4df8b099e78fb22", func := "loop.example/g00189/laws.FnRecursion", spec := "fnRecursion", unfollowed := true, recurses := true, plainKeys := false, apart := false }
def FnRecursionSaid : Prop := fnRecursionRow.holds Try.pinned (OpenSpec.ofChange fnRecursionSpec)

/-- ITS FALSE NEIGHBOUR: 'it returns false'. Refute it at one input. -/
def fnRecursionWrong : ChangeSpec := { name := "fnRecursion", fn := fun _ => fun
  | [d] => { results := [.lit (.bool false)], args := [d] }
  | _ => none }
def FnRecursionWrongFalsely : Prop := fnRecursionRow.holds Try.pinned (OpenSpec.ofChange fnRecursionWrong)

/-- 'laws.FnSums': WHATEVER THE INPUT: true; the input reads as it did. -/
def fnSumsSpec : ChangeSpec := { name := "fnSums", fn := fun _ => fun
  | [d] => { results := [.lit (.bool true)], args := [d] }
  | _ => none }
def fnSumsRow : OpenClaim := { program := "ytkndfhaehnfnmaa", sum := "c287c1d668b6b4d5f0742185ea1ac24ecd359868a36d2f83a4df8b099e78fb22", func := "loop.example/g00189/laws.FnSums", spec := "fnSums", unfollowed := true, recurses := true, plainKeys := false, apart := false }
def FnSumsSaid : Prop := fnSumsRow.holds Try.pinned (OpenSpec.ofChange fnSumsSpec)

/-- ITS FALSE NEIGHBOUR: 'it returns false'. Refute it at one input. -/
def fnSumsWrong : ChangeSpec := { name := "fnSums", fn := fun _ => fun
  | [d] => { results := [.lit (.bool false)], args := [d] }
  | _ => none }
def FnSumsWrongFalsely : Prop := fnSumsRow.holds Try.pinned (OpenSpec.ofChange fnSumsWrong)

/- THE SECOND FORM. 'bulk': how many values and letters a reading holds, each counted each time it is reached (what is shared counts as often as it is met; a slice's spare places count too). A statement '..UptoSaid' is the law's where the arguments, and the package variables that the reading takes, are together of bulk at most 1048576: NARROWER than '..Said'. Prove '..Said' where nothing that the law and all that it calls make is longer than what came in: it says more and counts as full. Else prove '..UptoSaid'. A law counts once. -/
mutual
def uptoBulk {H : Type} : DataW H → Nat
  | .lit (.string bytes) => bytes.length + 1
  | .lit _ => 1
  | .nil => 1
  | .ptr d => uptoBulk d + 1
  | .slice elems spare => uptoBulkAll elems + uptoBulkAll spare + 1
  | .agg parts => uptoBulkAll parts + 1
  | .iface _ d => uptoBulk d + 1
  | .map entries => uptoBulkEntries entries + 1
  | .held _ => 1
def uptoBulkAll {H : Type} : List (DataW H) → Nat
  | [] => 0
  | d :: r => uptoBulk d + uptoBulkAll r
def uptoBulkEntries {H : Type} : List (Lit × DataW H) → Nat
  | [] => 0
  | x :: r => uptoBulkEntry x + uptoBulkEntries r
def uptoBulkEntry {H : Type} : Lit × DataW H → Nat
  | (.string bytes, d) => bytes.length + uptoBulk d + 1
  | (_, d) => uptoBulk d + 1
 end
def uptoSmall : (H : Type) → List (DataW H) → Bool := fun _ ds => decide (uptoBulkAll ds ≤ 1048576)
def OpenSpec.upto (s : _root_.Go.ChangeSpec) : _root_.Go.OpenSpec := { _root_.Go.OpenSpec.ofChange s with cond := some uptoSmall }

/-- 'laws.FnCont', WHERE WHAT IT READS IS OF BULK AT MOST 1048576: true; the input reads as it did. -/
def fnContUptoRow : OpenClaim := { program := "ytkndfhaehnfnmaa", sum := "c287c1d668b6b4d5f0742185ea1ac24ecd359868a36d2f83a4df8b099e78fb22", func := "loop.example/g00189/laws.FnCont", spec := "fnCont", unfollowed := true, recurses := true, plainKeys := false, apart := false, narrowed := true }
def FnContUptoSaid : Prop := fnContUptoRow.holds Try.pinned (OpenSpec.upto fnContSpec)

/-- 'laws.FnClosure', WHERE WHAT IT READS IS OF BULK AT MOST 1048576: true; the input reads as it did. -/
def fnClosureUptoRow : OpenClaim := { program := "ytkndfhaehnfnmaa", sum := "c287c1d668b6b4d5f0742185ea1ac24ecd359868a36d2f83a4df8b099e78fb22", func := "loop.example/g00189/laws.FnClosure", spec := "fnClosure", unfollowed := true, recurses := true, plainKeys := false, apart := false, narrowed := true }
def FnClosureUptoSaid : Prop := fnClosureUptoRow.holds Try.pinned (OpenSpec.upto fnClosureSpec)

/-- 'laws.FnRecursion', WHERE WHAT IT READS IS OF BULK AT MOST 1048576: true; the input reads as it did. -/
def fnRecursionUptoRow : OpenClaim := { program := "ytkndfhaehnfnmaa", sum := "c287c1d668b6b4d5f0742185ea1ac24ecd359868a36d2f83a4df8b099e78fb22", func := "loop.example/g00189/laws.FnRecursion", spec := "fnRecursion", unfollowed := true, recurses := true, plainKeys := false, apart := false, narrowed := true }
def FnRecursionUptoSaid : Prop := fnRecursionUptoRow.holds Try.pinned (OpenSpec.upto fnRecursionSpec)

/-- 'laws.FnSums', WHERE WHAT IT READS IS OF BULK AT MOST 1048576: true; the input reads as it did. -/
def fnSumsUptoRow : OpenClaim := { program := "ytkndfhaehnfnmaa", sum := "c287c1d668b6b4d5f0742185ea1ac24ecd359868a36d2f83a4df8b099e78fb22", func := "loop.example/g00189/laws.FnSums", spec := "fnSums", unfollowed := true, recurses := true, plainKeys := false, apart := false, narrowed := true }
def FnSumsUptoSaid : Prop := fnSumsUptoRow.holds Try.pinned (OpenSpec.upto fnSumsSpec)

end Rows
end Go.Proofs.Ytkndfhaehnfnmaa
