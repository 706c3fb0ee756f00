/-
  No cell of these rows narrows 'for every input' (looked for: loops, veiled, ifaces, maps, wideKeys, modest, calm, conditions, laid).
  DERIVED. THE GIVEN ROWS OF THIS SEAT. 9 by the template 'for every input the law returns true; each argument reads behind the call as it read before'; 0 by the template 'total and deterministic' (their statements: YtkndfhaehnfnmaaGreatTotals.lean).
  GIVEN WITH THE SEED: the statements are not yours to turn. If you find one false, say at which input.
  Laid BY PROGRAM, IN A SANDBOX (cutbox-rows.mjs): the forced cells as the released guide's own fill.sh prints them over the translation 6e83d9f6fb865630… (all of the seat's roots in one cut). By AI agents, Wed Nov 11 2026. No macro, syntax, notation, axiom, sorry.
-/
import Derived.Test.YtkndfhaehnfnmaaGreatChecked
import GoSem.Claim
import GoSem.ClaimJoined
import GoSem.ClaimMapViews
import Derived.JoinedTies
import Derived.KernelRfl
namespace Go.Proofs.YtkndfhaehnfnmaaGreat
/- THE CELL 'sum', in the pinned program and in every row, IS THE sha256 OF THE DUMP (.gsa) THAT YtkndfhaehnfnmaaGreatProg.lean LOADS. Nothing in Lean hashes anything: it is a label: what it is worth is what the hold of that sum in a sandbox is worth. -/
noncomputable def Tryz.pinned : Pinned := { name := "ytkndfhaehnfnmaagreat", sum := "6e83d9f6fb865630aa6c50b4ded33c0cb39c9676cacc93a76905a31e7d48166f", checked := Tryz.checked }
namespace Rows
def none {H : Type} : Left H := { results := [], args := [] }

/-- 'laws.FnTidied': WHATEVER THE INPUT: true; the input reads as it did. -/
def fnTidiedSpec : ChangeSpec := { name := "fnTidied", fn := fun _ => fun
  | [d] => { results := [.lit (.bool true)], args := [d] }
  | _ => none }
def fnTidiedRow : OpenClaim := { program := "ytkndfhaehnfnmaagreat", sum := "6e83d9f6fb865630aa6c50b4ded33c0cb39c9676cacc93a76905a31e7d48166f", func := "loop.example/g00189/laws.FnTidied", spec := "fnTidied", unfollowed := true, recurses := true, plainKeys := false, apart := false }
def FnTidiedSaid : Prop := fnTidiedRow.holds Tryz.pinned (OpenSpec.ofChange fnTidiedSpec)

/-- ITS FALSE NEIGHBOUR: 'it returns false'. Refute it at one input. -/
def fnTidiedWrong : ChangeSpec := { name := "fnTidied", fn := fun _ => fun
  | [d] => { results := [.lit (.bool false)], args := [d] }
  | _ => none }
def FnTidiedWrongFalsely : Prop := fnTidiedRow.holds Tryz.pinned (OpenSpec.ofChange fnTidiedWrong)

/-- 'laws.FnCaught': WHATEVER THE INPUT: true; the input reads as it did. -/
def fnCaughtSpec : ChangeSpec := { name := "fnCaught", fn := fun _ => fun
  | [d] => { results := [.lit (.bool true)], args := [d] }
  | _ => none }
def fnCaughtRow : OpenClaim := { program := "ytkndfhaehnfnmaagreat", sum := "6e83d9f6fb865630aa6c50b4ded33c0cb39c9676cacc93a76905a31e7d48166f", func := "loop.example/g00189/laws.FnCaught", spec := "fnCaught", unfollowed := true, recurses := true, plainKeys := false, apart := false }
def FnCaughtSaid : Prop := fnCaughtRow.holds Tryz.pinned (OpenSpec.ofChange fnCaughtSpec)

/-- ITS FALSE NEIGHBOUR: 'it returns false'. Refute it at one input. -/
def fnCaughtWrong : ChangeSpec := { name := "fnCaught", fn := fun _ => fun
  | [d] => { results := [.lit (.bool false)], args := [d] }
  | _ => none }
def FnCaughtWrongFalsely : Prop := fnCaughtRow.holds Tryz.pinned (OpenSpec.ofChange fnCaughtWrong)

/-- 'laws.FnProcNew': WHATEVER THE INPUT: true; the input reads as it did. -/
def fnProcNewSpec : ChangeSpec := { name := "fnProcNew", fn := fun _ => fun
  | [d] => { results := [.lit (.bool true)], args := [d] }
  | _ => none }
def fnProcNewRow : OpenClaim := { program := "ytkndfhaehnfnmaagreat", sum := "6e83d9f6fb865630aa6c50b4ded33c0cb39c9676cacc93a76905a31e7d48166f", func := "loop.example/g00189/laws.FnProcNew", spec := "fnProcNew", unfollowed := true, recurses := true, plainKeys := false, apart := false }
def FnProcNewSaid : Prop := fnProcNewRow.holds Tryz.pinned (OpenSpec.ofChange fnProcNewSpec)

/-- ITS FALSE NEIGHBOUR: 'it returns false'. Refute it at one input. -/
def fnProcNewWrong : ChangeSpec := { name := "fnProcNew", fn := fun _ => fun
  | [d] => { results := [.lit (.bool false)], args := [d] }
  | _ => none }
def FnProcNewWrongFalsely : Prop := fnProcNewRow.holds Tryz.pinned (OpenSpec.ofChange fnProcNewWrong)

/-- 'laws.FnTidy': WHATEVER THE INPUT: true; the input reads as it did. -/
def fnTidySpec : ChangeSpec := { name := "fnTidy", fn := fun _ => fun
  | [d] => { results := [.lit (.bool true)], args := [d] }
  | _ => none }
def fnTidyRow : OpenClaim := { program := "ytkndfhaehnfnmaagreat", sum := "6e83d9f6fb865630aa6c50b4ded33c0cb39c9676cacc93a76905a31e7d48166f", func := "loop.example/g00189/laws.FnTidy", spec := "fnTidy", unfollowed := true, recurses := true, plainKeys := false, apart := false }
def FnTidySaid : Prop := fnTidyRow.holds Tryz.pinned (OpenSpec.ofChange fnTidySpec)

/-- ITS FALSE NEIGHBOUR: 'it returns false'. Refute it at one input. -/
def fnTidyWrong : ChangeSpec := { name := "fnTidy", fn := fun _ => fun
  | [d] => { results := [.lit (.bool false)], args := [d] }
  | _ => none }
def FnTidyWrongFalsely : Prop := fnTidyRow.holds Tryz.pinned (OpenSpec.ofChange fnTidyWrong)

/-- 'laws.FnAnswered': WHATEVER THE INPUT: true; the input reads as it did. -/
def fnAnsweredSpec : ChangeSpec := { name := "fnAnswered", fn := fun _ => fun
  | [d] => { results := [.lit (.bool true)], args := [d] }
  | _ => none }
def fnAnsweredRow : OpenClaim := { program := "ytkndfhaehnfnmaagreat", sum := "6e83d9f6fb865630aa6c50b4ded33c0cb39c9676cacc93a76905a31e7d48166f", func := "loop.example/g00189/laws.FnAnswered", spec := "fnAnswered", unfollowed := true, recurses := true, plainKeys := false, apart := false }
def FnAnsweredSaid : Prop := fnAnsweredRow.holds Tryz.pinned (OpenSpec.ofChange fnAnsweredSpec)

/-- ITS FALSE NEIGHBOUR: 'it returns false'. Refute it at one input. -/
def fnAnsweredWrong : ChangeSpec := { name := "fnAnswered", fn := fun _ => fun
  | [d] => { results := [.lit (.bool false)], args := [d] }
  | _ => none }
def FnAnsweredWrongFalsely : Prop := fnAnsweredRow.holds Tryz.pinned (OpenSpec.ofChange fnAnsweredWrong)

/-- 'laws.FnExactRunFor': WHATEVER THE INPUT: true; the input reads as it did. -/
def fnExactRunForSpec : ChangeSpec := { name := "fnExactRunFor", fn := fun _ => fun
  | [d1, d2, d3] => { results := [.lit (.bool true)], args := [d1, d2, d3] }
  | _ => none }
def fnExactRunForRow : OpenClaim := { program := "ytkndfhaehnfnmaagreat", sum := "6e83d9f6fb865630aa6c50b4ded33c0cb39c9676cacc93a76905a31e7d48166f", func := "loop.example/g00189/laws.FnExactRunFor", spec := "fnExactRunFor", unfollowed := true, recurses := true, plainKeys := false, apart := false }
def FnExactRunForSaid : Prop := fnExactRunForRow.holds Tryz.pinned (OpenSpec.ofChange fnExactRunForSpec)

/-- ITS FALSE NEIGHBOUR: 'it returns false'. Refute it at one input. -/
def fnExactRunForWrong : ChangeSpec := { name := "fnExactRunFor", fn := fun _ => fun
  | [d1, d2, d3] => { results := [.lit (.bool false)], args := [d1, d2, d3] }
  | _ => none }
def FnExactRunForWrongFalsely : Prop := fnExactRunForRow.holds Tryz.pinned (OpenSpec.ofChange fnExactRunForWrong)

/-- 'laws.FnMachineBytes': WHATEVER THE INPUT: true; the input reads as it did. -/
def fnMachineBytesSpec : ChangeSpec := { name := "fnMachineBytes", fn := fun _ => fun
  | [d] => { results := [.lit (.bool true)], args := [d] }
  | _ => none }
def fnMachineBytesRow : OpenClaim := { program := "ytkndfhaehnfnmaagreat", sum := "6e83d9f6fb865630aa6c50b4ded33c0cb39c9676cacc93a76905a31e7d48166f", func := "loop.example/g00189/laws.FnMachineBytes", spec := "fnMachineBytes", unfollowed := true, recurses := true, plainKeys := false, apart := false }
def FnMachineBytesSaid : Prop := fnMachineBytesRow.holds Tryz.pinned (OpenSpec.ofChange fnMachineBytesSpec)

/-- ITS FALSE NEIGHBOUR: 'it returns false'. Refute it at one input. -/
def fnMachineBytesWrong : ChangeSpec := { name := "fnMachineBytes", fn := fun _ => fun
  | [d] => { results := [.lit (.bool false)], args := [d] }
  | _ => none }
def FnMachineBytesWrongFalsely : Prop := fnMachineBytesRow.holds Tryz.pinned (OpenSpec.ofChange fnMachineBytesWrong)

/-- 'laws.FnParts': WHATEVER THE INPUT: true; the input reads as it did. -/
def fnPartsSpec : ChangeSpec := { name := "fnParts", fn := fun _ => fun
  | [d] => { results := [.lit (.bool true)], args := [d] }
  | _ => none }
def fnPartsRow : OpenClaim := { program := "ytkndfhaehnfnmaagreat", sum := "6e83d9f6fb865630aa6c50b4ded33c0cb39c9676cacc93a76905a31e7d48166f", func := "loop.example/g00189/laws.FnParts", spec := "fnParts", unfollowed := true, recurses := true, plainKeys := false, apart := false }
def FnPartsSaid : Prop := fnPartsRow.holds Tryz.pinned (OpenSpec.ofChange fnPartsSpec)

/-- ITS FALSE NEIGHBOUR: 'it returns false'. Refute it at one input. -/
def fnPartsWrong : ChangeSpec := { name := "fnParts", fn := fun _ => fun
  | [d] => { results := [.lit (.bool false)], args := [d] }
  | _ => none }
def FnPartsWrongFalsely : Prop := fnPartsRow.holds Tryz.pinned (OpenSpec.ofChange fnPartsWrong)

/-- 'laws.FnExactAlone': WHATEVER THE INPUT: true; the input reads as it did. -/
def fnExactAloneSpec : ChangeSpec := { name := "fnExactAlone", fn := fun _ => fun
  | [d1, d2, d3] => { results := [.lit (.bool true)], args := [d1, d2, d3] }
  | _ => none }
def fnExactAloneRow : OpenClaim := { program := "ytkndfhaehnfnmaagreat", sum := "6e83d9f6fb865630aa6c50b4ded33c0cb39c9676cacc93a76905a31e7d48166f", func := "loop.example/g00189/laws.FnExactAlone", spec := "fnExactAlone", unfollowed := true, recurses := true, plainKeys := false, apart := false }
def FnExactAloneSaid : Prop := fnExactAloneRow.holds Tryz.pinned (OpenSpec.ofChange fnExactAloneSpec)

/-- ITS FALSE NEIGHBOUR: 'it returns false'. Refute it at one input. -/
def fnExactAloneWrong : ChangeSpec := { name := "fnExactAlone", fn := fun _ => fun
  | [d1, d2, d3] => { results := [.lit (.bool false)], args := [d1, d2, d3] }
  | _ => none }
def FnExactAloneWrongFalsely : Prop := fnExactAloneRow.holds Tryz.pinned (OpenSpec.ofChange fnExactAloneWrong)

/- THE SECOND FORM. 'bulk': how many values and letters a reading holds, each counted each time it is reached (what is shared counts as often as it is met; a slice's spare places count too). A statement '..UptoSaid' is the law's where the arguments, and the package variables that the reading takes, are together of bulk at most 1048576: NARROWER than '..Said'. Prove '..Said' where nothing that the law and all that it calls make is longer than what came in: it says more and counts as full. Else prove '..UptoSaid'. A law counts once. -/
mutual
def uptoBulk {H : Type} : DataW H → Nat
  | .lit (.string bytes) => bytes.length + 1
  | .lit _ => 1
  | .nil => 1
  | .ptr d => uptoBulk d + 1
  | .slice elems spare => uptoBulkAll elems + uptoBulkAll spare + 1
  | .agg parts => uptoBulkAll parts + 1
  | .iface _ d => uptoBulk d + 1
  | .map entries => uptoBulkEntries entries + 1
  | .held _ => 1
def uptoBulkAll {H : Type} : List (DataW H) → Nat
  | [] => 0
  | d :: r => uptoBulk d + uptoBulkAll r
def uptoBulkEntries {H : Type} : List (Lit × DataW H) → Nat
  | [] => 0
  | x :: r => uptoBulkEntry x + uptoBulkEntries r
def uptoBulkEntry {H : Type} : Lit × DataW H → Nat
  | (.string bytes, d) => bytes.length + uptoBulk d + 1
  | (_, d) => uptoBulk d + 1
 end
def uptoSmall : (H : Type) → List (DataW H) → Bool := fun _ ds => decide (uptoBulkAll ds ≤ 1048576)
def OpenSpec.upto (s : _root_.Go.ChangeSpec) : _root_.Go.OpenSpec := { _root_.Go.OpenSpec.ofChange s with cond := some uptoSmall }

/-- 'laws.FnTidied', WHERE WHAT IT READS IS OF BULK AT MOST 1048576: true; the input reads as it did. -/
def fnTidiedUptoRow : OpenClaim := { program := "ytkndfhaehnfnmaagreat", sum := "6e83d9f6fb865630aa6c50b4ded33c0cb39c9676cacc93a76905a31e7d48166f", func := "loop.example/g00189/laws.FnTidied", spec := "fnTidied", unfollowed := true, recurses := true, plainKeys := false, apart := false, narrowed := true }
def FnTidiedUptoSaid : Prop := fnTidiedUptoRow.holds Tryz.pinned (OpenSpec.upto fnTidiedSpec)

/-- 'laws.FnCaught', WHERE WHAT IT READS IS OF BULK AT MOST 1048576: true; the input reads as it did. -/
def fnCaughtUptoRow : OpenClaim := { program := "ytkndfhaehnfnmaagreat", sum := "6e83d9f6fb865630aa6c50b4ded33c0cb39c9676cacc93a76905a31e7d48166f", func := "loop.example/g00189/laws.FnCaught", spec := "fnCaught", unfollowed := true, recurses := true, plainKeys := false, apart := false, narrowed := true }
def FnCaughtUptoSaid : Prop := fnCaughtUptoRow.holds Tryz.pinned (OpenSpec.upto fnCaughtSpec)

/-- 'laws.FnProcNew', WHERE WHAT IT READS IS OF BULK AT MOST 1048576: true; the input reads as it did. -/
def fnProcNewUptoRow : OpenClaim := { program := "ytkndfhaehnfnmaagreat", sum := "6e83d9f6fb865630aa6c50b4ded33c0cb39c9676cacc93a76905a31e7d48166f", func := "loop.example/g00189/laws.FnProcNew", spec := "fnProcNew", unfollowed := true, recurses := true, plainKeys := false, apart := false, narrowed := true }
def FnProcNewUptoSaid : Prop := fnProcNewUptoRow.holds Tryz.pinned (OpenSpec.upto fnProcNewSpec)

/-- 'laws.FnTidy', WHERE WHAT IT READS IS OF BULK AT MOST 1048576: true; the input reads as it did. -/
def fnTidyUptoRow : OpenClaim := { program := "ytkndfhaehnfnmaagreat", sum := "6e83d9f6fb865630aa6c50b4ded33c0cb39c9676cacc93a76905a31e7d48166f", func := "loop.example/g00189/laws.FnTidy", spec := "fnTidy", unfollowed := true, recurses := true, plainKeys := false, apart := false, narrowed := true }
def FnTidyUptoSaid : Prop := fnTidyUptoRow.holds Tryz.pinned (OpenSpec.upto fnTidySpec)

/-- 'laws.FnAnswered', WHERE WHAT IT READS IS OF BULK AT MOST 1048576: true; the input reads as it did. -/
def fnAnsweredUptoRow : OpenClaim := { program := "ytkndfhaehnfnmaagreat", sum := "6e83d9f6fb865630aa6c50b4ded33c0cb39c9676cacc93a76905a31e7d48166f", func := "loop.example/g00189/laws.FnAnswered", spec := "fnAnswered", unfollowed := true, recurses := true, plainKeys := false, apart := false, narrowed := true }
def FnAnsweredUptoSaid : Prop := fnAnsweredUptoRow.holds Tryz.pinned (OpenSpec.upto fnAnsweredSpec)

/-- 'laws.FnExactRunFor', WHERE WHAT IT READS IS OF BULK AT MOST 1048576: true; the input reads as it did. -/
def fnExactRunForUptoRow : OpenClaim := { program := "ytkndfhaehnfnmaagreat", sum := "6e83d9f6fb865630aa6c50b4ded33c0cb39c9676cacc93a76905a31e7d48166f", func := "loop.example/g00189/laws.FnExactRunFor", spec := "fnExactRunFor", unfollowed := true, recurses := true, plainKeys := false, apart := false, narrowed := true }
def FnExactRunForUptoSaid : Prop := fnExactRunForUptoRow.holds Tryz.pinned (OpenSpec.upto fnExactRunForSpec)

/-- 'laws.FnMachineBytes', WHERE WHAT IT READS IS OF BULK AT MOST 1048576: true; the input reads as it did. -/
def fnMachineBytesUptoRow : OpenClaim := { program := "ytkndfhaehnfnmaagreat", sum := "6e83d9f6fb865630aa6c50b4ded33c0cb39c9676cacc93a76905a31e7d48166f", func := "loop.example/g00189/laws.FnMachineBytes", spec := "fnMachineBytes", unfollowed := true, recurses := true, plainKeys := false, apart := false, narrowed := true }
def FnMachineBytesUptoSaid : Prop := fnMachineBytesUptoRow.holds Tryz.pinned (OpenSpec.upto fnMachineBytesSpec)

/-- 'laws.FnParts', WHERE WHAT IT READS IS OF BULK AT MOST 1048576: true; the input reads as it did. -/
def fnPartsUptoRow : OpenClaim := { program := "ytkndfhaehnfnmaagreat", sum := "6e83d9f6fb865630aa6c50b4ded33c0cb39c9676cacc93a76905a31e7d48166f", func := "loop.example/g00189/laws.FnParts", spec := "fnParts", unfollowed := true, recurses := true, plainKeys := false, apart := false, narrowed := true }
def FnPartsUptoSaid : Prop := fnPartsUptoRow.holds Tryz.pinned (OpenSpec.upto fnPartsSpec)

/-- 'laws.FnExactAlone', WHERE WHAT IT READS IS OF BULK AT MOST 1048576: true; the input reads as it did. -/
def fnExactAloneUptoRow : OpenClaim := { program := "ytkndfhaehnfnmaagreat", sum := "6e83d9f6fb865630aa6c50b4ded33c0cb39c9676cacc93a76905a31e7d48166f", func := "loop.example/g00189/laws.FnExactAlone", spec := "fnExactAlone", unfollowed := true, recurses := true, plainKeys := false, apart := false, narrowed := true }
def FnExactAloneUptoSaid : Prop := fnExactAloneUptoRow.holds Tryz.pinned (OpenSpec.upto fnExactAloneSpec)

end Rows
end Go.Proofs.YtkndfhaehnfnmaaGreat
