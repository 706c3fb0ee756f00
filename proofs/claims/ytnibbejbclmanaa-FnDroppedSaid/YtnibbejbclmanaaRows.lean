/-
  No cell of these rows narrows 'for every input' (looked for: loops, veiled, ifaces, maps, wideKeys, modest, calm, conditions, laid).
  DERIVED. THE GIVEN ROWS OF THIS SEAT. 8 by the template 'for every input the law returns true; each argument reads behind the call as it read before'; 0 by the template 'total and deterministic' (their statements: YtnibbejbclmanaaTotals.lean).
  GIVEN WITH THE SEED: the statements are not yours to turn. If you find one false, say at which input.
  Laid BY PROGRAM, IN A SANDBOX (cutbox-rows.mjs): the forced cells as the released guide's own fill.sh prints them over the translation 28bbb7ae2fe23d4d… (all of the seat's roots in one cut). By AI agents, Wed Nov 11 2026. No macro, syntax, notation, axiom, sorry.
-/
import Derived.Test.YtnibbejbclmanaaChecked
import GoSem.Claim
import GoSem.ClaimJoined
import GoSem.ClaimMapViews
import Derived.JoinedTies
import Derived.KernelRfl
namespace Go.Proofs.Ytnibbejbclmanaa
/- THE CELL 'sum', in the pinned program and in every row, IS THE sha256 OF THE DUMP (.gsa) THAT YtnibbejbclmanaaProg.lean LOADS. Nothing in Lean hashes anything: it is a label: what it is worth is what the hold of that sum in a sandbox is worth. -/
noncomputable def Try.pinned : Pinned := { name := "ytnibbejbclmanaa", sum := "28bbb7ae2fe23d4dc49d6d99696536684d72c19a78fa16c673dc2b5b3e2fde1c", checked := Try.checked }
namespace Rows
def none {H : Type} : Left H := { results := [], args := [] }

/-- 'laws.FnExactGripGood': WHATEVER THE INPUT: true; the input reads as it did. -/
def fnExactGripGoodSpec : ChangeSpec := { name := "fnExactGripGood", fn := fun _ => fun
  | [d1, d2] => { results := [.lit (.bool true)], args := [d1, d2] }
  | _ => none }
def fnExactGripGoodRow : OpenClaim := { program := "ytnibbejbclmanaa", sum := "28bbb7ae2fe23d4dc49d6d99696536684d72c19a78fa16c673dc2b5b3e2fde1c", func := "loop.example/g00189/laws.FnExactGripGood", spec := "fnExactGripGood", apart := false }
def FnExactGripGoodSaid : Prop := fnExactGripGoodRow.holds Try.pinned (OpenSpec.ofChange fnExactGripGoodSpec)

/-- ITS FALSE NEIGHBOUR: 'it returns false'. Refute it at one input. -/
def fnExactGripGoodWrong : ChangeSpec := { name := "fnExactGripGood", fn := fun _ => fun
  | [d1, d2] => { results := [.lit (.bool false)], args := [d1, d2] }
  | _ => none }
def FnExactGripGoodWrongFalsely : Prop := fnExactGripGoodRow.holds Try.pinned (OpenSpec.ofChange fnExactGripGoodWrong)

/-- 'laws.FnExactLeasesOk': WHATEVER THE INPUT: true; the input reads as it did. -/
def fnExactLeasesOkSpec : ChangeSpec := { name := "fnExactLeasesOk", fn := fun _ => fun
  | [d] => { results := [.lit (.bool true)], args := [d] }
  | _ => none }
def fnExactLeasesOkRow : OpenClaim := { program := "ytnibbejbclmanaa", sum := "28bbb7ae2fe23d4dc49d6d99696536684d72c19a78fa16c673dc2b5b3e2fde1c", func := "loop.example/g00189/laws.FnExactLeasesOk", spec := "fnExactLeasesOk", unfollowed := true, recurses := true, apart := false }
def FnExactLeasesOkSaid : Prop := fnExactLeasesOkRow.holds Try.pinned (OpenSpec.ofChange fnExactLeasesOkSpec)

/-- ITS FALSE NEIGHBOUR: 'it returns false'. Refute it at one input. -/
def fnExactLeasesOkWrong : ChangeSpec := { name := "fnExactLeasesOk", fn := fun _ => fun
  | [d] => { results := [.lit (.bool false)], args := [d] }
  | _ => none }
def FnExactLeasesOkWrongFalsely : Prop := fnExactLeasesOkRow.holds Try.pinned (OpenSpec.ofChange fnExactLeasesOkWrong)

/-- 'laws.FnExactKept': WHATEVER THE INPUT: true; the input reads as it did. -/
def fnExactKeptSpec : ChangeSpec := { name := "fnExactKept", fn := fun _ => fun
  | [d1, d2, d3] => { results := [.lit (.bool true)], args := [d1, d2, d3] }
  | _ => none }
def fnExactKeptRow : OpenClaim := { program := "ytnibbejbclmanaa", sum := "28bbb7ae2fe23d4dc49d6d99696536684d72c19a78fa16c673dc2b5b3e2fde1c", func := "loop.example/g00189/laws.FnExactKept", spec := "fnExactKept", unfollowed := true, recurses := true, apart := false }
def FnExactKeptSaid : Prop := fnExactKeptRow.holds Try.pinned (OpenSpec.ofChange fnExactKeptSpec)

/-- ITS FALSE NEIGHBOUR: 'it returns false'. Refute it at one input. -/
def fnExactKeptWrong : ChangeSpec := { name := "fnExactKept", fn := fun _ => fun
  | [d1, d2, d3] => { results := [.lit (.bool false)], args := [d1, d2, d3] }
  | _ => none }
def FnExactKeptWrongFalsely : Prop := fnExactKeptRow.holds Try.pinned (OpenSpec.ofChange fnExactKeptWrong)

/-- 'laws.FnExactLeaseDrop': WHATEVER THE INPUT: true; the input reads as it did. -/
def fnExactLeaseDropSpec : ChangeSpec := { name := "fnExactLeaseDrop", fn := fun _ => fun
  | [d1, d2] => { results := [.lit (.bool true)], args := [d1, d2] }
  | _ => none }
def fnExactLeaseDropRow : OpenClaim := { program := "ytnibbejbclmanaa", sum := "28bbb7ae2fe23d4dc49d6d99696536684d72c19a78fa16c673dc2b5b3e2fde1c", func := "loop.example/g00189/laws.FnExactLeaseDrop", spec := "fnExactLeaseDrop", unfollowed := true, recurses := true, apart := false }
def FnExactLeaseDropSaid : Prop := fnExactLeaseDropRow.holds Try.pinned (OpenSpec.ofChange fnExactLeaseDropSpec)

/-- ITS FALSE NEIGHBOUR: 'it returns false'. Refute it at one input. -/
def fnExactLeaseDropWrong : ChangeSpec := { name := "fnExactLeaseDrop", fn := fun _ => fun
  | [d1, d2] => { results := [.lit (.bool false)], args := [d1, d2] }
  | _ => none }
def FnExactLeaseDropWrongFalsely : Prop := fnExactLeaseDropRow.holds Try.pinned (OpenSpec.ofChange fnExactLeaseDropWrong)

/-- 'laws.FnExactLeaseGive': WHATEVER THE INPUT: true; the input reads as it did. -/
def fnExactLeaseGiveSpec : ChangeSpec := { name := "fnExactLeaseGive", fn := fun _ => fun
  | [d1, d2, d3, d4] => { results := [.lit (.bool true)], args := [d1, d2, d3, d4] }
  | _ => none }
def fnExactLeaseGiveRow : OpenClaim := { program := "ytnibbejbclmanaa", sum := "28bbb7ae2fe23d4dc49d6d99696536684d72c19a78fa16c673dc2b5b3e2fde1c", func := "loop.example/g00189/laws.FnExactLeaseGive", spec := "fnExactLeaseGive", unfollowed := true, recurses := true, apart := false }
def FnExactLeaseGiveSaid : Prop := fnExactLeaseGiveRow.holds Try.pinned (OpenSpec.ofChange fnExactLeaseGiveSpec)

/-- ITS FALSE NEIGHBOUR: 'it returns false'. Refute it at one input. -/
def fnExactLeaseGiveWrong : ChangeSpec := { name := "fnExactLeaseGive", fn := fun _ => fun
  | [d1, d2, d3, d4] => { results := [.lit (.bool false)], args := [d1, d2, d3, d4] }
  | _ => none }
def FnExactLeaseGiveWrongFalsely : Prop := fnExactLeaseGiveRow.holds Try.pinned (OpenSpec.ofChange fnExactLeaseGiveWrong)

/-- 'laws.FnExactLeaseAsk': WHATEVER THE INPUT: true; the input reads as it did. -/
def fnExactLeaseAskSpec : ChangeSpec := { name := "fnExactLeaseAsk", fn := fun _ => fun
  | [d1, d2, d3, d4] => { results := [.lit (.bool true)], args := [d1, d2, d3, d4] }
  | _ => none }
def fnExactLeaseAskRow : OpenClaim := { program := "ytnibbejbclmanaa", sum := "28bbb7ae2fe23d4dc49d6d99696536684d72c19a78fa16c673dc2b5b3e2fde1c", func := "loop.example/g00189/laws.FnExactLeaseAsk", spec := "fnExactLeaseAsk", unfollowed := true, recurses := true, apart := false }
def FnExactLeaseAskSaid : Prop := fnExactLeaseAskRow.holds Try.pinned (OpenSpec.ofChange fnExactLeaseAskSpec)

/-- ITS FALSE NEIGHBOUR: 'it returns false'. Refute it at one input. -/
def fnExactLeaseAskWrong : ChangeSpec := { name := "fnExactLeaseAsk", fn := fun _ => fun
  | [d1, d2, d3, d4] => { results := [.lit (.bool false)], args := [d1, d2, d3, d4] }
  | _ => none }
def FnExactLeaseAskWrongFalsely : Prop := fnExactLeaseAskRow.holds Try.pinned (OpenSpec.ofChange fnExactLeaseAskWrong)

/-- 'laws.FnLease': WHATEVER THE INPUT: true; the input reads as it did. -/
def fnLeaseSpec : ChangeSpec := { name := "fnLease", fn := fun _ => fun
  | [d] => { results := [.lit (.bool true)], args := [d] }
  | _ => none }
def fnLeaseRow : OpenClaim := { program := "ytnibbejbclmanaa", sum := "28bbb7ae2fe23d4dc49d6d99696536684d72c19a78fa16c673dc2b5b3e2fde1c", func := "loop.example/g00189/laws.FnLease", spec := "fnLease", unfollowed := true, recurses := true, apart := false }
def FnLeaseSaid : Prop := fnLeaseRow.holds Try.pinned (OpenSpec.ofChange fnLeaseSpec)

/-- ITS FALSE NEIGHBOUR: 'it returns false'. Refute it at one input. -/
def fnLeaseWrong : ChangeSpec := { name := "fnLease", fn := fun _ => fun
  | [d] => { results := [.lit (.bool false)], args := [d] }
  | _ => none }
def FnLeaseWrongFalsely : Prop := fnLeaseRow.holds Try.pinned (OpenSpec.ofChange fnLeaseWrong)

/-- 'laws.FnDropped': WHATEVER THE INPUT: true; the input reads as it did. -/
def fnDroppedSpec : ChangeSpec := { name := "fnDropped", fn := fun _ => fun
  | [d] => { results := [.lit (.bool true)], args := [d] }
  | _ => none }
def fnDroppedRow : OpenClaim := { program := "ytnibbejbclmanaa", sum := "28bbb7ae2fe23d4dc49d6d99696536684d72c19a78fa16c673dc2b5b3e2fde1c", func := "loop.example/g00189/laws.FnDropped", spec := "fnDropped", unfollowed := true, recurses := true, apart := false }
def FnDroppedSaid : Prop := fnDroppedRow.holds Try.pinned (OpenSpec.ofChange fnDroppedSpec)

/-- ITS FALSE NEIGHBOUR: 'it returns false'. Refute it at one input. -/
def fnDroppedWrong : ChangeSpec := { name := "fnDropped", fn := fun _ => fun
  | [d] => { results := [.lit (.bool false)], args := [d] }
  | _ => none }
def FnDroppedWrongFalsely : Prop := fnDroppedRow.holds Try.pinned (OpenSpec.ofChange fnDroppedWrong)

/- THE SECOND FORM. 'bulk': how many values and letters a reading holds, each counted each time it is reached (what is shared counts as often as it is met; a slice's spare places count too). A statement '..UptoSaid' is the law's where the arguments, and the package variables that the reading takes, are together of bulk at most 1048576: NARROWER than '..Said'. Prove '..Said' where nothing that the law and all that it calls make is longer than what came in: it says more and counts as full. Else prove '..UptoSaid'. A law counts once. -/
mutual
def uptoBulk {H : Type} : DataW H → Nat
  | .lit (.string bytes) => bytes.length + 1
  | .lit _ => 1
  | .nil => 1
  | .ptr d => uptoBulk d + 1
  | .slice elems spare => uptoBulkAll elems + uptoBulkAll spare + 1
  | .agg parts => uptoBulkAll parts + 1
  | .iface _ d => uptoBulk d + 1
  | .map entries => uptoBulkEntries entries + 1
  | .held _ => 1
def uptoBulkAll {H : Type} : List (DataW H) → Nat
  | [] => 0
  | d :: r => uptoBulk d + uptoBulkAll r
def uptoBulkEntries {H : Type} : List (Lit × DataW H) → Nat
  | [] => 0
  | x :: r => uptoBulkEntry x + uptoBulkEntries r
def uptoBulkEntry {H : Type} : Lit × DataW H → Nat
  | (.string bytes, d) => bytes.length + uptoBulk d + 1
  | (_, d) => uptoBulk d + 1
 end
def uptoSmall : (H : Type) → List (DataW H) → Bool := fun _ ds => decide (uptoBulkAll ds ≤ 1048576)
def OpenSpec.upto (s : _root_.Go.ChangeSpec) : _root_.Go.OpenSpec := { _root_.Go.OpenSpec.ofChange s with cond := some uptoSmall }

/-- 'laws.FnExactGripGood', WHERE WHAT IT READS IS OF BULK AT MOST 1048576: true; the input reads as it did. -/
def fnExactGripGoodUptoRow : OpenClaim := { program := "ytnibbejbclmanaa", sum := "28bbb7ae2fe23d4dc49d6d99696536684d72c19a78fa16c673dc2b5b3e2fde1c", func := "loop.example/g00189/laws.FnExactGripGood", spec := "fnExactGripGood", apart := false, narrowed := true }
def FnExactGripGoodUptoSaid : Prop := fnExactGripGoodUptoRow.holds Try.pinned (OpenSpec.upto fnExactGripGoodSpec)

/-- 'laws.FnExactLeasesOk', WHERE WHAT IT READS IS OF BULK AT MOST 1048576: true; the input reads as it did. -/
def fnExactLeasesOkUptoRow : OpenClaim := { program := "ytnibbejbclmanaa", sum := "28bbb7ae2fe23d4dc49d6d99696536684d72c19a78fa16c673dc2b5b3e2fde1c", func := "loop.example/g00189/laws.FnExactLeasesOk", spec := "fnExactLeasesOk", unfollowed := true, recurses := true, apart := false, narrowed := true }
def FnExactLeasesOkUptoSaid : Prop := fnExactLeasesOkUptoRow.holds Try.pinned (OpenSpec.upto fnExactLeasesOkSpec)

/-- 'laws.FnExactKept', WHERE WHAT IT READS IS OF BULK AT MOST 1048576: true; the input reads as it did. -/
def fnExactKeptUptoRow : OpenClaim := { program := "ytnibbejbclmanaa", sum := "28bbb7ae2fe23d4dc49d6d99696536684d72c19a78fa16c673dc2b5b3e2fde1c", func := "loop.example/g00189/laws.FnExactKept", spec := "fnExactKept", unfollowed := true, recurses := true, apart := false, narrowed := true }
def FnExactKeptUptoSaid : Prop := fnExactKeptUptoRow.holds Try.pinned (OpenSpec.upto fnExactKeptSpec)

/-- 'laws.FnExactLeaseDrop', WHERE WHAT IT READS IS OF BULK AT MOST 1048576: true; the input reads as it did. -/
def fnExactLeaseDropUptoRow : OpenClaim := { program := "ytnibbejbclmanaa", sum := "28bbb7ae2fe23d4dc49d6d99696536684d72c19a78fa16c673dc2b5b3e2fde1c", func := "loop.example/g00189/laws.FnExactLeaseDrop", spec := "fnExactLeaseDrop", unfollowed := true, recurses := true, apart := false, narrowed := true }
def FnExactLeaseDropUptoSaid : Prop := fnExactLeaseDropUptoRow.holds Try.pinned (OpenSpec.upto fnExactLeaseDropSpec)

/-- 'laws.FnExactLeaseGive', WHERE WHAT IT READS IS OF BULK AT MOST 1048576: true; the input reads as it did. -/
def fnExactLeaseGiveUptoRow : OpenClaim := { program := "ytnibbejbclmanaa", sum := "28bbb7ae2fe23d4dc49d6d99696536684d72c19a78fa16c673dc2b5b3e2fde1c", func := "loop.example/g00189/laws.FnExactLeaseGive", spec := "fnExactLeaseGive", unfollowed := true, recurses := true, apart := false, narrowed := true }
def FnExactLeaseGiveUptoSaid : Prop := fnExactLeaseGiveUptoRow.holds Try.pinned (OpenSpec.upto fnExactLeaseGiveSpec)

/-- 'laws.FnExactLeaseAsk', WHERE WHAT IT READS IS OF BULK AT MOST 1048576: true; the input reads as it did. -/
def fnExactLeaseAskUptoRow : OpenClaim := { program := "ytnibbejbclmanaa", sum := "28bbb7ae2fe23d4dc49d6d99696536684d72c19a78fa16c673dc2b5b3e2fde1c", func := "loop.example/g00189/laws.FnExactLeaseAsk", spec := "fnExactLeaseAsk", unfollowed := true, recurses := true, apart := false, narrowed := true }
def FnExactLeaseAskUptoSaid : Prop := fnExactLeaseAskUptoRow.holds Try.pinned (OpenSpec.upto fnExactLeaseAskSpec)

/-- 'laws.FnLease', WHERE WHAT IT READS IS OF BULK AT MOST 1048576: true; the input reads as it did. -/
def fnLeaseUptoRow : OpenClaim := { program := "ytnibbejbclmanaa", sum := "28bbb7ae2fe23d4dc49d6d99696536684d72c19a78fa16c673dc2b5b3e2fde1c", func := "loop.example/g00189/laws.FnLease", spec := "fnLease", unfollowed := true, recurses := true, apart := false, narrowed := true }
def FnLeaseUptoSaid : Prop := fnLeaseUptoRow.holds Try.pinned (OpenSpec.upto fnLeaseSpec)

/-- 'laws.FnDropped', WHERE WHAT IT READS IS OF BULK AT MOST 1048576: true; the input reads as it did. -/
def fnDroppedUptoRow : OpenClaim := { program := "ytnibbejbclmanaa", sum := "28bbb7ae2fe23d4dc49d6d99696536684d72c19a78fa16c673dc2b5b3e2fde1c", func := "loop.example/g00189/laws.FnDropped", spec := "fnDropped", unfollowed := true, recurses := true, apart := false, narrowed := true }
def FnDroppedUptoSaid : Prop := fnDroppedUptoRow.holds Try.pinned (OpenSpec.upto fnDroppedSpec)

end Rows
end Go.Proofs.Ytnibbejbclmanaa
