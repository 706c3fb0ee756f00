/- FnExactMachineRead returns true for all arguments. No condition. -/
import Derived.Test.YtgoidfkdnkjojaaGreatRows
import Derived.Test.YtgoidfkdnkjojaaGreatMRead2
import Derived.WalkKit
import Derived.ProofKit
namespace Go.Proofs.YtgoidfkdnkjojaaGreat.LFnExactMachineRead
open Go.Eng
theorem own : ownKnob Tryz.prog.godebug = none := by kernel_rfl
theorem laidOut : laidOutB Tryz.prog = true := by kernel_rfl
theorem mixed : Tryz.prog.follows .mixedOrders = true := by kernel_rfl
theorem noNum : Tryz.prog.funcs.all (fun fn => !(fn.name == "runtime.NumGoroutine")) = true := by kernel_rfl
theorem tys : tysAll Tryz.prog Tryz.f3.params.toList = true := by kernel_rfl
theorem ext : SoundExt Tryz.prog cf0 := fun f F h => by cases h
theorem ro : ∀ j, cf0.mode 3 j ≠ .mut := fun j => by simp [cf0]
set_option maxRecDepth 100000 in
theorem lifted (os : Os) (started : os.Started) (H : Type) (enc : TypeId × Value → H) :
    ReturnsInHanded {} Tryz.checked os 3 .any (Rows.fnExactMachineReadSpec.pre6 enc Tryz.prog Tryz.f3 Rows.fnExactMachineReadRow.domain false) (Rows.fnExactMachineReadSpec.post enc Tryz.prog Tryz.f3 false true false false) := by
  refine returnsInHanded_of_change_sized (C := Tryz.checked) own started (by kernel_rfl) Tryz.func3
    (ChangeSpec.witness6 (enc := enc) (C := Tryz.checked) false ⟨#[], #[.agg #[.slice none 0 0, .slice none 0 0, .slice none 0 0], .string ⟨#[]⟩], []⟩ 8 (by kernel_rfl) (by kernel_rfl) (by kernel_rfl) (by kernel_rfl)) ?_
  intro W base args ds gs before hval hW hcnd hsz _
  exact law_contract (C := Tryz.checked) (cf := cf0) (conds := Rows.fnExactMachineReadRow.domain) Tryz.func3 rfl (fun ds h => by match ds, h with | [_, _], _ => rfl) rfl Tryz.underlying4 laidOut tys ro ext mixed noNum core_FnExactMachineRead W base args ds gs before hval hW hsz
theorem over : Rows.fnExactMachineReadRow.holds Tryz.pinned (OpenSpec.ofChange Rows.fnExactMachineReadSpec) :=
  OpenClaim.holds_of_wide 3 Tryz.f3 rfl rfl rfl rfl rfl rfl rfl ⟨rfl, by first | rfl | kernel_rfl, by first | rfl | kernel_rfl, by first | rfl | kernel_rfl, rfl⟩ rfl rfl rfl rfl rfl (by kernel_rfl) Tryz.func3 (by kernel_rfl)
    (of_decide_eq_true (by kernel_rfl)) (by unfold Func.isWrapper; first | (rw [if_pos (by decide +kernel)]; kernel_rfl) | (rw [if_neg (by decide +kernel)]; exact ⟨rfl, rfl⟩))
    (fun os started H enc _ => lifted os started H enc)
theorem proved : Rows.FnExactMachineReadSaid := over
#print axioms proved
end Go.Proofs.YtgoidfkdnkjojaaGreat.LFnExactMachineRead
namespace Go.Proofs.YtgoidfkdnkjojaaGreat
/-- The row, under a short name, for the claim. -/
theorem fnExactMachineRead_holds : Rows.FnExactMachineReadSaid := LFnExactMachineRead.proved
end Go.Proofs.YtgoidfkdnkjojaaGreat
