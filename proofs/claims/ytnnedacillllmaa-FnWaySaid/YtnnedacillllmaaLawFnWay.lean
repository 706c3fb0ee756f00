/- FnWay returns true for all arguments. No condition. -/
import Derived.Test.YtnnedacillllmaaRows
import Derived.Test.YtnnedacillllmaaPart2
import Derived.WalkKit
import Derived.ProofKit
namespace Go.Proofs.Ytnnedacillllmaa.LFnWay
open Go.Eng
theorem own : ownKnob Try.prog.godebug = none := by kernel_rfl
theorem laidOut : laidOutB Try.prog = true := by kernel_rfl
theorem mixed : Try.prog.follows .mixedOrders = true := by kernel_rfl
theorem noNum : Try.prog.funcs.all (fun fn => !(fn.name == "runtime.NumGoroutine")) = true := by kernel_rfl
theorem tys : tysAll Try.prog Try.f3.params.toList = true := by kernel_rfl
theorem ext : SoundExt Try.prog cf0 := ext_holds
theorem ro : ∀ j, cf0.mode 3 j ≠ .mut := fun j => by simp [cf0]
set_option maxRecDepth 100000 in
theorem lifted (os : Os) (started : os.Started) (H : Type) (enc : TypeId × Value → H) :
    ReturnsInHanded {} Try.checked os 3 .any (Rows.fnWaySpec.pre6 enc Try.prog Try.f3 Rows.fnWayRow.domain false) (Rows.fnWaySpec.post enc Try.prog Try.f3 false true false false) := by
  refine returnsInHanded_of_change_sized (C := Try.checked) own started (by kernel_rfl) Try.func3
    (ChangeSpec.witness6 (enc := enc) (C := Try.checked) false ⟨#[], #[.slice none 0 0], []⟩ 8 (by kernel_rfl) (by kernel_rfl) (by kernel_rfl) (by kernel_rfl)) ?_
  intro W base args ds gs before hval hW hcnd hsz _
  exact law_contract (C := Try.checked) (cf := cf0) (conds := Rows.fnWayRow.domain) Try.func3 rfl (fun ds h => by match ds, h with | [_], _ => rfl) rfl Try.underlying4 laidOut tys ro ext mixed noNum core_FnWay W base args ds gs before hval hW hsz
theorem over : Rows.fnWayRow.holds Try.pinned (OpenSpec.ofChange Rows.fnWaySpec) :=
  OpenClaim.holds_of_wide 3 Try.f3 rfl rfl rfl rfl rfl rfl rfl ⟨rfl, by first | rfl | kernel_rfl, by first | rfl | kernel_rfl, by first | rfl | kernel_rfl, rfl⟩ rfl rfl rfl rfl rfl (by kernel_rfl) Try.func3 (by kernel_rfl)
    (of_decide_eq_true (by kernel_rfl)) (by unfold Func.isWrapper; first | (rw [if_pos (by decide +kernel)]; kernel_rfl) | (rw [if_neg (by decide +kernel)]; exact ⟨rfl, rfl⟩))
    (fun os started H enc _ => lifted os started H enc)
theorem proved : Rows.FnWaySaid := over
#print axioms proved
end Go.Proofs.Ytnnedacillllmaa.LFnWay
namespace Go.Proofs.Ytnnedacillllmaa
/-- The row, under a short name, for the claim. -/
theorem fnWay_holds : Rows.FnWaySaid := LFnWay.proved
end Go.Proofs.Ytnnedacillllmaa
