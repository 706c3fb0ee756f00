/- FnMachineBytes returns true for all arguments. No condition. -/
import Derived.Test.YtkndfhaehnfnmaaGreatRows
import Derived.Test.YtkndfhaehnfnmaaGreatPart6
import Derived.WalkKit
import Derived.ProofKit
namespace Go.Proofs.YtkndfhaehnfnmaaGreat.LFnMachineBytes
open Go.Eng
theorem own : ownKnob Tryz.prog.godebug = none := by kernel_rfl
theorem laidOut : laidOutB Tryz.prog = true := by kernel_rfl
theorem mixed : Tryz.prog.follows .mixedOrders = true := by kernel_rfl
theorem noNum : Tryz.prog.funcs.all (fun fn => !(fn.name == "runtime.NumGoroutine")) = true := by kernel_rfl
theorem tys : xr Tryz.prog Tryz.f9.params.toList = true := by kernel_rfl
theorem ext : lX Tryz.prog cf0 := fun f F h => by cases h
theorem ro : ∀ j,cf0.mode 9 j ≠ .mut := fun j => by simp [cf0]
set_option maxRecDepth 100000 in
theorem lifted (os : Os) (started : os.Started) (H : Type) (enc : TypeId × Value -> H) :
  ReturnsInHanded {} Tryz.checked os 9 .any (Rows.fnMachineBytesSpec.pre6 enc Tryz.prog Tryz.f9 Rows.fnMachineBytesRow.domain false) (Rows.fnMachineBytesSpec.post enc Tryz.prog Tryz.f9 false true false false) := by
 refine returnsInHanded_of_change_sized (C := Tryz.checked) own started (by kernel_rfl) Tryz.func9
  (ChangeSpec.witness6 (enc := enc) (C := Tryz.checked) false ⟨#[],#[.slice none 0 0],[]⟩ 8 (by kernel_rfl) (by kernel_rfl) (by kernel_rfl) (by kernel_rfl)) ?_
 intro W base args ds gs before hval hW hcnd hsz _
 exact wB (C := Tryz.checked) (cf := cf0) (conds := Rows.fnMachineBytesRow.domain) Tryz.func9 rfl (fun ds h => by match ds,h with | [_],_ => rfl) rfl Tryz.underlying4 laidOut tys ro ext mixed noNum KJ W base args ds gs before hval hW hsz
theorem over : Rows.fnMachineBytesRow.holds Tryz.pinned (OpenSpec.ofChange Rows.fnMachineBytesSpec) :=
 OpenClaim.holds_of_wide 9 Tryz.f9 rfl rfl rfl rfl rfl rfl rfl ⟨rfl,by first | rfl | kernel_rfl,by first | rfl | kernel_rfl,by first | rfl | kernel_rfl,rfl⟩ rfl rfl rfl rfl rfl (by kernel_rfl) Tryz.func9 (by kernel_rfl)
  (of_decide_eq_true (by kernel_rfl)) (by unfold Func.isWrapper; first | (rw [if_pos (by decide +kernel)]; kernel_rfl) | (rw [if_neg (by decide +kernel)]; exact ⟨rfl,rfl⟩))
  (fun os started H enc _ => lifted os started H enc)
theorem proved : Rows.FnMachineBytesSaid := over
#print axioms proved
end Go.Proofs.YtkndfhaehnfnmaaGreat.LFnMachineBytes
namespace Go.Proofs.YtkndfhaehnfnmaaGreat
theorem fnMachineBytes_holds : Rows.FnMachineBytesSaid := LFnMachineBytes.proved
end Go.Proofs.YtkndfhaehnfnmaaGreat
