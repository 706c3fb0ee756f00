/- FnSums returns true for all arguments. No condition. -/
import Derived.Test.YtkndfhaehnfnmaaRows
import Derived.Test.YtkndfhaehnfnmaaPart4
import Derived.WalkKit
import Derived.ProofKit
namespace Go.Proofs.Ytkndfhaehnfnmaa.LFnSums
open Go.Eng
theorem own : ownKnob Try.prog.godebug = none := by kernel_rfl
theorem laidOut : laidOutB Try.prog = true := by kernel_rfl
theorem mixed : Try.prog.follows .mixedOrders = true := by kernel_rfl
theorem noNum : Try.prog.funcs.all (fun fn => !(fn.name == "runtime.NumGoroutine")) = true := by kernel_rfl
theorem tys : wl Try.prog Try.f6.params.toList = true := by kernel_rfl
theorem ext : ln Try.prog cf0 := fun f F h => by cases h
theorem ro : ∀ j,cf0.mode 6 j ≠ .mut := fun j => by simp [cf0]
set_option maxRecDepth 100000 in
theorem lifted (os : Os) (started : os.Started) (H : Type) (enc : TypeId × Value -> H) :
  ReturnsInHanded {} Try.checked os 6 .any (Rows.fnSumsSpec.pre6 enc Try.prog Try.f6 Rows.fnSumsRow.domain false) (Rows.fnSumsSpec.post enc Try.prog Try.f6 false true false false) := by
 refine returnsInHanded_of_change_sized (C := Try.checked) own started (by kernel_rfl) Try.func6
  (ChangeSpec.witness6 (enc := enc) (C := Try.checked) false ⟨#[],#[.slice none 0 0],[]⟩ 8 (by kernel_rfl) (by kernel_rfl) (by kernel_rfl) (by kernel_rfl)) ?_
 intro W base args ds gs before hval hW hcnd hsz _
 exact vp (C := Try.checked) (cf := cf0) (conds := Rows.fnSumsRow.domain) Try.func6 rfl (fun ds h => by match ds,h with | [_],_ => rfl) rfl Try.underlying4 laidOut tys ro ext mixed noNum Mi W base args ds gs before hval hW hsz
theorem over : Rows.fnSumsRow.holds Try.pinned (OpenSpec.ofChange Rows.fnSumsSpec) :=
 OpenClaim.holds_of_wide 6 Try.f6 rfl rfl rfl rfl rfl rfl rfl ⟨rfl,by first | rfl | kernel_rfl,by first | rfl | kernel_rfl,by first | rfl | kernel_rfl,rfl⟩ rfl rfl rfl rfl rfl (by kernel_rfl) Try.func6 (by kernel_rfl)
  (of_decide_eq_true (by kernel_rfl)) (by unfold Func.isWrapper; first | (rw [if_pos (by decide +kernel)]; kernel_rfl) | (rw [if_neg (by decide +kernel)]; exact ⟨rfl,rfl⟩))
  (fun os started H enc _ => lifted os started H enc)
theorem proved : Rows.FnSumsSaid := over
#print axioms proved
end Go.Proofs.Ytkndfhaehnfnmaa.LFnSums
namespace Go.Proofs.Ytkndfhaehnfnmaa
theorem fnSums_holds : Rows.FnSumsSaid := LFnSums.proved
end Go.Proofs.Ytkndfhaehnfnmaa
