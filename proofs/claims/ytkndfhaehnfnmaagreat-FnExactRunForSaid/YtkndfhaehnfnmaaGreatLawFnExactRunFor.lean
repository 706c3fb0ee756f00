/- FnExactRunFor returns true for all arguments. No condition. -/
import Derived.Test.YtkndfhaehnfnmaaGreatRows
import Derived.Test.YtkndfhaehnfnmaaGreatPart5
import Derived.WalkKit
import Derived.ProofKit
namespace Go.Proofs.YtkndfhaehnfnmaaGreat.LFnExactRunFor
open Go.Eng
theorem own : ownKnob Tryz.prog.godebug = none := by kernel_rfl
theorem laidOut : laidOutB Tryz.prog = true := by kernel_rfl
theorem mixed : Tryz.prog.follows .mixedOrders = true := by kernel_rfl
theorem noNum : Tryz.prog.funcs.all (fun fn => !(fn.name == "runtime.NumGoroutine")) = true := by kernel_rfl
theorem tys : Pp Tryz.prog Tryz.f8.params.toList = true := by kernel_rfl
theorem ext : sC Tryz.prog cf0 := fun f F h => by cases h
theorem ro : ∀ j,cf0.mode 8 j ≠ .mut := fun j => by simp [cf0]
set_option maxRecDepth 100000 in
theorem lifted (os : Os) (started : os.Started) (H : Type) (enc : TypeId × Value → H) :
    ReturnsInHanded {} Tryz.checked os 8 .any (Rows.fnExactRunForSpec.pre6 enc Tryz.prog Tryz.f8 Rows.fnExactRunForRow.domain false) (Rows.fnExactRunForSpec.post enc Tryz.prog Tryz.f8 false true false false) := by
  refine returnsInHanded_of_change_sized (C := Tryz.checked) own started (by kernel_rfl) Tryz.func8
    (ChangeSpec.witness6 (enc := enc) (C := Tryz.checked) false ⟨#[],#[.agg #[.slice none 0 0,.slice none 0 0,.slice none 0 0],.agg #[.slice none 0 0,.int .i64 0,.int .i64 0,.int .i64 0,.int .i64 0,.int .i64 0,.int .i64 0,.int .i64 0],.int .i64 0],[]⟩ 8 (by kernel_rfl) (by kernel_rfl) (by kernel_rfl) (by kernel_rfl)) ?_
  intro W base args ds gs before hval hW hcnd hsz _
  exact DU (C := Tryz.checked) (cf := cf0) (conds := Rows.fnExactRunForRow.domain) Tryz.func8 rfl (fun ds h => by match ds,h with | [_,_,_],_ => rfl) rfl Tryz.underlying4 laidOut tys ro ext mixed noNum sr W base args ds gs before hval hW hsz
theorem over : Rows.fnExactRunForRow.holds Tryz.pinned (OpenSpec.ofChange Rows.fnExactRunForSpec) :=
  OpenClaim.holds_of_wide 8 Tryz.f8 rfl rfl rfl rfl rfl rfl rfl ⟨rfl,by first | rfl | kernel_rfl,by first | rfl | kernel_rfl,by first | rfl | kernel_rfl,rfl⟩ rfl rfl rfl rfl rfl (by kernel_rfl) Tryz.func8 (by kernel_rfl)
    (of_decide_eq_true (by kernel_rfl)) (by unfold Func.isWrapper; first | (rw [if_pos (by decide +kernel)]; kernel_rfl) | (rw [if_neg (by decide +kernel)]; exact ⟨rfl,rfl⟩))
    (fun os started H enc _ => lifted os started H enc)
theorem proved : Rows.FnExactRunForSaid := over
#print axioms proved
end Go.Proofs.YtkndfhaehnfnmaaGreat.LFnExactRunFor
namespace Go.Proofs.YtkndfhaehnfnmaaGreat
theorem fnExactRunFor_holds : Rows.FnExactRunForSaid := LFnExactRunFor.proved
end Go.Proofs.YtkndfhaehnfnmaaGreat
