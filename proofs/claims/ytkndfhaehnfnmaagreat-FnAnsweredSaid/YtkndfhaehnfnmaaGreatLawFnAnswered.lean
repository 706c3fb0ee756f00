/- FnAnswered returns true for all arguments. No condition. -/
import Derived.Test.YtkndfhaehnfnmaaGreatRows
import Derived.Test.YtkndfhaehnfnmaaGreatPart5
import Derived.WalkKit
import Derived.ProofKit
namespace Go.Proofs.YtkndfhaehnfnmaaGreat.LFnAnswered
open Go.Eng
theorem own : ownKnob Tryz.prog.godebug = none := by kernel_rfl
theorem laidOut : laidOutB Tryz.prog = true := by kernel_rfl
theorem mixed : Tryz.prog.follows .mixedOrders = true := by kernel_rfl
theorem noNum : Tryz.prog.funcs.all (fun fn => !(fn.name == "runtime.NumGoroutine")) = true := by kernel_rfl
theorem tys : xr Tryz.prog Tryz.f7.params.toList = true := by kernel_rfl
theorem ext : lX Tryz.prog cf0 := fun f F h => by cases h
theorem ro : ∀ j,cf0.mode 7 j ≠ .mut := fun j => by simp [cf0]
set_option maxRecDepth 100000 in
theorem lifted (os : Os) (started : os.Started) (H : Type) (enc : TypeId × Value -> H) :
  ReturnsInHanded {} Tryz.checked os 7 .any (Rows.fnAnsweredSpec.pre6 enc Tryz.prog Tryz.f7 Rows.fnAnsweredRow.domain false) (Rows.fnAnsweredSpec.post enc Tryz.prog Tryz.f7 false true false false) := by
 refine returnsInHanded_of_change_sized (C := Tryz.checked) own started (by kernel_rfl) Tryz.func7
  (ChangeSpec.witness6 (enc := enc) (C := Tryz.checked) false ⟨#[],#[.slice none 0 0],[]⟩ 8 (by kernel_rfl) (by kernel_rfl) (by kernel_rfl) (by kernel_rfl)) ?_
 intro W base args ds gs before hval hW hcnd hsz _
 exact wB (C := Tryz.checked) (cf := cf0) (conds := Rows.fnAnsweredRow.domain) Tryz.func7 rfl (fun ds h => by match ds,h with | [_],_ => rfl) rfl Tryz.underlying4 laidOut tys ro ext mixed noNum Lq W base args ds gs before hval hW hsz
theorem over : Rows.fnAnsweredRow.holds Tryz.pinned (OpenSpec.ofChange Rows.fnAnsweredSpec) :=
 OpenClaim.holds_of_wide 7 Tryz.f7 rfl rfl rfl rfl rfl rfl rfl ⟨rfl,by first | rfl | kernel_rfl,by first | rfl | kernel_rfl,by first | rfl | kernel_rfl,rfl⟩ rfl rfl rfl rfl rfl (by kernel_rfl) Tryz.func7 (by kernel_rfl)
  (of_decide_eq_true (by kernel_rfl)) (by unfold Func.isWrapper; first | (rw [if_pos (by decide +kernel)]; kernel_rfl) | (rw [if_neg (by decide +kernel)]; exact ⟨rfl,rfl⟩))
  (fun os started H enc _ => lifted os started H enc)
theorem proved : Rows.FnAnsweredSaid := over
#print axioms proved
end Go.Proofs.YtkndfhaehnfnmaaGreat.LFnAnswered
namespace Go.Proofs.YtkndfhaehnfnmaaGreat
theorem fnAnswered_holds : Rows.FnAnsweredSaid := LFnAnswered.proved
end Go.Proofs.YtkndfhaehnfnmaaGreat
