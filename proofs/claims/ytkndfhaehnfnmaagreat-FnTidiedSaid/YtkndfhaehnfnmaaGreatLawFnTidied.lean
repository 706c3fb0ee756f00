/- FnTidied returns true for all arguments. No condition. -/
import Derived.Test.YtkndfhaehnfnmaaGreatRows
import Derived.Test.YtkndfhaehnfnmaaGreatPart6
import Derived.WalkKit
import Derived.ProofKit
namespace Go.Proofs.YtkndfhaehnfnmaaGreat.LFnTidied
open Go.Eng
theorem own:ownKnob Tryz.prog.godebug=none:=by kernel_rfl
theorem laidOut:laidOutB Tryz.prog=true:=by kernel_rfl
theorem mixed:Tryz.prog.follows .mixedOrders=true:=by kernel_rfl
theorem noNum : Tryz.prog.funcs.all (fun fn => !(fn.name == "runtime.NumGoroutine")) = true := by kernel_rfl
theorem tys:yI Tryz.prog Tryz.f3.params.toList=true:=by kernel_rfl
theorem ext:ng Tryz.prog cf0:=fun f F h=>by cases h
theorem ro:∀j,cf0.mode 3 j≠.mut:=fun j=>by simp[cf0]
set_option maxRecDepth 100000 in
theorem lifted (os:Os)(started:os.Started)(H:Type)(enc:TypeId×Value->H) :
  ReturnsInHanded {} Tryz.checked os 3 .any (Rows.fnTidiedSpec.pre6 enc Tryz.prog Tryz.f3 Rows.fnTidiedRow.domain false) (Rows.fnTidiedSpec.post enc Tryz.prog Tryz.f3 false true false false):=by
 refine returnsInHanded_of_change_sized (C:=Tryz.checked) own started (by kernel_rfl) Tryz.func3
  (ChangeSpec.witness6 (enc:=enc) (C:=Tryz.checked) false ⟨#[],#[.slice none 0 0],[]⟩ 8 (by kernel_rfl) (by kernel_rfl) (by kernel_rfl) (by kernel_rfl)) ?_
 intro W base args ds gs before hval hW hcnd hsz _
 exact xR (C:=Tryz.checked) (cf:=cf0) (conds:=Rows.fnTidiedRow.domain) Tryz.func3 rfl (fun ds h=>by match ds,h with | [_],_=>rfl) rfl Tryz.underlying4 laidOut tys ro ext mixed noNum Vl W base args ds gs before hval hW hsz
theorem over:Rows.fnTidiedRow.holds Tryz.pinned (OpenSpec.ofChange Rows.fnTidiedSpec):=
 OpenClaim.holds_of_wide 3 Tryz.f3 rfl rfl rfl rfl rfl rfl rfl ⟨rfl,by first|rfl|kernel_rfl,by first|rfl|kernel_rfl,by first|rfl|kernel_rfl,rfl⟩ rfl rfl rfl rfl rfl (by kernel_rfl) Tryz.func3 (by kernel_rfl)
  (of_decide_eq_true (by kernel_rfl)) (by unfold Func.isWrapper;first|(rw[if_pos (by decide +kernel)];kernel_rfl)|(rw[if_neg (by decide +kernel)];exact⟨rfl,rfl⟩))
  (fun os started H enc _=>lifted os started H enc)
theorem proved:Rows.FnTidiedSaid:=over
#print axioms proved
end Go.Proofs.YtkndfhaehnfnmaaGreat.LFnTidied
namespace Go.Proofs.YtkndfhaehnfnmaaGreat
theorem fnTidied_holds:Rows.FnTidiedSaid:=LFnTidied.proved
end Go.Proofs.YtkndfhaehnfnmaaGreat
