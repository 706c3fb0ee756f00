/- FnCaught returns true for all arguments. No condition. -/
import Derived.Test.YtkndfhaehnfnmaaGreatRows
import Derived.Test.YtkndfhaehnfnmaaGreatPart6
import Derived.WalkKit
import Derived.ProofKit
namespace Go.Proofs.YtkndfhaehnfnmaaGreat.LFnCaught
open Go.Eng
theorem own:ownKnob Tryz.prog.godebug=none:=by kernel_rfl
theorem laidOut:laidOutB Tryz.prog=true:=by kernel_rfl
theorem mixed:Tryz.prog.follows .mixedOrders=true:=by kernel_rfl
theorem noNum : Tryz.prog.funcs.all (fun fn => !(fn.name == "runtime.NumGoroutine")) = true := by kernel_rfl
theorem tys:yI Tryz.prog Tryz.f4.params.toList=true:=by kernel_rfl
theorem ext:ng Tryz.prog cf0:=fun f F h=>by cases h
theorem ro:∀j,cf0.mode 4 j≠.mut:=fun j=>by simp[cf0]
set_option maxRecDepth 100000 in
theorem lifted (os:Os)(started:os.Started)(H:Type)(enc:TypeId×Value->H) :
  ReturnsInHanded {} Tryz.checked os 4 .any (Rows.fnCaughtSpec.pre6 enc Tryz.prog Tryz.f4 Rows.fnCaughtRow.domain false) (Rows.fnCaughtSpec.post enc Tryz.prog Tryz.f4 false true false false):=by
 refine returnsInHanded_of_change_sized (C:=Tryz.checked) own started (by kernel_rfl) Tryz.func4
  (ChangeSpec.witness6 (enc:=enc) (C:=Tryz.checked) false ⟨#[],#[.slice none 0 0],[]⟩ 8 (by kernel_rfl) (by kernel_rfl) (by kernel_rfl) (by kernel_rfl)) ?_
 intro W base args ds gs before hval hW hcnd hsz _
 exact xR (C:=Tryz.checked) (cf:=cf0) (conds:=Rows.fnCaughtRow.domain) Tryz.func4 rfl (fun ds h=>by match ds,h with | [_],_=>rfl) rfl Tryz.underlying4 laidOut tys ro ext mixed noNum WZ W base args ds gs before hval hW hsz
theorem over:Rows.fnCaughtRow.holds Tryz.pinned (OpenSpec.ofChange Rows.fnCaughtSpec):=
 OpenClaim.holds_of_wide 4 Tryz.f4 rfl rfl rfl rfl rfl rfl rfl ⟨rfl,by first|rfl|kernel_rfl,by first|rfl|kernel_rfl,by first|rfl|kernel_rfl,rfl⟩ rfl rfl rfl rfl rfl (by kernel_rfl) Tryz.func4 (by kernel_rfl)
  (cV (by kernel_rfl)) (by unfold Func.isWrapper;first|(rw[aG (by decide +kernel)];kernel_rfl)|(rw[aD (by decide +kernel)];exact⟨rfl,rfl⟩))
  (fun os started H enc _=>lifted os started H enc)
theorem proved:Rows.FnCaughtSaid:=over
#print axioms proved
end Go.Proofs.YtkndfhaehnfnmaaGreat.LFnCaught
namespace Go.Proofs.YtkndfhaehnfnmaaGreat
theorem fnCaught_holds:Rows.FnCaughtSaid:=LFnCaught.proved
end Go.Proofs.YtkndfhaehnfnmaaGreat
