/- FnExactGripGood returns true for all arguments. No condition. -/
import Derived.Test.YtnibbejbclmanaaRows
import Derived.Test.YtnibbejbclmanaaFn
import Derived.Test.YtnibbejbclmanaaEngC
import Derived.WalkKit
import Derived.ProofKit
namespace Go.Eng
open Go.Proofs Go.Proofs.Ytnibbejbclmanaa

theorem pure_FnExactGripGood (a b n : Int) : V 3 [.agg [.int .i64 a, .int .i64 b], .int .i64 n] = some (.bool true, []) := by
  rw [elaws_FnExactGripGood]
  simp [ocall, elaws_toGrip, espec_GripGood, eimpl_GripGood, asAgg, unc, asI, asB, unn, br]

theorem core_FnExactGripGood (xs : List D) (h : All2 (fun t x => ShapeV Try.prog t x) Try.f3.params.toList xs) : V 3 xs = some (.bool true, []) := by
  rw [Try.params3] at h
  cases h with | cons h1 h =>
  cases h with | cons h2 h =>
  cases h
  obtain ⟨n, rfl, _⟩ := h2.int Try.underlying3
  obtain ⟨ys, hs, rfl⟩ := h1
  obtain ⟨parts, rfl, hp⟩ := hs.struct Try.underlying23
  cases hp with | cons p1 hp =>
  cases hp with | cons p2 hp =>
  cases hp
  obtain ⟨a, rfl, _⟩ := p1.int Try.underlying3
  obtain ⟨b, rfl, _⟩ := p2.int Try.underlying3
  rw [elemOf_struct Try.underlying23]
  exact pure_FnExactGripGood a b n
end Go.Eng

namespace Go.Proofs.Ytnibbejbclmanaa.LFnExactGripGood
open Go.Eng
theorem own : ownKnob Try.prog.godebug = none := by kernel_rfl
theorem laidOut : laidOutB Try.prog = true := by kernel_rfl
theorem mixed : Try.prog.follows .mixedOrders = true := by kernel_rfl
theorem noNum : Try.prog.funcs.all (fun fn => !(fn.name == "runtime.NumGoroutine")) = true := by kernel_rfl
theorem tys : tysAll Try.prog Try.f3.params.toList = true := by kernel_rfl
theorem ext : SoundExt Try.prog cf0 := fun f F h => by cases h
set_option maxRecDepth 100000 in
theorem lifted (os : Os) (started : os.Started) (H : Type) (enc : TypeId × Value → H) :
    ReturnsInHanded {} Try.checked os 3 .any (Rows.fnExactGripGoodSpec.pre6 enc Try.prog Try.f3 Rows.fnExactGripGoodRow.domain false) (Rows.fnExactGripGoodSpec.post enc Try.prog Try.f3 false true false false) := by
  refine returnsInHanded_of_change_sized (C := Try.checked) own started (by kernel_rfl) Try.func3
    (ChangeSpec.witness6 (enc := enc) (C := Try.checked) false ⟨#[], #[.agg #[.int .i64 0, .int .i64 0], .int .i64 0], []⟩ 8 (by kernel_rfl) (by kernel_rfl) (by kernel_rfl) (by kernel_rfl)) ?_
  intro W base args ds gs before hval hW hcnd hsz _
  exact law_contract (C := Try.checked) (cf := cf0) (conds := Rows.fnExactGripGoodRow.domain) Try.func3 rfl (fun ds h => by match ds, h with | [_, _], _ => rfl) rfl Try.underlying4 laidOut tys (fun j => by simp [cf0]) ext mixed noNum core_FnExactGripGood W base args ds gs before hval hW hsz
theorem over : Rows.fnExactGripGoodRow.holds Try.pinned (OpenSpec.ofChange Rows.fnExactGripGoodSpec) :=
  OpenClaim.holds_of_wide 3 Try.f3 rfl rfl rfl rfl rfl rfl rfl ⟨rfl, rfl, rfl, rfl, rfl⟩ rfl rfl rfl rfl rfl (by kernel_rfl) Try.func3 (by kernel_rfl)
    (of_decide_eq_true (by kernel_rfl)) (by unfold Func.isWrapper; first | (rw [if_pos (by decide +kernel)]; kernel_rfl) | (rw [if_neg (by decide +kernel)]; exact ⟨rfl, rfl⟩))
    (fun os started H enc _ => lifted os started H enc)
theorem proved : Rows.FnExactGripGoodSaid := over
#print axioms proved
end Go.Proofs.Ytnibbejbclmanaa.LFnExactGripGood
namespace Go.Proofs.Ytnibbejbclmanaa
/-- The row, under a short name, for the claim. -/
theorem fnExactGripGood_holds : Rows.FnExactGripGoodSaid := LFnExactGripGood.proved
end Go.Proofs.Ytnibbejbclmanaa
