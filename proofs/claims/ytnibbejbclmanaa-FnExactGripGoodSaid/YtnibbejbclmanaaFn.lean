/- the functions as the interpreter has them -/
import Derived.Test.YtnibbejbclmanaaEngC
import Derived.Test.YtnibbejbclmanaaProg
namespace Go.Eng
open Go.Proofs Go.Proofs.Try
set_option maxRecDepth 100000
def cf0 : Cfg := { ext := fun _ => none, own := fun _ => true, mode := fun f i => match f, i with | 23, 0 => .mut | _, _ => .ro }
noncomputable abbrev V := Vn Try.prog cf0
noncomputable abbrev R := Rn Try.prog cf0

theorem elaws_FnExactGripGood (a0_0 : Int) (a0_1 : Int) (a1_ : Int) : V 3 [.agg [.int .i64 a0_0, .int .i64 a0_1], .int .i64 a1_] =
  ocall V 12 [(.agg [(.int .i64 a0_0), (.int .i64 a0_1)])] fun x0 l1 =>
   asAgg x0 fun l2 => unc l2 fun x3 l4 => asI .i64 x3 fun n5 => unc l4 fun x6 l7 => asI .i64 x6 fun n8 => unn l7 (unn l1 (ocall V 11 [(.agg [(.int .i64 n5), (.int .i64 n8)]), (.int .i64 a1_)] fun x9 l10 =>
         asB x9 fun b11 => unn l10 (ocall V 12 [(.agg [(.int .i64 a0_0), (.int .i64 a0_1)])] fun x12 l13 =>
           asAgg x12 fun l14 => unc l14 fun x15 l16 => asI .i64 x15 fun n17 => unc l16 fun x18 l19 => asI .i64 x18 fun n20 => unn l19 (unn l13 (ocall V 13 [(.agg [(.int .i64 n17), (.int .i64 n20)]), (.int .i64 a1_)] fun x21 l22 =>
                 asB x21 fun b23 => unn l22 (br (!b23 == b11)
                   (some ((.bool false), []))
                   (some ((.bool true), [])))))))) := by
  exact (Vn_eq Try.func3 rfl _).trans (by kernel_rfl)

theorem espec_GripGood (a0_0 : Int) (a0_1 : Int) (a1_ : Int) : V 11 [.agg [.int .i64 a0_0, .int .i64 a0_1], .int .i64 a1_] =
  some ((.bool (decide (a0_1 ≥ a1_))), []) := by
  exact (Vn_eq Try.func11 rfl _).trans (by kernel_rfl)

theorem elaws_toGrip (a0_0 : Int) (a0_1 : Int) : V 12 [.agg [.int .i64 a0_0, .int .i64 a0_1]] =
  some ((.agg [(.int .i64 a0_0), (.int .i64 a0_1)]), []) := by
  exact (Vn_eq Try.func12 rfl _).trans (by kernel_rfl)

theorem eimpl_GripGood (a0_0 : Int) (a0_1 : Int) (a1_ : Int) : V 13 [.agg [.int .i64 a0_0, .int .i64 a0_1], .int .i64 a1_] =
  some ((.bool (decide (a0_1 ≥ a1_))), []) := by
  exact (Vn_eq Try.func13 rfl _).trans (by kernel_rfl)






end Go.Eng
