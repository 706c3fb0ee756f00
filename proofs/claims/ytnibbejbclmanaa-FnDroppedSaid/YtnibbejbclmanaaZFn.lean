/- the functions as the interpreter has them -/
import Derived.Test.YtnibbejbclmanaaZEngC
import Derived.Test.YtnibbejbclmanaaProg
namespace Go.Eng
open Go.Proofs Go.Proofs.Try
set_option maxRecDepth 100000
def cf0 : Cfg := { ext := fun _ => none, own := fun f => match f with | 46 => false | _ => true, mode := fun f i => match f, i with | 23, 0 => .mut | 45, 0 => .mv | _, _ => .ro }
noncomputable abbrev V := Vn Try.prog cf0
noncomputable abbrev R := Rn Try.prog cf0
noncomputable def LIndexFunc_leaseAt_2 (p0 : List D) (p1 : Int) (p2 : Int) (p3 : Int) (p4 : Int) : Option Ret := R 51 Try.f51 [] (headAt Try.f51 2) ⟨[.d (.rs (3, 0) p0), .fn 52 [.rp (1, 1) [(.int .i64 p1)] 0 0, .rp (1, 1) [(.int .i64 p2)] 0 0], .undef, .undef, .undef, .undef, .undef, .d (.int .i64 p3), .d (.int .i64 p4), .undef, .undef, .undef, .undef, .undef, .undef, .undef, .undef, .undef, .undef], [], 0, []⟩
noncomputable def LIndexFunc_Kept_2 (p0 : List D) (p1 : Int) (p2 : Int) (p3 : Int) (p4 : Int) : Option Ret := R 51 Try.f51 [] (headAt Try.f51 2) ⟨[.d (.rs (3, 0) p0), .fn 43 [.rp (1, 1) [(.int .i64 p1)] 0 0, .rp (1, 1) [(.int .i64 p2)] 0 0], .undef, .undef, .undef, .undef, .undef, .d (.int .i64 p3), .d (.int .i64 p4), .undef, .undef, .undef, .undef, .undef, .undef, .undef, .undef, .undef, .undef], [], 0, []⟩
noncomputable def Limpl_LeasesOk_2 (p0 : List D) (p1 : List D) (p2 : Int) (p3 : Int) : Option Ret := R 17 Try.f17 [] (headAt Try.f17 2) ⟨[.d (.rs (3, 0) p0), .undef, .undef, .undef, .undef, .d (.rs (3, 0) p1), .d (.int .i64 p2), .d (.int .i64 p3), .undef, .undef, .undef, .undef, .undef, .undef, .undef, .undef, .undef, .undef, .undef, .undef, .undef, .undef, .undef, .undef, .undef, .undef, .undef, .undef, .undef, .undef, .undef, .undef, .undef, .undef, .undef, .undef, .undef, .undef, .undef, .undef, .undef, .undef], [], 0, []⟩
noncomputable def Lspec_LeaseDrop_3 (p0 : List D) (p1 : Int) (p2 : Int) (p3 : List D) : Option Ret := R 21 Try.f21 [] (headAt Try.f21 3) ⟨[.d (.rs (3, 0) p0), .d (.int .i64 p1), .undef, .undef, .undef, .asl 0 none, .d (.int .i64 p2), .undef, .undef, .undef, .undef, .undef, .undef, .undef, .undef, .undef, .undef, .undef, .undef, .undef, .undef, .undef, .undef, .undef, .undef, .undef, .undef, .undef, .undef, .undef, .undef, .undef, .undef], [(0, some (.arr (3, 0) p3))], 1, []⟩
noncomputable def Llaws_eqLeaseS_4 (p0 : List D) (p1 : List D) (p2 : Int) : Option Ret := R 18 Try.f18 [] (headAt Try.f18 4) ⟨[.d (.rs (3, 0) p0), .d (.rs (3, 0) p1), .undef, .undef, .undef, .d (.int .i64 p2), .undef, .undef, .undef, .undef, .undef, .undef, .undef, .undef, .undef, .undef, .undef, .undef, .undef, .undef, .undef, .undef, .undef, .undef, .undef, .undef, .undef], [], 0, []⟩
noncomputable def Limpl_LeaseDrop_5 (p0 : Int) (p1 : List D) (p2 : Int) (p3 : Int) (p4 : List D) : Option Ret := R 22 Try.f22 [] (headAt Try.f22 5) ⟨[.undef, .d (.int .i64 p0), .undef, .undef, .undef, .asl 0 none, .undef, .undef, .undef, .undef, .undef, .undef, .undef, .d (.rs (3, 0) p1), .d (.int .i64 p2), .d (.int .i64 p3), .undef, .undef, .undef, .undef, .undef, .undef, .undef, .undef, .undef, .undef, .undef, .undef, .undef], [(0, some (.arr (3, 0) p4))], 1, []⟩
noncomputable def Lspec_LeasesOk_2 (p0 : List D) (p1 : Int) : Option Ret := R 15 Try.f15 [] (headAt Try.f15 2) ⟨[.d (.rs (3, 0) p0), .undef, .undef, .d (.int .i64 p1), .undef, .undef, .undef, .undef, .undef, .undef, .undef, .undef, .undef, .undef, .undef, .undef, .undef, .undef, .undef, .undef, .undef, .undef, .undef, .undef, .undef, .undef, .undef, .undef, .undef, .undef, .undef, .undef, .undef, .undef, .undef, .undef, .undef, .undef, .undef, .undef, .undef, .undef, .undef, .undef, .undef], [], 0, []⟩
noncomputable def Lspec_Kept_2 (p0 : List D) (p1 : Int) (p2 : Int) (p3 : Int) : Option Ret := R 19 Try.f19 [] (headAt Try.f19 2) ⟨[.d (.rs (3, 0) p0), .d (.int .i64 p1), .d (.int .i64 p2), .undef, .undef, .undef, .undef, .d (.int .i64 p3), .undef, .undef, .undef, .undef, .undef, .undef, .undef, .undef, .undef, .undef, .undef, .undef, .undef, .undef, .undef, .undef, .undef, .undef, .undef, .undef, .undef, .undef, .undef, .undef, .undef, .undef], [], 0, []⟩
noncomputable def Llaws_markLeaseS_2 (p0 : Int) (p1 : Int) (p2 : List D) : Option Ret := R 23 Try.f23 [31] (headAt Try.f23 2) ⟨[.asl 0 none, .d (.int .i64 p0), .undef, .undef, .undef, .d (.int .i64 p1), .undef, .undef, .undef, .undef, .undef, .undef, .undef, .undef, .undef, .undef, .undef, .undef, .undef, .undef, .undef, .undef, .undef, .undef, .undef, .undef, .undef, .undef, .undef, .undef, .undef, .undef, .undef, .undef], [(0, some (.arr (3, 0) p2))], 1, [.asl 0 none]⟩
noncomputable def Lspec_l11At_2 (p0 : List D) (p1 : Int) (p2 : Int) (p3 : Int) : Option Ret := R 37 Try.f37 [] (headAt Try.f37 2) ⟨[.d (.rs (3, 0) p0), .d (.int .i64 p1), .d (.int .i64 p2), .undef, .undef, .undef, .undef, .d (.int .i64 p3), .undef, .undef, .undef, .undef, .undef, .undef, .undef, .undef, .undef, .undef, .undef, .undef, .undef, .undef, .undef, .undef, .undef, .undef, .undef, .undef, .undef, .undef, .undef], [], 0, []⟩
noncomputable def Llaws_toLeaseS_3 (p0 : List D) (p1 : Int) (p2 : List D) : Option Ret := R 16 Try.f16 [] (headAt Try.f16 3) ⟨[.d (.rs (3, 0) p0), .undef, .undef, .asl 0 none, .d (.int .i64 p1), .undef, .undef, .undef, .undef, .undef, .undef, .undef, .undef, .undef, .undef, .undef, .undef, .undef, .undef, .undef, .undef, .undef, .undef], [(0, some (.arr (3, 0) p2))], 1, []⟩
noncomputable def Llaws_heldLeaseS_2 (p0 : List D) (p1 : Int) (p2 : Int) : Option Ret := R 24 Try.f24 [] (headAt Try.f24 2) ⟨[.d (.rs (3, 0) p0), .d (.int .i64 p1), .undef, .undef, .undef, .d (.int .i64 p2), .undef, .undef, .undef, .undef, .undef, .undef, .undef, .undef, .undef, .undef, .undef, .undef, .undef, .undef, .undef, .undef, .undef, .undef, .undef, .undef, .undef, .undef, .undef, .undef, .undef, .undef, .undef, .undef, .undef, .undef, .undef, .undef, .undef, .undef], [], 0, []⟩
theorem LIndexFunc_leaseAt_2_eq (p0 : List D) (p1 : Int) (p2 : Int) (p3 : Int) (p4 : Int) : LIndexFunc_leaseAt_2 p0 p1 p2 p3 p4 =
  br (decide (p4 < p3))
   (grd (decide (0 ≤ p4) && decide (p4 < ni (List.length p0))) (oget p0 (Int.toNat p4) fun x0 =>
    asAgg x0 fun l1 => unc l1 fun x2 l3 => asI .i64 x2 fun n4 => unc l3 fun x5 l6 => asI .i64 x5 fun n7 => unc l6 fun x8 l9 => asI .i64 x8 fun n10 => unn l9 (ocall V 52 [(.agg [(.int .i64 n4), (.int .i64 n7), (.int .i64 n10)]), (.bp [(.int .i64 p1)]), (.bp [(.int .i64 p2)])] fun x11 l12 =>
            asB x11 fun b13 => unn l12 (br b13
              (some ((.int .i64 p4), []))
              (LIndexFunc_leaseAt_2 p0 p1 p2 p3 (IntKind.wrap IntKind.i64 (p4 + 1)))))))
   (some ((.int .i64 (-1)), [])) := by
  exact (Rn_eq _ _ _).trans (by kernel_rfl)
theorem eIndexFunc_leaseAt (l : List D) (a : Int) (b : Int) : V 51 [.rs (3, 0) l, .fn 52 [.bp [.int .i64 a], .bp [.int .i64 b]]] =
  LIndexFunc_leaseAt_2 l a b (ni (List.length l)) (0) := by
  exact (Vn_eq Try.func51 rfl _).trans (by kernel_rfl)

theorem LIndexFunc_Kept_2_eq (p0 : List D) (p1 : Int) (p2 : Int) (p3 : Int) (p4 : Int) : LIndexFunc_Kept_2 p0 p1 p2 p3 p4 =
  br (decide (p4 < p3))
   (grd (decide (0 ≤ p4) && decide (p4 < ni (List.length p0))) (oget p0 (Int.toNat p4) fun x0 =>
    asAgg x0 fun l1 => unc l1 fun x2 l3 => asI .i64 x2 fun n4 => unc l3 fun x5 l6 => asI .i64 x5 fun n7 => unc l6 fun x8 l9 => asI .i64 x8 fun n10 => unn l9 (ocall V 43 [(.agg [(.int .i64 n4), (.int .i64 n7), (.int .i64 n10)]), (.bp [(.int .i64 p1)]), (.bp [(.int .i64 p2)])] fun x11 l12 =>
            asB x11 fun b13 => unn l12 (br b13
              (some ((.int .i64 p4), []))
              (LIndexFunc_Kept_2 p0 p1 p2 p3 (IntKind.wrap IntKind.i64 (p4 + 1)))))))
   (some ((.int .i64 (-1)), [])) := by
  exact (Rn_eq _ _ _).trans (by kernel_rfl)
theorem eIndexFunc_Kept (l : List D) (a : Int) (b : Int) : V 51 [.rs (3, 0) l, .fn 43 [.bp [.int .i64 a], .bp [.int .i64 b]]] =
  LIndexFunc_Kept_2 l a b (ni (List.length l)) (0) := by
  exact (Vn_eq Try.func51 rfl _).trans (by kernel_rfl)

theorem eContainsFunc_Kept (l : List D) (a : Int) (b : Int) : V 42 [.rs (3, 0) l, .fn 43 [.bp [.int .i64 a], .bp [.int .i64 b]]] =
  ocall V 51 [(.rs (3, 0) l), (.fn 43 [(.bp [(.int .i64 a)]), (.bp [(.int .i64 b)])])] fun x0 l1 =>
   asI .i64 x0 fun n2 => unn l1 (some ((.bool (decide (n2 ≥ 0))), [])) := by
  exact (Vn_eq Try.func42 rfl _).trans (by kernel_rfl)

theorem eleaseAt_1 (x y z : Int) (a : Int) (b : Int) : V 52 [.agg [.int .i64 x, .int .i64 y, .int .i64 z], .bp [.int .i64 a], .bp [.int .i64 b]] =
  br (x == a)
   (some ((.bool (y == b)), []))
   (some ((.bool false), [])) := by
  exact (Vn_eq Try.func52 rfl _).trans (by kernel_rfl)

theorem eKept_1 (x y z : Int) (a : Int) (b : Int) : V 43 [.agg [.int .i64 x, .int .i64 y, .int .i64 z], .bp [.int .i64 a], .bp [.int .i64 b]] =
  br (x == a)
   (some ((.bool (decide (z ≥ b))), []))
   (some ((.bool false), [])) := by
  exact (Vn_eq Try.func43 rfl _).trans (by kernel_rfl)

theorem elaws_FnExactGripGood (a0_0 : Int) (a0_1 : Int) (a1_ : Int) : V 3 [.agg [.int .i64 a0_0, .int .i64 a0_1], .int .i64 a1_] =
  ocall V 12 [(.agg [(.int .i64 a0_0), (.int .i64 a0_1)])] fun x0 l1 =>
   asAgg x0 fun l2 => unc l2 fun x3 l4 => asI .i64 x3 fun n5 => unc l4 fun x6 l7 => asI .i64 x6 fun n8 => unn l7 (unn l1 (ocall V 11 [(.agg [(.int .i64 n5), (.int .i64 n8)]), (.int .i64 a1_)] fun x9 l10 =>
         asB x9 fun b11 => unn l10 (ocall V 12 [(.agg [(.int .i64 a0_0), (.int .i64 a0_1)])] fun x12 l13 =>
           asAgg x12 fun l14 => unc l14 fun x15 l16 => asI .i64 x15 fun n17 => unc l16 fun x18 l19 => asI .i64 x18 fun n20 => unn l19 (unn l13 (ocall V 13 [(.agg [(.int .i64 n17), (.int .i64 n20)]), (.int .i64 a1_)] fun x21 l22 =>
                 asB x21 fun b23 => unn l22 (br (!b23 == b11)
                   (some ((.bool false), []))
                   (some ((.bool true), [])))))))) := by
  exact (Vn_eq Try.func3 rfl _).trans (by kernel_rfl)

theorem elaws_FnExactLeaseGive (a0_ : List D) (a1_ : Int) (a2_ : Int) (a3_ : Int) : V 7 [.rs (3, 0) a0_, .int .i64 a1_, .int .i64 a2_, .int .i64 a3_] =
  ocall V 14 [(.rs (3, 0) a0_), (.int .i64 (1048576))] fun x0 l1 =>
   asI .i64 x0 fun n2 => unn l1 (br (decide (n2 < 0))
     (some ((.bool true), []))
     (ocall V 16 [(.rs (3, 0) a0_)] fun x3 l4 =>
      asOs (3, 0) x3 fun l5 => unn l4 (ocall V 25 [(.rs (3, 0) l5), (.int .i64 a1_), (.int .i64 a2_), (.int .i64 a3_)] fun x6 l7 =>
        asTup x6 fun l8 => unc l8 fun x9 l10 => asOs (3, 0) x9 fun l11 => unc l10 fun x12 l13 => asB x12 fun b14 => unn l13 (unn l7 (ocall V 16 [(.rs (3, 0) a0_)] fun x15 l16 =>
              asOs (3, 0) x15 fun l17 => unn l16 (ocall V 26 [(.rs (3, 0) l17), (.int .i64 a1_), (.int .i64 a2_), (.int .i64 a3_)] fun x18 l19 =>
                asTup x18 fun l20 => unc l20 fun x21 l22 => asOs (3, 0) x21 fun l23 => unc l22 fun x24 l25 => asB x24 fun b26 => unn l25 (unn l19 (ocall V 18 [(.rs (3, 0) l23), (.rs (3, 0) l11)] fun x27 l28 =>
                      asB x27 fun b29 => unn l28 (br (!b29)
                        (some ((.bool false), []))
                        (br (!b26 == b14)
                         (some ((.bool false), []))
                         (ocall V 16 [(.rs (3, 0) a0_)] fun x30 l31 =>
                          asOs (3, 0) x30 fun l32 => unn l31 (ocall V 18 [(.rs (3, 0) l17), (.rs (3, 0) l32)] fun x33 l34 =>
                            asB x33 fun b35 => unn l34 (br (!b35)
                              (some ((.bool false), []))
                              (ocall V 23 [(.os (3, 0) l17), (.int .i64 (1))] fun x36 l37 =>
                               asI .i64 x36 fun n38 => unc l37 fun x39 l40 => asOs (3, 0) x39 fun l41 => unn l40 (br (decide (n38 < 0))
                                   (some ((.bool false), []))
                                   (ocall V 18 [(.rs (3, 0) l23), (.rs (3, 0) l11)] fun x42 l43 =>
                                    asB x42 fun b44 => unn l43 (br (!b44)
                                      (some ((.bool false), []))
                                      (br (!b26 == b14)
                                       (some ((.bool false), []))
                                       (ocall V 23 [(.os (3, 0) l23), (.int .i64 (1))] fun x45 l46 =>
                                        asI .i64 x45 fun n47 => unc l46 fun x48 l49 => asOs (3, 0) x48 fun l50 => unn l49 (ocall V 24 [(.rs (3, 0) l50), (.int .i64 (1))] fun x51 l52 =>
                                            asI .i64 x51 fun n53 => unn l52 (br (decide (n53 < 0))
                                              (some ((.bool false), []))
                                              (br (n53 != n47)
                                               (some ((.bool false), []))
                                               (ocall V 16 [(.rs (3, 0) a0_)] fun x54 l55 =>
                                                asOs (3, 0) x54 fun l56 => unn l55 (ocall V 26 [(.rs (3, 0) l56), (.int .i64 a1_), (.int .i64 a2_), (.int .i64 a3_)] fun x57 l58 =>
                                                  asTup x57 fun l59 => unc l59 fun x60 l61 => asOs (3, 0) x60 fun l62 => unc l61 fun x63 l64 => asB x63 fun b65 => unn l64 (unn l58 (ocall V 18 [(.rs (3, 0) l62), (.rs (3, 0) l11)] fun x66 l67 =>
                                                        asB x66 fun b68 => unn l67 (br (!b68)
                                                          (some ((.bool false), []))
                                                          (br (!b65 == b14)
                                                           (some ((.bool false), []))
                                                           (ocall V 24 [(.rs (3, 0) l50), (.int .i64 (1))] fun x69 l70 =>
                                                            asI .i64 x69 fun n71 => unn l70 (br (decide (n71 < 0))
                                                              (some ((.bool false), []))
                                                              (br (n71 != n47)
                                                               (some ((.bool false), []))
                                                               (some ((.bool true), []))))))))))))))))))))))))))))))))) := by
  exact (Vn_eq Try.func7 rfl _).trans (by kernel_rfl)

theorem eimpl_GripGood (a0_0 : Int) (a0_1 : Int) (a1_ : Int) : V 13 [.agg [.int .i64 a0_0, .int .i64 a0_1], .int .i64 a1_] =
  some ((.bool (decide (a0_1 ≥ a1_))), []) := by
  exact (Vn_eq Try.func13 rfl _).trans (by kernel_rfl)

theorem Limpl_LeasesOk_2_eq (p0 : List D) (p1 : List D) (p2 : Int) (p3 : Int) : Limpl_LeasesOk_2 p0 p1 p2 p3 =
  br (decide (p3 < p2))
   (grd (decide (0 ≤ p3) && decide (p3 < ni (List.length p1))) (oget p1 (Int.toNat p3) fun x0 =>
    asAgg x0 fun l1 => unc l1 fun x2 l3 => asI .i64 x2 fun n4 => unc l3 fun x5 l6 => asI .i64 x5 fun n7 => unc l6 fun x8 l9 => asI .i64 x8 fun n10 => unn l9 (ocall V 39 [(.int .i64 n4), (.int .i64 (1)), (.int .i64 (1000000000))] fun x11 l12 =>
            asB x11 fun b13 => unn l12 (br (!b13)
              (some ((.bool false), []))
              (ocall V 39 [(.int .i64 n7), (.int .i64 (0)), (.int .i64 (9))] fun x14 l15 =>
               asB x14 fun b16 => unn l15 (br (!b16)
                 (some ((.bool false), []))
                 (ocall V 39 [(.int .i64 n10), (.int .i64 (0)), (.int .i64 (1000000000))] fun x17 l18 =>
                  asB x17 fun b19 => unn l18 (br (!b19)
                    (some ((.bool false), []))
                    (ocall V 40 [(.rs (3, 0) p0), (.int .i64 n4), (.int .i64 n7)] fun x20 l21 =>
                     asI .i64 x20 fun n22 => unn l21 (br (n22 != p3)
                       (some ((.bool false), []))
                       (Limpl_LeasesOk_2 p0 p1 p2 (IntKind.wrap IntKind.i64 (p3 + 1)))))))))))))
   (some ((.bool (decide (ni (List.length p0) ≤ 20))), [])) := by
  exact (Rn_eq _ _ _).trans (by kernel_rfl)
theorem eimpl_LeasesOk (a0_ : List D) : V 17 [.rs (3, 0) a0_] =
  Limpl_LeasesOk_2 a0_ a0_ (ni (List.length a0_)) (0) := by
  exact (Vn_eq Try.func17 rfl _).trans (by kernel_rfl)

theorem Lspec_LeaseDrop_3_eq (p0 : List D) (p1 : Int) (p2 : Int) (p3 : List D) : Lspec_LeaseDrop_3 p0 p1 p2 p3 =
  br (decide (p2 < ni (List.length p0)))
   (ocall V 15 [(.rs (3, 0) p0)] fun x0 l1 =>
    asB x0 fun b2 => unn l1 (br b2
      (grd (decide (0 ≤ p2) && decide (p2 < ni (List.length p0))) (oget p0 (Int.toNat p2) fun x3 =>
       asAgg x3 fun l4 => oget l4 2 fun x5 =>
         asI .i64 x5 fun n6 => br (decide (n6 ≥ p1))
           (grd (decide (0 ≤ p2) && decide (p2 < ni (List.length p0))) (oget p0 (Int.toNat p2) fun x7 =>
            asAgg x7 fun l8 => unc l8 fun x9 l10 => asI .i64 x9 fun n11 => unc l10 fun x12 l13 => asI .i64 x12 fun n14 => unc l13 fun x15 l16 => asI .i64 x15 fun n17 => unn l16 (grd (decide (ni (List.length (p3 ++ [D.agg [D.int IntKind.i64 n11, D.int IntKind.i64 n14, D.int IntKind.i64 n17]])) ≤ LIM)) (nam (p3 ++ [D.agg [D.int IntKind.i64 n11, D.int IntKind.i64 n14, D.int IntKind.i64 n17]]) fun l18 =>
                    Lspec_LeaseDrop_3 p0 p1 (IntKind.wrap IntKind.i64 (p2 + 1)) l18))))
           (Lspec_LeaseDrop_3 p0 p1 (IntKind.wrap IntKind.i64 (p2 + 1)) p3)))
      (some ((.os (3, 0) p3), []))))
   (some ((.os (3, 0) p3), [])) := by
  exact (Rn_eq _ _ _).trans (by kernel_rfl)
theorem espec_LeaseDrop (a0_ : List D) (a1_ : Int) : V 21 [.rs (3, 0) a0_, .int .i64 a1_] =
  Lspec_LeaseDrop_3 a0_ a1_ (0) [] := by
  exact (Vn_eq Try.func21 rfl _).trans (by kernel_rfl)

theorem espec_LeaseGive (a0_ : List D) (a1_ : Int) (a2_ : Int) (a3_ : Int) : V 25 [.rs (3, 0) a0_, .int .i64 a1_, .int .i64 a2_, .int .i64 a3_] =
  ocall V 15 [(.rs (3, 0) a0_)] fun x0 l1 =>
   asB x0 fun b2 => unn l1 (br (!b2)
     (some ((.tup [(.os (3, 0) []), (.bool false)]), []))
     (ocall V 37 [(.rs (3, 0) a0_), (.int .i64 a1_), (.int .i64 a2_)] fun x3 l4 =>
      asI .i64 x3 fun n5 => unn l4 (grd (decide (ni (List.length ([] ++ a0_)) ≤ LIM)) (nam ([] ++ a0_) fun l6 =>
        br (decide (n5 < 0))
         (some ((.tup [(.os (3, 0) l6), (.bool false)]), []))
         (grd (decide (0 ≤ n5) && decide (n5 < ni (List.length a0_))) (oget a0_ (Int.toNat n5) fun x7 =>
          asAgg x7 fun l8 => oget l8 2 fun x9 =>
            asI .i64 x9 fun n10 => br (decide (n10 < a3_))
              (some ((.tup [(.os (3, 0) l6), (.bool false)]), []))
              (grd (cutOk (List.length l6) none (some n5)) (grd (cutOk (List.length l6) (some (IntKind.wrap IntKind.i64 (n5 + 1))) none) (grd (decide (Int.toNat n5 + List.length (part l6 (cutR (List.length l6) none (some (IntKind.wrap IntKind.i64 (n5 + 1))) none)) ≤ List.length l6)) (nam (List.take (Int.toNat n5) l6 ++ part l6 (cutR (List.length l6) none (some (IntKind.wrap IntKind.i64 (n5 + 1))) none) ++ List.drop (Int.toNat n5 + List.length (part l6 (cutR (List.length l6) none (some (IntKind.wrap IntKind.i64 (n5 + 1))) none))) l6) fun l11 =>
               some ((.tup [(.os (3, 0) (part l11 (some (0, Int.toNat n5 + List.length (part l6 (cutR (List.length l6) none (some (IntKind.wrap IntKind.i64 (n5 + 1))) none)))))), (.bool true)]), []))))))))))) := by
  exact (Vn_eq Try.func25 rfl _).trans (by kernel_rfl)

theorem elaws_eqGrip (a0_0 : Int) (a0_1 : Int) (a1_0 : Int) (a1_1 : Int) : V 29 [.agg [.int .i64 a0_0, .int .i64 a0_1], .agg [.int .i64 a1_0, .int .i64 a1_1]] =
  br (a0_0 != a1_0)
   (some ((.bool false), []))
   (br (a0_1 != a1_1)
    (some ((.bool false), []))
    (some ((.bool true), []))) := by
  exact (Vn_eq Try.func29 rfl _).trans (by kernel_rfl)

theorem eimpl_within (a0_ : Int) (a1_ : Int) (a2_ : Int) : V 39 [.int .i64 a0_, .int .i64 a1_, .int .i64 a2_] =
  br (decide (a0_ ≥ a1_))
   (some ((.bool (decide (a0_ ≤ a2_))), []))
   (some ((.bool false), [])) := by
  exact (Vn_eq Try.func39 rfl _).trans (by kernel_rfl)

theorem eslices_Delete_impl_Lease_impl_Lease (a0_ : List D) (a1_ : Int) (a2_ : Int) : V 45 [.os (3, 0) a0_, .int .i64 a1_, .int .i64 a2_] =
  grd (decide (0 ≤ ni (List.length a0_)) && decide (ni (List.length a0_) ≤ ni (List.length a0_)) && Option.isSome (some a2_) && cutOk (Int.toNat (ni (List.length a0_))) (some a1_) (some a2_)) (br (a1_ == a2_)
   (some ((.os (3, 0) a0_), []))
   (grd (cutOk (List.length a0_) none (some a1_)) (grd (cutOk (List.length a0_) (some a2_) none) (grd (decide (Int.toNat a1_ + List.length (part a0_ (cutR (List.length a0_) none (some a2_) none)) ≤ List.length a0_)) (nam (List.take (Int.toNat a1_) a0_ ++ part a0_ (cutR (List.length a0_) none (some a2_) none) ++ List.drop (Int.toNat a1_ + List.length (part a0_ (cutR (List.length a0_) none (some a2_) none))) a0_) fun l0 =>
    grd (cutOkX (Int.toNat a1_ + List.length (part a0_ (cutR (List.length a0_) none (some a2_) none))) (List.length l0 - 0) (some (ni (Int.toNat a1_ + List.length (part a0_ (cutR (List.length a0_) none (some a2_) none))))) (some (ni (List.length a0_)))) (grd (decide (0 + Int.toNat (ni (Int.toNat a1_ + List.length (part a0_ (cutR (List.length a0_) none (some a2_) none)))) + (Int.toNat (ni (List.length a0_)) - Int.toNat (ni (Int.toNat a1_ + List.length (part a0_ (cutR (List.length a0_) none (some a2_) none))))) ≤ List.length l0)) (nam (List.take (0 + Int.toNat (ni (Int.toNat a1_ + List.length (part a0_ (cutR (List.length a0_) none (some a2_) none))))) l0 ++ List.replicate (Int.toNat (ni (List.length a0_)) - Int.toNat (ni (Int.toNat a1_ + List.length (part a0_ (cutR (List.length a0_) none (some a2_) none))))) (D.agg [D.int IntKind.i64 (0), D.int IntKind.i64 (0), D.int IntKind.i64 (0)]) ++ List.drop (0 + Int.toNat (ni (Int.toNat a1_ + List.length (part a0_ (cutR (List.length a0_) none (some a2_) none)))) + (Int.toNat (ni (List.length a0_)) - Int.toNat (ni (Int.toNat a1_ + List.length (part a0_ (cutR (List.length a0_) none (some a2_) none)))))) l0) fun l1 =>
     some ((.os (3, 0) (part l1 (some (0, Int.toNat a1_ + List.length (part a0_ (cutR (List.length a0_) none (some a2_) none)))))), [])))))))) := by
  exact (Vn_eq Try.func45 rfl _).trans (by kernel_rfl)

theorem elaws_FnExactLeasesOk (a0_ : List D) : V 4 [.rs (3, 0) a0_] =
  ocall V 14 [(.rs (3, 0) a0_), (.int .i64 (1048576))] fun x0 l1 =>
   asI .i64 x0 fun n2 => unn l1 (br (decide (n2 < 0))
     (some ((.bool true), []))
     (ocall V 16 [(.rs (3, 0) a0_)] fun x3 l4 =>
      asOs (3, 0) x3 fun l5 => unn l4 (ocall V 15 [(.rs (3, 0) l5)] fun x6 l7 =>
        asB x6 fun b8 => unn l7 (ocall V 16 [(.rs (3, 0) a0_)] fun x9 l10 =>
          asOs (3, 0) x9 fun l11 => unn l10 (ocall V 17 [(.rs (3, 0) l11)] fun x12 l13 =>
            asB x12 fun b14 => unn l13 (br (!b14 == b8)
              (some ((.bool false), []))
              (ocall V 16 [(.rs (3, 0) a0_)] fun x15 l16 =>
               asOs (3, 0) x15 fun l17 => unn l16 (ocall V 18 [(.rs (3, 0) l11), (.rs (3, 0) l17)] fun x18 l19 =>
                 asB x18 fun b20 => unn l19 (br (!b20)
                   (some ((.bool false), []))
                   (some ((.bool true), []))))))))))) := by
  exact (Vn_eq Try.func4 rfl _).trans (by kernel_rfl)

theorem elaws_FnExactLeaseAsk (a0_ : List D) (a1_ : Int) (a2_ : Int) (a3_ : Int) : V 8 [.rs (3, 0) a0_, .int .i64 a1_, .int .i64 a2_, .int .i64 a3_] =
  ocall V 14 [(.rs (3, 0) a0_), (.int .i64 (1048576))] fun x0 l1 =>
   asI .i64 x0 fun n2 => unn l1 (br (decide (n2 < 0))
     (some ((.bool true), []))
     (ocall V 16 [(.rs (3, 0) a0_)] fun x3 l4 =>
      asOs (3, 0) x3 fun l5 => unn l4 (ocall V 27 [(.rs (3, 0) l5), (.int .i64 a1_), (.int .i64 a2_), (.int .i64 a3_)] fun x6 l7 =>
        asTup x6 fun l8 => unc l8 fun x9 l10 => asOs (3, 0) x9 fun l11 => unc l10 fun x12 l13 => asAgg x12 fun l14 => unc l14 fun x15 l16 => asI .i64 x15 fun n17 => unc l16 fun x18 l19 => asI .i64 x18 fun n20 => unn l19 (unc l13 fun x21 l22 => asB x21 fun b23 => unn l22 (unn l7 (ocall V 16 [(.rs (3, 0) a0_)] fun x24 l25 =>
                    asOs (3, 0) x24 fun l26 => unn l25 (ocall V 28 [(.rs (3, 0) l26), (.int .i64 a1_), (.int .i64 a2_), (.int .i64 a3_)] fun x27 l28 =>
                      asTup x27 fun l29 => unc l29 fun x30 l31 => asOs (3, 0) x30 fun l32 => unc l31 fun x33 l34 => asAgg x33 fun l35 => unc l35 fun x36 l37 => asI .i64 x36 fun n38 => unc l37 fun x39 l40 => asI .i64 x39 fun n41 => unn l40 (unc l34 fun x42 l43 => asB x42 fun b44 => unn l43 (unn l28 (ocall V 18 [(.rs (3, 0) l32), (.rs (3, 0) l11)] fun x45 l46 =>
                                  asB x45 fun b47 => unn l46 (br (!b47)
                                    (some ((.bool false), []))
                                    (ocall V 29 [(.agg [(.int .i64 n38), (.int .i64 n41)]), (.agg [(.int .i64 n17), (.int .i64 n20)])] fun x48 l49 =>
                                     asB x48 fun b50 => unn l49 (br (!b50)
                                       (some ((.bool false), []))
                                       (br (!b44 == b23)
                                        (some ((.bool false), []))
                                        (ocall V 16 [(.rs (3, 0) a0_)] fun x51 l52 =>
                                         asOs (3, 0) x51 fun l53 => unn l52 (ocall V 18 [(.rs (3, 0) l26), (.rs (3, 0) l53)] fun x54 l55 =>
                                           asB x54 fun b56 => unn l55 (br (!b56)
                                             (some ((.bool false), []))
                                             (ocall V 23 [(.os (3, 0) l26), (.int .i64 (1))] fun x57 l58 =>
                                              asI .i64 x57 fun n59 => unc l58 fun x60 l61 => asOs (3, 0) x60 fun l62 => unn l61 (br (decide (n59 < 0))
                                                  (some ((.bool false), []))
                                                  (ocall V 18 [(.rs (3, 0) l32), (.rs (3, 0) l11)] fun x63 l64 =>
                                                   asB x63 fun b65 => unn l64 (br (!b65)
                                                     (some ((.bool false), []))
                                                     (ocall V 29 [(.agg [(.int .i64 n38), (.int .i64 n41)]), (.agg [(.int .i64 n17), (.int .i64 n20)])] fun x66 l67 =>
                                                      asB x66 fun b68 => unn l67 (br (!b68)
                                                        (some ((.bool false), []))
                                                        (br (!b44 == b23)
                                                         (some ((.bool false), []))
                                                         (ocall V 23 [(.os (3, 0) l32), (.int .i64 (1))] fun x69 l70 =>
                                                          asI .i64 x69 fun n71 => unc l70 fun x72 l73 => asOs (3, 0) x72 fun l74 => unn l73 (ocall V 24 [(.rs (3, 0) l74), (.int .i64 (1))] fun x75 l76 =>
                                                              asI .i64 x75 fun n77 => unn l76 (br (decide (n77 < 0))
                                                                (some ((.bool false), []))
                                                                (br (n77 != n71)
                                                                 (some ((.bool false), []))
                                                                 (ocall V 16 [(.rs (3, 0) a0_)] fun x78 l79 =>
                                                                  asOs (3, 0) x78 fun l80 => unn l79 (ocall V 28 [(.rs (3, 0) l80), (.int .i64 a1_), (.int .i64 a2_), (.int .i64 a3_)] fun x81 l82 =>
                                                                    asTup x81 fun l83 => unc l83 fun x84 l85 => asOs (3, 0) x84 fun l86 => unc l85 fun x87 l88 => asAgg x87 fun l89 => unc l89 fun x90 l91 => asI .i64 x90 fun n92 => unc l91 fun x93 l94 => asI .i64 x93 fun n95 => unn l94 (unc l88 fun x96 l97 => asB x96 fun b98 => unn l97 (unn l82 (ocall V 18 [(.rs (3, 0) l86), (.rs (3, 0) l11)] fun x99 l100 =>
                                                                                asB x99 fun b101 => unn l100 (br (!b101)
                                                                                  (some ((.bool false), []))
                                                                                  (ocall V 29 [(.agg [(.int .i64 n92), (.int .i64 n95)]), (.agg [(.int .i64 n17), (.int .i64 n20)])] fun x102 l103 =>
                                                                                   asB x102 fun b104 => unn l103 (br (!b104)
                                                                                     (some ((.bool false), []))
                                                                                     (br (!b98 == b23)
                                                                                      (some ((.bool false), []))
                                                                                      (ocall V 24 [(.rs (3, 0) l74), (.int .i64 (1))] fun x105 l106 =>
                                                                                       asI .i64 x105 fun n107 => unn l106 (br (decide (n107 < 0))
                                                                                         (some ((.bool false), []))
                                                                                         (br (n107 != n71)
                                                                                          (some ((.bool false), []))
                                                                                          (some ((.bool true), [])))))))))))))))))))))))))))))))))))))))))) := by
  exact (Vn_eq Try.func8 rfl _).trans (by kernel_rfl)

theorem elaws_szLeaseS (a0_ : List D) (a1_ : Int) : V 14 [.rs (3, 0) a0_, .int .i64 a1_] =
  br (decide (IntKind.wrap IntKind.i64 (a1_ - ni (List.length a0_)) < 0))
   (some ((.int .i64 (-1)), []))
   (some ((.int .i64 (IntKind.wrap IntKind.i64 (a1_ - ni (List.length a0_)))), [])) := by
  exact (Vn_eq Try.func14 rfl _).trans (by kernel_rfl)

theorem Llaws_eqLeaseS_4_eq (p0 : List D) (p1 : List D) (p2 : Int) : Llaws_eqLeaseS_4 p0 p1 p2 =
  br (decide (p2 < ni (List.length p0)))
   (grd (decide (0 ≤ p2) && decide (p2 < ni (List.length p0))) (oget p0 (Int.toNat p2) fun x0 =>
    asAgg x0 fun l1 => unc l1 fun x2 l3 => asI .i64 x2 fun n4 => unc l3 fun x5 l6 => asI .i64 x5 fun n7 => unc l6 fun x8 l9 => asI .i64 x8 fun n10 => unn l9 (grd (decide (0 ≤ p2) && decide (p2 < ni (List.length p1))) (oget p1 (Int.toNat p2) fun x11 =>
            asAgg x11 fun l12 => unc l12 fun x13 l14 => asI .i64 x13 fun n15 => unc l14 fun x16 l17 => asI .i64 x16 fun n18 => unc l17 fun x19 l20 => asI .i64 x19 fun n21 => unn l20 (ocall V 41 [(.agg [(.int .i64 n4), (.int .i64 n7), (.int .i64 n10)]), (.agg [(.int .i64 n15), (.int .i64 n18), (.int .i64 n21)])] fun x22 l23 =>
                    asB x22 fun b24 => unn l23 (br (!b24)
                      (some ((.bool false), []))
                      (Llaws_eqLeaseS_4 p0 p1 (IntKind.wrap IntKind.i64 (p2 + 1)))))))))
   (some ((.bool true), [])) := by
  exact (Rn_eq _ _ _).trans (by kernel_rfl)
theorem elaws_eqLeaseS (a0_ : List D) (a1_ : List D) : V 18 [.rs (3, 0) a0_, .rs (3, 0) a1_] =
  br (ni (List.length a0_) != ni (List.length a1_))
   (some ((.bool false), []))
   (Llaws_eqLeaseS_4 a0_ a1_ (0)) := by
  exact (Vn_eq Try.func18 rfl _).trans (by kernel_rfl)

theorem Limpl_LeaseDrop_5_eq (p0 : Int) (p1 : List D) (p2 : Int) (p3 : Int) (p4 : List D) : Limpl_LeaseDrop_5 p0 p1 p2 p3 p4 =
  br (decide (p3 < p2))
   (grd (decide (0 ≤ p3) && decide (p3 < ni (List.length p1))) (oget p1 (Int.toNat p3) fun x3 =>
    asAgg x3 fun l4 => unc l4 fun x5 l6 => asI .i64 x5 fun n7 => unc l6 fun x8 l9 => asI .i64 x8 fun n10 => unc l9 fun x11 l12 => asI .i64 x11 fun n13 => unn l12 (br (decide (n13 ≥ p0))
            (grd (decide (ni (List.length (p4 ++ [D.agg [D.int IntKind.i64 n7, D.int IntKind.i64 n10, D.int IntKind.i64 n13]])) ≤ LIM)) (nam (p4 ++ [D.agg [D.int IntKind.i64 n7, D.int IntKind.i64 n10, D.int IntKind.i64 n13]]) fun l14 =>
             Limpl_LeaseDrop_5 p0 p1 p2 (IntKind.wrap IntKind.i64 (p3 + 1)) l14))
            (Limpl_LeaseDrop_5 p0 p1 p2 (IntKind.wrap IntKind.i64 (p3 + 1)) p4))))
   (some ((.os (3, 0) p4), [])) := by
  exact (Rn_eq _ _ _).trans (by kernel_rfl)
theorem eimpl_LeaseDrop (a0_ : List D) (a1_ : Int) : V 22 [.rs (3, 0) a0_, .int .i64 a1_] =
  ocall V 17 [(.rs (3, 0) a0_)] fun x0 l1 =>
   asB x0 fun b2 => unn l1 (br (!b2)
     (some ((.os (3, 0) []), []))
     (Limpl_LeaseDrop_5 a1_ a0_ (ni (List.length a0_)) (0) [])) := by
  exact (Vn_eq Try.func22 rfl _).trans (by kernel_rfl)

theorem eimpl_LeaseGive (a0_ : List D) (a1_ : Int) (a2_ : Int) (a3_ : Int) : V 26 [.rs (3, 0) a0_, .int .i64 a1_, .int .i64 a2_, .int .i64 a3_] =
  ocall V 17 [(.rs (3, 0) a0_)] fun x0 l1 =>
   asB x0 fun b2 => unn l1 (br (!b2)
     (some ((.tup [(.os (3, 0) []), (.bool false)]), []))
     (ocall V 44 [(.rs (3, 0) a0_)] fun x3 l4 =>
      asOs (3, 0) x3 fun l5 => unn l4 (ocall V 40 [(.rs (3, 0) l5), (.int .i64 a1_), (.int .i64 a2_)] fun x6 l7 =>
        asI .i64 x6 fun n8 => unn l7 (br (decide (n8 < 0))
          (some ((.tup [(.os (3, 0) l5), (.bool false)]), []))
          (grd (decide (0 ≤ n8) && decide (n8 < ni (List.length l5))) (oget l5 (Int.toNat n8) fun x9 =>
           asAgg x9 fun l10 => oget l10 2 fun x11 =>
             asI .i64 x11 fun n12 => br (decide (n12 < a3_))
               (some ((.tup [(.os (3, 0) l5), (.bool false)]), []))
               (ocall V 45 [(.os (3, 0) l5), (.int .i64 n8), (.int .i64 (IntKind.wrap IntKind.i64 (n8 + 1)))] fun x13 l14 =>
                asOs (3, 0) x13 fun l15 => unn l14 (some ((.tup [(.os (3, 0) l15), (.bool true)]), []))))))))) := by
  exact (Vn_eq Try.func26 rfl _).trans (by kernel_rfl)

theorem espec_l1In (a0_ : Int) (a1_ : Int) (a2_ : Int) : V 36 [.int .i64 a0_, .int .i64 a1_, .int .i64 a2_] =
  br (decide (a0_ ≥ a1_))
   (some ((.bool (decide (a0_ ≤ a2_))), []))
   (some ((.bool false), [])) := by
  exact (Vn_eq Try.func36 rfl _).trans (by kernel_rfl)

theorem eimpl_leaseAt (a0_ : List D) (a1_ : Int) (a2_ : Int) : V 40 [.rs (3, 0) a0_, .int .i64 a1_, .int .i64 a2_] =
  ocall V 51 [(.rs (3, 0) a0_), (.fn 52 [(.bp [(.int .i64 a1_)]), (.bp [(.int .i64 a2_)])])] fun x0 l1 =>
   asI .i64 x0 fun n2 => unn l1 (some ((.int .i64 n2), [])) := by
  exact (Vn_eq Try.func40 rfl _).trans (by kernel_rfl)

theorem elaws_FnExactKept (a0_ : List D) (a1_ : Int) (a2_ : Int) : V 5 [.rs (3, 0) a0_, .int .i64 a1_, .int .i64 a2_] =
  ocall V 14 [(.rs (3, 0) a0_), (.int .i64 (1048576))] fun x0 l1 =>
   asI .i64 x0 fun n2 => unn l1 (br (decide (n2 < 0))
     (some ((.bool true), []))
     (ocall V 16 [(.rs (3, 0) a0_)] fun x3 l4 =>
      asOs (3, 0) x3 fun l5 => unn l4 (ocall V 19 [(.rs (3, 0) l5), (.int .i64 a1_), (.int .i64 a2_)] fun x6 l7 =>
        asB x6 fun b8 => unn l7 (ocall V 16 [(.rs (3, 0) a0_)] fun x9 l10 =>
          asOs (3, 0) x9 fun l11 => unn l10 (ocall V 20 [(.rs (3, 0) l11), (.int .i64 a1_), (.int .i64 a2_)] fun x12 l13 =>
            asB x12 fun b14 => unn l13 (br (!b14 == b8)
              (some ((.bool false), []))
              (ocall V 16 [(.rs (3, 0) a0_)] fun x15 l16 =>
               asOs (3, 0) x15 fun l17 => unn l16 (ocall V 18 [(.rs (3, 0) l11), (.rs (3, 0) l17)] fun x18 l19 =>
                 asB x18 fun b20 => unn l19 (br (!b20)
                   (some ((.bool false), []))
                   (some ((.bool true), []))))))))))) := by
  exact (Vn_eq Try.func5 rfl _).trans (by kernel_rfl)

theorem espec_GripGood (a0_0 : Int) (a0_1 : Int) (a1_ : Int) : V 11 [.agg [.int .i64 a0_0, .int .i64 a0_1], .int .i64 a1_] =
  some ((.bool (decide (a0_1 ≥ a1_))), []) := by
  exact (Vn_eq Try.func11 rfl _).trans (by kernel_rfl)

theorem Lspec_LeasesOk_2_eq (p0 : List D) (p1 : Int) : Lspec_LeasesOk_2 p0 p1 =
  br (decide (p1 < ni (List.length p0)))
   (grd (decide (0 ≤ p1) && decide (p1 < ni (List.length p0))) (oget p0 (Int.toNat p1) fun x0 =>
    asAgg x0 fun l1 => unc l1 fun x2 l3 => asI .i64 x2 fun n4 => unc l3 fun x5 l6 => asI .i64 x5 fun n7 => unc l6 fun x8 l9 => asI .i64 x8 fun n10 => unn l9 (ocall V 36 [(.int .i64 n4), (.int .i64 (1)), (.int .i64 (1000000000))] fun x11 l12 =>
            asB x11 fun b13 => unn l12 (br (!b13)
              (some ((.bool false), []))
              (ocall V 36 [(.int .i64 n7), (.int .i64 (0)), (.int .i64 (9))] fun x14 l15 =>
               asB x14 fun b16 => unn l15 (br (!b16)
                 (some ((.bool false), []))
                 (ocall V 36 [(.int .i64 n10), (.int .i64 (0)), (.int .i64 (1000000000))] fun x17 l18 =>
                  asB x17 fun b19 => unn l18 (br (!b19)
                    (some ((.bool false), []))
                    (grd (cutOk (List.length p0) none (some p1)) (ocall V 37 [(.rs (3, 0) (cutH p0 p1)), (.int .i64 n4), (.int .i64 n7)] fun x20 l21 =>
                     asI .i64 x20 fun n22 => unn l21 (br (decide (n22 ≥ 0))
                       (some ((.bool false), []))
                       (Lspec_LeasesOk_2 p0 (IntKind.wrap IntKind.i64 (p1 + 1))))))))))))))
   (some ((.bool (decide (ni (List.length p0) ≤ 20))), [])) := by
  exact (Rn_eq _ _ _).trans (by kernel_rfl)
theorem espec_LeasesOk (a0_ : List D) : V 15 [.rs (3, 0) a0_] =
  Lspec_LeasesOk_2 a0_ (0) := by
  exact (Vn_eq Try.func15 rfl _).trans (by kernel_rfl)

theorem Lspec_Kept_2_eq (p0 : List D) (p1 : Int) (p2 : Int) (p3 : Int) : Lspec_Kept_2 p0 p1 p2 p3 =
  br (decide (p3 < ni (List.length p0)))
   (ocall V 15 [(.rs (3, 0) p0)] fun x0 l1 =>
    asB x0 fun b2 => unn l1 (br b2
      (grd (decide (0 ≤ p3) && decide (p3 < ni (List.length p0))) (oget p0 (Int.toNat p3) fun x3 =>
       asAgg x3 fun l4 => oget l4 0 fun x5 =>
         asI .i64 x5 fun n6 => br (n6 == p1)
           (grd (decide (0 ≤ p3) && decide (p3 < ni (List.length p0))) (oget p0 (Int.toNat p3) fun x7 =>
            asAgg x7 fun l8 => oget l8 2 fun x9 =>
              asI .i64 x9 fun n10 => br (decide (n10 ≥ p2))
                (some ((.bool true), []))
                (Lspec_Kept_2 p0 p1 p2 (IntKind.wrap IntKind.i64 (p3 + 1)))))
           (Lspec_Kept_2 p0 p1 p2 (IntKind.wrap IntKind.i64 (p3 + 1)))))
      (some ((.bool false), []))))
   (some ((.bool false), [])) := by
  exact (Rn_eq _ _ _).trans (by kernel_rfl)
theorem espec_Kept (a0_ : List D) (a1_ : Int) (a2_ : Int) : V 19 [.rs (3, 0) a0_, .int .i64 a1_, .int .i64 a2_] =
  Lspec_Kept_2 a0_ a1_ a2_ (0) := by
  exact (Vn_eq Try.func19 rfl _).trans (by kernel_rfl)

theorem Llaws_markLeaseS_2_eq (p0 : Int) (p1 : Int) (p2 : List D) : Llaws_markLeaseS_2 p0 p1 p2 =
  br (decide (p1 < ni (List.length p2)))
   (grd (decide (0 ≤ p1) && decide (p1 < ni (List.length p2))) (oget p2 (Int.toNat p1) fun x0 =>
    asAgg x0 fun l1 => nam (List.set p2 (Int.toNat p1) (D.agg (List.take 0 l1 ++ [D.int IntKind.i64 p0] ++ List.drop 1 l1))) fun l2 =>
      grd (decide (0 ≤ p1) && decide (p1 < ni (List.length l2))) (oget l2 (Int.toNat p1) fun x3 =>
       asAgg x3 fun l4 => nam (List.set l2 (Int.toNat p1) (D.agg (List.take 1 l4 ++ [D.int IntKind.i64 (IntKind.wrap IntKind.i64 (p0 + 1))] ++ List.drop 2 l4))) fun l5 =>
         grd (decide (0 ≤ p1) && decide (p1 < ni (List.length l5))) (oget l5 (Int.toNat p1) fun x6 =>
          asAgg x6 fun l7 => nam (List.set l5 (Int.toNat p1) (D.agg (List.take 2 l7 ++ [D.int IntKind.i64 (IntKind.wrap IntKind.i64 (IntKind.wrap IntKind.i64 (p0 + 1) + 1))] ++ List.drop 3 l7))) fun l8 =>
            Llaws_markLeaseS_2 (IntKind.wrap IntKind.i64 (IntKind.wrap IntKind.i64 (IntKind.wrap IntKind.i64 (p0 + 1) + 1) + 1)) (IntKind.wrap IntKind.i64 (p1 + 1)) l8))))
   (some ((.int .i64 p0), [(.os (3, 0) p2)])) := by
  exact (Rn_eq _ _ _).trans (by kernel_rfl)
theorem elaws_markLeaseS (a0_ : List D) (a1_ : Int) : V 23 [.os (3, 0) a0_, .int .i64 a1_] =
  Llaws_markLeaseS_2 a1_ (0) a0_ := by
  exact (Vn_eq Try.func23 rfl _).trans (by kernel_rfl)

theorem espec_LeaseAsk (a0_ : List D) (a1_ : Int) (a2_ : Int) (a3_ : Int) : V 27 [.rs (3, 0) a0_, .int .i64 a1_, .int .i64 a2_, .int .i64 a3_] =
  ocall V 15 [(.rs (3, 0) a0_)] fun x0 l1 =>
   asB x0 fun b2 => unn l1 (br (!b2)
     (some ((.tup [(.os (3, 0) []), (.agg [(.int .i64 (0)), (.int .i64 (0))]), (.bool false)]), []))
     (grd (decide (ni (List.length ([] ++ a0_)) ≤ LIM)) (nam ([] ++ a0_) fun l3 =>
      grd (decide (ni (List.length ([] ++ a0_)) ≤ LIM)) (nam ([] ++ a0_) fun l4 =>
       ocall V 36 [(.int .i64 a3_), (.int .i64 (0)), (.int .i64 (1000000000))] fun x5 l6 =>
        asB x5 fun b7 => unn l6 (br (!b7)
          (some ((.tup [(.os (3, 0) l4), (.agg [(.int .i64 (0)), (.int .i64 (0))]), (.bool false)]), []))
          (ocall V 37 [(.rs (3, 0) a0_), (.int .i64 a1_), (.int .i64 a2_)] fun x8 l9 =>
           asI .i64 x8 fun n10 => unn l9 (br (decide (n10 < 0))
             (grd (decide (ni (List.length (l3 ++ [D.agg [D.int IntKind.i64 a1_, D.int IntKind.i64 a2_, D.int IntKind.i64 (0)]])) ≤ LIM)) (nam (l3 ++ [D.agg [D.int IntKind.i64 a1_, D.int IntKind.i64 a2_, D.int IntKind.i64 (0)]]) fun l11 =>
              grd (decide (0 ≤ ni (List.length l3)) && decide (ni (List.length l3) < ni (List.length l11))) (oget l11 (Int.toNat (ni (List.length l3))) fun x12 =>
               asAgg x12 fun l13 => nam (List.set l11 (Int.toNat (ni (List.length l3))) (D.agg (List.take 2 l13 ++ [D.int IntKind.i64 (IntKind.wrap IntKind.i64 (a3_ + 20))] ++ List.drop 3 l13))) fun l14 =>
                 ocall V 15 [(.rs (3, 0) l14)] fun x15 l16 =>
                  asB x15 fun b17 => unn l16 (br (!b17)
                    (some ((.tup [(.os (3, 0) l4), (.agg [(.int .i64 (0)), (.int .i64 (0))]), (.bool false)]), []))
                    (some ((.tup [(.os (3, 0) l14), (.agg [(.int .i64 a1_), (.int .i64 (IntKind.wrap IntKind.i64 (IntKind.wrap IntKind.i64 (a3_ + 20) - 3)))]), (.bool true)]), []))))))
             (grd (decide (0 ≤ n10) && decide (n10 < ni (List.length l3))) (oget l3 (Int.toNat n10) fun x18 =>
              asAgg x18 fun l19 => nam (List.set l3 (Int.toNat n10) (D.agg (List.take 2 l19 ++ [D.int IntKind.i64 (IntKind.wrap IntKind.i64 (a3_ + 20))] ++ List.drop 3 l19))) fun l20 =>
                ocall V 15 [(.rs (3, 0) l20)] fun x21 l22 =>
                 asB x21 fun b23 => unn l22 (br (!b23)
                   (some ((.tup [(.os (3, 0) l4), (.agg [(.int .i64 (0)), (.int .i64 (0))]), (.bool false)]), []))
                   (some ((.tup [(.os (3, 0) l20), (.agg [(.int .i64 a1_), (.int .i64 (IntKind.wrap IntKind.i64 (IntKind.wrap IntKind.i64 (a3_ + 20) - 3)))]), (.bool true)]), [])))))))))))) := by
  exact (Vn_eq Try.func27 rfl _).trans (by kernel_rfl)

theorem Lspec_l11At_2_eq (p0 : List D) (p1 : Int) (p2 : Int) (p3 : Int) : Lspec_l11At_2 p0 p1 p2 p3 =
  br (decide (p3 < ni (List.length p0)))
   (grd (decide (0 ≤ p3) && decide (p3 < ni (List.length p0))) (oget p0 (Int.toNat p3) fun x0 =>
    asAgg x0 fun l1 => oget l1 0 fun x2 =>
      asI .i64 x2 fun n3 => br (n3 == p1)
        (grd (decide (0 ≤ p3) && decide (p3 < ni (List.length p0))) (oget p0 (Int.toNat p3) fun x4 =>
         asAgg x4 fun l5 => oget l5 1 fun x6 =>
           asI .i64 x6 fun n7 => br (n7 == p2)
             (some ((.int .i64 p3), []))
             (Lspec_l11At_2 p0 p1 p2 (IntKind.wrap IntKind.i64 (p3 + 1)))))
        (Lspec_l11At_2 p0 p1 p2 (IntKind.wrap IntKind.i64 (p3 + 1)))))
   (some ((.int .i64 (-1)), [])) := by
  exact (Rn_eq _ _ _).trans (by kernel_rfl)
theorem espec_l11At (a0_ : List D) (a1_ : Int) (a2_ : Int) : V 37 [.rs (3, 0) a0_, .int .i64 a1_, .int .i64 a2_] =
  Lspec_l11At_2 a0_ a1_ a2_ (0) := by
  exact (Vn_eq Try.func37 rfl _).trans (by kernel_rfl)

theorem elaws_eqLease (a0_0 : Int) (a0_1 : Int) (a0_2 : Int) (a1_0 : Int) (a1_1 : Int) (a1_2 : Int) : V 41 [.agg [.int .i64 a0_0, .int .i64 a0_1, .int .i64 a0_2], .agg [.int .i64 a1_0, .int .i64 a1_1, .int .i64 a1_2]] =
  br (a0_0 != a1_0)
   (some ((.bool false), []))
   (br (a0_1 != a1_1)
    (some ((.bool false), []))
    (br (a0_2 != a1_2)
     (some ((.bool false), []))
     (some ((.bool true), [])))) := by
  exact (Vn_eq Try.func41 rfl _).trans (by kernel_rfl)

theorem elaws_FnExactLeaseDrop (a0_ : List D) (a1_ : Int) : V 6 [.rs (3, 0) a0_, .int .i64 a1_] =
  ocall V 14 [(.rs (3, 0) a0_), (.int .i64 (1048576))] fun x0 l1 =>
   asI .i64 x0 fun n2 => unn l1 (br (decide (n2 < 0))
     (some ((.bool true), []))
     (ocall V 16 [(.rs (3, 0) a0_)] fun x3 l4 =>
      asOs (3, 0) x3 fun l5 => unn l4 (ocall V 21 [(.rs (3, 0) l5), (.int .i64 a1_)] fun x6 l7 =>
        asOs (3, 0) x6 fun l8 => unn l7 (ocall V 16 [(.rs (3, 0) a0_)] fun x9 l10 =>
          asOs (3, 0) x9 fun l11 => unn l10 (ocall V 22 [(.rs (3, 0) l11), (.int .i64 a1_)] fun x12 l13 =>
            asOs (3, 0) x12 fun l14 => unn l13 (ocall V 18 [(.rs (3, 0) l14), (.rs (3, 0) l8)] fun x15 l16 =>
              asB x15 fun b17 => unn l16 (br (!b17)
                (some ((.bool false), []))
                (ocall V 16 [(.rs (3, 0) a0_)] fun x18 l19 =>
                 asOs (3, 0) x18 fun l20 => unn l19 (ocall V 18 [(.rs (3, 0) l11), (.rs (3, 0) l20)] fun x21 l22 =>
                   asB x21 fun b23 => unn l22 (br (!b23)
                     (some ((.bool false), []))
                     (ocall V 23 [(.os (3, 0) l11), (.int .i64 (1))] fun x24 l25 =>
                      asI .i64 x24 fun n26 => unc l25 fun x27 l28 => asOs (3, 0) x27 fun l29 => unn l28 (br (decide (n26 < 0))
                          (some ((.bool false), []))
                          (ocall V 18 [(.rs (3, 0) l14), (.rs (3, 0) l8)] fun x30 l31 =>
                           asB x30 fun b32 => unn l31 (br (!b32)
                             (some ((.bool false), []))
                             (ocall V 23 [(.os (3, 0) l14), (.int .i64 (1))] fun x33 l34 =>
                              asI .i64 x33 fun n35 => unc l34 fun x36 l37 => asOs (3, 0) x36 fun l38 => unn l37 (ocall V 24 [(.rs (3, 0) l38), (.int .i64 (1))] fun x39 l40 =>
                                  asI .i64 x39 fun n41 => unn l40 (br (decide (n41 < 0))
                                    (some ((.bool false), []))
                                    (br (n41 != n35)
                                     (some ((.bool false), []))
                                     (ocall V 16 [(.rs (3, 0) a0_)] fun x42 l43 =>
                                      asOs (3, 0) x42 fun l44 => unn l43 (ocall V 22 [(.rs (3, 0) l44), (.int .i64 a1_)] fun x45 l46 =>
                                        asOs (3, 0) x45 fun l47 => unn l46 (ocall V 18 [(.rs (3, 0) l47), (.rs (3, 0) l8)] fun x48 l49 =>
                                          asB x48 fun b50 => unn l49 (br (!b50)
                                            (some ((.bool false), []))
                                            (ocall V 24 [(.rs (3, 0) l38), (.int .i64 (1))] fun x51 l52 =>
                                             asI .i64 x51 fun n53 => unn l52 (br (decide (n53 < 0))
                                               (some ((.bool false), []))
                                               (br (n53 != n35)
                                                (some ((.bool false), []))
                                                (some ((.bool true), []))))))))))))))))))))))))))) := by
  exact (Vn_eq Try.func6 rfl _).trans (by kernel_rfl)

theorem elaws_toGrip (a0_0 : Int) (a0_1 : Int) : V 12 [.agg [.int .i64 a0_0, .int .i64 a0_1]] =
  some ((.agg [(.int .i64 a0_0), (.int .i64 a0_1)]), []) := by
  exact (Vn_eq Try.func12 rfl _).trans (by kernel_rfl)

theorem Llaws_toLeaseS_3_eq (p0 : List D) (p1 : Int) (p2 : List D) : Llaws_toLeaseS_3 p0 p1 p2 =
  br (decide (p1 < ni (List.length p0)))
   (grd (decide (0 ≤ p1) && decide (p1 < ni (List.length p0))) (oget p0 (Int.toNat p1) fun x0 =>
    asAgg x0 fun l1 => unc l1 fun x2 l3 => asI .i64 x2 fun n4 => unc l3 fun x5 l6 => asI .i64 x5 fun n7 => unc l6 fun x8 l9 => asI .i64 x8 fun n10 => unn l9 (ocall V 38 [(.agg [(.int .i64 n4), (.int .i64 n7), (.int .i64 n10)])] fun x11 l12 =>
            asAgg x11 fun l13 => unc l13 fun x14 l15 => asI .i64 x14 fun n16 => unc l15 fun x17 l18 => asI .i64 x17 fun n19 => unc l18 fun x20 l21 => asI .i64 x20 fun n22 => unn l21 (unn l12 (grd (decide (0 ≤ p1) && decide (p1 < ni (List.length p2))) (oget p2 (Int.toNat p1) fun x23 =>
                    nam (List.set p2 (Int.toNat p1) (D.agg [D.int IntKind.i64 n16, D.int IntKind.i64 n19, D.int IntKind.i64 n22])) fun l24 =>
                     Llaws_toLeaseS_3 p0 (IntKind.wrap IntKind.i64 (p1 + 1)) l24))))))
   (some ((.os (3, 0) p2), [])) := by
  exact (Rn_eq _ _ _).trans (by kernel_rfl)
theorem elaws_toLeaseS (a0_ : List D) : V 16 [.rs (3, 0) a0_] =
  grd (decide (0 ≤ ni (List.length a0_)) && decide (ni (List.length a0_) ≤ LIM)) (Llaws_toLeaseS_3 a0_ (0) (List.replicate (Int.toNat (ni (List.length a0_))) (D.agg [D.int IntKind.i64 (0), D.int IntKind.i64 (0), D.int IntKind.i64 (0)]))) := by
  exact (Vn_eq Try.func16 rfl _).trans (by kernel_rfl)

theorem eimpl_Kept (a0_ : List D) (a1_ : Int) (a2_ : Int) : V 20 [.rs (3, 0) a0_, .int .i64 a1_, .int .i64 a2_] =
  ocall V 17 [(.rs (3, 0) a0_)] fun x0 l1 =>
   asB x0 fun b2 => unn l1 (br b2
     (ocall V 42 [(.rs (3, 0) a0_), (.fn 43 [(.bp [(.int .i64 a1_)]), (.bp [(.int .i64 a2_)])])] fun x3 l4 =>
      asB x3 fun b5 => unn l4 (some ((.bool b5), [])))
     (some ((.bool false), []))) := by
  exact (Vn_eq Try.func20 rfl _).trans (by kernel_rfl)

theorem Llaws_heldLeaseS_2_eq (p0 : List D) (p1 : Int) (p2 : Int) : Llaws_heldLeaseS_2 p0 p1 p2 =
  br (decide (p2 < ni (List.length p0)))
   (grd (decide (0 ≤ p2) && decide (p2 < ni (List.length p0))) (oget p0 (Int.toNat p2) fun x0 =>
    asAgg x0 fun l1 => oget l1 0 fun x2 =>
      asI .i64 x2 fun n3 => br (n3 != p1)
        (some ((.int .i64 (-1)), []))
        (grd (decide (0 ≤ p2) && decide (p2 < ni (List.length p0))) (oget p0 (Int.toNat p2) fun x4 =>
         asAgg x4 fun l5 => oget l5 1 fun x6 =>
           asI .i64 x6 fun n7 => br (n7 != IntKind.wrap IntKind.i64 (p1 + 1))
             (some ((.int .i64 (-1)), []))
             (grd (decide (0 ≤ p2) && decide (p2 < ni (List.length p0))) (oget p0 (Int.toNat p2) fun x8 =>
              asAgg x8 fun l9 => oget l9 2 fun x10 =>
                asI .i64 x10 fun n11 => br (n11 != IntKind.wrap IntKind.i64 (IntKind.wrap IntKind.i64 (p1 + 1) + 1))
                  (some ((.int .i64 (-1)), []))
                  (Llaws_heldLeaseS_2 p0 (IntKind.wrap IntKind.i64 (IntKind.wrap IntKind.i64 (IntKind.wrap IntKind.i64 (p1 + 1) + 1) + 1)) (IntKind.wrap IntKind.i64 (p2 + 1)))))))))
   (some ((.int .i64 p1), [])) := by
  exact (Rn_eq _ _ _).trans (by kernel_rfl)
theorem elaws_heldLeaseS (a0_ : List D) (a1_ : Int) : V 24 [.rs (3, 0) a0_, .int .i64 a1_] =
  Llaws_heldLeaseS_2 a0_ a1_ (0) := by
  exact (Vn_eq Try.func24 rfl _).trans (by kernel_rfl)

theorem eimpl_LeaseAsk (a0_ : List D) (a1_ : Int) (a2_ : Int) (a3_ : Int) : V 28 [.rs (3, 0) a0_, .int .i64 a1_, .int .i64 a2_, .int .i64 a3_] =
  ocall V 17 [(.rs (3, 0) a0_)] fun x0 l1 =>
   asB x0 fun b2 => unn l1 (br (!b2)
     (some ((.tup [(.os (3, 0) []), (.agg [(.int .i64 (0)), (.int .i64 (0))]), (.bool false)]), []))
     (ocall V 44 [(.rs (3, 0) a0_)] fun x3 l4 =>
      asOs (3, 0) x3 fun l5 => unn l4 (ocall V 39 [(.int .i64 a3_), (.int .i64 (0)), (.int .i64 (1000000000))] fun x6 l7 =>
        asB x6 fun b8 => unn l7 (br (!b8)
          (some ((.tup [(.os (3, 0) l5), (.agg [(.int .i64 (0)), (.int .i64 (0))]), (.bool false)]), []))
          (ocall V 40 [(.rs (3, 0) l5), (.int .i64 a1_), (.int .i64 a2_)] fun x9 l10 =>
           asI .i64 x9 fun n11 => unn l10 (br (decide (n11 ≥ 0))
             (grd (decide (0 ≤ n11) && decide (n11 < ni (List.length l5))) (oget l5 (Int.toNat n11) fun x12 =>
              nam (List.set l5 (Int.toNat n11) (D.agg [D.int IntKind.i64 a1_, D.int IntKind.i64 a2_, D.int IntKind.i64 (IntKind.wrap IntKind.i64 (a3_ + 20))])) fun l13 =>
               ocall V 17 [(.rs (3, 0) l13)] fun x14 l15 =>
                asB x14 fun b16 => unn l15 (br (!b16)
                  (ocall V 44 [(.rs (3, 0) a0_)] fun x17 l18 =>
                   asOs (3, 0) x17 fun l19 => unn l18 (some ((.tup [(.os (3, 0) l19), (.agg [(.int .i64 (0)), (.int .i64 (0))]), (.bool false)]), [])))
                  (some ((.tup [(.os (3, 0) l13), (.agg [(.int .i64 a1_), (.int .i64 (IntKind.wrap IntKind.i64 (IntKind.wrap IntKind.i64 (a3_ + 20) - 3)))]), (.bool true)]), [])))))
             (grd (decide (ni (List.length (l5 ++ [D.agg [D.int IntKind.i64 a1_, D.int IntKind.i64 a2_, D.int IntKind.i64 (IntKind.wrap IntKind.i64 (a3_ + 20))]])) ≤ LIM)) (nam (l5 ++ [D.agg [D.int IntKind.i64 a1_, D.int IntKind.i64 a2_, D.int IntKind.i64 (IntKind.wrap IntKind.i64 (a3_ + 20))]]) fun l20 =>
              ocall V 17 [(.rs (3, 0) l20)] fun x21 l22 =>
               asB x21 fun b23 => unn l22 (br (!b23)
                 (ocall V 44 [(.rs (3, 0) a0_)] fun x24 l25 =>
                  asOs (3, 0) x24 fun l26 => unn l25 (some ((.tup [(.os (3, 0) l26), (.agg [(.int .i64 (0)), (.int .i64 (0))]), (.bool false)]), [])))
                 (some ((.tup [(.os (3, 0) l20), (.agg [(.int .i64 a1_), (.int .i64 (IntKind.wrap IntKind.i64 (IntKind.wrap IntKind.i64 (a3_ + 20) - 3)))]), (.bool true)]), []))))))))))) := by
  exact (Vn_eq Try.func28 rfl _).trans (by kernel_rfl)

theorem elaws_toLease (a0_0 : Int) (a0_1 : Int) (a0_2 : Int) : V 38 [.agg [.int .i64 a0_0, .int .i64 a0_1, .int .i64 a0_2]] =
  some ((.agg [(.int .i64 a0_0), (.int .i64 a0_1), (.int .i64 a0_2)]), []) := by
  exact (Vn_eq Try.func38 rfl _).trans (by kernel_rfl)

theorem eslices_Clone_impl_Lease_impl_Lease (a0_ : List D) : V 44 [.rs (3, 0) a0_] =
  nilb a0_
   (some ((.os (3, 0) []), []))
   (grd (decide (ni (List.length ([] ++ a0_)) ≤ LIM)) (nam ([] ++ a0_) fun l0 =>
    some ((.os (3, 0) l0), []))) := by
  exact (Vn_eq Try.func44 rfl _).trans (by kernel_rfl)


end Go.Eng
