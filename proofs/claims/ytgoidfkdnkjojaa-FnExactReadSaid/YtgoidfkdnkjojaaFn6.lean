/- the functions as the interpreter has them -/
import Derived.Test.YtgoidfkdnkjojaaFn0
namespace Go.Eng
open Go.Proofs Go.Proofs.Try
set_option maxRecDepth 100000
theorem Limpl_packNodes_3_eq (p0 : List D) (p1 : Int) (p2 : Int) (p3 : List D) : Limpl_packNodes_3 p0 p1 p2 p3 =
  br (decide (p2 < p1))
   (grd (decide (0 ≤ p2) && decide (p2 < ni (List.length p0))) (oget p0 (Int.toNat p2) fun x3 =>
    asAgg x3 fun l4 => unc l4 fun x5 l6 => asI .i64 x5 fun n7 => unc l6 fun x8 l9 => asI .i64 x8 fun n10 => unc l9 fun x11 l12 => asS x11 fun s13 => unc l12 fun x14 l15 => asI .i64 x14 fun n16 => unc l15 fun x17 l18 => asI .i64 x17 fun n19 => unn l18 (ocall V 100 [(.int .i64 n7)] fun x20 l21 =>
                asOs (1, 0) x20 fun l22 => unn l21 (grd (decide (ni (List.length (p3 ++ l22)) ≤ LIM)) (nam (p3 ++ l22) fun l23 =>
                  br (n7 == 2)
                   (br (n7 == 2)
                    (ocall V 100 [(.int .i64 n10)] fun x24 l25 =>
                     asOs (1, 0) x24 fun l26 => unn l25 (grd (decide (ni (List.length (l23 ++ l26)) ≤ LIM)) (nam (l23 ++ l26) fun l27 =>
                       Limpl_packNodes_3 p0 p1 (IntKind.wrap IntKind.i64 (p2 + 1)) l27)))
                    (br (n7 == 3)
                     (ocall V 100 [(.int .i64 (IntKind.wrap IntKind.i64 (n10 + 1000000000)))] fun x28 l29 =>
                      asOs (1, 0) x28 fun l30 => unn l29 (grd (decide (ni (List.length (l23 ++ l30)) ≤ LIM)) (nam (l23 ++ l30) fun l31 =>
                        Limpl_packNodes_3 p0 p1 (IntKind.wrap IntKind.i64 (p2 + 1)) l31)))
                     (br (n7 == 4)
                      (ocall V 146 [(.str s13)] fun x32 l33 =>
                       asOs (1, 0) x32 fun l34 => unn l33 (grd (decide (ni (List.length (l23 ++ l34)) ≤ LIM)) (nam (l23 ++ l34) fun l35 =>
                         Limpl_packNodes_3 p0 p1 (IntKind.wrap IntKind.i64 (p2 + 1)) l35)))
                      (br (n7 == 5)
                       (ocall V 100 [(.int .i64 n16)] fun x36 l37 =>
                        asOs (1, 0) x36 fun l38 => unn l37 (grd (decide (ni (List.length (l23 ++ l38)) ≤ LIM)) (nam (l23 ++ l38) fun l39 =>
                          ocall V 100 [(.int .i64 n19)] fun x40 l41 =>
                           asOs (1, 0) x40 fun l42 => unn l41 (grd (decide (ni (List.length (l39 ++ l42)) ≤ LIM)) (nam (l39 ++ l42) fun l43 =>
                             Limpl_packNodes_3 p0 p1 (IntKind.wrap IntKind.i64 (p2 + 1)) l43)))))
                       (br (n7 == 6)
                        (ocall V 100 [(.int .i64 n10)] fun x44 l45 =>
                         asOs (1, 0) x44 fun l46 => unn l45 (grd (decide (ni (List.length (l23 ++ l46)) ≤ LIM)) (nam (l23 ++ l46) fun l47 =>
                           ocall V 100 [(.int .i64 n16)] fun x48 l49 =>
                            asOs (1, 0) x48 fun l50 => unn l49 (grd (decide (ni (List.length (l47 ++ l50)) ≤ LIM)) (nam (l47 ++ l50) fun l51 =>
                              Limpl_packNodes_3 p0 p1 (IntKind.wrap IntKind.i64 (p2 + 1)) l51)))))
                        (br (n7 == 7)
                         (ocall V 100 [(.int .i64 n16)] fun x52 l53 =>
                          asOs (1, 0) x52 fun l54 => unn l53 (grd (decide (ni (List.length (l23 ++ l54)) ≤ LIM)) (nam (l23 ++ l54) fun l55 =>
                            Limpl_packNodes_3 p0 p1 (IntKind.wrap IntKind.i64 (p2 + 1)) l55)))
                         (Limpl_packNodes_3 p0 p1 (IntKind.wrap IntKind.i64 (p2 + 1)) l23)))))))
                   (br (n7 == 8)
                    (br (n7 == 8)
                     (ocall V 100 [(.int .i64 n10)] fun x56 l57 =>
                      asOs (1, 0) x56 fun l58 => unn l57 (grd (decide (ni (List.length (l23 ++ l58)) ≤ LIM)) (nam (l23 ++ l58) fun l59 =>
                        Limpl_packNodes_3 p0 p1 (IntKind.wrap IntKind.i64 (p2 + 1)) l59)))
                     (br (n7 == 3)
                      (ocall V 100 [(.int .i64 (IntKind.wrap IntKind.i64 (n10 + 1000000000)))] fun x60 l61 =>
                       asOs (1, 0) x60 fun l62 => unn l61 (grd (decide (ni (List.length (l23 ++ l62)) ≤ LIM)) (nam (l23 ++ l62) fun l63 =>
                         Limpl_packNodes_3 p0 p1 (IntKind.wrap IntKind.i64 (p2 + 1)) l63)))
                      (br (n7 == 4)
                       (ocall V 146 [(.str s13)] fun x64 l65 =>
                        asOs (1, 0) x64 fun l66 => unn l65 (grd (decide (ni (List.length (l23 ++ l66)) ≤ LIM)) (nam (l23 ++ l66) fun l67 =>
                          Limpl_packNodes_3 p0 p1 (IntKind.wrap IntKind.i64 (p2 + 1)) l67)))
                       (br (n7 == 5)
                        (ocall V 100 [(.int .i64 n16)] fun x68 l69 =>
                         asOs (1, 0) x68 fun l70 => unn l69 (grd (decide (ni (List.length (l23 ++ l70)) ≤ LIM)) (nam (l23 ++ l70) fun l71 =>
                           ocall V 100 [(.int .i64 n19)] fun x72 l73 =>
                            asOs (1, 0) x72 fun l74 => unn l73 (grd (decide (ni (List.length (l71 ++ l74)) ≤ LIM)) (nam (l71 ++ l74) fun l75 =>
                              Limpl_packNodes_3 p0 p1 (IntKind.wrap IntKind.i64 (p2 + 1)) l75)))))
                        (br (n7 == 6)
                         (ocall V 100 [(.int .i64 n10)] fun x76 l77 =>
                          asOs (1, 0) x76 fun l78 => unn l77 (grd (decide (ni (List.length (l23 ++ l78)) ≤ LIM)) (nam (l23 ++ l78) fun l79 =>
                            ocall V 100 [(.int .i64 n16)] fun x80 l81 =>
                             asOs (1, 0) x80 fun l82 => unn l81 (grd (decide (ni (List.length (l79 ++ l82)) ≤ LIM)) (nam (l79 ++ l82) fun l83 =>
                               Limpl_packNodes_3 p0 p1 (IntKind.wrap IntKind.i64 (p2 + 1)) l83)))))
                         (br (n7 == 7)
                          (ocall V 100 [(.int .i64 n16)] fun x84 l85 =>
                           asOs (1, 0) x84 fun l86 => unn l85 (grd (decide (ni (List.length (l23 ++ l86)) ≤ LIM)) (nam (l23 ++ l86) fun l87 =>
                             Limpl_packNodes_3 p0 p1 (IntKind.wrap IntKind.i64 (p2 + 1)) l87)))
                          (Limpl_packNodes_3 p0 p1 (IntKind.wrap IntKind.i64 (p2 + 1)) l23)))))))
                    (br (n7 == 9)
                     (ocall V 100 [(.int .i64 n10)] fun x88 l89 =>
                      asOs (1, 0) x88 fun l90 => unn l89 (grd (decide (ni (List.length (l23 ++ l90)) ≤ LIM)) (nam (l23 ++ l90) fun l91 =>
                        Limpl_packNodes_3 p0 p1 (IntKind.wrap IntKind.i64 (p2 + 1)) l91)))
                     (br (n7 == 3)
                      (ocall V 100 [(.int .i64 (IntKind.wrap IntKind.i64 (n10 + 1000000000)))] fun x92 l93 =>
                       asOs (1, 0) x92 fun l94 => unn l93 (grd (decide (ni (List.length (l23 ++ l94)) ≤ LIM)) (nam (l23 ++ l94) fun l95 =>
                         Limpl_packNodes_3 p0 p1 (IntKind.wrap IntKind.i64 (p2 + 1)) l95)))
                      (br (n7 == 4)
                       (ocall V 146 [(.str s13)] fun x96 l97 =>
                        asOs (1, 0) x96 fun l98 => unn l97 (grd (decide (ni (List.length (l23 ++ l98)) ≤ LIM)) (nam (l23 ++ l98) fun l99 =>
                          Limpl_packNodes_3 p0 p1 (IntKind.wrap IntKind.i64 (p2 + 1)) l99)))
                       (br (n7 == 5)
                        (ocall V 100 [(.int .i64 n16)] fun x100 l101 =>
                         asOs (1, 0) x100 fun l102 => unn l101 (grd (decide (ni (List.length (l23 ++ l102)) ≤ LIM)) (nam (l23 ++ l102) fun l103 =>
                           ocall V 100 [(.int .i64 n19)] fun x104 l105 =>
                            asOs (1, 0) x104 fun l106 => unn l105 (grd (decide (ni (List.length (l103 ++ l106)) ≤ LIM)) (nam (l103 ++ l106) fun l107 =>
                              Limpl_packNodes_3 p0 p1 (IntKind.wrap IntKind.i64 (p2 + 1)) l107)))))
                        (br (n7 == 6)
                         (ocall V 100 [(.int .i64 n10)] fun x108 l109 =>
                          asOs (1, 0) x108 fun l110 => unn l109 (grd (decide (ni (List.length (l23 ++ l110)) ≤ LIM)) (nam (l23 ++ l110) fun l111 =>
                            ocall V 100 [(.int .i64 n16)] fun x112 l113 =>
                             asOs (1, 0) x112 fun l114 => unn l113 (grd (decide (ni (List.length (l111 ++ l114)) ≤ LIM)) (nam (l111 ++ l114) fun l115 =>
                               Limpl_packNodes_3 p0 p1 (IntKind.wrap IntKind.i64 (p2 + 1)) l115)))))
                         (br (n7 == 7)
                          (ocall V 100 [(.int .i64 n16)] fun x116 l117 =>
                           asOs (1, 0) x116 fun l118 => unn l117 (grd (decide (ni (List.length (l23 ++ l118)) ≤ LIM)) (nam (l23 ++ l118) fun l119 =>
                             Limpl_packNodes_3 p0 p1 (IntKind.wrap IntKind.i64 (p2 + 1)) l119)))
                          (Limpl_packNodes_3 p0 p1 (IntKind.wrap IntKind.i64 (p2 + 1)) l23)))))))))))))
   (some ((.os (1, 0) p3), [])) := by
  exact (Rn_eq _ _ _).trans (by kernel_rfl)
theorem Lspec_l8Nodes_3_eq (p0 : Int) (p1 : List D) (p2 : List D) : Lspec_l8Nodes_3 p0 p1 p2 =
  br (decide (p0 < ni (List.length p1)))
   (grd (decide (0 ≤ p0) && decide (p0 < ni (List.length p1))) (oget p1 (Int.toNat p0) fun x3 =>
    asAgg x3 fun l4 => unc l4 fun x5 l6 => asI .i64 x5 fun n7 => unc l6 fun x8 l9 => asI .i64 x8 fun n10 => unc l9 fun x11 l12 => asS x11 fun s13 => unc l12 fun x14 l15 => asI .i64 x14 fun n16 => unc l15 fun x17 l18 => asI .i64 x17 fun n19 => unn l18 (ocall V 95 [(.int .i64 n7)] fun x20 l21 =>
                asOs (1, 0) x20 fun l22 => unn l21 (grd (decide (ni (List.length (p2 ++ l22)) ≤ LIM)) (nam (p2 ++ l22) fun l23 =>
                  br (n7 == 2)
                   (br (n7 == 2)
                    (ocall V 95 [(.int .i64 n10)] fun x24 l25 =>
                     asOs (1, 0) x24 fun l26 => unn l25 (grd (decide (ni (List.length (l23 ++ l26)) ≤ LIM)) (nam (l23 ++ l26) fun l27 =>
                       Lspec_l8Nodes_3 (IntKind.wrap IntKind.i64 (p0 + 1)) p1 l27)))
                    (br (n7 == 3)
                     (ocall V 95 [(.int .i64 (IntKind.wrap IntKind.i64 (n10 + 1000000000)))] fun x28 l29 =>
                      asOs (1, 0) x28 fun l30 => unn l29 (grd (decide (ni (List.length (l23 ++ l30)) ≤ LIM)) (nam (l23 ++ l30) fun l31 =>
                        Lspec_l8Nodes_3 (IntKind.wrap IntKind.i64 (p0 + 1)) p1 l31)))
                     (br (n7 == 4)
                      (ocall V 147 [(.str s13)] fun x32 l33 =>
                       asOs (1, 0) x32 fun l34 => unn l33 (grd (decide (ni (List.length (l23 ++ l34)) ≤ LIM)) (nam (l23 ++ l34) fun l35 =>
                         Lspec_l8Nodes_3 (IntKind.wrap IntKind.i64 (p0 + 1)) p1 l35)))
                      (br (n7 == 5)
                       (ocall V 95 [(.int .i64 n16)] fun x36 l37 =>
                        asOs (1, 0) x36 fun l38 => unn l37 (grd (decide (ni (List.length (l23 ++ l38)) ≤ LIM)) (nam (l23 ++ l38) fun l39 =>
                          ocall V 95 [(.int .i64 n19)] fun x40 l41 =>
                           asOs (1, 0) x40 fun l42 => unn l41 (grd (decide (ni (List.length (l39 ++ l42)) ≤ LIM)) (nam (l39 ++ l42) fun l43 =>
                             Lspec_l8Nodes_3 (IntKind.wrap IntKind.i64 (p0 + 1)) p1 l43)))))
                       (br (n7 == 6)
                        (ocall V 95 [(.int .i64 n10)] fun x44 l45 =>
                         asOs (1, 0) x44 fun l46 => unn l45 (grd (decide (ni (List.length (l23 ++ l46)) ≤ LIM)) (nam (l23 ++ l46) fun l47 =>
                           ocall V 95 [(.int .i64 n16)] fun x48 l49 =>
                            asOs (1, 0) x48 fun l50 => unn l49 (grd (decide (ni (List.length (l47 ++ l50)) ≤ LIM)) (nam (l47 ++ l50) fun l51 =>
                              Lspec_l8Nodes_3 (IntKind.wrap IntKind.i64 (p0 + 1)) p1 l51)))))
                        (br (n7 == 7)
                         (ocall V 95 [(.int .i64 n16)] fun x52 l53 =>
                          asOs (1, 0) x52 fun l54 => unn l53 (grd (decide (ni (List.length (l23 ++ l54)) ≤ LIM)) (nam (l23 ++ l54) fun l55 =>
                            Lspec_l8Nodes_3 (IntKind.wrap IntKind.i64 (p0 + 1)) p1 l55)))
                         (Lspec_l8Nodes_3 (IntKind.wrap IntKind.i64 (p0 + 1)) p1 l23)))))))
                   (br (n7 == 8)
                    (br (n7 == 8)
                     (ocall V 95 [(.int .i64 n10)] fun x56 l57 =>
                      asOs (1, 0) x56 fun l58 => unn l57 (grd (decide (ni (List.length (l23 ++ l58)) ≤ LIM)) (nam (l23 ++ l58) fun l59 =>
                        Lspec_l8Nodes_3 (IntKind.wrap IntKind.i64 (p0 + 1)) p1 l59)))
                     (br (n7 == 3)
                      (ocall V 95 [(.int .i64 (IntKind.wrap IntKind.i64 (n10 + 1000000000)))] fun x60 l61 =>
                       asOs (1, 0) x60 fun l62 => unn l61 (grd (decide (ni (List.length (l23 ++ l62)) ≤ LIM)) (nam (l23 ++ l62) fun l63 =>
                         Lspec_l8Nodes_3 (IntKind.wrap IntKind.i64 (p0 + 1)) p1 l63)))
                      (br (n7 == 4)
                       (ocall V 147 [(.str s13)] fun x64 l65 =>
                        asOs (1, 0) x64 fun l66 => unn l65 (grd (decide (ni (List.length (l23 ++ l66)) ≤ LIM)) (nam (l23 ++ l66) fun l67 =>
                          Lspec_l8Nodes_3 (IntKind.wrap IntKind.i64 (p0 + 1)) p1 l67)))
                       (br (n7 == 5)
                        (ocall V 95 [(.int .i64 n16)] fun x68 l69 =>
                         asOs (1, 0) x68 fun l70 => unn l69 (grd (decide (ni (List.length (l23 ++ l70)) ≤ LIM)) (nam (l23 ++ l70) fun l71 =>
                           ocall V 95 [(.int .i64 n19)] fun x72 l73 =>
                            asOs (1, 0) x72 fun l74 => unn l73 (grd (decide (ni (List.length (l71 ++ l74)) ≤ LIM)) (nam (l71 ++ l74) fun l75 =>
                              Lspec_l8Nodes_3 (IntKind.wrap IntKind.i64 (p0 + 1)) p1 l75)))))
                        (br (n7 == 6)
                         (ocall V 95 [(.int .i64 n10)] fun x76 l77 =>
                          asOs (1, 0) x76 fun l78 => unn l77 (grd (decide (ni (List.length (l23 ++ l78)) ≤ LIM)) (nam (l23 ++ l78) fun l79 =>
                            ocall V 95 [(.int .i64 n16)] fun x80 l81 =>
                             asOs (1, 0) x80 fun l82 => unn l81 (grd (decide (ni (List.length (l79 ++ l82)) ≤ LIM)) (nam (l79 ++ l82) fun l83 =>
                               Lspec_l8Nodes_3 (IntKind.wrap IntKind.i64 (p0 + 1)) p1 l83)))))
                         (br (n7 == 7)
                          (ocall V 95 [(.int .i64 n16)] fun x84 l85 =>
                           asOs (1, 0) x84 fun l86 => unn l85 (grd (decide (ni (List.length (l23 ++ l86)) ≤ LIM)) (nam (l23 ++ l86) fun l87 =>
                             Lspec_l8Nodes_3 (IntKind.wrap IntKind.i64 (p0 + 1)) p1 l87)))
                          (Lspec_l8Nodes_3 (IntKind.wrap IntKind.i64 (p0 + 1)) p1 l23)))))))
                    (br (n7 == 9)
                     (ocall V 95 [(.int .i64 n10)] fun x88 l89 =>
                      asOs (1, 0) x88 fun l90 => unn l89 (grd (decide (ni (List.length (l23 ++ l90)) ≤ LIM)) (nam (l23 ++ l90) fun l91 =>
                        Lspec_l8Nodes_3 (IntKind.wrap IntKind.i64 (p0 + 1)) p1 l91)))
                     (br (n7 == 3)
                      (ocall V 95 [(.int .i64 (IntKind.wrap IntKind.i64 (n10 + 1000000000)))] fun x92 l93 =>
                       asOs (1, 0) x92 fun l94 => unn l93 (grd (decide (ni (List.length (l23 ++ l94)) ≤ LIM)) (nam (l23 ++ l94) fun l95 =>
                         Lspec_l8Nodes_3 (IntKind.wrap IntKind.i64 (p0 + 1)) p1 l95)))
                      (br (n7 == 4)
                       (ocall V 147 [(.str s13)] fun x96 l97 =>
                        asOs (1, 0) x96 fun l98 => unn l97 (grd (decide (ni (List.length (l23 ++ l98)) ≤ LIM)) (nam (l23 ++ l98) fun l99 =>
                          Lspec_l8Nodes_3 (IntKind.wrap IntKind.i64 (p0 + 1)) p1 l99)))
                       (br (n7 == 5)
                        (ocall V 95 [(.int .i64 n16)] fun x100 l101 =>
                         asOs (1, 0) x100 fun l102 => unn l101 (grd (decide (ni (List.length (l23 ++ l102)) ≤ LIM)) (nam (l23 ++ l102) fun l103 =>
                           ocall V 95 [(.int .i64 n19)] fun x104 l105 =>
                            asOs (1, 0) x104 fun l106 => unn l105 (grd (decide (ni (List.length (l103 ++ l106)) ≤ LIM)) (nam (l103 ++ l106) fun l107 =>
                              Lspec_l8Nodes_3 (IntKind.wrap IntKind.i64 (p0 + 1)) p1 l107)))))
                        (br (n7 == 6)
                         (ocall V 95 [(.int .i64 n10)] fun x108 l109 =>
                          asOs (1, 0) x108 fun l110 => unn l109 (grd (decide (ni (List.length (l23 ++ l110)) ≤ LIM)) (nam (l23 ++ l110) fun l111 =>
                            ocall V 95 [(.int .i64 n16)] fun x112 l113 =>
                             asOs (1, 0) x112 fun l114 => unn l113 (grd (decide (ni (List.length (l111 ++ l114)) ≤ LIM)) (nam (l111 ++ l114) fun l115 =>
                               Lspec_l8Nodes_3 (IntKind.wrap IntKind.i64 (p0 + 1)) p1 l115)))))
                         (br (n7 == 7)
                          (ocall V 95 [(.int .i64 n16)] fun x116 l117 =>
                           asOs (1, 0) x116 fun l118 => unn l117 (grd (decide (ni (List.length (l23 ++ l118)) ≤ LIM)) (nam (l23 ++ l118) fun l119 =>
                             Lspec_l8Nodes_3 (IntKind.wrap IntKind.i64 (p0 + 1)) p1 l119)))
                          (Lspec_l8Nodes_3 (IntKind.wrap IntKind.i64 (p0 + 1)) p1 l23)))))))))))))
   (some ((.os (1, 0) p2), [])) := by
  exact (Rn_eq _ _ _).trans (by kernel_rfl)
theorem espec_Tidy (a0_0 : List D) (a0_1 : Int) (a0_2 : Int) (a0_3 : Int) (a0_4 : Int) (a0_5 : Int) (a0_6 : Int) (a0_7 : Int) : V 94 [.agg [.rs (5, 0) a0_0, .int .i64 a0_1, .int .i64 a0_2, .int .i64 a0_3, .int .i64 a0_4, .int .i64 a0_5, .int .i64 a0_6, .int .i64 a0_7]] =
  br (a0_5 == 1)
   (grd (decide (ni 4 ≤ LIM)) (ocall V 57 [(.agg [(.rs (5, 0) a0_0)]), (.rs (1, 0) [(.int .i64 a0_2), (.int .i64 a0_3), (.int .i64 a0_4), (.int .i64 a0_7)])] fun x0 l1 =>
    asB x0 fun b2 => unn l1 (br (!b2)
      (ocall V 152 [(.agg [(.rs (5, 0) a0_0), (.int .i64 a0_1), (.int .i64 a0_2), (.int .i64 a0_3), (.int .i64 a0_4), (.int .i64 a0_5), (.int .i64 a0_6), (.int .i64 a0_7)])] fun x3 l4 =>
       asAgg x3 fun l5 => unc l5 fun x6 l7 => asOs (5, 0) x6 fun l8 => unc l7 fun x9 l10 => asI .i64 x9 fun n11 => unc l10 fun x12 l13 => asI .i64 x12 fun n14 => unc l13 fun x15 l16 => asI .i64 x15 fun n17 => unc l16 fun x18 l19 => asI .i64 x18 fun n20 => unc l19 fun x21 l22 => asI .i64 x21 fun n23 => unc l22 fun x24 l25 => asI .i64 x24 fun n26 => unc l25 fun x27 l28 => asI .i64 x27 fun n29 => unn l28 (unn l4 (some ((.agg [(.os (5, 0) l8), (.int .i64 n11), (.int .i64 n14), (.int .i64 n17), (.int .i64 n20), (.int .i64 n23), (.int .i64 n26), (.int .i64 n29)]), []))))
      (ocall V 58 [(.agg [(.rs (5, 0) a0_0)]), (.rs (1, 0) [(.int .i64 a0_2), (.int .i64 a0_3), (.int .i64 a0_4), (.int .i64 a0_7)])] fun x30 l31 =>
       asTup x30 fun l32 => unc l32 fun x33 l34 => asAgg x33 fun l35 => unc l35 fun x36 l37 => asOs (5, 0) x36 fun l38 => unn l37 (unc l34 fun x39 l40 => asOs (1, 0) x39 fun l41 => unn l40 (unn l31 (grd (decide (0 ≤ 0) && decide (0 < ni (List.length l41))) (oget l41 0 fun x42 =>
               asI .i64 x42 fun n43 => grd (decide (0 ≤ 1) && decide (1 < ni (List.length l41))) (oget l41 1 fun x44 =>
                 asI .i64 x44 fun n45 => grd (decide (0 ≤ 2) && decide (2 < ni (List.length l41))) (oget l41 2 fun x46 =>
                   asI .i64 x46 fun n47 => grd (decide (0 ≤ 3) && decide (3 < ni (List.length l41))) (oget l41 3 fun x48 =>
                     asI .i64 x48 fun n49 => some ((.agg [(.os (5, 0) l38), (.int .i64 a0_1), (.int .i64 n43), (.int .i64 n45), (.int .i64 n47), (.int .i64 a0_5), (.int .i64 a0_6), (.int .i64 n49)]), []))))))))))))
   (br (a0_5 == 2)
    (grd (decide (ni 4 ≤ LIM)) (ocall V 57 [(.agg [(.rs (5, 0) a0_0)]), (.rs (1, 0) [(.int .i64 a0_2), (.int .i64 a0_3), (.int .i64 a0_4), (.int .i64 a0_7)])] fun x50 l51 =>
     asB x50 fun b52 => unn l51 (br (!b52)
       (ocall V 152 [(.agg [(.rs (5, 0) a0_0), (.int .i64 a0_1), (.int .i64 a0_2), (.int .i64 a0_3), (.int .i64 a0_4), (.int .i64 a0_5), (.int .i64 a0_6), (.int .i64 a0_7)])] fun x53 l54 =>
        asAgg x53 fun l55 => unc l55 fun x56 l57 => asOs (5, 0) x56 fun l58 => unc l57 fun x59 l60 => asI .i64 x59 fun n61 => unc l60 fun x62 l63 => asI .i64 x62 fun n64 => unc l63 fun x65 l66 => asI .i64 x65 fun n67 => unc l66 fun x68 l69 => asI .i64 x68 fun n70 => unc l69 fun x71 l72 => asI .i64 x71 fun n73 => unc l72 fun x74 l75 => asI .i64 x74 fun n76 => unc l75 fun x77 l78 => asI .i64 x77 fun n79 => unn l78 (unn l54 (some ((.agg [(.os (5, 0) l58), (.int .i64 n61), (.int .i64 n64), (.int .i64 n67), (.int .i64 n70), (.int .i64 n73), (.int .i64 n76), (.int .i64 n79)]), []))))
       (ocall V 58 [(.agg [(.rs (5, 0) a0_0)]), (.rs (1, 0) [(.int .i64 a0_2), (.int .i64 a0_3), (.int .i64 a0_4), (.int .i64 a0_7)])] fun x80 l81 =>
        asTup x80 fun l82 => unc l82 fun x83 l84 => asAgg x83 fun l85 => unc l85 fun x86 l87 => asOs (5, 0) x86 fun l88 => unn l87 (unc l84 fun x89 l90 => asOs (1, 0) x89 fun l91 => unn l90 (unn l81 (grd (decide (0 ≤ 0) && decide (0 < ni (List.length l91))) (oget l91 0 fun x92 =>
                asI .i64 x92 fun n93 => grd (decide (0 ≤ 1) && decide (1 < ni (List.length l91))) (oget l91 1 fun x94 =>
                  asI .i64 x94 fun n95 => grd (decide (0 ≤ 2) && decide (2 < ni (List.length l91))) (oget l91 2 fun x96 =>
                    asI .i64 x96 fun n97 => br (a0_5 == 2)
                      (grd (decide (0 ≤ 3) && decide (3 < ni (List.length l91))) (oget l91 3 fun x98 =>
                       asI .i64 x98 fun n99 => some ((.agg [(.os (5, 0) l88), (.int .i64 a0_1), (.int .i64 n93), (.int .i64 n95), (.int .i64 n97), (.int .i64 a0_5), (.int .i64 a0_6), (.int .i64 n99)]), [])))
                      (some ((.agg [(.os (5, 0) l88), (.int .i64 a0_1), (.int .i64 n93), (.int .i64 n95), (.int .i64 n97), (.int .i64 a0_5), (.int .i64 a0_6), (.int .i64 a0_7)]), []))))))))))))
    (ocall V 57 [(.agg [(.rs (5, 0) a0_0)]), (.rs (1, 0) [(.int .i64 a0_2), (.int .i64 a0_3), (.int .i64 a0_4)])] fun x100 l101 =>
     asB x100 fun b102 => unn l101 (br (!b102)
       (ocall V 152 [(.agg [(.rs (5, 0) a0_0), (.int .i64 a0_1), (.int .i64 a0_2), (.int .i64 a0_3), (.int .i64 a0_4), (.int .i64 a0_5), (.int .i64 a0_6), (.int .i64 a0_7)])] fun x103 l104 =>
        asAgg x103 fun l105 => unc l105 fun x106 l107 => asOs (5, 0) x106 fun l108 => unc l107 fun x109 l110 => asI .i64 x109 fun n111 => unc l110 fun x112 l113 => asI .i64 x112 fun n114 => unc l113 fun x115 l116 => asI .i64 x115 fun n117 => unc l116 fun x118 l119 => asI .i64 x118 fun n120 => unc l119 fun x121 l122 => asI .i64 x121 fun n123 => unc l122 fun x124 l125 => asI .i64 x124 fun n126 => unc l125 fun x127 l128 => asI .i64 x127 fun n129 => unn l128 (unn l104 (some ((.agg [(.os (5, 0) l108), (.int .i64 n111), (.int .i64 n114), (.int .i64 n117), (.int .i64 n120), (.int .i64 n123), (.int .i64 n126), (.int .i64 n129)]), []))))
       (ocall V 58 [(.agg [(.rs (5, 0) a0_0)]), (.rs (1, 0) [(.int .i64 a0_2), (.int .i64 a0_3), (.int .i64 a0_4)])] fun x130 l131 =>
        asTup x130 fun l132 => unc l132 fun x133 l134 => asAgg x133 fun l135 => unc l135 fun x136 l137 => asOs (5, 0) x136 fun l138 => unn l137 (unc l134 fun x139 l140 => asOs (1, 0) x139 fun l141 => unn l140 (unn l131 (grd (decide (0 ≤ 0) && decide (0 < ni (List.length l141))) (oget l141 0 fun x142 =>
                asI .i64 x142 fun n143 => grd (decide (0 ≤ 1) && decide (1 < ni (List.length l141))) (oget l141 1 fun x144 =>
                  asI .i64 x144 fun n145 => grd (decide (0 ≤ 2) && decide (2 < ni (List.length l141))) (oget l141 2 fun x146 =>
                    asI .i64 x146 fun n147 => br (a0_5 == 2)
                      (grd (decide (0 ≤ 3) && decide (3 < ni (List.length l141))) (oget l141 3 fun x148 =>
                       asI .i64 x148 fun n149 => some ((.agg [(.os (5, 0) l138), (.int .i64 a0_1), (.int .i64 n143), (.int .i64 n145), (.int .i64 n147), (.int .i64 a0_5), (.int .i64 a0_6), (.int .i64 n149)]), [])))
                      (some ((.agg [(.os (5, 0) l138), (.int .i64 a0_1), (.int .i64 n143), (.int .i64 n145), (.int .i64 n147), (.int .i64 a0_5), (.int .i64 a0_6), (.int .i64 a0_7)]), [])))))))))))) := by
  exact (Vn_eq Try.func94 rfl _).trans (by kernel_rfl)
theorem Lspec_Read_27_eq (p0 : ByteArray) (p1 : Int) (p2 : Int) (p3 : Int) (p4 : List D) (p5 : List D) (p6 : List D) (p7 : List D) : Lspec_Read_27 p0 p1 p2 p3 p4 p5 p6 p7 =
  br (decide (p1 < ni (ByteArray.size p0)))
   (grd (decide (0 ≤ p1) && decide (p1 < ni (ByteArray.size p0))) (ocall V 73 [(.int .u8 (bt p0 p1))] fun x143 l144 =>
    asB x143 fun b145 => unn l144 (br b145
      (Lspec_Read_27 p0 (IntKind.wrap IntKind.i64 (p1 + 1)) p2 p3 p4 p5 p6 p7)
      (grd (cutOk (ByteArray.size p0) (some p3) (some p1)) (ocall V 74 [(.str (ByteArray.extract p0 (Int.toNat p3) (Int.toNat p1)))] fun x146 l147 =>
       asTup x146 fun l148 => unc l148 fun x149 l150 => asAgg x149 fun l151 => unc l151 fun x152 l153 => asI .i64 x152 fun n154 => unc l153 fun x155 l156 => asI .i64 x155 fun n157 => unc l156 fun x158 l159 => asS x158 fun s160 => unc l159 fun x161 l162 => asI .i64 x161 fun n163 => unc l162 fun x164 l165 => asI .i64 x164 fun n166 => unn l165 (unc l150 fun x167 l168 => asB x167 fun b169 => unn l168 (unn l147 (br (!b169)
                       (ocall V 71 [(.agg [(.rs (5, 0) p4)])] fun x170 l171 =>
                        asAgg x170 fun l172 => unc l172 fun x173 l174 => asOs (5, 0) x173 fun l175 => unn l174 (unn l171 (some ((.tup [(.agg [(.os (5, 0) l175)]), (.os (1, 0) p5), (.int .i64 (3)), (.int .i64 p3)]), []))))
                       (grd (decide (0 ≤ p2) && decide (p2 < ni (List.length p6))) (oget p6 (Int.toNat p2) fun x176 =>
                        asAgg x176 fun l177 => oget l177 1 fun x178 =>
                          asOs (1, 0) x178 fun l179 => asAgg x176 fun l180 => ocall V 75 [(.op [(.os (5, 0) p7)]), (.agg [(.int .i64 n154), (.int .i64 n157), (.str s160), (.int .i64 n163), (.int .i64 n166)])] fun x181 l182 =>
                             asI .i64 x181 fun n183 => unc l182 fun x184 l185 => asOp x184 fun l186 => unc l186 fun x187 l188 => asOs (5, 0) x187 fun l189 => unn l188 (unn l185 (grd (decide (ni (List.length (l179 ++ [D.int IntKind.i64 n183])) ≤ LIM)) (nam (l179 ++ [D.int IntKind.i64 n183]) fun l190 =>
                                   grd (decide (0 ≤ p2) && decide (p2 < ni (List.length (List.set p6 (Int.toNat p2) (D.agg (List.take 1 l180 ++ [D.dead] ++ List.drop 2 l180)))))) (oget (List.set p6 (Int.toNat p2) (D.agg (List.take 1 l180 ++ [D.dead] ++ List.drop 2 l180))) (Int.toNat p2) fun x191 =>
                                    asAgg x191 fun l192 => nam (List.set (List.set p6 (Int.toNat p2) (D.agg (List.take 1 l180 ++ [D.dead] ++ List.drop 2 l180))) (Int.toNat p2)
  (D.agg
    (List.take 1 l192 ++
        [D.os
            (TypeInfo.size (Tables.types (Program.toTables Try.prog))[3],
              match flat Try.prog (3) with
              | true => 0
              | false => 1)
            l190] ++
      List.drop 2 l192))) fun l193 =>
                                      Lspec_Read_9 p0 p1 p4 p5 l193 l189))))))))))))))
   (grd (cutOk (ByteArray.size p0) (some p3) (some p1)) (ocall V 74 [(.str (ByteArray.extract p0 (Int.toNat p3) (Int.toNat p1)))] fun x194 l195 =>
    asTup x194 fun l196 => unc l196 fun x197 l198 => asAgg x197 fun l199 => unc l199 fun x200 l201 => asI .i64 x200 fun n202 => unc l201 fun x203 l204 => asI .i64 x203 fun n205 => unc l204 fun x206 l207 => asS x206 fun s208 => unc l207 fun x209 l210 => asI .i64 x209 fun n211 => unc l210 fun x212 l213 => asI .i64 x212 fun n214 => unn l213 (unc l198 fun x215 l216 => asB x215 fun b217 => unn l216 (unn l195 (br (!b217)
                    (ocall V 71 [(.agg [(.rs (5, 0) p4)])] fun x218 l219 =>
                     asAgg x218 fun l220 => unc l220 fun x221 l222 => asOs (5, 0) x221 fun l223 => unn l222 (unn l219 (some ((.tup [(.agg [(.os (5, 0) l223)]), (.os (1, 0) p5), (.int .i64 (3)), (.int .i64 p3)]), []))))
                    (grd (decide (0 ≤ p2) && decide (p2 < ni (List.length p6))) (oget p6 (Int.toNat p2) fun x224 =>
                     asAgg x224 fun l225 => oget l225 1 fun x226 =>
                       asOs (1, 0) x226 fun l227 => asAgg x224 fun l228 => ocall V 75 [(.op [(.os (5, 0) p7)]), (.agg [(.int .i64 n202), (.int .i64 n205), (.str s208), (.int .i64 n211), (.int .i64 n214)])] fun x229 l230 =>
                          asI .i64 x229 fun n231 => unc l230 fun x232 l233 => asOp x232 fun l234 => unc l234 fun x235 l236 => asOs (5, 0) x235 fun l237 => unn l236 (unn l233 (grd (decide (ni (List.length (l227 ++ [D.int IntKind.i64 n231])) ≤ LIM)) (nam (l227 ++ [D.int IntKind.i64 n231]) fun l238 =>
                                grd (decide (0 ≤ p2) && decide (p2 < ni (List.length (List.set p6 (Int.toNat p2) (D.agg (List.take 1 l228 ++ [D.dead] ++ List.drop 2 l228)))))) (oget (List.set p6 (Int.toNat p2) (D.agg (List.take 1 l228 ++ [D.dead] ++ List.drop 2 l228))) (Int.toNat p2) fun x239 =>
                                 asAgg x239 fun l240 => nam (List.set (List.set p6 (Int.toNat p2) (D.agg (List.take 1 l228 ++ [D.dead] ++ List.drop 2 l228))) (Int.toNat p2)
  (D.agg
    (List.take 1 l240 ++
        [D.os
            (TypeInfo.size (Tables.types (Program.toTables Try.prog))[3],
              match flat Try.prog (3) with
              | true => 0
              | false => 1)
            l238] ++
      List.drop 2 l240))) fun l241 =>
                                   Lspec_Read_9 p0 p1 p4 p5 l241 l237))))))))))) := by
  exact (Rn_eq _ _ _).trans (by kernel_rfl)
theorem espec_l2Node (a0_0 : Int) (a0_1 : Int) (a0_2 : ByteArray) (a0_3 : Int) (a0_4 : Int) (a1_ : Int) : V 125 [.agg [.int .i64 a0_0, .int .i64 a0_1, .str a0_2, .int .i64 a0_3, .int .i64 a0_4], .int .i64 a1_] =
  ocall V 104 [(.int .i64 a0_3), (.int .i64 (0)), (.int .i64 (IntKind.wrap IntKind.i64 (a1_ - 1)))] fun x0 l1 =>
   asB x0 fun b2 => unn l1 (ocall V 104 [(.int .i64 a0_4), (.int .i64 (0)), (.int .i64 (IntKind.wrap IntKind.i64 (a1_ - 1)))] fun x3 l4 =>
     asB x3 fun b5 => unn l4 (br (a0_0 == 1)
       (some ((.bool (a0_0 == 1 && (a0_1 == 0 && (strEq a0_2 { data := #[] } && (a0_3 == 0 && (a0_4 == 0 && true)))))), []))
       (br (a0_0 == 2)
        (ocall V 104 [(.int .i64 a0_1), (.int .i64 (0)), (.int .i64 (1))] fun x6 l7 =>
         asB x6 fun b8 => unn l7 (br b8
           (some ((.bool (a0_0 == 2 && (a0_1 == a0_1 && (strEq a0_2 { data := #[] } && (a0_3 == 0 && (a0_4 == 0 && true)))))), []))
           (some ((.bool false), []))))
        (br (a0_0 == 3)
         (ocall V 104 [(.int .i64 a0_1), (.int .i64 (-1000000000)), (.int .i64 (1000000000))] fun x9 l10 =>
          asB x9 fun b11 => unn l10 (br b11
            (some ((.bool (a0_0 == 3 && (a0_1 == a0_1 && (strEq a0_2 { data := #[] } && (a0_3 == 0 && (a0_4 == 0 && true)))))), []))
            (some ((.bool false), []))))
         (br (a0_0 == 4)
          (ocall V 131 [(.str a0_2)] fun x12 l13 =>
           asB x12 fun b14 => unn l13 (br b14
             (some ((.bool (a0_0 == 4 && (a0_1 == 0 && (strEq a0_2 a0_2 && (a0_3 == 0 && (a0_4 == 0 && true)))))), []))
             (some ((.bool false), []))))
          (br (a0_0 == 5)
           (br b2
            (br b5
             (br (a0_1 == 0)
              (some ((.bool (strEq a0_2 { data := #[] })), []))
              (some ((.bool false), [])))
             (some ((.bool false), [])))
            (some ((.bool false), [])))
           (br (a0_0 == 6)
            (br b2
             (ocall V 104 [(.int .i64 a0_1), (.int .i64 (0)), (.int .i64 (1000000000))] fun x15 l16 =>
              asB x15 fun b17 => unn l16 (br b17
                (br (a0_4 == 0)
                 (some ((.bool (strEq a0_2 { data := #[] })), []))
                 (some ((.bool false), [])))
                (some ((.bool false), []))))
             (some ((.bool false), [])))
            (br (a0_0 == 7)
             (br b2
              (br (a0_1 == 0)
               (br (a0_4 == 0)
                (some ((.bool (strEq a0_2 { data := #[] })), []))
                (some ((.bool false), [])))
               (some ((.bool false), [])))
              (some ((.bool false), [])))
             (br (a0_0 == 8)
              (ocall V 104 [(.int .i64 a0_1), (.int .i64 (0)), (.int .i64 (99))] fun x18 l19 =>
               asB x18 fun b20 => unn l19 (br b20
                 (some ((.bool (a0_0 == 8 && (a0_1 == a0_1 && (strEq a0_2 { data := #[] } && (a0_3 == 0 && (a0_4 == 0 && true)))))), []))
                 (some ((.bool false), []))))
              (br (a0_0 == 9)
               (ocall V 104 [(.int .i64 a0_1), (.int .i64 (0)), (.int .i64 (1000000000))] fun x21 l22 =>
                asB x21 fun b23 => unn l22 (br b23
                  (some ((.bool (a0_0 == 9 && (a0_1 == a0_1 && (strEq a0_2 { data := #[] } && (a0_3 == 0 && (a0_4 == 0 && true)))))), []))
                  (some ((.bool false), []))))
               (some ((.bool false), [])))))))))))) := by
  exact (Vn_eq Try.func125 rfl _).trans (by kernel_rfl)
theorem eimpl_MachineOk (a0_0 : List D) (a0_1 : List D) (a0_2 : List D) (a1_0 : List D) (a1_1 : Int) (a1_2 : Int) (a1_3 : Int) (a1_4 : Int) (a1_5 : Int) (a1_6 : Int) (a1_7 : Int) : V 98 [.agg [.rs (5, 0) a0_0, .rs (4, 0) a0_1, .rs (3, 0) a0_2], .agg [.rs (5, 0) a1_0, .int .i64 a1_1, .int .i64 a1_2, .int .i64 a1_3, .int .i64 a1_4, .int .i64 a1_5, .int .i64 a1_6, .int .i64 a1_7]] =
  ocall V 155 [(.agg [(.rs (5, 0) a0_0), (.rs (4, 0) a0_1), (.rs (3, 0) a0_2)])] fun x0 l1 =>
   asB x0 fun b2 => unn l1 (br (!b2)
     (some ((.bool false), []))
     (ocall V 18 [(.agg [(.rs (5, 0) a1_0)])] fun x3 l4 =>
      asB x3 fun b5 => unn l4 (br (!b5)
        (some ((.bool false), []))
        (ocall V 59 [(.agg [(.rs (5, 0) a1_0)]), (.int .i64 a1_2)] fun x6 l7 =>
         asB x6 fun b8 => unn l7 (br (!b8)
           (some ((.bool false), []))
           (ocall V 59 [(.agg [(.rs (5, 0) a1_0)]), (.int .i64 a1_3)] fun x9 l10 =>
            asB x9 fun b11 => unn l10 (br (!b11)
              (some ((.bool false), []))
              (ocall V 59 [(.agg [(.rs (5, 0) a1_0)]), (.int .i64 a1_4)] fun x12 l13 =>
               asB x12 fun b14 => unn l13 (br (!b14)
                 (some ((.bool false), []))
                 (br (a1_5 == 0)
                  (ocall V 156 [(.agg [(.rs (5, 0) a0_0), (.rs (4, 0) a0_1), (.rs (3, 0) a0_2)]), (.int .i64 a1_1)] fun x15 l16 =>
                   asB x15 fun b17 => unn l16 (br b17
                     (br (a1_6 == 0)
                      (some ((.bool (a1_7 == 0)), []))
                      (some ((.bool false), [])))
                     (some ((.bool false), []))))
                  (br (a1_5 == 1)
                   (ocall V 156 [(.agg [(.rs (5, 0) a0_0), (.rs (4, 0) a0_1), (.rs (3, 0) a0_2)]), (.int .i64 a1_1)] fun x18 l19 =>
                    asB x18 fun b20 => unn l19 (br b20
                      (ocall V 106 [(.int .i64 a1_6), (.int .i64 (13)), (.int .i64 (19))] fun x21 l22 =>
                       asB x21 fun b23 => unn l22 (br b23
                         (br (a1_6 != 18)
                          (ocall V 59 [(.agg [(.rs (5, 0) a1_0)]), (.int .i64 a1_7)] fun x24 l25 =>
                           asB x24 fun b26 => unn l25 (some ((.bool b26), [])))
                          (some ((.bool false), [])))
                         (some ((.bool false), []))))
                      (some ((.bool false), []))))
                   (br (a1_5 == 2)
                    (br (a1_1 == 0)
                     (br (a1_6 == 0)
                      (ocall V 59 [(.agg [(.rs (5, 0) a1_0)]), (.int .i64 a1_7)] fun x27 l28 =>
                       asB x27 fun b29 => unn l28 (some ((.bool b29), [])))
                      (some ((.bool false), [])))
                     (some ((.bool false), [])))
                    (br (a1_5 == 3)
                     (br (a1_1 == 0)
                      (ocall V 106 [(.int .i64 a1_6), (.int .i64 (1)), (.int .i64 (7))] fun x30 l31 =>
                       asB x30 fun b32 => unn l31 (br b32
                         (some ((.bool (a1_7 == 0)), []))
                         (some ((.bool false), []))))
                      (some ((.bool false), [])))
                     (some ((.bool false), []))))))))))))))) := by
  exact (Vn_eq Try.func98 rfl _).trans (by kernel_rfl)
theorem Limpl_GetNum_5_eq (p0 : List D) (p1 : Int) (p2 : Int) (p3 : Int) : Limpl_GetNum_5 p0 p1 p2 p3 =
  br (decide (p3 < 9))
   (br (decide (IntKind.wrap IntKind.i64 (p1 + p3) < ni (List.length p0)))
    (grd (decide (0 ≤ IntKind.wrap IntKind.i64 (p1 + p3)) && decide (IntKind.wrap IntKind.i64 (p1 + p3) < ni (List.length p0))) (oget p0 (Int.toNat (IntKind.wrap IntKind.i64 (p1 + p3))) fun x3 =>
     asI .u8 x3 fun n4 => grd (!decide (128 = 0)) (grd (!decide (IntKind.wrap IntKind.i64 (7 * p3) < 0)) (br (decide (n4 < 128))
       (br (n4 == 0)
        (br (decide (p3 > 0))
         (some ((.tup [(.int .i64 (0)), (.int .i64 (0)), (.bool false)]), []))
         (some ((.tup [(.int .i64 (IntKind.wrap IntKind.i64 (ni (BitVec.toNat (BitVec.ofInt (IntKind.bits IntKind.i64) p2 ||| BitVec.ofInt (IntKind.bits IntKind.i64) (IntKind.wrap IntKind.i64 (IntKind.wrap IntKind.i64 (Int.tmod n4 (128)) * 2 ^ min (Int.toNat (IntKind.wrap IntKind.i64 (7 * p3))) (IntKind.bits IntKind.i64)))))))), (.int .i64 (IntKind.wrap IntKind.i64 (IntKind.wrap IntKind.i64 (p1 + p3) + 1))), (.bool true)]), [])))
        (some ((.tup [(.int .i64 (IntKind.wrap IntKind.i64 (ni (BitVec.toNat (BitVec.ofInt (IntKind.bits IntKind.i64) p2 ||| BitVec.ofInt (IntKind.bits IntKind.i64) (IntKind.wrap IntKind.i64 (IntKind.wrap IntKind.i64 (Int.tmod n4 (128)) * 2 ^ min (Int.toNat (IntKind.wrap IntKind.i64 (7 * p3))) (IntKind.bits IntKind.i64)))))))), (.int .i64 (IntKind.wrap IntKind.i64 (IntKind.wrap IntKind.i64 (p1 + p3) + 1))), (.bool true)]), [])))
       (Limpl_GetNum_5 p0 p1 (IntKind.wrap IntKind.i64 (ni (BitVec.toNat (BitVec.ofInt (IntKind.bits IntKind.i64) p2 ||| BitVec.ofInt (IntKind.bits IntKind.i64) (IntKind.wrap IntKind.i64 (IntKind.wrap IntKind.i64 (Int.tmod n4 (128)) * 2 ^ min (Int.toNat (IntKind.wrap IntKind.i64 (7 * p3))) (IntKind.bits IntKind.i64))))))) (IntKind.wrap IntKind.i64 (p3 + 1)))))))
    (some ((.tup [(.int .i64 (0)), (.int .i64 (0)), (.bool false)]), [])))
   (some ((.tup [(.int .i64 (0)), (.int .i64 (0)), (.bool false)]), [])) := by
  exact (Rn_eq _ _ _).trans (by kernel_rfl)
theorem eimpl_reading_close (p : List D) (o : List D) (t : List D)  : V 134 [.op [.os (5, 0) p, .os (1, 2) o, .os (1, 0) t]] =
  br (IntKind.wrap IntKind.i64 (ni (List.length o) - 1) == 0)
   (some ((.bool false), [(.op [(.os (5, 0) p), (.os (1, 2) o), (.os (1, 0) t)])]))
   (grd (decide (0 ≤ IntKind.wrap IntKind.i64 (ni (List.length o) - 1)) && decide (IntKind.wrap IntKind.i64 (ni (List.length o) - 1) < ni (List.length o))) (oget o (Int.toNat (IntKind.wrap IntKind.i64 (ni (List.length o) - 1))) fun x0 =>
    asOs (1, 0) x0 fun l1 => ocall V 164 [(.op [(.os (5, 0) p)]), (.rs (1, 0) l1)] fun x2 l3 =>
      asI .i64 x2 fun n4 => unc l3 fun x5 l6 => asOp x5 fun l7 => unc l7 fun x8 l9 => asOs (5, 0) x8 fun l10 => unn l9 (unn l6 (grd (cutOk (List.length (List.set o (Int.toNat (IntKind.wrap IntKind.i64 (ni (List.length o) - 1))) D.dead)) none (some (IntKind.wrap IntKind.i64 (ni (List.length o) - 1)))) (grd (cutOk (List.length t) none (some (IntKind.wrap IntKind.i64 (ni (List.length t) - 1)))) (ocall V 137 [(.op [(.os (5, 0) l10), (.os (1, 2) (part (List.set o (Int.toNat (IntKind.wrap IntKind.i64 (ni (List.length o) - 1))) D.dead) (some (0, Int.toNat (IntKind.wrap IntKind.i64 (ni (List.length o) - 1)))))), (.os (1, 0) (part t (some (0, Int.toNat (IntKind.wrap IntKind.i64 (ni (List.length t) - 1))))))]), (.int .i64 n4)] fun x11 l12 =>
            asTup x11 fun l13 => unn l13 (unc l12 fun x14 l15 => asOp x14 fun l16 => unc l16 fun x17 l18 => asOs (5, 0) x17 fun l19 => unc l18 fun x20 l21 => asOs (1, 2) x20 fun l22 => unc l21 fun x23 l24 => asOs (1, 0) x23 fun l25 => unn l24 (unn l15 (some ((.bool true), [(.op [(.os (5, 0) l19), (.os (1, 2) l22), (.os (1, 0) l25)])])))))))))) := by
  exact (Vn_eq Try.func134 rfl _).trans (by kernel_rfl)
theorem eimpl_Write (a0_0 : List D) (a1_ : Int) : V 16 [.agg [.rs (5, 0) a0_0], .int .i64 a1_] =
  ocall V 18 [(.agg [(.rs (5, 0) a0_0)])] fun x0 l1 =>
   asB x0 fun b2 => unn l1 (br (!b2)
     (some ((.str ({ data := #[] })), []))
     (ocall V 59 [(.agg [(.rs (5, 0) a0_0)]), (.int .i64 a1_)] fun x3 l4 =>
      asB x3 fun b5 => unn l4 (br (!b5)
        (some ((.str ({ data := #[] })), []))
        (grd (decide (0 ≤ a1_) && decide (a1_ < ni (List.length a0_0))) (oget a0_0 (Int.toNat a1_) fun x6 =>
         asAgg x6 fun l7 => oget l7 0 fun x8 =>
           asI .i64 x8 fun n9 => br (n9 == 1)
             (some ((.str ({ data := #[40, 41] })), []))
             (ocall V 60 [(.op [(.rs (5, 0) a0_0), (.os (1, 0) [])]), (.int .i64 a1_)] fun x10 l11 =>
              asTup x10 fun l12 => unn l12 (unc l11 fun x13 l14 => asOp x13 fun l15 => unc l15 fun x16 l17 => asRs (5, 0) x16 fun l18 => unc l17 fun x19 l20 => asOs (1, 0) x19 fun l21 => unn l20 (unn l14 (ocall V 61 [(.op [(.rs (5, 0) l18), (.os (1, 0) l21)])] fun x22 l23 =>
                      asB x22 fun b24 => unc l23 fun x25 l26 => asOp x25 fun l27 => unc l27 fun x28 l29 => asRs (5, 0) x28 fun _ => unc l29 fun x31 l32 => asOs (1, 0) x31 fun l33 => unn l32 (unn l26 (br b24
                              (some ((.str ({ data := #[] })), []))
                              (obytes l33 fun s34 => some ((.str s34), []))))))))))))) := by
  exact (Vn_eq Try.func16 rfl _).trans (by kernel_rfl)
theorem espec_Read (a0_0 : List D) (a1_ : ByteArray) : V 22 [.agg [.rs (5, 0) a0_0], .str a1_] =
  ocall V 67 [(.agg [(.rs (5, 0) a0_0)])] fun x0 l1 =>
   asB x0 fun b2 => unn l1 (br (!b2)
     (some ((.tup [(.agg [(.os (5, 0) [])]), (.os (1, 0) []), (.int .i64 (6)), (.int .i64 (0))]), []))
     (br (decide (ni (ByteArray.size a1_) > 400))
      (ocall V 71 [(.agg [(.rs (5, 0) a0_0)])] fun x3 l4 =>
       asAgg x3 fun l5 => unc l5 fun x6 l7 => asOs (5, 0) x6 fun l8 => unn l7 (unn l4 (some ((.tup [(.agg [(.os (5, 0) l8)]), (.os (1, 0) []), (.int .i64 (1)), (.int .i64 (0))]), []))))
      (ocall V 71 [(.agg [(.rs (5, 0) a0_0)])] fun x9 l10 =>
       asAgg x9 fun l11 => unc l11 fun x12 l13 => asOs (5, 0) x12 fun l14 => unn l13 (unn l10 (Lspec_Read_9 a1_ (0) a0_0 [] ([D.agg
    [D.int IntKind.i64 (0),
      D.os
        (TypeInfo.size (Tables.types (Program.toTables Try.prog))[3],
          match flat Try.prog (3) with
          | true => 0
          | false => 1)
        []]]) l14))))) := by
  exact (Vn_eq Try.func22 rfl _).trans (by kernel_rfl)
theorem Llaws_szInstrS_5_eq (p0 : List D) (p1 : Int) (p2 : Int) : Llaws_szInstrS_5 p0 p1 p2 =
  br (decide (p2 < ni (List.length p0)))
   (grd (decide (0 ≤ p2) && decide (p2 < ni (List.length p0))) (oget p0 (Int.toNat p2) fun x0 =>
    asAgg x0 fun l1 => unc l1 fun x2 l3 => asI .i64 x2 fun n4 => unc l3 fun x5 l6 => asI .i64 x5 fun n7 => unc l6 fun x8 l9 => asI .i64 x8 fun n10 => unc l9 fun x11 l12 => asS x11 fun s13 => unn l12 (ocall V 149 [(.agg [(.int .i64 n4), (.int .i64 n7), (.int .i64 n10), (.str s13)]), (.int .i64 p1)] fun x14 l15 =>
              asI .i64 x14 fun n16 => unn l15 (br (decide (n16 < 0))
                (some ((.int .i64 (-1)), []))
                (Llaws_szInstrS_5 p0 n16 (IntKind.wrap IntKind.i64 (p2 + 1)))))))
   (some ((.int .i64 p1), [])) := by
  exact (Rn_eq _ _ _).trans (by kernel_rfl)
theorem eimpl_isNameByte (a0_ : Int) : V 163 [.int .u8 a0_] =
  br (decide (a0_ ≥ 97))
   (br (decide (a0_ ≤ 122))
    (some ((.bool true), []))
    (grd (decide (0 < 8)) (ocall V 175 [(.rs (1, 0) [(.int .u8 (43)), (.int .u8 (45)), (.int .u8 (42)), (.int .u8 (60)), (.int .u8 (61)), (.int .u8 (63)), (.int .u8 (33)), (.int .u8 (47))]), (.int .u8 a0_)] fun x0 l1 =>
     asB x0 fun b2 => unn l1 (some ((.bool b2), [])))))
   (grd (decide (0 < 8)) (ocall V 175 [(.rs (1, 0) [(.int .u8 (43)), (.int .u8 (45)), (.int .u8 (42)), (.int .u8 (60)), (.int .u8 (61)), (.int .u8 (63)), (.int .u8 (33)), (.int .u8 (47))]), (.int .u8 a0_)] fun x3 l4 =>
    asB x3 fun b5 => unn l4 (some ((.bool b5), [])))) := by
  exact (Vn_eq Try.func163 rfl _).trans (by kernel_rfl)
theorem Lspec_PutNum_4_eq (p0 : Int) (p1 : List D) : Lspec_PutNum_4 p0 p1 =
  br (decide (p0 > 127))
   (grd (!decide (128 = 0)) (grd (decide (ni (List.length (p1 ++ [D.int IntKind.u8 (IntKind.wrap IntKind.u8 (IntKind.wrap IntKind.i64 (Int.tmod p0 (128) + 128)))])) ≤ LIM)) (nam (p1 ++ [D.int IntKind.u8 (IntKind.wrap IntKind.u8 (IntKind.wrap IntKind.i64 (Int.tmod p0 (128) + 128)))]) fun l0 =>
    grd (!decide (128 = 0)) (Lspec_PutNum_4 (IntKind.wrap IntKind.i64 (Int.tdiv p0 (128))) l0))))
   (grd (decide (ni (List.length (p1 ++ [D.int IntKind.u8 (IntKind.wrap IntKind.u8 p0)])) ≤ LIM)) (nam (p1 ++ [D.int IntKind.u8 (IntKind.wrap IntKind.u8 p0)]) fun l1 =>
    some ((.os (1, 0) l1), []))) := by
  exact (Rn_eq _ _ _).trans (by kernel_rfl)
theorem elaws_eqNode (a0_0 : Int) (a0_1 : Int) (a0_2 : ByteArray) (a0_3 : Int) (a0_4 : Int) (a1_0 : Int) (a1_1 : Int) (a1_2 : ByteArray) (a1_3 : Int) (a1_4 : Int) : V 139 [.agg [.int .i64 a0_0, .int .i64 a0_1, .str a0_2, .int .i64 a0_3, .int .i64 a0_4], .agg [.int .i64 a1_0, .int .i64 a1_1, .str a1_2, .int .i64 a1_3, .int .i64 a1_4]] =
  br (a0_0 != a1_0)
   (some ((.bool false), []))
   (br (a0_1 != a1_1)
    (some ((.bool false), []))
    (br (!strEq a0_2 a1_2)
     (some ((.bool false), []))
     (br (a0_3 != a1_3)
      (some ((.bool false), []))
      (br (a0_4 != a1_4)
       (some ((.bool false), []))
       (some ((.bool true), [])))))) := by
  exact (Vn_eq Try.func139 rfl _).trans (by kernel_rfl)
theorem Lspec_l7Reach_3_eq (p0 : List D) (p1 : Int) (p2 : List D) (p3 : List D) : Lspec_l7Reach_3 p0 p1 p2 p3 =
  br (decide (p1 < ni (List.length p0)))
   (grd (decide (0 ≤ p1) && decide (p1 < ni (List.length p0))) (oget p0 (Int.toNat p1) fun x0 =>
    asI .i64 x0 fun n1 => grd (decide (0 ≤ n1) && decide (n1 < ni (List.length p3))) (oget p3 (Int.toNat n1) fun _ =>
      nam (List.set p3 (Int.toNat n1) (D.bool true)) fun l3 =>
       Lspec_l7Reach_3 p0 (IntKind.wrap IntKind.i64 (p1 + 1)) p2 l3)))
   (Lspec_l7Reach_7 (IntKind.wrap IntKind.i64 (ni (List.length p2) - 1)) p2 p3) := by
  exact (Rn_eq _ _ _).trans (by kernel_rfl)
theorem Limpl_reach_3_eq (p0 : List D) (p1 : Int) (p2 : Int) (p3 : List D) (p4 : List D) : Limpl_reach_3 p0 p1 p2 p3 p4 =
  br (decide (p2 < p1))
   (grd (decide (0 ≤ p2) && decide (p2 < ni (List.length p0))) (oget p0 (Int.toNat p2) fun x0 =>
    asI .i64 x0 fun n1 => grd (decide (0 ≤ n1) && decide (n1 < ni (List.length p4))) (oget p4 (Int.toNat n1) fun _ =>
      nam (List.set p4 (Int.toNat n1) (D.bool true)) fun l3 =>
       Limpl_reach_3 p0 p1 (IntKind.wrap IntKind.i64 (p2 + 1)) p3 l3)))
   (Limpl_reach_8 (IntKind.wrap IntKind.i64 (ni (List.length p3) - 1)) p3 p4) := by
  exact (Rn_eq _ _ _).trans (by kernel_rfl)
theorem elaws_toCode (a0_0 : List D) (a0_1 : List D) (a0_2 : List D) : V 42 [.agg [.rs (5, 0) a0_0, .rs (4, 0) a0_1, .rs (3, 0) a0_2]] =
  ocall V 23 [(.agg [(.rs (5, 0) a0_0)])] fun x0 l1 =>
   asAgg x0 fun l2 => unc l2 fun x3 l4 => asOs (5, 0) x3 fun l5 => unn l4 (unn l1 (ocall V 96 [(.rs (4, 0) a0_1)] fun x6 l7 =>
       asOs (4, 0) x6 fun l8 => unn l7 (ocall V 97 [(.rs (3, 0) a0_2)] fun x9 l10 =>
         asOs (3, 0) x9 fun l11 => unn l10 (some ((.agg [(.os (5, 0) l5), (.os (4, 0) l8), (.os (3, 0) l11)]), []))))) := by
  exact (Vn_eq Try.func42 rfl _).trans (by kernel_rfl)
theorem Llaws_eqStringS_4_eq (p0 : List D) (p1 : List D) (p2 : Int) : Llaws_eqStringS_4 p0 p1 p2 =
  br (decide (p2 < ni (List.length p0)))
   (grd (decide (0 ≤ p2) && decide (p2 < ni (List.length p0))) (oget p0 (Int.toNat p2) fun x0 =>
    asS x0 fun s1 => grd (decide (0 ≤ p2) && decide (p2 < ni (List.length p1))) (oget p1 (Int.toNat p2) fun x2 =>
      asS x2 fun s3 => br (!strEq s1 s3)
        (some ((.bool false), []))
        (Llaws_eqStringS_4 p0 p1 (IntKind.wrap IntKind.i64 (p2 + 1))))))
   (some ((.bool true), [])) := by
  exact (Rn_eq _ _ _).trans (by kernel_rfl)
theorem espec_l7Keep (a0_0 : List D) (a1_ : List D) : V 58 [.agg [.rs (5, 0) a0_0], .rs (1, 0) a1_] =
  ocall V 117 [(.agg [(.rs (5, 0) a0_0)]), (.rs (1, 0) a1_)] fun x0 l1 =>
   asOs (1, 0) x0 fun l2 => unn l1 (ocall V 116 [(.op [(.os (5, 0) [])]), (.agg [(.rs (5, 0) a0_0)]), (.rs (1, 0) l2)] fun x3 l4 =>
     asOs (1, 0) x3 fun l5 => unc l4 fun x6 l7 => asOp x6 fun l8 => unc l8 fun x9 l10 => asOs (5, 0) x9 fun l11 => unn l10 (unn l7 (Lspec_l7Keep_5 a1_ (0) l5 [] l11))) := by
  exact (Vn_eq Try.func58 rfl _).trans (by kernel_rfl)
theorem espec_CodeOk (a0_0 : List D) (a0_1 : List D) (a0_2 : List D) : V 151 [.agg [.rs (5, 0) a0_0, .rs (4, 0) a0_1, .rs (3, 0) a0_2]] =
  ocall V 67 [(.agg [(.rs (5, 0) a0_0)])] fun x0 l1 =>
   asB x0 fun b2 => unn l1 (br (!b2)
     (some ((.bool false), []))
     (br (decide (ni (List.length a0_1) > 400))
      (some ((.bool false), []))
      (br (decide (ni (List.length a0_2) > 20))
       (some ((.bool false), []))
       (Lspec_CodeOk_4 (0) a0_0 a0_1 a0_2)))) := by
  exact (Vn_eq Try.func151 rfl _).trans (by kernel_rfl)
theorem Lspec_l3Digits_6_eq (p0 : Int) (p1 : ByteArray) : Lspec_l3Digits_6 p0 p1 =
  br (decide (p0 > 0))
   (grd (!decide (10 = 0)) (obytes ([D.int IntKind.u8 (IntKind.wrap IntKind.u8 (IntKind.wrap IntKind.i64 (48 + Int.tmod p0 (10))))]) fun s3 => grd (decide (ni (ByteArray.size s3 + ByteArray.size p1) ≤ LIM)) (grd (!decide (10 = 0)) (Lspec_l3Digits_6 (IntKind.wrap IntKind.i64 (Int.tdiv p0 (10))) (s3 ++ p1)))))
   (some ((.str p1), [])) := by
  exact (Rn_eq _ _ _).trans (by kernel_rfl)
theorem Llaws_heldIntS_2_eq (p0 : List D) (p1 : Int) (p2 : Int) : Llaws_heldIntS_2 p0 p1 p2 =
  br (decide (p2 < ni (List.length p0)))
   (grd (decide (0 ≤ p2) && decide (p2 < ni (List.length p0))) (oget p0 (Int.toNat p2) fun x0 =>
    asI .i64 x0 fun n1 => br (n1 != p1)
      (some ((.int .i64 (-1)), []))
      (Llaws_heldIntS_2 p0 (IntKind.wrap IntKind.i64 (p1 + 1)) (IntKind.wrap IntKind.i64 (p2 + 1)))))
   (some ((.int .i64 p1), [])) := by
  exact (Rn_eq _ _ _).trans (by kernel_rfl)
theorem eimpl_GetNum (a0_ : List D) (a1_ : Int) : V 168 [.rs (1, 0) a0_, .int .i64 a1_] =
  ocall V 106 [(.int .i64 a1_), (.int .i64 (0)), (.int .i64 (IntKind.wrap IntKind.i64 (ni (List.length a0_) - 1)))] fun x0 l1 =>
   asB x0 fun b2 => unn l1 (br (!b2)
     (some ((.tup [(.int .i64 (0)), (.int .i64 (0)), (.bool false)]), []))
     (Limpl_GetNum_5 a0_ a1_ (0) (0))) := by
  exact (Vn_eq Try.func168 rfl _).trans (by kernel_rfl)
theorem elaws_toNodeS (a0_ : List D) : V 76 [.rs (5, 0) a0_] =
  grd (decide (0 ≤ ni (List.length a0_)) && decide (ni (List.length a0_) ≤ LIM)) (Llaws_toNodeS_3 a0_ (0) (List.replicate (Int.toNat (ni (List.length a0_))) (D.agg [D.int IntKind.i64 (0), D.int IntKind.i64 (0), D.str { data := #[] }, D.int IntKind.i64 (0), D.int IntKind.i64 (0)]))) := by
  exact (Vn_eq Try.func76 rfl _).trans (by kernel_rfl)
theorem eimpl_DefOf (a0_0 : List D) (a0_1 : List D) (a0_2 : List D) (a1_ : ByteArray) : V 174 [.agg [.rs (5, 0) a0_0, .rs (4, 0) a0_1, .rs (3, 0) a0_2], .str a1_] =
  ocall V 178 [(.rs (3, 0) a0_2), (.fn 179 [(.bp [(.str a1_)])])] fun x0 l1 =>
   asI .i64 x0 fun n2 => unn l1 (some ((.int .i64 n2), [])) := by
  exact (Vn_eq Try.func174 rfl _).trans (by kernel_rfl)
theorem elaws_szStringS (a0_ : List D) (a1_ : Int) : V 103 [.rs (1, 0) a0_, .int .i64 a1_] =
  br (decide (IntKind.wrap IntKind.i64 (a1_ - ni (List.length a0_)) < 0))
   (some ((.int .i64 (-1)), []))
   (Llaws_szStringS_5 a0_ (IntKind.wrap IntKind.i64 (a1_ - ni (List.length a0_))) (0)) := by
  exact (Vn_eq Try.func103 rfl _).trans (by kernel_rfl)
theorem elaws_szDefS (a0_ : List D) (a1_ : Int) : V 92 [.rs (3, 0) a0_, .int .i64 a1_] =
  br (decide (IntKind.wrap IntKind.i64 (a1_ - ni (List.length a0_)) < 0))
   (some ((.int .i64 (-1)), []))
   (Llaws_szDefS_5 a0_ (IntKind.wrap IntKind.i64 (a1_ - ni (List.length a0_))) (0)) := by
  exact (Vn_eq Try.func92 rfl _).trans (by kernel_rfl)
theorem eimpl_writing_text (p : List D) (o : List D) (s : ByteArray) : V 118 [.op [.rs (5, 0) p, .os (1, 0) o], .str s] =
  grd (decide (ni (List.length (o ++ bytesD s)) ≤ LIM)) (nam (o ++ bytesD s) fun l0 =>
   some ((.tup []), [(.op [(.rs (5, 0) p), (.os (1, 0) l0)])])) := by
  exact (Vn_eq Try.func118 rfl _).trans (by kernel_rfl)
theorem elaws_eqNodeS (a0_ : List D) (a1_ : List D) : V 79 [.rs (5, 0) a0_, .rs (5, 0) a1_] =
  br (ni (List.length a0_) != ni (List.length a1_))
   (some ((.bool false), []))
   (Llaws_eqNodeS_4 a0_ a1_ (0)) := by
  exact (Vn_eq Try.func79 rfl _).trans (by kernel_rfl)
theorem elaws_toDef (a0_0 : ByteArray) (a0_1 : Int) (a0_2 : Int) : V 154 [.agg [.str a0_0, .int .i64 a0_1, .int .i64 a0_2]] =
  some ((.agg [(.str a0_0), (.int .i64 a0_1), (.int .i64 a0_2)]), []) := by
  exact (Vn_eq Try.func154 rfl _).trans (by kernel_rfl)
theorem eimpl_writing_full (p : List D) (o : List D)  : V 61 [.op [.rs (5, 0) p, .os (1, 0) o]] =
  some ((.bool (decide (ni (List.length o) > 400))), [(.op [(.rs (5, 0) p), (.os (1, 0) o)])]) := by
  exact (Vn_eq Try.func61 rfl _).trans (by kernel_rfl)
theorem eslices_Index_byte_byte (a0_ : List D) (a1_ : Int) : V 180 [.rs (1, 0) a0_, .int .u8 a1_] =
  Lslices_Index_byte_byte_2 a0_ a1_ (ni (List.length a0_)) (0) := by
  exact (Vn_eq Try.func180 rfl _).trans (by kernel_rfl)
theorem eimpl_writing_pairs (p : List D) (o : List D) (v : Int) : V 119 [.op [.rs (5, 0) p, .os (1, 0) o], .int .i64 v] =
  Limpl_writing_pairs_1 v true p o := by
  exact (Vn_eq Try.func119 rfl _).trans (by kernel_rfl)
theorem elaws_markNodeS (a0_ : List D) (a1_ : Int) : V 80 [.os (5, 0) a0_, .int .i64 a1_] =
  Llaws_markNodeS_2 a1_ (0) a0_ := by
  exact (Vn_eq Try.func80 rfl _).trans (by kernel_rfl)
theorem espec_PoolOk (a0_0 : List D) : V 67 [.agg [.rs (5, 0) a0_0]] =
  Lspec_PoolOk_2 (0) a0_0 := by
  exact (Vn_eq Try.func67 rfl _).trans (by kernel_rfl)
end Go.Eng
