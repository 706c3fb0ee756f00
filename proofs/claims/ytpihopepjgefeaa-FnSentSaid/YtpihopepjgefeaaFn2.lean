/- the functions as the interpreter has them -/
import Derived.Test.YtpihopepjgefeaaFn
namespace Go.Eng
open Go.Proofs Go.Proofs.Try
set_option maxRecDepth 100000
noncomputable def Lspec_l10DrawRight_5 (p0 : Int) (p1 : Int) (p2 : List D) (p3 : Int) (p4 : Int) (p5 : Int) (p6 : Int) (p7 : Int) (p8 : Int) (p9 : Int) (p10 : Int) (p11 : List D) : Option Ret := R 65 Try.f65 [70] (headAt Try.f65 5) ⟨[.ref 0 0 0, .undef, .ref 1 0 0, .ref 2 0 0, .asl 3 none, .d (.int .i64 p0), .d (.int .i64 p1), .undef, .undef, .undef, .undef, .undef, .undef, .undef, .undef, .undef, .undef, .undef, .undef, .undef, .undef, .undef, .undef, .undef, .undef, .undef, .undef, .undef, .undef, .undef, .undef, .undef, .undef, .undef, .undef, .undef, .undef, .undef, .undef, .undef, .undef, .undef, .undef, .undef, .undef, .undef, .undef, .undef, .undef, .undef, .undef, .undef, .undef, .undef, .undef, .undef, .undef, .undef, .undef, .undef, .undef, .undef, .undef, .undef, .undef, .undef, .undef, .undef, .undef, .undef, .undef, .undef, .undef], [(0, some (.var [.d (.rs (1, 0) p2), .d (.int .i64 p3), .d (.int .i64 p4)])), (1, some (.var [.d (.int .i64 p5), .d (.int .i64 p6), .d .nl, .d (.int .i64 p7), .d .nl])), (2, some (.var [.d (.int .i64 p8), .d (.int .i64 p9), .d .nl, .d (.int .i64 p10), .d .nl])), (3, some (.arr (1, 0) p11))], 4, [.ref 0 0 0]⟩
noncomputable def Lspec_l10DrawRight_5v1 (p0 : Int) (p1 : Int) (p2 : List D) (p3 : Int) (p4 : Int) (p5 : Int) (p6 : Int) (p7 : Int) (p8 : Int) (p9 : Int) (p10 : Int) (p11 : List D) (p12 : List D) (p13 : List D) : Option Ret := R 65 Try.f65 [70] (headAt Try.f65 5) ⟨[.ref 0 0 0, .undef, .ref 1 0 0, .ref 2 0 0, .asl 3 none, .d (.int .i64 p0), .d (.int .i64 p1), .undef, .undef, .undef, .undef, .undef, .undef, .undef, .undef, .undef, .undef, .undef, .undef, .undef, .undef, .undef, .undef, .undef, .undef, .undef, .undef, .undef, .undef, .undef, .undef, .undef, .undef, .undef, .undef, .undef, .undef, .undef, .undef, .undef, .undef, .undef, .undef, .undef, .undef, .undef, .undef, .undef, .undef, .undef, .undef, .undef, .undef, .undef, .undef, .undef, .undef, .undef, .undef, .undef, .undef, .undef, .undef, .undef, .undef, .undef, .undef, .undef, .undef, .undef, .undef, .undef, .undef], [(0, some (.var [.d (.rs (1, 0) p2), .d (.int .i64 p3), .d (.int .i64 p4)])), (1, some (.var [.d (.int .i64 p5), .d (.int .i64 p6), .d .nl, .d (.int .i64 p7), .d .nl])), (2, some (.var [.d (.int .i64 p8), .d (.int .i64 p9), .asl 4 none, .d (.int .i64 p10), .asl 5 none])), (3, some (.arr (1, 0) p11)), (4, some (.arr (1, 0) p12)), (5, some (.arr (2, 0) p13))], 6, [.ref 0 0 0]⟩
noncomputable def Lspec_l1New_3 (p0 : List D) (p1 : Int) (p2 : Int) : Option Ret := R 52 Try.f52 [] (headAt Try.f52 3) ⟨[.d (.rs (1, 0) p0), .undef, .undef, .d (.int .i64 p1), .d (.int .i64 p2), .undef, .undef, .undef, .undef, .undef, .undef, .undef, .undef, .undef, .undef, .undef, .undef, .undef, .undef, .undef, .undef, .undef, .undef, .undef, .undef, .undef, .undef, .undef, .undef, .undef, .undef, .undef], [], 0, []⟩
noncomputable def Llaws_FnShown_8 (p0 : Int) (p1 : Int) (p2 : Int) (p3 : Int) (p4 : List D) (p5 : List D) (p6 : List D) : Option Ret := R 4 Try.f4 [] (headAt Try.f4 8) ⟨[.undef, .undef, .undef, .ref 0 0 0, .asl 1 none, .d (.int .i64 p0), .undef, .undef, .undef, .undef, .undef, .undef, .undef, .undef, .undef, .undef, .undef, .undef, .undef, .undef, .undef, .undef, .undef, .undef, .undef, .undef, .undef, .undef, .undef, .undef, .undef, .undef, .undef, .undef, .undef, .undef, .undef, .undef, .undef, .undef, .undef, .undef, .undef, .undef, .undef, .undef, .undef, .undef, .undef, .undef, .undef, .undef, .undef, .undef, .undef, .undef, .undef, .undef, .undef, .undef, .undef, .undef, .undef, .undef, .undef, .undef, .undef, .undef], [(0, some (.var [.d (.int .i64 p1), .d (.int .i64 p2), .asl 2 none, .d (.int .i64 p3), .asl 3 none])), (1, some (.arr (2, 0) p4)), (2, some (.arr (1, 0) p5)), (3, some (.arr (2, 0) p6))], 4, []⟩
noncomputable def Lspec_LinkTake_12 (p0 : Int) (p1 : Int) (p2 : Int) (p3 : List D) (p4 : Int) (p5 : Int) (p6 : Int) (p7 : List D) (p8 : List D) : Option Ret := R 38 Try.f38 [] (headAt Try.f38 12) ⟨[.undef, .undef, .undef, .undef, .ref 0 0 0, .undef, .asl 1 none, .ref 2 0 0, .undef, .undef, .undef, .undef, .undef, .undef, .undef, .undef, .undef, .undef, .undef, .undef, .undef, .undef, .undef, .undef, .undef, .undef, .undef, .undef, .undef, .undef, .undef, .undef, .undef, .undef, .undef, .undef, .undef, .undef, .undef, .undef, .undef, .undef, .undef, .undef, .undef, .undef, .undef, .undef, .undef, .undef, .undef, .undef, .undef, .undef, .undef, .undef, .undef, .undef, .undef, .undef, .undef, .undef, .undef, .undef, .undef, .undef, .undef, .undef, .undef, .undef, .undef, .undef, .undef, .undef, .undef, .undef, .undef, .undef, .undef, .undef, .undef, .undef, .undef, .undef, .undef, .undef, .undef, .undef, .undef], [(0, some (.var [.d (.int .i64 p0), .d (.int .i64 p1), .d .nl, .d (.int .i64 p2), .d .nl])), (1, some (.arr (1, 0) p3)), (2, some (.var [.d (.int .i64 p4), .d (.int .i64 p5), .asl 3 none, .d (.int .i64 p6), .asl 4 none])), (3, some (.arr (1, 0) p7)), (4, some (.arr (2, 0) p8))], 5, []⟩
noncomputable def Lspec_LinkTake_12v1 (p0 : Int) (p1 : Int) (p2 : Int) (p3 : List D) (p4 : Int) (p5 : Int) (p6 : Int) (p7 : Nat) (p8 : Nat) (p9 : List D) (p10 : List D) : Option Ret := R 38 Try.f38 [] (headAt Try.f38 12) ⟨[.undef, .undef, .undef, .undef, .ref 0 0 0, .undef, .asl 1 none, .ref 2 0 0, .undef, .undef, .undef, .undef, .undef, .undef, .undef, .undef, .undef, .undef, .undef, .undef, .undef, .undef, .undef, .undef, .undef, .undef, .undef, .undef, .undef, .undef, .undef, .undef, .undef, .undef, .undef, .undef, .undef, .undef, .undef, .undef, .undef, .undef, .undef, .undef, .undef, .undef, .undef, .undef, .undef, .undef, .undef, .undef, .undef, .undef, .undef, .undef, .undef, .undef, .undef, .undef, .undef, .undef, .undef, .undef, .undef, .undef, .undef, .undef, .undef, .undef, .undef, .undef, .undef, .undef, .undef, .undef, .undef, .undef, .undef, .undef, .undef, .undef, .undef, .undef, .undef, .undef, .undef, .undef, .undef], [(0, some (.var [.d (.int .i64 p0), .d (.int .i64 p1), .d .nl, .d (.int .i64 p2), .d .nl])), (1, some (.arr (1, 0) p3)), (2, some (.var [.d (.int .i64 p4), .d (.int .i64 p5), .asl 3 none, .d (.int .i64 p6), .asl 4 (some (p7, p8))])), (3, some (.arr (1, 0) p9)), (4, some (.arr (2, 0) p10))], 5, []⟩
noncomputable def Lspec_l10Hold_4 (p0 : List D) (p1 : Bool) (p2 : Int) (p3 : Int) (p4 : ByteArray) (p5 : List D) : Option Ret := R 64 Try.f64 [] (headAt Try.f64 4) ⟨[.d (.rs (2, 0) p0), .undef, .undef, .ref 0 0 0, .undef, .asl 1 none, .d (.bool p1), .d (.int .i64 p2), .undef, .undef, .undef, .undef, .undef, .undef, .undef, .undef, .undef, .undef, .undef, .undef, .undef, .undef, .undef, .undef, .undef, .undef, .undef, .undef, .undef, .undef, .undef, .undef, .undef, .undef, .undef, .undef, .undef, .undef, .undef, .undef, .undef, .undef, .undef, .undef, .undef, .undef, .undef, .undef, .undef, .undef, .undef, .undef, .undef], [(0, some (.var [.d (.int .i64 p3), .d (.str p4)])), (1, some (.arr (2, 0) p5))], 2, []⟩
theorem Lspec_l10DrawRight_5_eq (p0 : Int) (p1 : Int) (p2 : List D) (p3 : Int) (p4 : Int) (p5 : Int) (p6 : Int) (p7 : Int) (p8 : Int) (p9 : Int) (p10 : Int) (p11 : List D) : Lspec_l10DrawRight_5 p0 p1 p2 p3 p4 p5 p6 p7 p8 p9 p10 p11 =
  br (decide (p1 < p0))
   (ocall V 53 [(.op [(.rs (1, 0) p2), (.int .i64 p3), (.int .i64 p4)]), (.int .i64 (4))] fun x15 l16 =>
    asI .i64 x15 fun n17 => unc l16 fun x18 l19 => asOp x18 fun l20 => unc l20 fun x21 l22 => asRs (1, 0) x21 fun l23 => unc l22 fun x24 l25 => asI .i64 x24 fun n26 => unc l25 fun x27 l28 => asI .i64 x27 fun n29 => unn l28 (unn l19 (br (n17 == 0)
              (br (n17 == 0)
               (ocall V 57 [(.op [(.rs (1, 0) l23), (.int .i64 n26), (.int .i64 n29)]), (.rs (1, 0) [(.str ({ data := #[97] })), (.str ({ data := #[98] })), (.str ({ data := #[] })), (.str ({ data := #[99, 99] }))])] fun x30 l31 =>
                asS x30 fun s32 => unc l31 fun x33 l34 => asOp x33 fun l35 => unc l35 fun x36 l37 => asRs (1, 0) x36 fun l38 => unc l37 fun x39 l40 => asI .i64 x39 fun n41 => unc l40 fun x42 l43 => asI .i64 x42 fun n44 => unn l43 (unn l34 (ocall V 28 [(.agg [(.int .i64 p8), (.int .i64 p9), (.rs (1, 0) []), (.int .i64 p10), (.rs (2, 0) [])]), (.str s32)] fun x45 l46 =>
                          asTup x45 fun l47 => unc l47 fun x48 l49 => asAgg x48 fun l50 => unc l50 fun x51 l52 => asI .i64 x51 fun n53 => unc l52 fun x54 l55 => asI .i64 x54 fun n56 => unc l55 fun x57 l58 => asOs (1, 0) x57 fun l59 => unc l58 fun x60 l61 => asI .i64 x60 fun n62 => unc l61 fun x63 l64 => asOs (2, 0) x63 fun l65 => unn l64 (unc l49 fun x66 l67 => asB x66 fun b68 => unn l67 (unn l46 (br b68
                                          (grd (decide (ni (List.length (p11 ++ [D.str s32])) ≤ LIM)) (nam (p11 ++ [D.str s32]) fun l69 =>
                                           Lspec_l10DrawRight_5v1 p0 (IntKind.wrap IntKind.i64 (p1 + 1)) l38 n41 n44 p5 p6 p7 n53 n56 n62 l69 l59 l65))
                                          (Lspec_l10DrawRight_5 p0 (IntKind.wrap IntKind.i64 (p1 + 1)) l38 n41 n44 p5 p6 p7 p8 p9 p10 p11)))))))
               (br (n17 == 2)
                (ocall V 53 [(.op [(.rs (1, 0) l23), (.int .i64 n26), (.int .i64 n29)]), (.int .i64 (4))] fun x70 l71 =>
                 asI .i64 x70 fun n72 => unc l71 fun x73 l74 => asOp x73 fun l75 => unc l75 fun x76 l77 => asRs (1, 0) x76 fun l78 => unc l77 fun x79 l80 => asI .i64 x79 fun n81 => unc l80 fun x82 l83 => asI .i64 x82 fun n84 => unn l83 (unn l74 (br (decide (IntKind.wrap IntKind.i64 (p10 + n72) < ni (List.length p11)))
                           (grd (decide (0 ≤ IntKind.wrap IntKind.i64 (p10 + n72)) && decide (IntKind.wrap IntKind.i64 (p10 + n72) < ni (List.length p11))) (oget p11 (Int.toNat (IntKind.wrap IntKind.i64 (p10 + n72))) fun x85 =>
                            asS x85 fun s86 => ocall V 38 [(.agg [(.int .i64 p8), (.int .i64 p9), (.rs (1, 0) []), (.int .i64 p10), (.rs (2, 0) [])]), (.agg [(.int .i64 (IntKind.wrap IntKind.i64 (p10 + n72))), (.str s86)])] fun x87 l88 =>
                              asTup x87 fun l89 => unc l89 fun x90 l91 => asAgg x90 fun l92 => unc l92 fun x93 l94 => asI .i64 x93 fun n95 => unc l94 fun x96 l97 => asI .i64 x96 fun n98 => unc l97 fun x99 l100 => asOs (1, 0) x99 fun l101 => unc l100 fun x102 l103 => asI .i64 x102 fun n104 => unc l103 fun x105 l106 => asOs (2, 0) x105 fun l107 => unn l106 (unc l91 fun x108 l109 => asOs (1, 0) x108 fun l110 => unn l109 (unn l88 (Lspec_l10DrawRight_5v1 p0 (IntKind.wrap IntKind.i64 (p1 + 1)) l78 n81 n84 p5 p6 p7 n95 n98 n104 p11 l101 l107)))))
                           (Lspec_l10DrawRight_5 p0 (IntKind.wrap IntKind.i64 (p1 + 1)) l78 n81 n84 p5 p6 p7 p8 p9 p10 p11))))
                (ocall V 53 [(.op [(.rs (1, 0) l23), (.int .i64 n26), (.int .i64 n29)]), (.int .i64 (2))] fun x111 l112 =>
                 asI .i64 x111 fun n113 => unc l112 fun x114 l115 => asOp x114 fun l116 => unc l116 fun x117 l118 => asRs (1, 0) x117 fun l119 => unc l118 fun x120 l121 => asI .i64 x120 fun n122 => unc l121 fun x123 l124 => asI .i64 x123 fun n125 => unn l124 (unn l115 (ocall V 24 [(.agg [(.int .i64 p8), (.int .i64 p9), (.rs (1, 0) []), (.int .i64 p10), (.rs (2, 0) [])]), (.int .i64 (IntKind.wrap IntKind.i64 (p10 - n113)))] fun x126 l127 =>
                           asTup x126 fun l128 => unc l128 fun x129 l130 => asAgg x129 fun l131 => unc l131 fun x132 l133 => asI .i64 x132 fun n134 => unc l133 fun x135 l136 => asI .i64 x135 fun n137 => unc l136 fun x138 l139 => asOs (1, 0) x138 fun l140 => unc l139 fun x141 l142 => asI .i64 x141 fun n143 => unc l142 fun x144 l145 => asOs (2, 0) x144 fun l146 => unn l145 (unc l130 fun x147 l148 => asB x147 fun b149 => unn l148 (unn l127 (Lspec_l10DrawRight_5v1 p0 (IntKind.wrap IntKind.i64 (p1 + 1)) l119 n122 n125 p5 p6 p7 n134 n137 n143 p11 l140 l146))))))))
              (br (n17 == 1)
               (ocall V 57 [(.op [(.rs (1, 0) l23), (.int .i64 n26), (.int .i64 n29)]), (.rs (1, 0) [(.str ({ data := #[97] })), (.str ({ data := #[98] })), (.str ({ data := #[] })), (.str ({ data := #[99, 99] }))])] fun x150 l151 =>
                asS x150 fun s152 => unc l151 fun x153 l154 => asOp x153 fun l155 => unc l155 fun x156 l157 => asRs (1, 0) x156 fun l158 => unc l157 fun x159 l160 => asI .i64 x159 fun n161 => unc l160 fun x162 l163 => asI .i64 x162 fun n164 => unn l163 (unn l154 (ocall V 28 [(.agg [(.int .i64 p8), (.int .i64 p9), (.rs (1, 0) []), (.int .i64 p10), (.rs (2, 0) [])]), (.str s152)] fun x165 l166 =>
                          asTup x165 fun l167 => unc l167 fun x168 l169 => asAgg x168 fun l170 => unc l170 fun x171 l172 => asI .i64 x171 fun n173 => unc l172 fun x174 l175 => asI .i64 x174 fun n176 => unc l175 fun x177 l178 => asOs (1, 0) x177 fun l179 => unc l178 fun x180 l181 => asI .i64 x180 fun n182 => unc l181 fun x183 l184 => asOs (2, 0) x183 fun l185 => unn l184 (unc l169 fun x186 l187 => asB x186 fun b188 => unn l187 (unn l166 (br b188
                                          (grd (decide (ni (List.length (p11 ++ [D.str s152])) ≤ LIM)) (nam (p11 ++ [D.str s152]) fun l189 =>
                                           Lspec_l10DrawRight_5v1 p0 (IntKind.wrap IntKind.i64 (p1 + 1)) l158 n161 n164 p5 p6 p7 n173 n176 n182 l189 l179 l185))
                                          (Lspec_l10DrawRight_5 p0 (IntKind.wrap IntKind.i64 (p1 + 1)) l158 n161 n164 p5 p6 p7 p8 p9 p10 p11)))))))
               (br (n17 == 2)
                (ocall V 53 [(.op [(.rs (1, 0) l23), (.int .i64 n26), (.int .i64 n29)]), (.int .i64 (4))] fun x190 l191 =>
                 asI .i64 x190 fun n192 => unc l191 fun x193 l194 => asOp x193 fun l195 => unc l195 fun x196 l197 => asRs (1, 0) x196 fun l198 => unc l197 fun x199 l200 => asI .i64 x199 fun n201 => unc l200 fun x202 l203 => asI .i64 x202 fun n204 => unn l203 (unn l194 (br (decide (IntKind.wrap IntKind.i64 (p10 + n192) < ni (List.length p11)))
                           (grd (decide (0 ≤ IntKind.wrap IntKind.i64 (p10 + n192)) && decide (IntKind.wrap IntKind.i64 (p10 + n192) < ni (List.length p11))) (oget p11 (Int.toNat (IntKind.wrap IntKind.i64 (p10 + n192))) fun x205 =>
                            asS x205 fun s206 => ocall V 38 [(.agg [(.int .i64 p8), (.int .i64 p9), (.rs (1, 0) []), (.int .i64 p10), (.rs (2, 0) [])]), (.agg [(.int .i64 (IntKind.wrap IntKind.i64 (p10 + n192))), (.str s206)])] fun x207 l208 =>
                              asTup x207 fun l209 => unc l209 fun x210 l211 => asAgg x210 fun l212 => unc l212 fun x213 l214 => asI .i64 x213 fun n215 => unc l214 fun x216 l217 => asI .i64 x216 fun n218 => unc l217 fun x219 l220 => asOs (1, 0) x219 fun l221 => unc l220 fun x222 l223 => asI .i64 x222 fun n224 => unc l223 fun x225 l226 => asOs (2, 0) x225 fun l227 => unn l226 (unc l211 fun x228 l229 => asOs (1, 0) x228 fun l230 => unn l229 (unn l208 (Lspec_l10DrawRight_5v1 p0 (IntKind.wrap IntKind.i64 (p1 + 1)) l198 n201 n204 p5 p6 p7 n215 n218 n224 p11 l221 l227)))))
                           (Lspec_l10DrawRight_5 p0 (IntKind.wrap IntKind.i64 (p1 + 1)) l198 n201 n204 p5 p6 p7 p8 p9 p10 p11))))
                (ocall V 53 [(.op [(.rs (1, 0) l23), (.int .i64 n26), (.int .i64 n29)]), (.int .i64 (2))] fun x231 l232 =>
                 asI .i64 x231 fun n233 => unc l232 fun x234 l235 => asOp x234 fun l236 => unc l236 fun x237 l238 => asRs (1, 0) x237 fun l239 => unc l238 fun x240 l241 => asI .i64 x240 fun n242 => unc l241 fun x243 l244 => asI .i64 x243 fun n245 => unn l244 (unn l235 (ocall V 24 [(.agg [(.int .i64 p8), (.int .i64 p9), (.rs (1, 0) []), (.int .i64 p10), (.rs (2, 0) [])]), (.int .i64 (IntKind.wrap IntKind.i64 (p10 - n233)))] fun x246 l247 =>
                           asTup x246 fun l248 => unc l248 fun x249 l250 => asAgg x249 fun l251 => unc l251 fun x252 l253 => asI .i64 x252 fun n254 => unc l253 fun x255 l256 => asI .i64 x255 fun n257 => unc l256 fun x258 l259 => asOs (1, 0) x258 fun l260 => unc l259 fun x261 l262 => asI .i64 x261 fun n263 => unc l262 fun x264 l265 => asOs (2, 0) x264 fun l266 => unn l265 (unc l250 fun x267 l268 => asB x267 fun b269 => unn l268 (unn l247 (Lspec_l10DrawRight_5v1 p0 (IntKind.wrap IntKind.i64 (p1 + 1)) l239 n242 n245 p5 p6 p7 n254 n257 n263 p11 l260 l266)))))))))))
   (some ((.agg [(.int .i64 p8), (.int .i64 p9), (.os (1, 0) []), (.int .i64 p10), (.os (2, 0) [])]), [(.op [(.rs (1, 0) p2), (.int .i64 p3), (.int .i64 p4)])])) := by
  exact (Rn_eq _ _ _).trans (by kernel_rfl)
theorem Lspec_l10DrawRight_5v1_eq (p0 : Int) (p1 : Int) (p2 : List D) (p3 : Int) (p4 : Int) (p5 : Int) (p6 : Int) (p7 : Int) (p8 : Int) (p9 : Int) (p10 : Int) (p11 : List D) (p12 : List D) (p13 : List D) : Lspec_l10DrawRight_5v1 p0 p1 p2 p3 p4 p5 p6 p7 p8 p9 p10 p11 p12 p13 =
  br (decide (p1 < p0))
   (ocall V 53 [(.op [(.rs (1, 0) p2), (.int .i64 p3), (.int .i64 p4)]), (.int .i64 (4))] fun x270 l271 =>
    asI .i64 x270 fun n272 => unc l271 fun x273 l274 => asOp x273 fun l275 => unc l275 fun x276 l277 => asRs (1, 0) x276 fun l278 => unc l277 fun x279 l280 => asI .i64 x279 fun n281 => unc l280 fun x282 l283 => asI .i64 x282 fun n284 => unn l283 (unn l274 (br (n272 == 0)
              (br (n272 == 0)
               (ocall V 57 [(.op [(.rs (1, 0) l278), (.int .i64 n281), (.int .i64 n284)]), (.rs (1, 0) [(.str ({ data := #[97] })), (.str ({ data := #[98] })), (.str ({ data := #[] })), (.str ({ data := #[99, 99] }))])] fun x285 l286 =>
                asS x285 fun s287 => unc l286 fun x288 l289 => asOp x288 fun l290 => unc l290 fun x291 l292 => asRs (1, 0) x291 fun l293 => unc l292 fun x294 l295 => asI .i64 x294 fun n296 => unc l295 fun x297 l298 => asI .i64 x297 fun n299 => unn l298 (unn l289 (ocall V 28 [(.agg [(.int .i64 p8), (.int .i64 p9), (.rs (1, 0) p12), (.int .i64 p10), (.rs (2, 0) p13)]), (.str s287)] fun x300 l301 =>
                          asTup x300 fun l302 => unc l302 fun x303 l304 => asAgg x303 fun l305 => unc l305 fun x306 l307 => asI .i64 x306 fun n308 => unc l307 fun x309 l310 => asI .i64 x309 fun n311 => unc l310 fun x312 l313 => asOs (1, 0) x312 fun l314 => unc l313 fun x315 l316 => asI .i64 x315 fun n317 => unc l316 fun x318 l319 => asOs (2, 0) x318 fun l320 => unn l319 (unc l304 fun x321 l322 => asB x321 fun b323 => unn l322 (unn l301 (br b323
                                          (grd (decide (ni (List.length (p11 ++ [D.str s287])) ≤ LIM)) (nam (p11 ++ [D.str s287]) fun l324 =>
                                           Lspec_l10DrawRight_5v1 p0 (IntKind.wrap IntKind.i64 (p1 + 1)) l293 n296 n299 p5 p6 p7 n308 n311 n317 l324 l314 l320))
                                          (Lspec_l10DrawRight_5v1 p0 (IntKind.wrap IntKind.i64 (p1 + 1)) l293 n296 n299 p5 p6 p7 p8 p9 p10 p11 p12 p13)))))))
               (br (n272 == 2)
                (ocall V 53 [(.op [(.rs (1, 0) l278), (.int .i64 n281), (.int .i64 n284)]), (.int .i64 (4))] fun x325 l326 =>
                 asI .i64 x325 fun n327 => unc l326 fun x328 l329 => asOp x328 fun l330 => unc l330 fun x331 l332 => asRs (1, 0) x331 fun l333 => unc l332 fun x334 l335 => asI .i64 x334 fun n336 => unc l335 fun x337 l338 => asI .i64 x337 fun n339 => unn l338 (unn l329 (br (decide (IntKind.wrap IntKind.i64 (p10 + n327) < ni (List.length p11)))
                           (grd (decide (0 ≤ IntKind.wrap IntKind.i64 (p10 + n327)) && decide (IntKind.wrap IntKind.i64 (p10 + n327) < ni (List.length p11))) (oget p11 (Int.toNat (IntKind.wrap IntKind.i64 (p10 + n327))) fun x340 =>
                            asS x340 fun s341 => ocall V 38 [(.agg [(.int .i64 p8), (.int .i64 p9), (.rs (1, 0) p12), (.int .i64 p10), (.rs (2, 0) p13)]), (.agg [(.int .i64 (IntKind.wrap IntKind.i64 (p10 + n327))), (.str s341)])] fun x342 l343 =>
                              asTup x342 fun l344 => unc l344 fun x345 l346 => asAgg x345 fun l347 => unc l347 fun x348 l349 => asI .i64 x348 fun n350 => unc l349 fun x351 l352 => asI .i64 x351 fun n353 => unc l352 fun x354 l355 => asOs (1, 0) x354 fun l356 => unc l355 fun x357 l358 => asI .i64 x357 fun n359 => unc l358 fun x360 l361 => asOs (2, 0) x360 fun l362 => unn l361 (unc l346 fun x363 l364 => asOs (1, 0) x363 fun l365 => unn l364 (unn l343 (Lspec_l10DrawRight_5v1 p0 (IntKind.wrap IntKind.i64 (p1 + 1)) l333 n336 n339 p5 p6 p7 n350 n353 n359 p11 l356 l362)))))
                           (Lspec_l10DrawRight_5v1 p0 (IntKind.wrap IntKind.i64 (p1 + 1)) l333 n336 n339 p5 p6 p7 p8 p9 p10 p11 p12 p13))))
                (ocall V 53 [(.op [(.rs (1, 0) l278), (.int .i64 n281), (.int .i64 n284)]), (.int .i64 (2))] fun x366 l367 =>
                 asI .i64 x366 fun n368 => unc l367 fun x369 l370 => asOp x369 fun l371 => unc l371 fun x372 l373 => asRs (1, 0) x372 fun l374 => unc l373 fun x375 l376 => asI .i64 x375 fun n377 => unc l376 fun x378 l379 => asI .i64 x378 fun n380 => unn l379 (unn l370 (ocall V 24 [(.agg [(.int .i64 p8), (.int .i64 p9), (.rs (1, 0) p12), (.int .i64 p10), (.rs (2, 0) p13)]), (.int .i64 (IntKind.wrap IntKind.i64 (p10 - n368)))] fun x381 l382 =>
                           asTup x381 fun l383 => unc l383 fun x384 l385 => asAgg x384 fun l386 => unc l386 fun x387 l388 => asI .i64 x387 fun n389 => unc l388 fun x390 l391 => asI .i64 x390 fun n392 => unc l391 fun x393 l394 => asOs (1, 0) x393 fun l395 => unc l394 fun x396 l397 => asI .i64 x396 fun n398 => unc l397 fun x399 l400 => asOs (2, 0) x399 fun l401 => unn l400 (unc l385 fun x402 l403 => asB x402 fun b404 => unn l403 (unn l382 (Lspec_l10DrawRight_5v1 p0 (IntKind.wrap IntKind.i64 (p1 + 1)) l374 n377 n380 p5 p6 p7 n389 n392 n398 p11 l395 l401))))))))
              (br (n272 == 1)
               (ocall V 57 [(.op [(.rs (1, 0) l278), (.int .i64 n281), (.int .i64 n284)]), (.rs (1, 0) [(.str ({ data := #[97] })), (.str ({ data := #[98] })), (.str ({ data := #[] })), (.str ({ data := #[99, 99] }))])] fun x405 l406 =>
                asS x405 fun s407 => unc l406 fun x408 l409 => asOp x408 fun l410 => unc l410 fun x411 l412 => asRs (1, 0) x411 fun l413 => unc l412 fun x414 l415 => asI .i64 x414 fun n416 => unc l415 fun x417 l418 => asI .i64 x417 fun n419 => unn l418 (unn l409 (ocall V 28 [(.agg [(.int .i64 p8), (.int .i64 p9), (.rs (1, 0) p12), (.int .i64 p10), (.rs (2, 0) p13)]), (.str s407)] fun x420 l421 =>
                          asTup x420 fun l422 => unc l422 fun x423 l424 => asAgg x423 fun l425 => unc l425 fun x426 l427 => asI .i64 x426 fun n428 => unc l427 fun x429 l430 => asI .i64 x429 fun n431 => unc l430 fun x432 l433 => asOs (1, 0) x432 fun l434 => unc l433 fun x435 l436 => asI .i64 x435 fun n437 => unc l436 fun x438 l439 => asOs (2, 0) x438 fun l440 => unn l439 (unc l424 fun x441 l442 => asB x441 fun b443 => unn l442 (unn l421 (br b443
                                          (grd (decide (ni (List.length (p11 ++ [D.str s407])) ≤ LIM)) (nam (p11 ++ [D.str s407]) fun l444 =>
                                           Lspec_l10DrawRight_5v1 p0 (IntKind.wrap IntKind.i64 (p1 + 1)) l413 n416 n419 p5 p6 p7 n428 n431 n437 l444 l434 l440))
                                          (Lspec_l10DrawRight_5v1 p0 (IntKind.wrap IntKind.i64 (p1 + 1)) l413 n416 n419 p5 p6 p7 p8 p9 p10 p11 p12 p13)))))))
               (br (n272 == 2)
                (ocall V 53 [(.op [(.rs (1, 0) l278), (.int .i64 n281), (.int .i64 n284)]), (.int .i64 (4))] fun x445 l446 =>
                 asI .i64 x445 fun n447 => unc l446 fun x448 l449 => asOp x448 fun l450 => unc l450 fun x451 l452 => asRs (1, 0) x451 fun l453 => unc l452 fun x454 l455 => asI .i64 x454 fun n456 => unc l455 fun x457 l458 => asI .i64 x457 fun n459 => unn l458 (unn l449 (br (decide (IntKind.wrap IntKind.i64 (p10 + n447) < ni (List.length p11)))
                           (grd (decide (0 ≤ IntKind.wrap IntKind.i64 (p10 + n447)) && decide (IntKind.wrap IntKind.i64 (p10 + n447) < ni (List.length p11))) (oget p11 (Int.toNat (IntKind.wrap IntKind.i64 (p10 + n447))) fun x460 =>
                            asS x460 fun s461 => ocall V 38 [(.agg [(.int .i64 p8), (.int .i64 p9), (.rs (1, 0) p12), (.int .i64 p10), (.rs (2, 0) p13)]), (.agg [(.int .i64 (IntKind.wrap IntKind.i64 (p10 + n447))), (.str s461)])] fun x462 l463 =>
                              asTup x462 fun l464 => unc l464 fun x465 l466 => asAgg x465 fun l467 => unc l467 fun x468 l469 => asI .i64 x468 fun n470 => unc l469 fun x471 l472 => asI .i64 x471 fun n473 => unc l472 fun x474 l475 => asOs (1, 0) x474 fun l476 => unc l475 fun x477 l478 => asI .i64 x477 fun n479 => unc l478 fun x480 l481 => asOs (2, 0) x480 fun l482 => unn l481 (unc l466 fun x483 l484 => asOs (1, 0) x483 fun l485 => unn l484 (unn l463 (Lspec_l10DrawRight_5v1 p0 (IntKind.wrap IntKind.i64 (p1 + 1)) l453 n456 n459 p5 p6 p7 n470 n473 n479 p11 l476 l482)))))
                           (Lspec_l10DrawRight_5v1 p0 (IntKind.wrap IntKind.i64 (p1 + 1)) l453 n456 n459 p5 p6 p7 p8 p9 p10 p11 p12 p13))))
                (ocall V 53 [(.op [(.rs (1, 0) l278), (.int .i64 n281), (.int .i64 n284)]), (.int .i64 (2))] fun x486 l487 =>
                 asI .i64 x486 fun n488 => unc l487 fun x489 l490 => asOp x489 fun l491 => unc l491 fun x492 l493 => asRs (1, 0) x492 fun l494 => unc l493 fun x495 l496 => asI .i64 x495 fun n497 => unc l496 fun x498 l499 => asI .i64 x498 fun n500 => unn l499 (unn l490 (ocall V 24 [(.agg [(.int .i64 p8), (.int .i64 p9), (.rs (1, 0) p12), (.int .i64 p10), (.rs (2, 0) p13)]), (.int .i64 (IntKind.wrap IntKind.i64 (p10 - n488)))] fun x501 l502 =>
                           asTup x501 fun l503 => unc l503 fun x504 l505 => asAgg x504 fun l506 => unc l506 fun x507 l508 => asI .i64 x507 fun n509 => unc l508 fun x510 l511 => asI .i64 x510 fun n512 => unc l511 fun x513 l514 => asOs (1, 0) x513 fun l515 => unc l514 fun x516 l517 => asI .i64 x516 fun n518 => unc l517 fun x519 l520 => asOs (2, 0) x519 fun l521 => unn l520 (unc l505 fun x522 l523 => asB x522 fun b524 => unn l523 (unn l502 (Lspec_l10DrawRight_5v1 p0 (IntKind.wrap IntKind.i64 (p1 + 1)) l494 n497 n500 p5 p6 p7 n509 n512 n518 p11 l515 l521)))))))))))
   (some ((.agg [(.int .i64 p8), (.int .i64 p9), (.os (1, 0) p12), (.int .i64 p10), (.os (2, 0) p13)]), [(.op [(.rs (1, 0) p2), (.int .i64 p3), (.int .i64 p4)])])) := by
  exact (Rn_eq _ _ _).trans (by kernel_rfl)
theorem espec_l10DrawRight (a0_0 : List D) (a0_1 : Int) (a0_2 : Int) : V 65 [.op [.rs (1, 0) a0_0, .int .i64 a0_1, .int .i64 a0_2]] =
  ocall V 53 [(.op [(.rs (1, 0) a0_0), (.int .i64 a0_1), (.int .i64 a0_2)]), (.int .i64 (22))] fun x0 l1 =>
   asI .i64 x0 fun n2 => unc l1 fun x3 l4 => asOp x3 fun l5 => unc l5 fun x6 l7 => asRs (1, 0) x6 fun l8 => unc l7 fun x9 l10 => asI .i64 x9 fun n11 => unc l10 fun x12 l13 => asI .i64 x12 fun n14 => unn l13 (unn l4 (Lspec_l10DrawRight_5 n2 (0) l8 n11 n14 (0) (0) (0) (0) (0) (0) [])) := by
  exact (Vn_eq Try.func65 rfl _).trans (by kernel_rfl)
theorem espec_l1Pick (a0_0 : List D) (a0_1 : Int) (a0_2 : Int) (a1_ : List D) : V 57 [.op [.rs (1, 0) a0_0, .int .i64 a0_1, .int .i64 a0_2], .rs (1, 0) a1_] =
  ocall V 53 [(.op [(.rs (1, 0) a0_0), (.int .i64 a0_1), (.int .i64 a0_2)]), (.int .i64 (ni (List.length a1_)))] fun x0 l1 =>
   asI .i64 x0 fun n2 => unc l1 fun x3 l4 => asOp x3 fun l5 => unc l5 fun x6 l7 => asRs (1, 0) x6 fun l8 => unc l7 fun x9 l10 => asI .i64 x9 fun n11 => unc l10 fun x12 l13 => asI .i64 x12 fun n14 => unn l13 (unn l4 (grd (decide (0 ≤ n2) && decide (n2 < ni (List.length a1_))) (oget a1_ (Int.toNat n2) fun x15 =>
             asS x15 fun s16 => some ((.str s16), [(.op [(.rs (1, 0) l8), (.int .i64 n11), (.int .i64 n14)])])))) := by
  exact (Vn_eq Try.func57 rfl _).trans (by kernel_rfl)
theorem Lspec_l1New_3_eq (p0 : List D) (p1 : Int) (p2 : Int) : Lspec_l1New_3 p0 p1 p2 =
  br (decide (p2 < ni (List.length p0)))
   (br (decide (p2 < 4000))
    (grd (decide (0 ≤ p2) && decide (p2 < ni (List.length p0))) (oget p0 (Int.toNat p2) fun x0 =>
     asI .u8 x0 fun n1 => Lspec_l1New_3 p0 (IntKind.wrap IntKind.i64 (ni (BitVec.toNat (BitVec.ofInt (IntKind.bits IntKind.i64) (IntKind.wrap IntKind.i64 (IntKind.wrap IntKind.i64 (IntKind.wrap IntKind.i64 (p1 * 131) + IntKind.wrap IntKind.i64 n1) + 7)) &&& BitVec.ofInt (IntKind.bits IntKind.i64) (1073741823))))) (IntKind.wrap IntKind.i64 (p2 + 1))))
    (some ((.op [(.rs (1, 0) p0), (.int .i64 (0)), (.int .i64 p1)]), [])))
   (some ((.op [(.rs (1, 0) p0), (.int .i64 (0)), (.int .i64 p1)]), [])) := by
  exact (Rn_eq _ _ _).trans (by kernel_rfl)
theorem espec_l1New (a0_ : List D) : V 52 [.rs (1, 0) a0_] =
  Lspec_l1New_3 a0_ (IntKind.wrap IntKind.i64 (17000 + ni (List.length a0_))) (0) := by
  exact (Vn_eq Try.func52 rfl _).trans (by kernel_rfl)
theorem elaws_at (a0_ : List D) (a1_ : Int) : V 33 [.rs (1, 0) a0_, .int .i64 a1_] =
  br (decide (a1_ < ni (List.length a0_)))
   (grd (decide (0 ≤ a1_) && decide (a1_ < ni (List.length a0_))) (oget a0_ (Int.toNat a1_) fun x0 =>
    asI .u8 x0 fun n1 => some ((.int .i64 (IntKind.wrap IntKind.i64 n1)), [])))
   (some ((.int .i64 (Int.tmod (IntKind.wrap IntKind.i64 (IntKind.wrap IntKind.i64 (a1_ * 7) + ni (List.length a0_))) (256))), [])) := by
  exact (Vn_eq Try.func33 rfl _).trans (by kernel_rfl)
theorem espec_l10Draw (a0_0 : List D) (a0_1 : Int) (a0_2 : Int) : V 51 [.op [.rs (1, 0) a0_0, .int .i64 a0_1, .int .i64 a0_2]] =
  ocall V 65 [(.op [(.rs (1, 0) a0_0), (.int .i64 a0_1), (.int .i64 a0_2)])] fun x0 l1 =>
   asAgg x0 fun l2 => unc l2 fun x3 l4 => asI .i64 x3 fun n5 => unc l4 fun x6 l7 => asI .i64 x6 fun n8 => unc l7 fun x9 l10 => asOs (1, 0) x9 fun l11 => unc l10 fun x12 l13 => asI .i64 x12 fun n14 => unc l13 fun x15 l16 => asOs (2, 0) x15 fun l17 => unn l16 (unc l1 fun x18 l19 => asOp x18 fun l20 => unc l20 fun x21 l22 => asRs (1, 0) x21 fun l23 => unc l22 fun x24 l25 => asI .i64 x24 fun n26 => unc l25 fun x27 l28 => asI .i64 x27 fun n29 => unn l28 (unn l19 (ocall V 53 [(.op [(.rs (1, 0) l23), (.int .i64 n26), (.int .i64 n29)]), (.int .i64 (20))] fun x30 l31 =>
                       asI .i64 x30 fun n32 => unc l31 fun x33 l34 => asOp x33 fun l35 => unc l35 fun x36 l37 => asRs (1, 0) x36 fun l38 => unc l37 fun x39 l40 => asI .i64 x39 fun n41 => unc l40 fun x42 l43 => asI .i64 x42 fun n44 => unn l43 (unn l34 (br (n32 == 0)
                                 (ocall V 66 [(.op [(.rs (1, 0) l38), (.int .i64 n41), (.int .i64 n44)]), (.rs (1, 0) [(.int .i64 (-1)), (.int .i64 (IntKind.wrap IntKind.i64 (n5 + 1))), (.int .i64 (100001))])] fun x45 l46 =>
                                  asI .i64 x45 fun n47 => unc l46 fun x48 l49 => asOp x48 fun l50 => unc l50 fun x51 l52 => asRs (1, 0) x51 fun l53 => unc l52 fun x54 l55 => asI .i64 x54 fun n56 => unc l55 fun x57 l58 => asI .i64 x57 fun n59 => unn l58 (unn l49 (some ((.agg [(.int .i64 n47), (.int .i64 n8), (.os (1, 0) l11), (.int .i64 n14), (.os (2, 0) l17)]), [(.op [(.rs (1, 0) l53), (.int .i64 n56), (.int .i64 n59)])]))))
                                 (br (n32 == 1)
                                  (ocall V 53 [(.op [(.rs (1, 0) l38), (.int .i64 n41), (.int .i64 n44)]), (.int .i64 (9))] fun x60 l61 =>
                                   asI .i64 x60 fun n62 => unc l61 fun x63 l64 => asOp x63 fun l65 => unc l65 fun x66 l67 => asRs (1, 0) x66 fun l68 => unc l67 fun x69 l70 => asI .i64 x69 fun n71 => unc l70 fun x72 l73 => asI .i64 x72 fun n74 => unn l73 (unn l64 (some ((.agg [(.int .i64 n5), (.int .i64 n8), (.os (1, 0) l11), (.int .i64 (IntKind.wrap IntKind.i64 (n62 - 1))), (.os (2, 0) l17)]), [(.op [(.rs (1, 0) l68), (.int .i64 n71), (.int .i64 n74)])]))))
                                  (br (n32 == 2)
                                   (ocall V 53 [(.op [(.rs (1, 0) l38), (.int .i64 n41), (.int .i64 n44)]), (.int .i64 (9))] fun x75 l76 =>
                                    asI .i64 x75 fun n77 => unc l76 fun x78 l79 => asOp x78 fun l80 => unc l80 fun x81 l82 => asRs (1, 0) x81 fun l83 => unc l82 fun x84 l85 => asI .i64 x84 fun n86 => unc l85 fun x87 l88 => asI .i64 x87 fun n89 => unn l88 (unn l79 (some ((.agg [(.int .i64 n5), (.int .i64 (IntKind.wrap IntKind.i64 (n77 - 1))), (.os (1, 0) l11), (.int .i64 n14), (.os (2, 0) l17)]), [(.op [(.rs (1, 0) l83), (.int .i64 n86), (.int .i64 n89)])]))))
                                   (br (n32 == 3)
                                    (ocall V 53 [(.op [(.rs (1, 0) l38), (.int .i64 n41), (.int .i64 n44)]), (.int .i64 (12))] fun x90 l91 =>
                                     asI .i64 x90 fun n92 => unc l91 fun x93 l94 => asOp x93 fun l95 => unc l95 fun x96 l97 => asRs (1, 0) x96 fun l98 => unc l97 fun x99 l100 => asI .i64 x99 fun n101 => unc l100 fun x102 l103 => asI .i64 x102 fun n104 => unn l103 (unn l94 (grd (decide (ni (List.length (l17 ++ [D.agg [D.int IntKind.i64 n92, D.str { data := #[] }]])) ≤ LIM)) (nam (l17 ++ [D.agg [D.int IntKind.i64 n92, D.str { data := #[] }]]) fun l105 =>
                                               some ((.agg [(.int .i64 n5), (.int .i64 n8), (.os (1, 0) l11), (.int .i64 n14), (.os (2, 0) l105)]), [(.op [(.rs (1, 0) l98), (.int .i64 n101), (.int .i64 n104)])])))))
                                    (br (n32 == 4)
                                     (ocall V 53 [(.op [(.rs (1, 0) l38), (.int .i64 n41), (.int .i64 n44)]), (.int .i64 (2))] fun x106 l107 =>
                                      asI .i64 x106 fun n108 => unc l107 fun x109 l110 => asOp x109 fun l111 => unc l111 fun x112 l113 => asRs (1, 0) x112 fun l114 => unc l113 fun x115 l116 => asI .i64 x115 fun n117 => unc l116 fun x118 l119 => asI .i64 x118 fun n120 => unn l119 (unn l110 (grd (decide (0 ≤ IntKind.wrap IntKind.i64 (30 + n108)) && decide (IntKind.wrap IntKind.i64 (30 + n108) ≤ LIM)) (some ((.agg [(.int .i64 (IntKind.wrap IntKind.i64 (30 + n108))), (.int .i64 (0)), (.os (1, 0) (List.replicate (Int.toNat (IntKind.wrap IntKind.i64 (30 + n108))) (D.str { data := #[] }))), (.int .i64 (0)), (.os (2, 0) [])]), [(.op [(.rs (1, 0) l114), (.int .i64 n117), (.int .i64 n120)])])))))
                                     (some ((.agg [(.int .i64 n5), (.int .i64 n8), (.os (1, 0) l11), (.int .i64 n14), (.os (2, 0) l17)]), [(.op [(.rs (1, 0) l38), (.int .i64 n41), (.int .i64 n44)])]))))))))))) := by
  exact (Vn_eq Try.func51 rfl _).trans (by kernel_rfl)
theorem espec_l1PickInt (a0_0 : List D) (a0_1 : Int) (a0_2 : Int) (a1_ : List D) : V 66 [.op [.rs (1, 0) a0_0, .int .i64 a0_1, .int .i64 a0_2], .rs (1, 0) a1_] =
  ocall V 53 [(.op [(.rs (1, 0) a0_0), (.int .i64 a0_1), (.int .i64 a0_2)]), (.int .i64 (ni (List.length a1_)))] fun x0 l1 =>
   asI .i64 x0 fun n2 => unc l1 fun x3 l4 => asOp x3 fun l5 => unc l5 fun x6 l7 => asRs (1, 0) x6 fun l8 => unc l7 fun x9 l10 => asI .i64 x9 fun n11 => unc l10 fun x12 l13 => asI .i64 x12 fun n14 => unn l13 (unn l4 (grd (decide (0 ≤ n2) && decide (n2 < ni (List.length a1_))) (oget a1_ (Int.toNat n2) fun x15 =>
             asI .i64 x15 fun n16 => some ((.int .i64 n16), [(.op [(.rs (1, 0) l8), (.int .i64 n11), (.int .i64 n14)])])))) := by
  exact (Vn_eq Try.func66 rfl _).trans (by kernel_rfl)
theorem espec_DrawLinkShow (a0_ : List D) : V 19 [.rs (1, 0) a0_] =
  ocall V 52 [(.rs (1, 0) a0_)] fun x0 l1 =>
   asOp x0 fun l2 => unc l2 fun x3 l4 => asRs (1, 0) x3 fun l5 => unc l4 fun x6 l7 => asI .i64 x6 fun n8 => unc l7 fun x9 l10 => asI .i64 x9 fun n11 => unn l10 (unn l1 (ocall V 51 [(.op [(.rs (1, 0) l5), (.int .i64 n8), (.int .i64 n11)])] fun x12 l13 =>
           asAgg x12 fun l14 => unc l14 fun x15 l16 => asI .i64 x15 fun n17 => unc l16 fun x18 l19 => asI .i64 x18 fun n20 => unc l19 fun x21 l22 => asOs (1, 0) x21 fun l23 => unc l22 fun x24 l25 => asI .i64 x24 fun n26 => unc l25 fun x27 l28 => asOs (2, 0) x27 fun l29 => unn l28 (unc l13 fun x30 l31 => asOp x30 fun l32 => unc l32 fun x33 l34 => asRs (1, 0) x33 fun l35 => unc l34 fun x36 l37 => asI .i64 x36 fun n38 => unc l37 fun x39 l40 => asI .i64 x39 fun n41 => unn l40 (unn l31 (some ((.agg [(.int .i64 n17), (.int .i64 n20), (.os (1, 0) l23), (.int .i64 n26), (.os (2, 0) l29)]), [])))))) := by
  exact (Vn_eq Try.func19 rfl _).trans (by kernel_rfl)
theorem Llaws_FnShown_8_eq (p0 : Int) (p1 : Int) (p2 : Int) (p3 : Int) (p4 : List D) (p5 : List D) (p6 : List D) : Llaws_FnShown_8 p0 p1 p2 p3 p4 p5 p6 =
  br (decide (p0 < ni (List.length p4)))
   (grd (decide (0 ≤ p0) && decide (p0 < ni (List.length p4))) (oget p4 (Int.toNat p0) fun x27 =>
    asAgg x27 fun l28 => oget l28 0 fun x29 =>
      asI .i64 x29 fun n30 => br (n30 != IntKind.wrap IntKind.i64 (p2 + p0))
        (some ((.bool false), []))
        (grd (decide (0 ≤ p0) && decide (p0 < ni (List.length p4))) (oget p4 (Int.toNat p0) fun x31 =>
         asAgg x31 fun l32 => oget l32 1 fun x33 =>
           asS x33 fun s34 => grd (decide (0 ≤ p0) && decide (p0 < ni (List.length p5))) (oget p5 (Int.toNat p0) fun x35 =>
             asS x35 fun s36 => br (!strEq s34 s36)
               (some ((.bool false), []))
               (Llaws_FnShown_8 (IntKind.wrap IntKind.i64 (p0 + 1)) p1 p2 p3 p4 p5 p6))))))
   (ocall V 14 [(.agg [(.int .i64 p1), (.int .i64 p2), (.rs (1, 0) p5), (.int .i64 p3), (.rs (2, 0) p6)])] fun x37 l38 =>
    asB x37 fun b39 => unn l38 (br (!b39)
      (some ((.bool true), []))
      (br (ni (List.length p4) == 4)
       (some ((.bool true), []))
       (some ((.bool (ni (List.length p4) == ni (List.length p5))), []))))) := by
  exact (Rn_eq _ _ _).trans (by kernel_rfl)
theorem elaws_FnShown (a0_ : List D) : V 4 [.rs (1, 0) a0_] =
  ocall V 18 [(.rs (1, 0) a0_)] fun x0 l1 =>
   asB x0 fun b2 => unn l1 (br b2
     (some ((.bool true), []))
     (ocall V 19 [(.rs (1, 0) a0_)] fun x3 l4 =>
      asAgg x3 fun l5 => unc l5 fun x6 l7 => asI .i64 x6 fun n8 => unc l7 fun x9 l10 => asI .i64 x9 fun n11 => unc l10 fun x12 l13 => asOs (1, 0) x12 fun l14 => unc l13 fun x15 l16 => asI .i64 x15 fun n17 => unc l16 fun x18 l19 => asOs (2, 0) x18 fun l20 => unn l19 (unn l4 (ocall V 20 [(.agg [(.int .i64 n8), (.int .i64 n11), (.rs (1, 0) l14), (.int .i64 n17), (.rs (2, 0) l20)])] fun x21 l22 =>
                  asOs (2, 0) x21 fun l23 => unn l22 (ocall V 21 [(.agg [(.int .i64 n8), (.int .i64 n11), (.rs (1, 0) l14), (.int .i64 n17), (.rs (2, 0) l20)])] fun x24 l25 =>
                    asOs (2, 0) x24 fun l26 => unn l25 (br (ni (List.length l23) != ni (List.length l26))
                      (some ((.bool false), []))
                      (br (decide (ni (List.length l23) > 4))
                       (some ((.bool false), []))
                       (Llaws_FnShown_8 (0) n8 n11 n17 l23 l14 l20)))))))) := by
  exact (Vn_eq Try.func4 rfl _).trans (by kernel_rfl)
theorem Lspec_LinkTake_12_eq (p0 : Int) (p1 : Int) (p2 : Int) (p3 : List D) (p4 : Int) (p5 : Int) (p6 : Int) (p7 : List D) (p8 : List D) : Lspec_LinkTake_12 p0 p1 p2 p3 p4 p5 p6 p7 p8 =
  br (decide (ni (List.length p8) > 0))
   (grd (decide (0 ≤ 0) && decide (0 < ni (List.length p8))) (oget p8 0 fun x30 =>
    asAgg x30 fun l31 => oget l31 0 fun x32 =>
      asI .i64 x32 fun n33 => br (n33 == p6)
        (grd (decide (0 ≤ 0) && decide (0 < ni (List.length p8))) (oget p8 0 fun x34 =>
         asAgg x34 fun l35 => oget l35 1 fun x36 =>
           asS x36 fun s37 => grd (decide (ni (List.length (p3 ++ [D.str s37])) ≤ LIM)) (nam (p3 ++ [D.str s37]) fun l38 =>
             grd (cutOk (List.length p8) (some (1)) none) (Lspec_LinkTake_12v1 p0 p1 p2 l38 p4 p5 (IntKind.wrap IntKind.i64 (p6 + 1)) (Int.toNat (1)) (List.length p8 - Int.toNat (1)) p7 p8))))
        (grd (decide (ni (List.length ([] ++ p8)) ≤ LIM)) (nam ([] ++ p8) fun l39 =>
         some ((.tup [(.agg [(.int .i64 p4), (.int .i64 p5), (.os (1, 0) p7), (.int .i64 p6), (.os (2, 0) l39)]), (.os (1, 0) p3)]), [])))))
   (grd (decide (ni (List.length ([] ++ p8)) ≤ LIM)) (nam ([] ++ p8) fun l40 =>
    some ((.tup [(.agg [(.int .i64 p4), (.int .i64 p5), (.os (1, 0) p7), (.int .i64 p6), (.os (2, 0) l40)]), (.os (1, 0) p3)]), []))) := by
  exact (Rn_eq _ _ _).trans (by kernel_rfl)
theorem Lspec_LinkTake_12v1_eq (p0 : Int) (p1 : Int) (p2 : Int) (p3 : List D) (p4 : Int) (p5 : Int) (p6 : Int) (p7 : Nat) (p8 : Nat) (p9 : List D) (p10 : List D) : Lspec_LinkTake_12v1 p0 p1 p2 p3 p4 p5 p6 p7 p8 p9 p10 =
  br (decide (ni p8 > 0))
   (grd (decide (0 ≤ 0) && decide (0 < ni p8) && decide (p7 + p8 ≤ List.length p10)) (oget p10 (p7 + Int.toNat (0)) fun x41 =>
    asAgg x41 fun l42 => oget l42 0 fun x43 =>
      asI .i64 x43 fun n44 => br (n44 == p6)
        (grd (decide (0 ≤ 0) && decide (0 < ni p8) && decide (p7 + p8 ≤ List.length p10)) (oget p10 (p7 + Int.toNat (0)) fun x45 =>
         asAgg x45 fun l46 => oget l46 1 fun x47 =>
           asS x47 fun s48 => grd (decide (ni (List.length (p3 ++ [D.str s48])) ≤ LIM)) (nam (p3 ++ [D.str s48]) fun l49 =>
             grd (cutOkX p8 (List.length p10 - p7) (some (1)) none) (Lspec_LinkTake_12v1 p0 p1 p2 l49 p4 p5 (IntKind.wrap IntKind.i64 (p6 + 1)) (p7 + Int.toNat (1)) (p8 - Int.toNat (1)) p9 p10))))
        (grd (decide (ni (List.length ([] ++ part p10 (some (p7, p8)))) ≤ LIM)) (nam ([] ++ part p10 (some (p7, p8))) fun l50 =>
         some ((.tup [(.agg [(.int .i64 p4), (.int .i64 p5), (.os (1, 0) p9), (.int .i64 p6), (.os (2, 0) l50)]), (.os (1, 0) p3)]), [])))))
   (grd (decide (ni (List.length ([] ++ part p10 (some (p7, p8)))) ≤ LIM)) (nam ([] ++ part p10 (some (p7, p8))) fun l51 =>
    some ((.tup [(.agg [(.int .i64 p4), (.int .i64 p5), (.os (1, 0) p9), (.int .i64 p6), (.os (2, 0) l51)]), (.os (1, 0) p3)]), []))) := by
  exact (Rn_eq _ _ _).trans (by kernel_rfl)
theorem espec_LinkTake (a0_0 : Int) (a0_1 : Int) (a0_2 : List D) (a0_3 : Int) (a0_4 : List D) (a1_0 : Int) (a1_1 : ByteArray) : V 38 [.agg [.int .i64 a0_0, .int .i64 a0_1, .rs (1, 0) a0_2, .int .i64 a0_3, .rs (2, 0) a0_4], .agg [.int .i64 a1_0, .str a1_1]] =
  ocall V 14 [(.agg [(.int .i64 a0_0), (.int .i64 a0_1), (.rs (1, 0) a0_2), (.int .i64 a0_3), (.rs (2, 0) a0_4)])] fun x0 l1 =>
   asB x0 fun b2 => unn l1 (br (!b2)
     (some ((.tup [(.agg [(.int .i64 (0)), (.int .i64 (0)), (.os (1, 0) []), (.int .i64 (0)), (.os (2, 0) [])]), (.os (1, 0) [])]), []))
     (ocall V 56 [(.agg [(.int .i64 a0_0), (.int .i64 a0_1), (.rs (1, 0) a0_2), (.int .i64 a0_3), (.rs (2, 0) a0_4)])] fun x3 l4 =>
      asAgg x3 fun l5 => unc l5 fun x6 l7 => asI .i64 x6 fun n8 => unc l7 fun x9 l10 => asI .i64 x9 fun n11 => unc l10 fun x12 l13 => asOs (1, 0) x12 fun l14 => unc l13 fun x15 l16 => asI .i64 x15 fun n17 => unc l16 fun x18 l19 => asOs (2, 0) x18 fun l20 => unn l19 (unn l4 (ocall V 47 [(.int .i64 (IntKind.wrap IntKind.i64 (a0_3 + 4))), (.int .i64 a0_0)] fun x21 l22 =>
                  asI .i64 x21 fun n23 => unn l22 (ocall V 46 [(.int .i64 a1_0), (.int .i64 a0_3), (.int .i64 (IntKind.wrap IntKind.i64 (n23 - 1)))] fun x24 l25 =>
                    asB x24 fun b26 => unn l25 (br (!b26)
                      (some ((.tup [(.agg [(.int .i64 n8), (.int .i64 n11), (.os (1, 0) l14), (.int .i64 n17), (.os (2, 0) l20)]), (.os (1, 0) [])]), []))
                      (br (decide (a1_0 > a0_3))
                       (ocall V 64 [(.rs (2, 0) l20), (.agg [(.int .i64 a1_0), (.str a1_1)])] fun x27 l28 =>
                        asOs (2, 0) x27 fun l29 => unn l28 (some ((.tup [(.agg [(.int .i64 n8), (.int .i64 n11), (.os (1, 0) l14), (.int .i64 n17), (.os (2, 0) l29)]), (.os (1, 0) [])]), [])))
                       (Lspec_LinkTake_12 (0) (0) (0) ([D.str a1_1]) n8 n11 (IntKind.wrap IntKind.i64 (a0_3 + 1)) l14 l20)))))))) := by
  exact (Vn_eq Try.func38 rfl _).trans (by kernel_rfl)
theorem espec_l1Below (a0_0 : List D) (a0_1 : Int) (a0_2 : Int) (a1_ : Int) : V 53 [.op [.rs (1, 0) a0_0, .int .i64 a0_1, .int .i64 a0_2], .int .i64 a1_] =
  br (decide (a1_ ≤ 0))
   (some ((.int .i64 (0)), [(.op [(.rs (1, 0) a0_0), (.int .i64 a0_1), (.int .i64 a0_2)])]))
   (br (decide (a1_ ≤ 256))
    (ocall V 67 [(.op [(.rs (1, 0) a0_0), (.int .i64 a0_1), (.int .i64 a0_2)])] fun x0 l1 =>
     asI .i64 x0 fun n2 => unc l1 fun x3 l4 => asOp x3 fun l5 => unc l5 fun x6 l7 => asRs (1, 0) x6 fun l8 => unc l7 fun x9 l10 => asI .i64 x9 fun n11 => unc l10 fun x12 l13 => asI .i64 x12 fun n14 => unn l13 (unn l4 (grd (!decide (a1_ = 0)) (some ((.int .i64 (Int.tmod n2 a1_)), [(.op [(.rs (1, 0) l8), (.int .i64 n11), (.int .i64 n14)])])))))
    (ocall V 67 [(.op [(.rs (1, 0) a0_0), (.int .i64 a0_1), (.int .i64 a0_2)])] fun x15 l16 =>
     asI .i64 x15 fun n17 => unc l16 fun x18 l19 => asOp x18 fun l20 => unc l20 fun x21 l22 => asRs (1, 0) x21 fun l23 => unc l22 fun x24 l25 => asI .i64 x24 fun n26 => unc l25 fun x27 l28 => asI .i64 x27 fun n29 => unn l28 (unn l19 (ocall V 67 [(.op [(.rs (1, 0) l23), (.int .i64 n26), (.int .i64 n29)])] fun x30 l31 =>
               asI .i64 x30 fun n32 => unc l31 fun x33 l34 => asOp x33 fun l35 => unc l35 fun x36 l37 => asRs (1, 0) x36 fun l38 => unc l37 fun x39 l40 => asI .i64 x39 fun n41 => unc l40 fun x42 l43 => asI .i64 x42 fun n44 => unn l43 (unn l34 (ocall V 67 [(.op [(.rs (1, 0) l38), (.int .i64 n41), (.int .i64 n44)])] fun x45 l46 =>
                         asI .i64 x45 fun n47 => unc l46 fun x48 l49 => asOp x48 fun l50 => unc l50 fun x51 l52 => asRs (1, 0) x51 fun l53 => unc l52 fun x54 l55 => asI .i64 x54 fun n56 => unc l55 fun x57 l58 => asI .i64 x57 fun n59 => unn l58 (unn l49 (ocall V 67 [(.op [(.rs (1, 0) l53), (.int .i64 n56), (.int .i64 n59)])] fun x60 l61 =>
                                   asI .i64 x60 fun n62 => unc l61 fun x63 l64 => asOp x63 fun l65 => unc l65 fun x66 l67 => asRs (1, 0) x66 fun l68 => unc l67 fun x69 l70 => asI .i64 x69 fun n71 => unc l70 fun x72 l73 => asI .i64 x72 fun n74 => unn l73 (unn l64 (grd (!decide (a1_ = 0)) (some ((.int .i64 (Int.tmod (IntKind.wrap IntKind.i64 (IntKind.wrap IntKind.i64 (IntKind.wrap IntKind.i64 (IntKind.wrap IntKind.i64 (n17 * 16777216) + IntKind.wrap IntKind.i64 (n32 * 65536)) + IntKind.wrap IntKind.i64 (n47 * 256)) + n62)) a1_)), [(.op [(.rs (1, 0) l68), (.int .i64 n71), (.int .i64 n74)])])))))))))))) := by
  exact (Vn_eq Try.func53 rfl _).trans (by kernel_rfl)
theorem espec_DrawLinkAck (a0_ : List D) : V 22 [.rs (1, 0) a0_] =
  ocall V 52 [(.rs (1, 0) a0_)] fun x0 l1 =>
   asOp x0 fun l2 => unc l2 fun x3 l4 => asRs (1, 0) x3 fun l5 => unc l4 fun x6 l7 => asI .i64 x6 fun n8 => unc l7 fun x9 l10 => asI .i64 x9 fun n11 => unn l10 (unn l1 (ocall V 51 [(.op [(.rs (1, 0) l5), (.int .i64 n8), (.int .i64 n11)])] fun x12 l13 =>
           asAgg x12 fun l14 => unc l14 fun x15 l16 => asI .i64 x15 fun n17 => unc l16 fun x18 l19 => asI .i64 x18 fun n20 => unc l19 fun x21 l22 => asOs (1, 0) x21 fun l23 => unc l22 fun x24 l25 => asI .i64 x24 fun n26 => unc l25 fun x27 l28 => asOs (2, 0) x27 fun l29 => unn l28 (unc l13 fun x30 l31 => asOp x30 fun l32 => unc l32 fun x33 l34 => asRs (1, 0) x33 fun l35 => unc l34 fun x36 l37 => asI .i64 x36 fun n38 => unc l37 fun x39 l40 => asI .i64 x39 fun n41 => unn l40 (unn l31 (ocall V 53 [(.op [(.rs (1, 0) l35), (.int .i64 n38), (.int .i64 n41)]), (.int .i64 (5))] fun x42 l43 =>
                               asI .i64 x42 fun n44 => unc l43 fun x45 l46 => asOp x45 fun l47 => unc l47 fun x48 l49 => asRs (1, 0) x48 fun l50 => unc l49 fun x51 l52 => asI .i64 x51 fun n53 => unc l52 fun x54 l55 => asI .i64 x54 fun n56 => unn l55 (unn l46 (some ((.tup [(.agg [(.int .i64 n17), (.int .i64 n20), (.os (1, 0) l23), (.int .i64 n26), (.os (2, 0) l29)]), (.int .i64 (IntKind.wrap IntKind.i64 (IntKind.wrap IntKind.i64 (n20 + n44) - 1)))]), [])))))))) := by
  exact (Vn_eq Try.func22 rfl _).trans (by kernel_rfl)
theorem elaws_FnAcked (a0_ : List D) : V 5 [.rs (1, 0) a0_] =
  ocall V 18 [(.rs (1, 0) a0_)] fun x0 l1 =>
   asB x0 fun b2 => unn l1 (br b2
     (some ((.bool true), []))
     (ocall V 22 [(.rs (1, 0) a0_)] fun x3 l4 =>
      asTup x3 fun l5 => unc l5 fun x6 l7 => asAgg x6 fun l8 => unc l8 fun x9 l10 => asI .i64 x9 fun n11 => unc l10 fun x12 l13 => asI .i64 x12 fun n14 => unc l13 fun x15 l16 => asOs (1, 0) x15 fun l17 => unc l16 fun x18 l19 => asI .i64 x18 fun n20 => unc l19 fun x21 l22 => asOs (2, 0) x21 fun l23 => unn l22 (unc l7 fun x24 l25 => asI .i64 x24 fun n26 => unn l25 (unn l4 (ocall V 16 [(.agg [(.int .i64 n11), (.int .i64 n14), (.rs (1, 0) l17), (.int .i64 n20), (.rs (2, 0) l23)])] fun x27 l28 =>
                      asB x27 fun b29 => unn l28 (ocall V 14 [(.agg [(.int .i64 n11), (.int .i64 n14), (.rs (1, 0) l17), (.int .i64 n20), (.rs (2, 0) l23)])] fun x30 l31 =>
                        asB x30 fun b32 => unn l31 (br (!b29 == b32)
                          (some ((.bool false), []))
                          (ocall V 22 [(.rs (1, 0) a0_)] fun x33 l34 =>
                           asTup x33 fun l35 => unc l35 fun x36 l37 => asAgg x36 fun l38 => unc l38 fun x39 l40 => asI .i64 x39 fun n41 => unc l40 fun x42 l43 => asI .i64 x42 fun n44 => unc l43 fun x45 l46 => asOs (1, 0) x45 fun l47 => unc l46 fun x48 l49 => asI .i64 x48 fun n50 => unc l49 fun x51 l52 => asOs (2, 0) x51 fun l53 => unn l52 (unc l37 fun x54 l55 => asI .i64 x54 fun n56 => unn l55 (unn l34 (ocall V 23 [(.agg [(.int .i64 n41), (.int .i64 n44), (.rs (1, 0) l47), (.int .i64 n50), (.rs (2, 0) l53)]), (.int .i64 n56)] fun x57 l58 =>
                                           asTup x57 fun l59 => unc l59 fun x60 l61 => asAgg x60 fun l62 => unc l62 fun x63 l64 => asI .i64 x63 fun n65 => unc l64 fun x66 l67 => asI .i64 x66 fun n68 => unc l67 fun x69 l70 => asOs (1, 0) x69 fun l71 => unc l70 fun x72 l73 => asI .i64 x72 fun n74 => unc l73 fun x75 l76 => asOs (2, 0) x75 fun l77 => unn l76 (unc l61 fun x78 l79 => asB x78 fun b80 => unn l79 (unn l58 (ocall V 24 [(.agg [(.int .i64 n41), (.int .i64 n44), (.rs (1, 0) l47), (.int .i64 n50), (.rs (2, 0) l53)]), (.int .i64 n56)] fun x81 l82 =>
                                                           asTup x81 fun l83 => unc l83 fun x84 l85 => asAgg x84 fun l86 => unc l86 fun x87 l88 => asI .i64 x87 fun n89 => unc l88 fun x90 l91 => asI .i64 x90 fun n92 => unc l91 fun x93 l94 => asOs (1, 0) x93 fun l95 => unc l94 fun x96 l97 => asI .i64 x96 fun n98 => unc l97 fun x99 l100 => asOs (2, 0) x99 fun l101 => unn l100 (unc l85 fun x102 l103 => asB x102 fun b104 => unn l103 (unn l82 (br (!b80 == b104)
                                                                           (some ((.bool false), []))
                                                                           (br (!b80)
                                                                            (br (n68 == n44)
                                                                             (some ((.bool true), []))
                                                                             (some ((.bool (n65 == 0)), [])))
                                                                            (br (n68 == n56)
                                                                             (br (decide (n56 ≤ n50))
                                                                              (br (ni (List.length l71) == IntKind.wrap IntKind.i64 (n41 - n56))
                                                                               (grd (cutOk (List.length l47) (some (IntKind.wrap IntKind.i64 (n56 - n44))) none) (ocall V 25 [(.rs (1, 0) l71), (.rs (1, 0) (part l47 (cutR (List.length l47) none (some (IntKind.wrap IntKind.i64 (n56 - n44))) none)))] fun x105 l106 =>
                                                                                asB x105 fun b107 => unn l106 (br b107
                                                                                  (ocall V 16 [(.agg [(.int .i64 n65), (.int .i64 n68), (.rs (1, 0) l71), (.int .i64 n74), (.rs (2, 0) l77)])] fun x108 l109 =>
                                                                                   asB x108 fun b110 => unn l109 (some ((.bool b110), [])))
                                                                                  (some ((.bool false), [])))))
                                                                               (some ((.bool false), [])))
                                                                              (some ((.bool false), [])))
                                                                             (some ((.bool false), []))))))))))))))))))))) := by
  exact (Vn_eq Try.func5 rfl _).trans (by kernel_rfl)
theorem espec_DrawLinkTake (a0_ : List D) : V 37 [.rs (1, 0) a0_] =
  ocall V 52 [(.rs (1, 0) a0_)] fun x0 l1 =>
   asOp x0 fun l2 => unc l2 fun x3 l4 => asRs (1, 0) x3 fun l5 => unc l4 fun x6 l7 => asI .i64 x6 fun n8 => unc l7 fun x9 l10 => asI .i64 x9 fun n11 => unn l10 (unn l1 (ocall V 51 [(.op [(.rs (1, 0) l5), (.int .i64 n8), (.int .i64 n11)])] fun x12 l13 =>
           asAgg x12 fun l14 => unc l14 fun x15 l16 => asI .i64 x15 fun n17 => unc l16 fun x18 l19 => asI .i64 x18 fun n20 => unc l19 fun x21 l22 => asOs (1, 0) x21 fun l23 => unc l22 fun x24 l25 => asI .i64 x24 fun n26 => unc l25 fun x27 l28 => asOs (2, 0) x27 fun l29 => unn l28 (unc l13 fun x30 l31 => asOp x30 fun l32 => unc l32 fun x33 l34 => asRs (1, 0) x33 fun l35 => unc l34 fun x36 l37 => asI .i64 x36 fun n38 => unc l37 fun x39 l40 => asI .i64 x39 fun n41 => unn l40 (unn l31 (ocall V 53 [(.op [(.rs (1, 0) l35), (.int .i64 n38), (.int .i64 n41)]), (.int .i64 (7))] fun x42 l43 =>
                               asI .i64 x42 fun n44 => unc l43 fun x45 l46 => asOp x45 fun l47 => unc l47 fun x48 l49 => asRs (1, 0) x48 fun l50 => unc l49 fun x51 l52 => asI .i64 x51 fun n53 => unc l52 fun x54 l55 => asI .i64 x54 fun n56 => unn l55 (unn l46 (ocall V 57 [(.op [(.rs (1, 0) l50), (.int .i64 n53), (.int .i64 n56)]), (.rs (1, 0) [(.str ({ data := #[] })), (.str ({ data := #[97] })), (.str ({ data := #[98, 98] }))])] fun x57 l58 =>
                                         asS x57 fun s59 => unc l58 fun x60 l61 => asOp x60 fun l62 => unc l62 fun x63 l64 => asRs (1, 0) x63 fun l65 => unc l64 fun x66 l67 => asI .i64 x66 fun n68 => unc l67 fun x69 l70 => asI .i64 x69 fun n71 => unn l70 (unn l61 (some ((.tup [(.agg [(.int .i64 n17), (.int .i64 n20), (.os (1, 0) l23), (.int .i64 n26), (.os (2, 0) l29)]), (.agg [(.int .i64 (IntKind.wrap IntKind.i64 (IntKind.wrap IntKind.i64 (n26 + n44) - 1))), (.str s59)])]), [])))))))))) := by
  exact (Vn_eq Try.func37 rfl _).trans (by kernel_rfl)
theorem Lspec_l10Hold_4_eq (p0 : List D) (p1 : Bool) (p2 : Int) (p3 : Int) (p4 : ByteArray) (p5 : List D) : Lspec_l10Hold_4 p0 p1 p2 p3 p4 p5 =
  br (decide (p2 < ni (List.length p0)))
   (br (!p1)
    (grd (decide (0 ≤ p2) && decide (p2 < ni (List.length p0))) (oget p0 (Int.toNat p2) fun x0 =>
     asAgg x0 fun l1 => oget l1 0 fun x2 =>
       asI .i64 x2 fun n3 => br (decide (n3 ≥ p3))
         (grd (decide (0 ≤ p2) && decide (p2 < ni (List.length p0))) (oget p0 (Int.toNat p2) fun x4 =>
          asAgg x4 fun l5 => oget l5 0 fun x6 =>
            asI .i64 x6 fun n7 => br (decide (n7 > p3))
              (grd (decide (ni (List.length (p5 ++ [D.agg [D.int IntKind.i64 p3, D.str p4]])) ≤ LIM)) (nam (p5 ++ [D.agg [D.int IntKind.i64 p3, D.str p4]]) fun l8 =>
               grd (decide (0 ≤ p2) && decide (p2 < ni (List.length p0))) (oget p0 (Int.toNat p2) fun x9 =>
                asAgg x9 fun l10 => unc l10 fun x11 l12 => asI .i64 x11 fun n13 => unc l12 fun x14 l15 => asS x14 fun s16 => unn l15 (grd (decide (ni (List.length (l8 ++ [D.agg [D.int IntKind.i64 n13, D.str s16]])) ≤ LIM)) (nam (l8 ++ [D.agg [D.int IntKind.i64 n13, D.str s16]]) fun l17 =>
                      Lspec_l10Hold_4 p0 true (IntKind.wrap IntKind.i64 (p2 + 1)) p3 p4 l17)))))
              (grd (decide (0 ≤ p2) && decide (p2 < ni (List.length p0))) (oget p0 (Int.toNat p2) fun x18 =>
               asAgg x18 fun l19 => unc l19 fun x20 l21 => asI .i64 x20 fun n22 => unc l21 fun x23 l24 => asS x23 fun s25 => unn l24 (grd (decide (ni (List.length (p5 ++ [D.agg [D.int IntKind.i64 n22, D.str s25]])) ≤ LIM)) (nam (p5 ++ [D.agg [D.int IntKind.i64 n22, D.str s25]]) fun l26 =>
                     Lspec_l10Hold_4 p0 true (IntKind.wrap IntKind.i64 (p2 + 1)) p3 p4 l26))))))
         (grd (decide (0 ≤ p2) && decide (p2 < ni (List.length p0))) (oget p0 (Int.toNat p2) fun x27 =>
          asAgg x27 fun l28 => unc l28 fun x29 l30 => asI .i64 x29 fun n31 => unc l30 fun x32 l33 => asS x32 fun s34 => unn l33 (grd (decide (ni (List.length (p5 ++ [D.agg [D.int IntKind.i64 n31, D.str s34]])) ≤ LIM)) (nam (p5 ++ [D.agg [D.int IntKind.i64 n31, D.str s34]]) fun l35 =>
                Lspec_l10Hold_4 p0 p1 (IntKind.wrap IntKind.i64 (p2 + 1)) p3 p4 l35))))))
    (grd (decide (0 ≤ p2) && decide (p2 < ni (List.length p0))) (oget p0 (Int.toNat p2) fun x36 =>
     asAgg x36 fun l37 => unc l37 fun x38 l39 => asI .i64 x38 fun n40 => unc l39 fun x41 l42 => asS x41 fun s43 => unn l42 (grd (decide (ni (List.length (p5 ++ [D.agg [D.int IntKind.i64 n40, D.str s43]])) ≤ LIM)) (nam (p5 ++ [D.agg [D.int IntKind.i64 n40, D.str s43]]) fun l44 =>
           Lspec_l10Hold_4 p0 p1 (IntKind.wrap IntKind.i64 (p2 + 1)) p3 p4 l44)))))
   (br (!p1)
    (grd (decide (ni (List.length (p5 ++ [D.agg [D.int IntKind.i64 p3, D.str p4]])) ≤ LIM)) (nam (p5 ++ [D.agg [D.int IntKind.i64 p3, D.str p4]]) fun l45 =>
     some ((.os (2, 0) l45), [])))
    (some ((.os (2, 0) p5), []))) := by
  exact (Rn_eq _ _ _).trans (by kernel_rfl)
theorem espec_l10Hold (a0_ : List D) (a1_0 : Int) (a1_1 : ByteArray) : V 64 [.rs (2, 0) a0_, .agg [.int .i64 a1_0, .str a1_1]] =
  Lspec_l10Hold_4 a0_ false (0) a1_0 a1_1 [] := by
  exact (Vn_eq Try.func64 rfl _).trans (by kernel_rfl)
theorem espec_l1Byte (a0_0 : List D) (a0_1 : Int) (a0_2 : Int) : V 67 [.op [.rs (1, 0) a0_0, .int .i64 a0_1, .int .i64 a0_2]] =
  br (decide (a0_1 < ni (List.length a0_0)))
   (grd (decide (0 ≤ a0_1) && decide (a0_1 < ni (List.length a0_0))) (oget a0_0 (Int.toNat a0_1) fun x0 =>
    asI .u8 x0 fun n1 => some ((.int .i64 (IntKind.wrap IntKind.i64 (ni (BitVec.toNat (BitVec.ofInt (IntKind.bits IntKind.i64) (IntKind.wrap IntKind.i64 (IntKind.wrap IntKind.i64 (ni (BitVec.toNat (BitVec.ofInt (IntKind.bits IntKind.i64) (IntKind.wrap IntKind.i64 (ni (BitVec.toNat (BitVec.ofInt (IntKind.bits IntKind.i64) (Int.fdiv (IntKind.wrap IntKind.i64 (IntKind.wrap IntKind.i64 (a0_2 * 6364136223846793005) + 1442695040888963407)) (2 ^ min (Int.toNat (33)) (IntKind.bits IntKind.i64))) ^^^ BitVec.ofInt (IntKind.bits IntKind.i64) (Int.fdiv (IntKind.wrap IntKind.i64 (IntKind.wrap IntKind.i64 (a0_2 * 6364136223846793005) + 1442695040888963407)) (2 ^ min (Int.toNat (45)) (IntKind.bits IntKind.i64))))))) &&& BitVec.ofInt (IntKind.bits IntKind.i64) (255)))) + IntKind.wrap IntKind.i64 n1)) &&& BitVec.ofInt (IntKind.bits IntKind.i64) (255)))))), [(.op [(.rs (1, 0) a0_0), (.int .i64 (IntKind.wrap IntKind.i64 (a0_1 + 1))), (.int .i64 (IntKind.wrap IntKind.i64 (IntKind.wrap IntKind.i64 (a0_2 * 6364136223846793005) + 1442695040888963407)))])])))
   (some ((.int .i64 (IntKind.wrap IntKind.i64 (ni (BitVec.toNat (BitVec.ofInt (IntKind.bits IntKind.i64) (IntKind.wrap IntKind.i64 (ni (BitVec.toNat (BitVec.ofInt (IntKind.bits IntKind.i64) (Int.fdiv (IntKind.wrap IntKind.i64 (IntKind.wrap IntKind.i64 (a0_2 * 6364136223846793005) + 1442695040888963407)) (2 ^ min (Int.toNat (33)) (IntKind.bits IntKind.i64))) ^^^ BitVec.ofInt (IntKind.bits IntKind.i64) (Int.fdiv (IntKind.wrap IntKind.i64 (IntKind.wrap IntKind.i64 (a0_2 * 6364136223846793005) + 1442695040888963407)) (2 ^ min (Int.toNat (45)) (IntKind.bits IntKind.i64))))))) &&& BitVec.ofInt (IntKind.bits IntKind.i64) (255)))))), [(.op [(.rs (1, 0) a0_0), (.int .i64 a0_1), (.int .i64 (IntKind.wrap IntKind.i64 (IntKind.wrap IntKind.i64 (a0_2 * 6364136223846793005) + 1442695040888963407)))])])) := by
  exact (Vn_eq Try.func67 rfl _).trans (by kernel_rfl)
theorem espec_DrawLinkSend (a0_ : List D) : V 26 [.rs (1, 0) a0_] =
  ocall V 52 [(.rs (1, 0) a0_)] fun x0 l1 =>
   asOp x0 fun l2 => unc l2 fun x3 l4 => asRs (1, 0) x3 fun l5 => unc l4 fun x6 l7 => asI .i64 x6 fun n8 => unc l7 fun x9 l10 => asI .i64 x9 fun n11 => unn l10 (unn l1 (ocall V 51 [(.op [(.rs (1, 0) l5), (.int .i64 n8), (.int .i64 n11)])] fun x12 l13 =>
           asAgg x12 fun l14 => unc l14 fun x15 l16 => asI .i64 x15 fun n17 => unc l16 fun x18 l19 => asI .i64 x18 fun n20 => unc l19 fun x21 l22 => asOs (1, 0) x21 fun l23 => unc l22 fun x24 l25 => asI .i64 x24 fun n26 => unc l25 fun x27 l28 => asOs (2, 0) x27 fun l29 => unn l28 (unc l13 fun x30 l31 => asOp x30 fun l32 => unc l32 fun x33 l34 => asRs (1, 0) x33 fun l35 => unc l34 fun x36 l37 => asI .i64 x36 fun n38 => unc l37 fun x39 l40 => asI .i64 x39 fun n41 => unn l40 (unn l31 (ocall V 57 [(.op [(.rs (1, 0) l35), (.int .i64 n38), (.int .i64 n41)]), (.rs (1, 0) [(.str ({ data := #[] })), (.str ({ data := #[97] })), (.str ({ data := #[98, 98] }))])] fun x42 l43 =>
                               asS x42 fun s44 => unc l43 fun x45 l46 => asOp x45 fun l47 => unc l47 fun x48 l49 => asRs (1, 0) x48 fun l50 => unc l49 fun x51 l52 => asI .i64 x51 fun n53 => unc l52 fun x54 l55 => asI .i64 x54 fun n56 => unn l55 (unn l46 (some ((.tup [(.agg [(.int .i64 n17), (.int .i64 n20), (.os (1, 0) l23), (.int .i64 n26), (.os (2, 0) l29)]), (.str s44)]), [])))))))) := by
  exact (Vn_eq Try.func26 rfl _).trans (by kernel_rfl)
theorem elaws_FnSent (a0_ : List D) : V 6 [.rs (1, 0) a0_] =
  ocall V 18 [(.rs (1, 0) a0_)] fun x0 l1 =>
   asB x0 fun b2 => unn l1 (br b2
     (some ((.bool true), []))
     (ocall V 26 [(.rs (1, 0) a0_)] fun x3 l4 =>
      asTup x3 fun l5 => unc l5 fun x6 l7 => asAgg x6 fun l8 => unc l8 fun x9 l10 => asI .i64 x9 fun n11 => unc l10 fun x12 l13 => asI .i64 x12 fun n14 => unc l13 fun x15 l16 => asOs (1, 0) x15 fun l17 => unc l16 fun x18 l19 => asI .i64 x18 fun n20 => unc l19 fun x21 l22 => asOs (2, 0) x21 fun l23 => unn l22 (unc l7 fun x24 l25 => asS x24 fun s26 => unn l25 (unn l4 (ocall V 27 [(.agg [(.int .i64 n11), (.int .i64 n14), (.rs (1, 0) l17), (.int .i64 n20), (.rs (2, 0) l23)]), (.str s26)] fun x27 l28 =>
                      asTup x27 fun l29 => unc l29 fun x30 l31 => asAgg x30 fun l32 => unc l32 fun x33 l34 => asI .i64 x33 fun n35 => unc l34 fun x36 l37 => asI .i64 x36 fun n38 => unc l37 fun x39 l40 => asOs (1, 0) x39 fun l41 => unc l40 fun x42 l43 => asI .i64 x42 fun n44 => unc l43 fun x45 l46 => asOs (2, 0) x45 fun l47 => unn l46 (unc l31 fun x48 l49 => asB x48 fun b50 => unn l49 (unn l28 (ocall V 28 [(.agg [(.int .i64 n11), (.int .i64 n14), (.rs (1, 0) l17), (.int .i64 n20), (.rs (2, 0) l23)]), (.str s26)] fun x51 l52 =>
                                      asTup x51 fun l53 => unc l53 fun x54 l55 => asAgg x54 fun l56 => unc l56 fun x57 l58 => asI .i64 x57 fun n59 => unc l58 fun x60 l61 => asI .i64 x60 fun n62 => unc l61 fun x63 l64 => asOs (1, 0) x63 fun l65 => unc l64 fun x66 l67 => asI .i64 x66 fun n68 => unc l67 fun x69 l70 => asOs (2, 0) x69 fun l71 => unn l70 (unc l55 fun x72 l73 => asB x72 fun b74 => unn l73 (unn l52 (br (!b50 == b74)
                                                      (some ((.bool false), []))
                                                      (ocall V 16 [(.agg [(.int .i64 n11), (.int .i64 n14), (.rs (1, 0) l17), (.int .i64 n20), (.rs (2, 0) l23)])] fun x75 l76 =>
                                                       asB x75 fun b77 => unn l76 (ocall V 14 [(.agg [(.int .i64 n11), (.int .i64 n14), (.rs (1, 0) l17), (.int .i64 n20), (.rs (2, 0) l23)])] fun x78 l79 =>
                                                         asB x78 fun b80 => unn l79 (br (!b77 == b80)
                                                           (some ((.bool false), []))
                                                           (br (!b50)
                                                            (br (n35 == n11)
                                                             (some ((.bool true), []))
                                                             (some ((.bool (n35 == 0)), [])))
                                                            (br (n35 == IntKind.wrap IntKind.i64 (n11 + 1))
                                                             (br (ni (List.length l41) == IntKind.wrap IntKind.i64 (ni (List.length l17) + 1))
                                                              (grd (decide (0 ≤ ni (List.length l17)) && decide (ni (List.length l17) < ni (List.length l41))) (oget l41 (Int.toNat (ni (List.length l17))) fun x81 =>
                                                               asS x81 fun s82 => br (strEq s82 s26)
                                                                 (grd (cutOk (List.length l41) none (some (ni (List.length l17)))) (ocall V 25 [(.rs (1, 0) (part l41 (cutR (List.length l41) none none (some (ni (List.length l17)))))), (.rs (1, 0) l17)] fun x83 l84 =>
                                                                  asB x83 fun b85 => unn l84 (br b85
                                                                    (br (n44 == n20)
                                                                     (ocall V 16 [(.agg [(.int .i64 n35), (.int .i64 n38), (.rs (1, 0) l41), (.int .i64 n44), (.rs (2, 0) l47)])] fun x86 l87 =>
                                                                      asB x86 fun b88 => unn l87 (some ((.bool b88), [])))
                                                                     (some ((.bool false), [])))
                                                                    (some ((.bool false), [])))))
                                                                 (some ((.bool false), []))))
                                                              (some ((.bool false), [])))
                                                             (some ((.bool false), [])))))))))))))))))) := by
  exact (Vn_eq Try.func6 rfl _).trans (by kernel_rfl)
theorem eimpl_LinkTake_1 (a0_0 : Int) (a0_1 : ByteArray) (a1_ : Int) : V 61 [.agg [.int .i64 a0_0, .str a0_1], .int .i64 a1_] =
  some ((.int .i64 (IntKind.wrap IntKind.i64 (a0_0 - a1_))), []) := by
  exact (Vn_eq Try.func61 rfl _).trans (by kernel_rfl)

end Go.Eng
