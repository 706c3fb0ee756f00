/- the functions as the interpreter has them -/
import Derived.Test.YtgoidfkdnkjojaaGreatFn0
namespace Go.Eng
open Go.Proofs Go.Proofs.Tryz
set_option maxRecDepth 100000
theorem eimpl_reader_node (b : List D) (i : Int) (k : Bool)  : V 77 [.op [.os (1, 0) b, .int .i64 i, .bool k]] =
  ocall V 36 [(.op [(.os (1, 0) b), (.int .i64 i), (.bool k)])] fun x0 l1 =>
   asI .i64 x0 fun n2 => unc l1 fun x3 l4 => asOp x3 fun l5 => unc l5 fun x6 l7 => asOs (1, 0) x6 fun l8 => unc l7 fun x9 l10 => asI .i64 x9 fun n11 => unc l10 fun x12 l13 => asB x12 fun b14 => unn l13 (unn l4 (br (n2 == 2)
             (br (n2 == 2)
              (ocall V 36 [(.op [(.os (1, 0) l8), (.int .i64 n11), (.bool b14)])] fun x15 l16 =>
               asI .i64 x15 fun n17 => unc l16 fun x18 l19 => asOp x18 fun l20 => unc l20 fun x21 l22 => asOs (1, 0) x21 fun l23 => unc l22 fun x24 l25 => asI .i64 x24 fun n26 => unc l25 fun x27 l28 => asB x27 fun b29 => unn l28 (unn l19 (some ((.agg [(.int .i64 n2), (.int .i64 n17), (.str ({ data := #[] })), (.int .i64 (0)), (.int .i64 (0))]), [(.op [(.os (1, 0) l23), (.int .i64 n26), (.bool b29)])]))))
              (br (n2 == 3)
               (ocall V 36 [(.op [(.os (1, 0) l8), (.int .i64 n11), (.bool b14)])] fun x30 l31 =>
                asI .i64 x30 fun n32 => unc l31 fun x33 l34 => asOp x33 fun l35 => unc l35 fun x36 l37 => asOs (1, 0) x36 fun l38 => unc l37 fun x39 l40 => asI .i64 x39 fun n41 => unc l40 fun x42 l43 => asB x42 fun b44 => unn l43 (unn l34 (some ((.agg [(.int .i64 n2), (.int .i64 (IntKind.wrap IntKind.i64 (n32 - 1000000000))), (.str ({ data := #[] })), (.int .i64 (0)), (.int .i64 (0))]), [(.op [(.os (1, 0) l38), (.int .i64 n41), (.bool b44)])]))))
               (br (n2 == 4)
                (ocall V 107 [(.op [(.os (1, 0) l8), (.int .i64 n11), (.bool b14)])] fun x45 l46 =>
                 asS x45 fun s47 => unc l46 fun x48 l49 => asOp x48 fun l50 => unc l50 fun x51 l52 => asOs (1, 0) x51 fun l53 => unc l52 fun x54 l55 => asI .i64 x54 fun n56 => unc l55 fun x57 l58 => asB x57 fun b59 => unn l58 (unn l49 (some ((.agg [(.int .i64 n2), (.int .i64 (0)), (.str s47), (.int .i64 (0)), (.int .i64 (0))]), [(.op [(.os (1, 0) l53), (.int .i64 n56), (.bool b59)])]))))
                (br (n2 == 5)
                 (ocall V 36 [(.op [(.os (1, 0) l8), (.int .i64 n11), (.bool b14)])] fun x60 l61 =>
                  asI .i64 x60 fun n62 => unc l61 fun x63 l64 => asOp x63 fun l65 => unc l65 fun x66 l67 => asOs (1, 0) x66 fun l68 => unc l67 fun x69 l70 => asI .i64 x69 fun n71 => unc l70 fun x72 l73 => asB x72 fun b74 => unn l73 (unn l64 (ocall V 36 [(.op [(.os (1, 0) l68), (.int .i64 n71), (.bool b74)])] fun x75 l76 =>
                            asI .i64 x75 fun n77 => unc l76 fun x78 l79 => asOp x78 fun l80 => unc l80 fun x81 l82 => asOs (1, 0) x81 fun l83 => unc l82 fun x84 l85 => asI .i64 x84 fun n86 => unc l85 fun x87 l88 => asB x87 fun b89 => unn l88 (unn l79 (some ((.agg [(.int .i64 n2), (.int .i64 (0)), (.str ({ data := #[] })), (.int .i64 n62), (.int .i64 n77)]), [(.op [(.os (1, 0) l83), (.int .i64 n86), (.bool b89)])]))))))
                 (br (n2 == 6)
                  (ocall V 36 [(.op [(.os (1, 0) l8), (.int .i64 n11), (.bool b14)])] fun x90 l91 =>
                   asI .i64 x90 fun n92 => unc l91 fun x93 l94 => asOp x93 fun l95 => unc l95 fun x96 l97 => asOs (1, 0) x96 fun l98 => unc l97 fun x99 l100 => asI .i64 x99 fun n101 => unc l100 fun x102 l103 => asB x102 fun b104 => unn l103 (unn l94 (ocall V 36 [(.op [(.os (1, 0) l98), (.int .i64 n101), (.bool b104)])] fun x105 l106 =>
                             asI .i64 x105 fun n107 => unc l106 fun x108 l109 => asOp x108 fun l110 => unc l110 fun x111 l112 => asOs (1, 0) x111 fun l113 => unc l112 fun x114 l115 => asI .i64 x114 fun n116 => unc l115 fun x117 l118 => asB x117 fun b119 => unn l118 (unn l109 (some ((.agg [(.int .i64 n2), (.int .i64 n92), (.str ({ data := #[] })), (.int .i64 n107), (.int .i64 (0))]), [(.op [(.os (1, 0) l113), (.int .i64 n116), (.bool b119)])]))))))
                  (br (n2 == 7)
                   (ocall V 36 [(.op [(.os (1, 0) l8), (.int .i64 n11), (.bool b14)])] fun x120 l121 =>
                    asI .i64 x120 fun n122 => unc l121 fun x123 l124 => asOp x123 fun l125 => unc l125 fun x126 l127 => asOs (1, 0) x126 fun l128 => unc l127 fun x129 l130 => asI .i64 x129 fun n131 => unc l130 fun x132 l133 => asB x132 fun b134 => unn l133 (unn l124 (some ((.agg [(.int .i64 n2), (.int .i64 (0)), (.str ({ data := #[] })), (.int .i64 n122), (.int .i64 (0))]), [(.op [(.os (1, 0) l128), (.int .i64 n131), (.bool b134)])]))))
                   (some ((.agg [(.int .i64 n2), (.int .i64 (0)), (.str ({ data := #[] })), (.int .i64 (0)), (.int .i64 (0))]), [(.op [(.os (1, 0) l8), (.int .i64 n11), (.bool b14)])]))))))))
             (br (n2 == 8)
              (br (n2 == 8)
               (ocall V 36 [(.op [(.os (1, 0) l8), (.int .i64 n11), (.bool b14)])] fun x135 l136 =>
                asI .i64 x135 fun n137 => unc l136 fun x138 l139 => asOp x138 fun l140 => unc l140 fun x141 l142 => asOs (1, 0) x141 fun l143 => unc l142 fun x144 l145 => asI .i64 x144 fun n146 => unc l145 fun x147 l148 => asB x147 fun b149 => unn l148 (unn l139 (some ((.agg [(.int .i64 n2), (.int .i64 n137), (.str ({ data := #[] })), (.int .i64 (0)), (.int .i64 (0))]), [(.op [(.os (1, 0) l143), (.int .i64 n146), (.bool b149)])]))))
               (br (n2 == 3)
                (ocall V 36 [(.op [(.os (1, 0) l8), (.int .i64 n11), (.bool b14)])] fun x150 l151 =>
                 asI .i64 x150 fun n152 => unc l151 fun x153 l154 => asOp x153 fun l155 => unc l155 fun x156 l157 => asOs (1, 0) x156 fun l158 => unc l157 fun x159 l160 => asI .i64 x159 fun n161 => unc l160 fun x162 l163 => asB x162 fun b164 => unn l163 (unn l154 (some ((.agg [(.int .i64 n2), (.int .i64 (IntKind.wrap IntKind.i64 (n152 - 1000000000))), (.str ({ data := #[] })), (.int .i64 (0)), (.int .i64 (0))]), [(.op [(.os (1, 0) l158), (.int .i64 n161), (.bool b164)])]))))
                (br (n2 == 4)
                 (ocall V 107 [(.op [(.os (1, 0) l8), (.int .i64 n11), (.bool b14)])] fun x165 l166 =>
                  asS x165 fun s167 => unc l166 fun x168 l169 => asOp x168 fun l170 => unc l170 fun x171 l172 => asOs (1, 0) x171 fun l173 => unc l172 fun x174 l175 => asI .i64 x174 fun n176 => unc l175 fun x177 l178 => asB x177 fun b179 => unn l178 (unn l169 (some ((.agg [(.int .i64 n2), (.int .i64 (0)), (.str s167), (.int .i64 (0)), (.int .i64 (0))]), [(.op [(.os (1, 0) l173), (.int .i64 n176), (.bool b179)])]))))
                 (br (n2 == 5)
                  (ocall V 36 [(.op [(.os (1, 0) l8), (.int .i64 n11), (.bool b14)])] fun x180 l181 =>
                   asI .i64 x180 fun n182 => unc l181 fun x183 l184 => asOp x183 fun l185 => unc l185 fun x186 l187 => asOs (1, 0) x186 fun l188 => unc l187 fun x189 l190 => asI .i64 x189 fun n191 => unc l190 fun x192 l193 => asB x192 fun b194 => unn l193 (unn l184 (ocall V 36 [(.op [(.os (1, 0) l188), (.int .i64 n191), (.bool b194)])] fun x195 l196 =>
                             asI .i64 x195 fun n197 => unc l196 fun x198 l199 => asOp x198 fun l200 => unc l200 fun x201 l202 => asOs (1, 0) x201 fun l203 => unc l202 fun x204 l205 => asI .i64 x204 fun n206 => unc l205 fun x207 l208 => asB x207 fun b209 => unn l208 (unn l199 (some ((.agg [(.int .i64 n2), (.int .i64 (0)), (.str ({ data := #[] })), (.int .i64 n182), (.int .i64 n197)]), [(.op [(.os (1, 0) l203), (.int .i64 n206), (.bool b209)])]))))))
                  (br (n2 == 6)
                   (ocall V 36 [(.op [(.os (1, 0) l8), (.int .i64 n11), (.bool b14)])] fun x210 l211 =>
                    asI .i64 x210 fun n212 => unc l211 fun x213 l214 => asOp x213 fun l215 => unc l215 fun x216 l217 => asOs (1, 0) x216 fun l218 => unc l217 fun x219 l220 => asI .i64 x219 fun n221 => unc l220 fun x222 l223 => asB x222 fun b224 => unn l223 (unn l214 (ocall V 36 [(.op [(.os (1, 0) l218), (.int .i64 n221), (.bool b224)])] fun x225 l226 =>
                              asI .i64 x225 fun n227 => unc l226 fun x228 l229 => asOp x228 fun l230 => unc l230 fun x231 l232 => asOs (1, 0) x231 fun l233 => unc l232 fun x234 l235 => asI .i64 x234 fun n236 => unc l235 fun x237 l238 => asB x237 fun b239 => unn l238 (unn l229 (some ((.agg [(.int .i64 n2), (.int .i64 n212), (.str ({ data := #[] })), (.int .i64 n227), (.int .i64 (0))]), [(.op [(.os (1, 0) l233), (.int .i64 n236), (.bool b239)])]))))))
                   (br (n2 == 7)
                    (ocall V 36 [(.op [(.os (1, 0) l8), (.int .i64 n11), (.bool b14)])] fun x240 l241 =>
                     asI .i64 x240 fun n242 => unc l241 fun x243 l244 => asOp x243 fun l245 => unc l245 fun x246 l247 => asOs (1, 0) x246 fun l248 => unc l247 fun x249 l250 => asI .i64 x249 fun n251 => unc l250 fun x252 l253 => asB x252 fun b254 => unn l253 (unn l244 (some ((.agg [(.int .i64 n2), (.int .i64 (0)), (.str ({ data := #[] })), (.int .i64 n242), (.int .i64 (0))]), [(.op [(.os (1, 0) l248), (.int .i64 n251), (.bool b254)])]))))
                    (some ((.agg [(.int .i64 n2), (.int .i64 (0)), (.str ({ data := #[] })), (.int .i64 (0)), (.int .i64 (0))]), [(.op [(.os (1, 0) l8), (.int .i64 n11), (.bool b14)])]))))))))
              (br (n2 == 9)
               (ocall V 36 [(.op [(.os (1, 0) l8), (.int .i64 n11), (.bool b14)])] fun x255 l256 =>
                asI .i64 x255 fun n257 => unc l256 fun x258 l259 => asOp x258 fun l260 => unc l260 fun x261 l262 => asOs (1, 0) x261 fun l263 => unc l262 fun x264 l265 => asI .i64 x264 fun n266 => unc l265 fun x267 l268 => asB x267 fun b269 => unn l268 (unn l259 (some ((.agg [(.int .i64 n2), (.int .i64 n257), (.str ({ data := #[] })), (.int .i64 (0)), (.int .i64 (0))]), [(.op [(.os (1, 0) l263), (.int .i64 n266), (.bool b269)])]))))
               (br (n2 == 3)
                (ocall V 36 [(.op [(.os (1, 0) l8), (.int .i64 n11), (.bool b14)])] fun x270 l271 =>
                 asI .i64 x270 fun n272 => unc l271 fun x273 l274 => asOp x273 fun l275 => unc l275 fun x276 l277 => asOs (1, 0) x276 fun l278 => unc l277 fun x279 l280 => asI .i64 x279 fun n281 => unc l280 fun x282 l283 => asB x282 fun b284 => unn l283 (unn l274 (some ((.agg [(.int .i64 n2), (.int .i64 (IntKind.wrap IntKind.i64 (n272 - 1000000000))), (.str ({ data := #[] })), (.int .i64 (0)), (.int .i64 (0))]), [(.op [(.os (1, 0) l278), (.int .i64 n281), (.bool b284)])]))))
                (br (n2 == 4)
                 (ocall V 107 [(.op [(.os (1, 0) l8), (.int .i64 n11), (.bool b14)])] fun x285 l286 =>
                  asS x285 fun s287 => unc l286 fun x288 l289 => asOp x288 fun l290 => unc l290 fun x291 l292 => asOs (1, 0) x291 fun l293 => unc l292 fun x294 l295 => asI .i64 x294 fun n296 => unc l295 fun x297 l298 => asB x297 fun b299 => unn l298 (unn l289 (some ((.agg [(.int .i64 n2), (.int .i64 (0)), (.str s287), (.int .i64 (0)), (.int .i64 (0))]), [(.op [(.os (1, 0) l293), (.int .i64 n296), (.bool b299)])]))))
                 (br (n2 == 5)
                  (ocall V 36 [(.op [(.os (1, 0) l8), (.int .i64 n11), (.bool b14)])] fun x300 l301 =>
                   asI .i64 x300 fun n302 => unc l301 fun x303 l304 => asOp x303 fun l305 => unc l305 fun x306 l307 => asOs (1, 0) x306 fun l308 => unc l307 fun x309 l310 => asI .i64 x309 fun n311 => unc l310 fun x312 l313 => asB x312 fun b314 => unn l313 (unn l304 (ocall V 36 [(.op [(.os (1, 0) l308), (.int .i64 n311), (.bool b314)])] fun x315 l316 =>
                             asI .i64 x315 fun n317 => unc l316 fun x318 l319 => asOp x318 fun l320 => unc l320 fun x321 l322 => asOs (1, 0) x321 fun l323 => unc l322 fun x324 l325 => asI .i64 x324 fun n326 => unc l325 fun x327 l328 => asB x327 fun b329 => unn l328 (unn l319 (some ((.agg [(.int .i64 n2), (.int .i64 (0)), (.str ({ data := #[] })), (.int .i64 n302), (.int .i64 n317)]), [(.op [(.os (1, 0) l323), (.int .i64 n326), (.bool b329)])]))))))
                  (br (n2 == 6)
                   (ocall V 36 [(.op [(.os (1, 0) l8), (.int .i64 n11), (.bool b14)])] fun x330 l331 =>
                    asI .i64 x330 fun n332 => unc l331 fun x333 l334 => asOp x333 fun l335 => unc l335 fun x336 l337 => asOs (1, 0) x336 fun l338 => unc l337 fun x339 l340 => asI .i64 x339 fun n341 => unc l340 fun x342 l343 => asB x342 fun b344 => unn l343 (unn l334 (ocall V 36 [(.op [(.os (1, 0) l338), (.int .i64 n341), (.bool b344)])] fun x345 l346 =>
                              asI .i64 x345 fun n347 => unc l346 fun x348 l349 => asOp x348 fun l350 => unc l350 fun x351 l352 => asOs (1, 0) x351 fun l353 => unc l352 fun x354 l355 => asI .i64 x354 fun n356 => unc l355 fun x357 l358 => asB x357 fun b359 => unn l358 (unn l349 (some ((.agg [(.int .i64 n2), (.int .i64 n332), (.str ({ data := #[] })), (.int .i64 n347), (.int .i64 (0))]), [(.op [(.os (1, 0) l353), (.int .i64 n356), (.bool b359)])]))))))
                   (br (n2 == 7)
                    (ocall V 36 [(.op [(.os (1, 0) l8), (.int .i64 n11), (.bool b14)])] fun x360 l361 =>
                     asI .i64 x360 fun n362 => unc l361 fun x363 l364 => asOp x363 fun l365 => unc l365 fun x366 l367 => asOs (1, 0) x366 fun l368 => unc l367 fun x369 l370 => asI .i64 x369 fun n371 => unc l370 fun x372 l373 => asB x372 fun b374 => unn l373 (unn l364 (some ((.agg [(.int .i64 n2), (.int .i64 (0)), (.str ({ data := #[] })), (.int .i64 n362), (.int .i64 (0))]), [(.op [(.os (1, 0) l368), (.int .i64 n371), (.bool b374)])]))))
                    (some ((.agg [(.int .i64 n2), (.int .i64 (0)), (.str ({ data := #[] })), (.int .i64 (0)), (.int .i64 (0))]), [(.op [(.os (1, 0) l8), (.int .i64 n11), (.bool b14)])]))))))))))) := by
  exact (Vn_eq Tryz.func77 rfl _).trans (by kernel_rfl)
theorem Limpl_packNodes_3_eq (p0 : List D) (p1 : Int) (p2 : Int) (p3 : List D) : Limpl_packNodes_3 p0 p1 p2 p3 =
  br (decide (p2 < p1))
   (grd (decide (0 ≤ p2) && decide (p2 < ni (List.length p0))) (oget p0 (Int.toNat p2) fun x3 =>
    asAgg x3 fun l4 => unc l4 fun x5 l6 => asI .i64 x5 fun n7 => unc l6 fun x8 l9 => asI .i64 x8 fun n10 => unc l9 fun x11 l12 => asS x11 fun s13 => unc l12 fun x14 l15 => asI .i64 x14 fun n16 => unc l15 fun x17 l18 => asI .i64 x17 fun n19 => unn l18 (ocall V 60 [(.int .i64 n7)] fun x20 l21 =>
                asOs (1, 0) x20 fun l22 => unn l21 (grd (decide (ni (List.length (p3 ++ l22)) ≤ LIM)) (nam (p3 ++ l22) fun l23 =>
                  br (n7 == 2)
                   (br (n7 == 2)
                    (ocall V 60 [(.int .i64 n10)] fun x24 l25 =>
                     asOs (1, 0) x24 fun l26 => unn l25 (grd (decide (ni (List.length (l23 ++ l26)) ≤ LIM)) (nam (l23 ++ l26) fun l27 =>
                       Limpl_packNodes_3 p0 p1 (IntKind.wrap IntKind.i64 (p2 + 1)) l27)))
                    (br (n7 == 3)
                     (ocall V 60 [(.int .i64 (IntKind.wrap IntKind.i64 (n10 + 1000000000)))] fun x28 l29 =>
                      asOs (1, 0) x28 fun l30 => unn l29 (grd (decide (ni (List.length (l23 ++ l30)) ≤ LIM)) (nam (l23 ++ l30) fun l31 =>
                        Limpl_packNodes_3 p0 p1 (IntKind.wrap IntKind.i64 (p2 + 1)) l31)))
                     (br (n7 == 4)
                      (ocall V 61 [(.str s13)] fun x32 l33 =>
                       asOs (1, 0) x32 fun l34 => unn l33 (grd (decide (ni (List.length (l23 ++ l34)) ≤ LIM)) (nam (l23 ++ l34) fun l35 =>
                         Limpl_packNodes_3 p0 p1 (IntKind.wrap IntKind.i64 (p2 + 1)) l35)))
                      (br (n7 == 5)
                       (ocall V 60 [(.int .i64 n16)] fun x36 l37 =>
                        asOs (1, 0) x36 fun l38 => unn l37 (grd (decide (ni (List.length (l23 ++ l38)) ≤ LIM)) (nam (l23 ++ l38) fun l39 =>
                          ocall V 60 [(.int .i64 n19)] fun x40 l41 =>
                           asOs (1, 0) x40 fun l42 => unn l41 (grd (decide (ni (List.length (l39 ++ l42)) ≤ LIM)) (nam (l39 ++ l42) fun l43 =>
                             Limpl_packNodes_3 p0 p1 (IntKind.wrap IntKind.i64 (p2 + 1)) l43)))))
                       (br (n7 == 6)
                        (ocall V 60 [(.int .i64 n10)] fun x44 l45 =>
                         asOs (1, 0) x44 fun l46 => unn l45 (grd (decide (ni (List.length (l23 ++ l46)) ≤ LIM)) (nam (l23 ++ l46) fun l47 =>
                           ocall V 60 [(.int .i64 n16)] fun x48 l49 =>
                            asOs (1, 0) x48 fun l50 => unn l49 (grd (decide (ni (List.length (l47 ++ l50)) ≤ LIM)) (nam (l47 ++ l50) fun l51 =>
                              Limpl_packNodes_3 p0 p1 (IntKind.wrap IntKind.i64 (p2 + 1)) l51)))))
                        (br (n7 == 7)
                         (ocall V 60 [(.int .i64 n16)] fun x52 l53 =>
                          asOs (1, 0) x52 fun l54 => unn l53 (grd (decide (ni (List.length (l23 ++ l54)) ≤ LIM)) (nam (l23 ++ l54) fun l55 =>
                            Limpl_packNodes_3 p0 p1 (IntKind.wrap IntKind.i64 (p2 + 1)) l55)))
                         (Limpl_packNodes_3 p0 p1 (IntKind.wrap IntKind.i64 (p2 + 1)) l23)))))))
                   (br (n7 == 8)
                    (br (n7 == 8)
                     (ocall V 60 [(.int .i64 n10)] fun x56 l57 =>
                      asOs (1, 0) x56 fun l58 => unn l57 (grd (decide (ni (List.length (l23 ++ l58)) ≤ LIM)) (nam (l23 ++ l58) fun l59 =>
                        Limpl_packNodes_3 p0 p1 (IntKind.wrap IntKind.i64 (p2 + 1)) l59)))
                     (br (n7 == 3)
                      (ocall V 60 [(.int .i64 (IntKind.wrap IntKind.i64 (n10 + 1000000000)))] fun x60 l61 =>
                       asOs (1, 0) x60 fun l62 => unn l61 (grd (decide (ni (List.length (l23 ++ l62)) ≤ LIM)) (nam (l23 ++ l62) fun l63 =>
                         Limpl_packNodes_3 p0 p1 (IntKind.wrap IntKind.i64 (p2 + 1)) l63)))
                      (br (n7 == 4)
                       (ocall V 61 [(.str s13)] fun x64 l65 =>
                        asOs (1, 0) x64 fun l66 => unn l65 (grd (decide (ni (List.length (l23 ++ l66)) ≤ LIM)) (nam (l23 ++ l66) fun l67 =>
                          Limpl_packNodes_3 p0 p1 (IntKind.wrap IntKind.i64 (p2 + 1)) l67)))
                       (br (n7 == 5)
                        (ocall V 60 [(.int .i64 n16)] fun x68 l69 =>
                         asOs (1, 0) x68 fun l70 => unn l69 (grd (decide (ni (List.length (l23 ++ l70)) ≤ LIM)) (nam (l23 ++ l70) fun l71 =>
                           ocall V 60 [(.int .i64 n19)] fun x72 l73 =>
                            asOs (1, 0) x72 fun l74 => unn l73 (grd (decide (ni (List.length (l71 ++ l74)) ≤ LIM)) (nam (l71 ++ l74) fun l75 =>
                              Limpl_packNodes_3 p0 p1 (IntKind.wrap IntKind.i64 (p2 + 1)) l75)))))
                        (br (n7 == 6)
                         (ocall V 60 [(.int .i64 n10)] fun x76 l77 =>
                          asOs (1, 0) x76 fun l78 => unn l77 (grd (decide (ni (List.length (l23 ++ l78)) ≤ LIM)) (nam (l23 ++ l78) fun l79 =>
                            ocall V 60 [(.int .i64 n16)] fun x80 l81 =>
                             asOs (1, 0) x80 fun l82 => unn l81 (grd (decide (ni (List.length (l79 ++ l82)) ≤ LIM)) (nam (l79 ++ l82) fun l83 =>
                               Limpl_packNodes_3 p0 p1 (IntKind.wrap IntKind.i64 (p2 + 1)) l83)))))
                         (br (n7 == 7)
                          (ocall V 60 [(.int .i64 n16)] fun x84 l85 =>
                           asOs (1, 0) x84 fun l86 => unn l85 (grd (decide (ni (List.length (l23 ++ l86)) ≤ LIM)) (nam (l23 ++ l86) fun l87 =>
                             Limpl_packNodes_3 p0 p1 (IntKind.wrap IntKind.i64 (p2 + 1)) l87)))
                          (Limpl_packNodes_3 p0 p1 (IntKind.wrap IntKind.i64 (p2 + 1)) l23)))))))
                    (br (n7 == 9)
                     (ocall V 60 [(.int .i64 n10)] fun x88 l89 =>
                      asOs (1, 0) x88 fun l90 => unn l89 (grd (decide (ni (List.length (l23 ++ l90)) ≤ LIM)) (nam (l23 ++ l90) fun l91 =>
                        Limpl_packNodes_3 p0 p1 (IntKind.wrap IntKind.i64 (p2 + 1)) l91)))
                     (br (n7 == 3)
                      (ocall V 60 [(.int .i64 (IntKind.wrap IntKind.i64 (n10 + 1000000000)))] fun x92 l93 =>
                       asOs (1, 0) x92 fun l94 => unn l93 (grd (decide (ni (List.length (l23 ++ l94)) ≤ LIM)) (nam (l23 ++ l94) fun l95 =>
                         Limpl_packNodes_3 p0 p1 (IntKind.wrap IntKind.i64 (p2 + 1)) l95)))
                      (br (n7 == 4)
                       (ocall V 61 [(.str s13)] fun x96 l97 =>
                        asOs (1, 0) x96 fun l98 => unn l97 (grd (decide (ni (List.length (l23 ++ l98)) ≤ LIM)) (nam (l23 ++ l98) fun l99 =>
                          Limpl_packNodes_3 p0 p1 (IntKind.wrap IntKind.i64 (p2 + 1)) l99)))
                       (br (n7 == 5)
                        (ocall V 60 [(.int .i64 n16)] fun x100 l101 =>
                         asOs (1, 0) x100 fun l102 => unn l101 (grd (decide (ni (List.length (l23 ++ l102)) ≤ LIM)) (nam (l23 ++ l102) fun l103 =>
                           ocall V 60 [(.int .i64 n19)] fun x104 l105 =>
                            asOs (1, 0) x104 fun l106 => unn l105 (grd (decide (ni (List.length (l103 ++ l106)) ≤ LIM)) (nam (l103 ++ l106) fun l107 =>
                              Limpl_packNodes_3 p0 p1 (IntKind.wrap IntKind.i64 (p2 + 1)) l107)))))
                        (br (n7 == 6)
                         (ocall V 60 [(.int .i64 n10)] fun x108 l109 =>
                          asOs (1, 0) x108 fun l110 => unn l109 (grd (decide (ni (List.length (l23 ++ l110)) ≤ LIM)) (nam (l23 ++ l110) fun l111 =>
                            ocall V 60 [(.int .i64 n16)] fun x112 l113 =>
                             asOs (1, 0) x112 fun l114 => unn l113 (grd (decide (ni (List.length (l111 ++ l114)) ≤ LIM)) (nam (l111 ++ l114) fun l115 =>
                               Limpl_packNodes_3 p0 p1 (IntKind.wrap IntKind.i64 (p2 + 1)) l115)))))
                         (br (n7 == 7)
                          (ocall V 60 [(.int .i64 n16)] fun x116 l117 =>
                           asOs (1, 0) x116 fun l118 => unn l117 (grd (decide (ni (List.length (l23 ++ l118)) ≤ LIM)) (nam (l23 ++ l118) fun l119 =>
                             Limpl_packNodes_3 p0 p1 (IntKind.wrap IntKind.i64 (p2 + 1)) l119)))
                          (Limpl_packNodes_3 p0 p1 (IntKind.wrap IntKind.i64 (p2 + 1)) l23)))))))))))))
   (some ((.os (1, 0) p3), [])) := by
  exact (Rn_eq _ _ _).trans (by kernel_rfl)
theorem espec_Tidy (a0_0 : List D) (a0_1 : Int) (a0_2 : Int) (a0_3 : Int) (a0_4 : Int) (a0_5 : Int) (a0_6 : Int) (a0_7 : Int) : V 71 [.agg [.rs (5, 0) a0_0, .int .i64 a0_1, .int .i64 a0_2, .int .i64 a0_3, .int .i64 a0_4, .int .i64 a0_5, .int .i64 a0_6, .int .i64 a0_7]] =
  br (a0_5 == 1)
   (grd (decide (ni 4 ≤ LIM)) (ocall V 104 [(.agg [(.rs (5, 0) a0_0)]), (.rs (1, 0) [(.int .i64 a0_2), (.int .i64 a0_3), (.int .i64 a0_4), (.int .i64 a0_7)])] fun x0 l1 =>
    asB x0 fun b2 => unn l1 (br (!b2)
      (ocall V 98 [(.agg [(.rs (5, 0) a0_0), (.int .i64 a0_1), (.int .i64 a0_2), (.int .i64 a0_3), (.int .i64 a0_4), (.int .i64 a0_5), (.int .i64 a0_6), (.int .i64 a0_7)])] fun x3 l4 =>
       asAgg x3 fun l5 => unc l5 fun x6 l7 => asOs (5, 0) x6 fun l8 => unc l7 fun x9 l10 => asI .i64 x9 fun n11 => unc l10 fun x12 l13 => asI .i64 x12 fun n14 => unc l13 fun x15 l16 => asI .i64 x15 fun n17 => unc l16 fun x18 l19 => asI .i64 x18 fun n20 => unc l19 fun x21 l22 => asI .i64 x21 fun n23 => unc l22 fun x24 l25 => asI .i64 x24 fun n26 => unc l25 fun x27 l28 => asI .i64 x27 fun n29 => unn l28 (unn l4 (some ((.agg [(.os (5, 0) l8), (.int .i64 n11), (.int .i64 n14), (.int .i64 n17), (.int .i64 n20), (.int .i64 n23), (.int .i64 n26), (.int .i64 n29)]), []))))
      (ocall V 105 [(.agg [(.rs (5, 0) a0_0)]), (.rs (1, 0) [(.int .i64 a0_2), (.int .i64 a0_3), (.int .i64 a0_4), (.int .i64 a0_7)])] fun x30 l31 =>
       asTup x30 fun l32 => unc l32 fun x33 l34 => asAgg x33 fun l35 => unc l35 fun x36 l37 => asOs (5, 0) x36 fun l38 => unn l37 (unc l34 fun x39 l40 => asOs (1, 0) x39 fun l41 => unn l40 (unn l31 (grd (decide (0 ≤ 0) && decide (0 < ni (List.length l41))) (oget l41 0 fun x42 =>
               asI .i64 x42 fun n43 => grd (decide (0 ≤ 1) && decide (1 < ni (List.length l41))) (oget l41 1 fun x44 =>
                 asI .i64 x44 fun n45 => grd (decide (0 ≤ 2) && decide (2 < ni (List.length l41))) (oget l41 2 fun x46 =>
                   asI .i64 x46 fun n47 => grd (decide (0 ≤ 3) && decide (3 < ni (List.length l41))) (oget l41 3 fun x48 =>
                     asI .i64 x48 fun n49 => some ((.agg [(.os (5, 0) l38), (.int .i64 a0_1), (.int .i64 n43), (.int .i64 n45), (.int .i64 n47), (.int .i64 a0_5), (.int .i64 a0_6), (.int .i64 n49)]), []))))))))))))
   (br (a0_5 == 2)
    (grd (decide (ni 4 ≤ LIM)) (ocall V 104 [(.agg [(.rs (5, 0) a0_0)]), (.rs (1, 0) [(.int .i64 a0_2), (.int .i64 a0_3), (.int .i64 a0_4), (.int .i64 a0_7)])] fun x50 l51 =>
     asB x50 fun b52 => unn l51 (br (!b52)
       (ocall V 98 [(.agg [(.rs (5, 0) a0_0), (.int .i64 a0_1), (.int .i64 a0_2), (.int .i64 a0_3), (.int .i64 a0_4), (.int .i64 a0_5), (.int .i64 a0_6), (.int .i64 a0_7)])] fun x53 l54 =>
        asAgg x53 fun l55 => unc l55 fun x56 l57 => asOs (5, 0) x56 fun l58 => unc l57 fun x59 l60 => asI .i64 x59 fun n61 => unc l60 fun x62 l63 => asI .i64 x62 fun n64 => unc l63 fun x65 l66 => asI .i64 x65 fun n67 => unc l66 fun x68 l69 => asI .i64 x68 fun n70 => unc l69 fun x71 l72 => asI .i64 x71 fun n73 => unc l72 fun x74 l75 => asI .i64 x74 fun n76 => unc l75 fun x77 l78 => asI .i64 x77 fun n79 => unn l78 (unn l54 (some ((.agg [(.os (5, 0) l58), (.int .i64 n61), (.int .i64 n64), (.int .i64 n67), (.int .i64 n70), (.int .i64 n73), (.int .i64 n76), (.int .i64 n79)]), []))))
       (ocall V 105 [(.agg [(.rs (5, 0) a0_0)]), (.rs (1, 0) [(.int .i64 a0_2), (.int .i64 a0_3), (.int .i64 a0_4), (.int .i64 a0_7)])] fun x80 l81 =>
        asTup x80 fun l82 => unc l82 fun x83 l84 => asAgg x83 fun l85 => unc l85 fun x86 l87 => asOs (5, 0) x86 fun l88 => unn l87 (unc l84 fun x89 l90 => asOs (1, 0) x89 fun l91 => unn l90 (unn l81 (grd (decide (0 ≤ 0) && decide (0 < ni (List.length l91))) (oget l91 0 fun x92 =>
                asI .i64 x92 fun n93 => grd (decide (0 ≤ 1) && decide (1 < ni (List.length l91))) (oget l91 1 fun x94 =>
                  asI .i64 x94 fun n95 => grd (decide (0 ≤ 2) && decide (2 < ni (List.length l91))) (oget l91 2 fun x96 =>
                    asI .i64 x96 fun n97 => br (a0_5 == 2)
                      (grd (decide (0 ≤ 3) && decide (3 < ni (List.length l91))) (oget l91 3 fun x98 =>
                       asI .i64 x98 fun n99 => some ((.agg [(.os (5, 0) l88), (.int .i64 a0_1), (.int .i64 n93), (.int .i64 n95), (.int .i64 n97), (.int .i64 a0_5), (.int .i64 a0_6), (.int .i64 n99)]), [])))
                      (some ((.agg [(.os (5, 0) l88), (.int .i64 a0_1), (.int .i64 n93), (.int .i64 n95), (.int .i64 n97), (.int .i64 a0_5), (.int .i64 a0_6), (.int .i64 a0_7)]), []))))))))))))
    (ocall V 104 [(.agg [(.rs (5, 0) a0_0)]), (.rs (1, 0) [(.int .i64 a0_2), (.int .i64 a0_3), (.int .i64 a0_4)])] fun x100 l101 =>
     asB x100 fun b102 => unn l101 (br (!b102)
       (ocall V 98 [(.agg [(.rs (5, 0) a0_0), (.int .i64 a0_1), (.int .i64 a0_2), (.int .i64 a0_3), (.int .i64 a0_4), (.int .i64 a0_5), (.int .i64 a0_6), (.int .i64 a0_7)])] fun x103 l104 =>
        asAgg x103 fun l105 => unc l105 fun x106 l107 => asOs (5, 0) x106 fun l108 => unc l107 fun x109 l110 => asI .i64 x109 fun n111 => unc l110 fun x112 l113 => asI .i64 x112 fun n114 => unc l113 fun x115 l116 => asI .i64 x115 fun n117 => unc l116 fun x118 l119 => asI .i64 x118 fun n120 => unc l119 fun x121 l122 => asI .i64 x121 fun n123 => unc l122 fun x124 l125 => asI .i64 x124 fun n126 => unc l125 fun x127 l128 => asI .i64 x127 fun n129 => unn l128 (unn l104 (some ((.agg [(.os (5, 0) l108), (.int .i64 n111), (.int .i64 n114), (.int .i64 n117), (.int .i64 n120), (.int .i64 n123), (.int .i64 n126), (.int .i64 n129)]), []))))
       (ocall V 105 [(.agg [(.rs (5, 0) a0_0)]), (.rs (1, 0) [(.int .i64 a0_2), (.int .i64 a0_3), (.int .i64 a0_4)])] fun x130 l131 =>
        asTup x130 fun l132 => unc l132 fun x133 l134 => asAgg x133 fun l135 => unc l135 fun x136 l137 => asOs (5, 0) x136 fun l138 => unn l137 (unc l134 fun x139 l140 => asOs (1, 0) x139 fun l141 => unn l140 (unn l131 (grd (decide (0 ≤ 0) && decide (0 < ni (List.length l141))) (oget l141 0 fun x142 =>
                asI .i64 x142 fun n143 => grd (decide (0 ≤ 1) && decide (1 < ni (List.length l141))) (oget l141 1 fun x144 =>
                  asI .i64 x144 fun n145 => grd (decide (0 ≤ 2) && decide (2 < ni (List.length l141))) (oget l141 2 fun x146 =>
                    asI .i64 x146 fun n147 => br (a0_5 == 2)
                      (grd (decide (0 ≤ 3) && decide (3 < ni (List.length l141))) (oget l141 3 fun x148 =>
                       asI .i64 x148 fun n149 => some ((.agg [(.os (5, 0) l138), (.int .i64 a0_1), (.int .i64 n143), (.int .i64 n145), (.int .i64 n147), (.int .i64 a0_5), (.int .i64 a0_6), (.int .i64 n149)]), [])))
                      (some ((.agg [(.os (5, 0) l138), (.int .i64 a0_1), (.int .i64 n143), (.int .i64 n145), (.int .i64 n147), (.int .i64 a0_5), (.int .i64 a0_6), (.int .i64 a0_7)]), [])))))))))))) := by
  exact (Vn_eq Tryz.func71 rfl _).trans (by kernel_rfl)
theorem espec_l4Instr (a0_0 : List D) (a0_1 : List D) (a0_2 : List D) (a1_ : Int) : V 114 [.agg [.rs (5, 0) a0_0, .rs (4, 0) a0_1, .rs (3, 0) a0_2], .int .i64 a1_] =
  grd (decide (0 ≤ a1_) && decide (a1_ < ni (List.length a0_1))) (oget a0_1 (Int.toNat a1_) fun x0 =>
   asAgg x0 fun l1 => unc l1 fun x2 l3 => asI .i64 x2 fun n4 => unc l3 fun x5 l6 => asI .i64 x5 fun n7 => unc l6 fun x8 l9 => asI .i64 x8 fun n10 => unc l9 fun x11 l12 => asS x11 fun s13 => unn l12 (br (n4 == 1)
             (br (n4 == n4 && (n7 == n7 && (n10 == 0 && (strEq s13 { data := #[] } && true))))
              (ocall V 103 [(.agg [(.rs (5, 0) a0_0)]), (.int .i64 n7)] fun x14 l15 =>
               asB x14 fun b16 => unn l15 (some ((.bool b16), [])))
              (some ((.bool false), [])))
             (br (n4 == 2)
              (br (strEq s13 { data := #[] })
               (ocall V 89 [(.int .i64 n7), (.int .i64 (0)), (.int .i64 (20))] fun x17 l18 =>
                asB x17 fun b19 => unn l18 (br b19
                  (ocall V 89 [(.int .i64 n10), (.int .i64 (0)), (.int .i64 (3))] fun x20 l21 =>
                   asB x20 fun b22 => unn l21 (some ((.bool b22), [])))
                  (some ((.bool false), []))))
               (some ((.bool false), [])))
              (br (n4 == 3)
               (br (n4 == n4 && (n7 == 0 && (n10 == 0 && (strEq s13 s13 && true))))
                (ocall V 115 [(.str s13)] fun x23 l24 =>
                 asB x23 fun b25 => unn l24 (some ((.bool b25), [])))
                (some ((.bool false), [])))
               (br (n4 == 4)
                (br (n4 == 4)
                 (br (n4 == n4 && (n7 == n7 && (n10 == 0 && (strEq s13 { data := #[] } && true))))
                  (br (decide (n7 > a1_))
                   (some ((.bool (decide (n7 ≤ ni (List.length a0_1)))), []))
                   (some ((.bool false), [])))
                  (some ((.bool false), [])))
                 (br (n4 == 6)
                  (br (strEq s13 { data := #[] })
                   (br (decide (n7 > a1_))
                    (br (decide (n7 < ni (List.length a0_1)))
                     (ocall V 89 [(.int .i64 n10), (.int .i64 (0)), (.int .i64 (4))] fun x26 l27 =>
                      asB x26 fun b28 => unn l27 (some ((.bool b28), [])))
                     (some ((.bool false), [])))
                    (some ((.bool false), [])))
                   (some ((.bool false), [])))
                  (br (n4 == 7)
                   (br (n4 == n4 && (n7 == 0 && (n10 == n10 && (strEq s13 { data := #[] } && true))))
                    (ocall V 89 [(.int .i64 n10), (.int .i64 (0)), (.int .i64 (4))] fun x29 l30 =>
                     asB x29 fun b31 => unn l30 (some ((.bool b31), [])))
                    (some ((.bool false), [])))
                   (br (n4 == 8)
                    (br (n4 == 8)
                     (some ((.bool (n4 == n4 && (n7 == 0 && (n10 == 0 && (strEq s13 { data := #[] } && true))))), []))
                     (some ((.bool false), [])))
                    (br (n4 == 9)
                     (some ((.bool (n4 == n4 && (n7 == 0 && (n10 == 0 && (strEq s13 { data := #[] } && true))))), []))
                     (some ((.bool false), [])))))))
                (br (n4 == 5)
                 (br (n4 == n4 && (n7 == n7 && (n10 == 0 && (strEq s13 { data := #[] } && true))))
                  (br (decide (n7 > a1_))
                   (some ((.bool (decide (n7 ≤ ni (List.length a0_1)))), []))
                   (some ((.bool false), [])))
                  (some ((.bool false), [])))
                 (br (n4 == 6)
                  (br (strEq s13 { data := #[] })
                   (br (decide (n7 > a1_))
                    (br (decide (n7 < ni (List.length a0_1)))
                     (ocall V 89 [(.int .i64 n10), (.int .i64 (0)), (.int .i64 (4))] fun x32 l33 =>
                      asB x32 fun b34 => unn l33 (some ((.bool b34), [])))
                     (some ((.bool false), [])))
                    (some ((.bool false), [])))
                   (some ((.bool false), [])))
                  (br (n4 == 7)
                   (br (n4 == n4 && (n7 == 0 && (n10 == n10 && (strEq s13 { data := #[] } && true))))
                    (ocall V 89 [(.int .i64 n10), (.int .i64 (0)), (.int .i64 (4))] fun x35 l36 =>
                     asB x35 fun b37 => unn l36 (some ((.bool b37), [])))
                    (some ((.bool false), [])))
                   (br (n4 == 8)
                    (br (n4 == 8)
                     (some ((.bool (n4 == n4 && (n7 == 0 && (n10 == 0 && (strEq s13 { data := #[] } && true))))), []))
                     (some ((.bool false), [])))
                    (br (n4 == 9)
                     (some ((.bool (n4 == n4 && (n7 == 0 && (n10 == 0 && (strEq s13 { data := #[] } && true))))), []))
                     (some ((.bool false), [])))))))))))) := by
  exact (Vn_eq Tryz.func114 rfl _).trans (by kernel_rfl)
theorem Llaws_heldNodeS_2_eq (p0 : List D) (p1 : Int) (p2 : Int) : Llaws_heldNodeS_2 p0 p1 p2 =
  br (decide (p2 < ni (List.length p0)))
   (grd (decide (0 ≤ p2) && decide (p2 < ni (List.length p0))) (oget p0 (Int.toNat p2) fun x0 =>
    asAgg x0 fun l1 => oget l1 0 fun x2 =>
      asI .i64 x2 fun n3 => br (n3 != p1)
        (some ((.int .i64 (-1)), []))
        (grd (decide (0 ≤ p2) && decide (p2 < ni (List.length p0))) (oget p0 (Int.toNat p2) fun x4 =>
         asAgg x4 fun l5 => oget l5 1 fun x6 =>
           asI .i64 x6 fun n7 => br (n7 != IntKind.wrap IntKind.i64 (p1 + 1))
             (some ((.int .i64 (-1)), []))
             (grd (decide (0 ≤ p2) && decide (p2 < ni (List.length p0))) (oget p0 (Int.toNat p2) fun x8 =>
              asAgg x8 fun l9 => oget l9 2 fun x10 =>
                asS x10 fun s11 => ocall V 85 [(.int .i64 (IntKind.wrap IntKind.i64 (IntKind.wrap IntKind.i64 (p1 + 1) + 1)))] fun x12 l13 =>
                  asS x12 fun s14 => unn l13 (br (!strEq s11 s14)
                    (some ((.int .i64 (-1)), []))
                    (grd (decide (0 ≤ p2) && decide (p2 < ni (List.length p0))) (oget p0 (Int.toNat p2) fun x15 =>
                     asAgg x15 fun l16 => oget l16 3 fun x17 =>
                       asI .i64 x17 fun n18 => br (n18 != IntKind.wrap IntKind.i64 (IntKind.wrap IntKind.i64 (IntKind.wrap IntKind.i64 (p1 + 1) + 1) + 1))
                         (some ((.int .i64 (-1)), []))
                         (grd (decide (0 ≤ p2) && decide (p2 < ni (List.length p0))) (oget p0 (Int.toNat p2) fun x19 =>
                          asAgg x19 fun l20 => oget l20 4 fun x21 =>
                            asI .i64 x21 fun n22 => br (n22 != IntKind.wrap IntKind.i64 (IntKind.wrap IntKind.i64 (IntKind.wrap IntKind.i64 (IntKind.wrap IntKind.i64 (p1 + 1) + 1) + 1) + 1))
                              (some ((.int .i64 (-1)), []))
                              (Llaws_heldNodeS_2 p0 (IntKind.wrap IntKind.i64 (IntKind.wrap IntKind.i64 (IntKind.wrap IntKind.i64 (IntKind.wrap IntKind.i64 (IntKind.wrap IntKind.i64 (p1 + 1) + 1) + 1) + 1) + 1)) (IntKind.wrap IntKind.i64 (p2 + 1))))))))))))))
   (some ((.int .i64 p1), [])) := by
  exact (Rn_eq _ _ _).trans (by kernel_rfl)
theorem Llaws_markInstrS_2_eq (p0 : Int) (p1 : Int) (p2 : List D) : Llaws_markInstrS_2 p0 p1 p2 =
  br (decide (p1 < ni (List.length p2)))
   (grd (decide (0 ≤ p1) && decide (p1 < ni (List.length p2))) (oget p2 (Int.toNat p1) fun x0 =>
    asAgg x0 fun l1 => nam (List.set p2 (Int.toNat p1) (D.agg (List.take 0 l1 ++ [D.int IntKind.i64 p0] ++ List.drop 1 l1))) fun l2 =>
      grd (decide (0 ≤ p1) && decide (p1 < ni (List.length l2))) (oget l2 (Int.toNat p1) fun x3 =>
       asAgg x3 fun l4 => nam (List.set l2 (Int.toNat p1) (D.agg (List.take 1 l4 ++ [D.int IntKind.i64 (IntKind.wrap IntKind.i64 (p0 + 1))] ++ List.drop 2 l4))) fun l5 =>
         grd (decide (0 ≤ p1) && decide (p1 < ni (List.length l5))) (oget l5 (Int.toNat p1) fun x6 =>
          asAgg x6 fun l7 => nam (List.set l5 (Int.toNat p1) (D.agg (List.take 2 l7 ++ [D.int IntKind.i64 (IntKind.wrap IntKind.i64 (IntKind.wrap IntKind.i64 (p0 + 1) + 1))] ++ List.drop 3 l7))) fun l8 =>
            ocall V 85 [(.int .i64 (IntKind.wrap IntKind.i64 (IntKind.wrap IntKind.i64 (IntKind.wrap IntKind.i64 (p0 + 1) + 1) + 1)))] fun x9 l10 =>
             asS x9 fun s11 => unn l10 (grd (decide (0 ≤ p1) && decide (p1 < ni (List.length l8))) (oget l8 (Int.toNat p1) fun x12 =>
               asAgg x12 fun l13 => nam (List.set l8 (Int.toNat p1) (D.agg (List.take 3 l13 ++ [D.str s11] ++ List.drop 4 l13))) fun l14 =>
                 Llaws_markInstrS_2 (IntKind.wrap IntKind.i64 (IntKind.wrap IntKind.i64 (IntKind.wrap IntKind.i64 (IntKind.wrap IntKind.i64 (p0 + 1) + 1) + 1) + 1)) (IntKind.wrap IntKind.i64 (p1 + 1)) l14))))))
   (some ((.int .i64 p0), [(.os (4, 0) p2)])) := by
  exact (Rn_eq _ _ _).trans (by kernel_rfl)
theorem elaws_eqProc (a0_0 : Int) (a0_1 : List D) (a0_2 : Int) (a0_3 : Int) (a0_4 : Int) (a0_5 : Int) (a0_6 : Int) (a0_7 : Int) (a0_8 : Int) (a0_9 : List D) (a0_10 : List D) (a1_0 : Int) (a1_1 : List D) (a1_2 : Int) (a1_3 : Int) (a1_4 : Int) (a1_5 : Int) (a1_6 : Int) (a1_7 : Int) (a1_8 : Int) (a1_9 : List D) (a1_10 : List D) : V 18 [.agg [.int .i64 a0_0, .rs (5, 0) a0_1, .int .i64 a0_2, .int .i64 a0_3, .int .i64 a0_4, .int .i64 a0_5, .int .i64 a0_6, .int .i64 a0_7, .int .i64 a0_8, .rs (1, 0) a0_9, .rs (1, 0) a0_10], .agg [.int .i64 a1_0, .rs (5, 0) a1_1, .int .i64 a1_2, .int .i64 a1_3, .int .i64 a1_4, .int .i64 a1_5, .int .i64 a1_6, .int .i64 a1_7, .int .i64 a1_8, .rs (1, 0) a1_9, .rs (1, 0) a1_10]] =
  br (a0_0 != a1_0)
   (some ((.bool false), []))
   (ocall V 11 [(.agg [(.rs (5, 0) a0_1), (.int .i64 a0_2), (.int .i64 a0_3), (.int .i64 a0_4), (.int .i64 a0_5), (.int .i64 a0_6), (.int .i64 a0_7), (.int .i64 a0_8)]), (.agg [(.rs (5, 0) a1_1), (.int .i64 a1_2), (.int .i64 a1_3), (.int .i64 a1_4), (.int .i64 a1_5), (.int .i64 a1_6), (.int .i64 a1_7), (.int .i64 a1_8)])] fun x0 l1 =>
    asB x0 fun b2 => unn l1 (br (!b2)
      (some ((.bool false), []))
      (ocall V 50 [(.rs (1, 0) a0_9), (.rs (1, 0) a1_9)] fun x3 l4 =>
       asB x3 fun b5 => unn l4 (br (!b5)
         (some ((.bool false), []))
         (ocall V 50 [(.rs (1, 0) a0_10), (.rs (1, 0) a1_10)] fun x6 l7 =>
          asB x6 fun b8 => unn l7 (br (!b8)
            (some ((.bool false), []))
            (some ((.bool true), [])))))))) := by
  exact (Vn_eq Tryz.func18 rfl _).trans (by kernel_rfl)
theorem Lspec_CodeOk_9_eq (p0 : Int) (p1 : List D) (p2 : List D) (p3 : List D) : Lspec_CodeOk_9 p0 p1 p2 p3 =
  br (decide (p0 < ni (List.length p3)))
   (grd (decide (0 ≤ p0) && decide (p0 < ni (List.length p3))) (oget p3 (Int.toNat p0) fun x6 =>
    asAgg x6 fun l7 => unc l7 fun x8 l9 => asS x8 fun s10 => unc l9 fun x11 l12 => asI .i64 x11 fun n13 => unc l12 fun x14 l15 => asI .i64 x14 fun n16 => unn l15 (ocall V 115 [(.str s10)] fun x17 l18 =>
            asB x17 fun b19 => unn l18 (br (!b19)
              (some ((.bool false), []))
              (ocall V 87 [(.agg [(.rs (5, 0) p1), (.rs (4, 0) p2), (.rs (3, 0) p3)]), (.str s10)] fun x20 l21 =>
               asI .i64 x20 fun n22 => unn l21 (br (n22 != p0)
                 (some ((.bool false), []))
                 (ocall V 89 [(.int .i64 n13), (.int .i64 (0)), (.int .i64 (IntKind.wrap IntKind.i64 (ni (List.length p2) - 1)))] fun x23 l24 =>
                  asB x23 fun b25 => unn l24 (br (!b25)
                    (some ((.bool false), []))
                    (ocall V 89 [(.int .i64 n16), (.int .i64 (0)), (.int .i64 (4))] fun x26 l27 =>
                     asB x26 fun b28 => unn l27 (br (!b28)
                       (some ((.bool false), []))
                       (Lspec_CodeOk_9 (IntKind.wrap IntKind.i64 (p0 + 1)) p1 p2 p3)))))))))))
   (some ((.bool true), [])) := by
  exact (Rn_eq _ _ _).trans (by kernel_rfl)
theorem eimpl_ValueRead (a0_ : ByteArray) : V 122 [.str a0_] =
  ocall V 37 [(.op [(.os (1, 0) (bytesD a0_)), (.int .i64 (0)), (.bool true)])] fun x0 l1 =>
   asAgg x0 fun l2 => unc l2 fun x3 l4 => asOs (5, 0) x3 fun l5 => unn l4 (unc l1 fun x6 l7 => asOp x6 fun l8 => unc l8 fun x9 l10 => asOs (1, 0) x9 fun _ => unc l10 fun x12 l13 => asI .i64 x12 fun _ => unc l13 fun x15 l16 => asB x15 fun b17 => unn l16 (unn l7 (ocall V 134 [(.agg [(.rs (5, 0) l5)]), (.int .i64 (IntKind.wrap IntKind.i64 (ni (List.length l5) - 1)))] fun x18 l19 =>
               asTup x18 fun l20 => unc l20 fun x21 l22 => asS x21 fun s23 => unc l22 fun x24 l25 => asB x24 fun b26 => unn l25 (unn l19 (br (!b17)
                     (some ((.tup [(.agg [(.os (5, 0) [])]), (.int .i64 (0)), (.bool false)]), []))
                     (br (!b26)
                      (some ((.tup [(.agg [(.os (5, 0) [])]), (.int .i64 (0)), (.bool false)]), []))
                      (br (!strEq s23 a0_)
                       (some ((.tup [(.agg [(.os (5, 0) [])]), (.int .i64 (0)), (.bool false)]), []))
                       (some ((.tup [(.agg [(.os (5, 0) l5)]), (.int .i64 (IntKind.wrap IntKind.i64 (ni (List.length l5) - 1))), (.bool true)]), []))))))))) := by
  exact (Vn_eq Tryz.func122 rfl _).trans (by kernel_rfl)
theorem Llaws_eqInstrS_4_eq (p0 : List D) (p1 : List D) (p2 : Int) : Llaws_eqInstrS_4 p0 p1 p2 =
  br (decide (p2 < ni (List.length p0)))
   (grd (decide (0 ≤ p2) && decide (p2 < ni (List.length p0))) (oget p0 (Int.toNat p2) fun x0 =>
    asAgg x0 fun l1 => unc l1 fun x2 l3 => asI .i64 x2 fun n4 => unc l3 fun x5 l6 => asI .i64 x5 fun n7 => unc l6 fun x8 l9 => asI .i64 x8 fun n10 => unc l9 fun x11 l12 => asS x11 fun s13 => unn l12 (grd (decide (0 ≤ p2) && decide (p2 < ni (List.length p1))) (oget p1 (Int.toNat p2) fun x14 =>
              asAgg x14 fun l15 => unc l15 fun x16 l17 => asI .i64 x16 fun n18 => unc l17 fun x19 l20 => asI .i64 x19 fun n21 => unc l20 fun x22 l23 => asI .i64 x22 fun n24 => unc l23 fun x25 l26 => asS x25 fun s27 => unn l26 (ocall V 82 [(.agg [(.int .i64 n4), (.int .i64 n7), (.int .i64 n10), (.str s13)]), (.agg [(.int .i64 n18), (.int .i64 n21), (.int .i64 n24), (.str s27)])] fun x28 l29 =>
                        asB x28 fun b30 => unn l29 (br (!b30)
                          (some ((.bool false), []))
                          (Llaws_eqInstrS_4 p0 p1 (IntKind.wrap IntKind.i64 (p2 + 1)))))))))
   (some ((.bool true), [])) := by
  exact (Rn_eq _ _ _).trans (by kernel_rfl)
theorem Llaws_eqDefS_4_eq (p0 : List D) (p1 : List D) (p2 : Int) : Llaws_eqDefS_4 p0 p1 p2 =
  br (decide (p2 < ni (List.length p0)))
   (grd (decide (0 ≤ p2) && decide (p2 < ni (List.length p0))) (oget p0 (Int.toNat p2) fun x0 =>
    asAgg x0 fun l1 => unc l1 fun x2 l3 => asS x2 fun s4 => unc l3 fun x5 l6 => asI .i64 x5 fun n7 => unc l6 fun x8 l9 => asI .i64 x8 fun n10 => unn l9 (grd (decide (0 ≤ p2) && decide (p2 < ni (List.length p1))) (oget p1 (Int.toNat p2) fun x11 =>
            asAgg x11 fun l12 => unc l12 fun x13 l14 => asS x13 fun s15 => unc l14 fun x16 l17 => asI .i64 x16 fun n18 => unc l17 fun x19 l20 => asI .i64 x19 fun n21 => unn l20 (ocall V 83 [(.agg [(.str s4), (.int .i64 n7), (.int .i64 n10)]), (.agg [(.str s15), (.int .i64 n18), (.int .i64 n21)])] fun x22 l23 =>
                    asB x22 fun b24 => unn l23 (br (!b24)
                      (some ((.bool false), []))
                      (Llaws_eqDefS_4 p0 p1 (IntKind.wrap IntKind.i64 (p2 + 1)))))))))
   (some ((.bool true), [])) := by
  exact (Rn_eq _ _ _).trans (by kernel_rfl)
theorem Lspec_ProcOk_4_eq (p0 : Int) (p1 : Int) (p2 : List D) (p3 : Int) (p4 : Int) (p5 : Int) (p6 : Int) (p7 : Int) (p8 : Int) (p9 : Int) (p10 : List D) (p11 : List D) : Lspec_ProcOk_4 p0 p1 p2 p3 p4 p5 p6 p7 p8 p9 p10 p11 =
  br (decide (p0 < ni (List.length p10)))
   (grd (decide (0 ≤ p0) && decide (p0 < ni (List.length p10))) (oget p10 (Int.toNat p0) fun x6 =>
    asS x6 fun s7 => ocall V 90 [(.str s7)] fun x8 l9 =>
      asTup x8 fun l10 => unc l10 fun x11 l12 => asAgg x11 fun l13 => unc l13 fun x14 l15 => asOs (5, 0) x14 fun _ => unn l15 (unc l12 fun x17 l18 => asI .i64 x17 fun _ => unc l18 fun x20 l21 => asB x20 fun b22 => unn l21 (unn l9 (br (!b22)
                (some ((.bool false), []))
                (Lspec_ProcOk_4 (IntKind.wrap IntKind.i64 (p0 + 1)) p1 p2 p3 p4 p5 p6 p7 p8 p9 p10 p11))))))
   (Lspec_ProcOk_10 (0) p1 p2 p3 p4 p5 p6 p7 p8 p9 p10 p11) := by
  exact (Rn_eq _ _ _).trans (by kernel_rfl)
theorem espec_GetText (a0_ : List D) (a1_ : Int) : V 68 [.rs (1, 0) a0_, .int .i64 a1_] =
  ocall V 67 [(.rs (1, 0) a0_), (.int .i64 a1_)] fun x0 l1 =>
   asTup x0 fun l2 => unc l2 fun x3 l4 => asI .i64 x3 fun n5 => unc l4 fun x6 l7 => asI .i64 x6 fun n8 => unc l7 fun x9 l10 => asB x9 fun b11 => unn l10 (unn l1 (br (!b11)
           (some ((.tup [(.str ({ data := #[] })), (.int .i64 (0)), (.bool false)]), []))
           (br (decide (n5 > IntKind.wrap IntKind.i64 (ni (List.length a0_) - n8)))
            (some ((.tup [(.str ({ data := #[] })), (.int .i64 (0)), (.bool false)]), []))
            (grd (cutOk (List.length a0_) (some n8) (some (IntKind.wrap IntKind.i64 (n8 + n5)))) (obytes (cutL (cutH a0_ (IntKind.wrap IntKind.i64 (n8 + n5))) n8) fun s12 => some ((.tup [(.str s12), (.int .i64 (IntKind.wrap IntKind.i64 (n8 + n5))), (.bool true)]), [])))))) := by
  exact (Vn_eq Tryz.func68 rfl _).trans (by kernel_rfl)
theorem LIndexFunc_DefOf_2_eq (p0 : List D) (p1 : ByteArray) (p2 : Int) (p3 : Int) : LIndexFunc_DefOf_2 p0 p1 p2 p3 =
  br (decide (p3 < p2))
   (grd (decide (0 ≤ p3) && decide (p3 < ni (List.length p0))) (oget p0 (Int.toNat p3) fun x0 =>
    asAgg x0 fun l1 => unc l1 fun x2 l3 => asS x2 fun s4 => unc l3 fun x5 l6 => asI .i64 x5 fun n7 => unc l6 fun x8 l9 => asI .i64 x8 fun n10 => unn l9 (ocall V 118 [(.agg [(.str s4), (.int .i64 n7), (.int .i64 n10)]), (.bp [(.str p1)])] fun x11 l12 =>
            asB x11 fun b13 => unn l12 (br b13
              (some ((.int .i64 p3), []))
              (LIndexFunc_DefOf_2 p0 p1 p2 (IntKind.wrap IntKind.i64 (p3 + 1)))))))
   (some ((.int .i64 (-1)), [])) := by
  exact (Rn_eq _ _ _).trans (by kernel_rfl)
theorem Limpl_PutNum_4_eq (p0 : Int) (p1 : List D) : Limpl_PutNum_4 p0 p1 =
  br (decide (p0 > 127))
   (grd (!decide (128 = 0)) (grd (decide (ni (List.length (p1 ++ [D.int IntKind.u8 (IntKind.wrap IntKind.u8 (IntKind.wrap IntKind.i64 (Int.tmod p0 (128) + 128)))])) ≤ LIM)) (nam (p1 ++ [D.int IntKind.u8 (IntKind.wrap IntKind.u8 (IntKind.wrap IntKind.i64 (Int.tmod p0 (128) + 128)))]) fun l0 =>
    grd (!decide (128 = 0)) (Limpl_PutNum_4 (IntKind.wrap IntKind.i64 (Int.tdiv p0 (128))) l0))))
   (grd (decide (ni (List.length (p1 ++ [D.int IntKind.u8 (IntKind.wrap IntKind.u8 p0)])) ≤ LIM)) (nam (p1 ++ [D.int IntKind.u8 (IntKind.wrap IntKind.u8 p0)]) fun l1 =>
    some ((.os (1, 0) l1), []))) := by
  exact (Rn_eq _ _ _).trans (by kernel_rfl)
theorem espec_l8Num (b : List D) (i : Int) (k : Bool) : V 30 [.op [.os (1, 0) b, .int .i64 i, .bool k]] =
  ocall V 67 [(.rs (1, 0) b), (.int .i64 i)] fun x0 l1 =>
   asTup x0 fun l2 => unc l2 fun x3 l4 => asI .i64 x3 fun n5 => unc l4 fun x6 l7 => asI .i64 x6 fun n8 => unc l7 fun x9 l10 => asB x9 fun b11 => unn l10 (unn l1 (br (!b11)
           (some ((.int .i64 (0)), [(.op [(.os (1, 0) b), (.int .i64 i), (.bool false)])]))
           (br (!k)
            (some ((.int .i64 (0)), [(.op [(.os (1, 0) b), (.int .i64 i), (.bool false)])]))
            (some ((.int .i64 n5), [(.op [(.os (1, 0) b), (.int .i64 n8), (.bool k)])]))))) := by
  exact (Vn_eq Tryz.func30 rfl _).trans (by kernel_rfl)
theorem elaws_toMachine (a0_0 : List D) (a0_1 : Int) (a0_2 : Int) (a0_3 : Int) (a0_4 : Int) (a0_5 : Int) (a0_6 : Int) (a0_7 : Int) : V 58 [.agg [.rs (5, 0) a0_0, .int .i64 a0_1, .int .i64 a0_2, .int .i64 a0_3, .int .i64 a0_4, .int .i64 a0_5, .int .i64 a0_6, .int .i64 a0_7]] =
  ocall V 33 [(.agg [(.rs (5, 0) a0_0)])] fun x0 l1 =>
   asAgg x0 fun l2 => unc l2 fun x3 l4 => asOs (5, 0) x3 fun l5 => unn l4 (unn l1 (some ((.agg [(.os (5, 0) l5), (.int .i64 a0_1), (.int .i64 a0_2), (.int .i64 a0_3), (.int .i64 a0_4), (.int .i64 a0_5), (.int .i64 a0_6), (.int .i64 a0_7)]), []))) := by
  exact (Vn_eq Tryz.func58 rfl _).trans (by kernel_rfl)
theorem espec_l2Add (p : List D) (k : Int) (n : Int) (s : ByteArray) (a : Int) (b : Int) : V 136 [.op [.os (5, 0) p], .agg [.int .i64 k, .int .i64 n, .str s, .int .i64 a, .int .i64 b]] =
  grd (decide (ni (List.length (p ++ [D.agg [D.int IntKind.i64 k, D.int IntKind.i64 n, D.str s, D.int IntKind.i64 a, D.int IntKind.i64 b]])) ≤ LIM)) (nam (p ++ [D.agg [D.int IntKind.i64 k, D.int IntKind.i64 n, D.str s, D.int IntKind.i64 a, D.int IntKind.i64 b]]) fun l0 =>
   some ((.int .i64 (IntKind.wrap IntKind.i64 (ni (List.length l0) - 1))), [(.op [(.os (5, 0) l0)])])) := by
  exact (Vn_eq Tryz.func136 rfl _).trans (by kernel_rfl)
theorem elaws_toCode (a0_0 : List D) (a0_1 : List D) (a0_2 : List D) : V 9 [.agg [.rs (5, 0) a0_0, .rs (4, 0) a0_1, .rs (3, 0) a0_2]] =
  ocall V 33 [(.agg [(.rs (5, 0) a0_0)])] fun x0 l1 =>
   asAgg x0 fun l2 => unc l2 fun x3 l4 => asOs (5, 0) x3 fun l5 => unn l4 (unn l1 (ocall V 34 [(.rs (4, 0) a0_1)] fun x6 l7 =>
       asOs (4, 0) x6 fun l8 => unn l7 (ocall V 35 [(.rs (3, 0) a0_2)] fun x9 l10 =>
         asOs (3, 0) x9 fun l11 => unn l10 (some ((.agg [(.os (5, 0) l5), (.os (4, 0) l8), (.os (3, 0) l11)]), []))))) := by
  exact (Vn_eq Tryz.func9 rfl _).trans (by kernel_rfl)
theorem Llaws_markStringS_2_eq (p0 : Int) (p1 : Int) (p2 : List D) : Llaws_markStringS_2 p0 p1 p2 =
  br (decide (p1 < ni (List.length p2)))
   (ocall V 85 [(.int .i64 p0)] fun x0 l1 =>
    asS x0 fun s2 => unn l1 (grd (decide (0 ≤ p1) && decide (p1 < ni (List.length p2))) (oget p2 (Int.toNat p1) fun _ =>
      nam (List.set p2 (Int.toNat p1) (D.str s2)) fun l4 =>
       Llaws_markStringS_2 (IntKind.wrap IntKind.i64 (p0 + 1)) (IntKind.wrap IntKind.i64 (p1 + 1)) l4)))
   (some ((.int .i64 p0), [(.os (1, 0) p2)])) := by
  exact (Rn_eq _ _ _).trans (by kernel_rfl)
theorem elaws_szMachine (a0_0 : List D) (a0_1 : Int) (a0_2 : Int) (a0_3 : Int) (a0_4 : Int) (a0_5 : Int) (a0_6 : Int) (a0_7 : Int) (a1_ : Int) : V 53 [.agg [.rs (5, 0) a0_0, .int .i64 a0_1, .int .i64 a0_2, .int .i64 a0_3, .int .i64 a0_4, .int .i64 a0_5, .int .i64 a0_6, .int .i64 a0_7], .int .i64 a1_] =
  ocall V 27 [(.agg [(.rs (5, 0) a0_0)]), (.int .i64 a1_)] fun x0 l1 =>
   asI .i64 x0 fun n2 => unn l1 (br (decide (n2 < 0))
     (some ((.int .i64 (-1)), []))
     (some ((.int .i64 n2), []))) := by
  exact (Vn_eq Tryz.func53 rfl _).trans (by kernel_rfl)
theorem espec_CodeOk (a0_0 : List D) (a0_1 : List D) (a0_2 : List D) : V 88 [.agg [.rs (5, 0) a0_0, .rs (4, 0) a0_1, .rs (3, 0) a0_2]] =
  ocall V 69 [(.agg [(.rs (5, 0) a0_0)])] fun x0 l1 =>
   asB x0 fun b2 => unn l1 (br (!b2)
     (some ((.bool false), []))
     (br (decide (ni (List.length a0_1) > 400))
      (some ((.bool false), []))
      (br (decide (ni (List.length a0_2) > 20))
       (some ((.bool false), []))
       (Lspec_CodeOk_4 (0) a0_0 a0_1 a0_2)))) := by
  exact (Vn_eq Tryz.func88 rfl _).trans (by kernel_rfl)
theorem Limpl_CodeOk_4_eq (p0 : Int) (p1 : Int) (p2 : List D) (p3 : List D) (p4 : List D) : Limpl_CodeOk_4 p0 p1 p2 p3 p4 =
  br (decide (p1 < p0))
   (ocall V 119 [(.agg [(.rs (5, 0) p2), (.rs (4, 0) p3), (.rs (3, 0) p4)]), (.int .i64 p1)] fun x3 l4 =>
    asB x3 fun b5 => unn l4 (br (!b5)
      (some ((.bool false), []))
      (Limpl_CodeOk_4 p0 (IntKind.wrap IntKind.i64 (p1 + 1)) p2 p3 p4)))
   (Limpl_CodeOk_10 p4 (ni (List.length p4)) (0) p2 p3 p4) := by
  exact (Rn_eq _ _ _).trans (by kernel_rfl)
theorem elaws_szNode (a0_0 : Int) (a0_1 : Int) (a0_2 : ByteArray) (a0_3 : Int) (a0_4 : Int) (a1_ : Int) : V 101 [.agg [.int .i64 a0_0, .int .i64 a0_1, .str a0_2, .int .i64 a0_3, .int .i64 a0_4], .int .i64 a1_] =
  br (decide (IntKind.wrap IntKind.i64 (a1_ - ni (ByteArray.size a0_2)) < 0))
   (some ((.int .i64 (-1)), []))
   (some ((.int .i64 (IntKind.wrap IntKind.i64 (a1_ - ni (ByteArray.size a0_2)))), [])) := by
  exact (Vn_eq Tryz.func101 rfl _).trans (by kernel_rfl)
theorem espec_GetNum (a0_ : List D) (a1_ : Int) : V 67 [.rs (1, 0) a0_, .int .i64 a1_] =
  br (decide (a1_ < 0))
   (some ((.tup [(.int .i64 (0)), (.int .i64 (0)), (.bool false)]), []))
   (br (decide (a1_ ≥ ni (List.length a0_)))
    (some ((.tup [(.int .i64 (0)), (.int .i64 (0)), (.bool false)]), []))
    (Lspec_GetNum_6 a0_ a1_ (0) (1) (0))) := by
  exact (Vn_eq Tryz.func67 rfl _).trans (by kernel_rfl)
theorem eimpl_isPlace (a0_0 : List D) (a0_1 : List D) (a0_2 : List D) (a1_ : Int) : V 110 [.agg [.rs (5, 0) a0_0, .rs (4, 0) a0_1, .rs (3, 0) a0_2], .int .i64 a1_] =
  ocall V 93 [(.int .i64 a1_), (.int .i64 (0)), (.int .i64 (IntKind.wrap IntKind.i64 (ni (List.length a0_1) - 1)))] fun x0 l1 =>
   asB x0 fun b2 => unn l1 (some ((.bool b2), [])) := by
  exact (Vn_eq Tryz.func110 rfl _).trans (by kernel_rfl)
theorem elaws_toDefS (a0_ : List D) : V 35 [.rs (3, 0) a0_] =
  grd (decide (0 ≤ ni (List.length a0_)) && decide (ni (List.length a0_) ≤ LIM)) (Llaws_toDefS_3 a0_ (0) (List.replicate (Int.toNat (ni (List.length a0_))) (D.agg [D.str { data := #[] }, D.int IntKind.i64 (0), D.int IntKind.i64 (0)]))) := by
  exact (Vn_eq Tryz.func35 rfl _).trans (by kernel_rfl)
theorem elaws_heldPool (a0_0 : List D) (a1_ : Int) : V 45 [.agg [.rs (5, 0) a0_0], .int .i64 a1_] =
  ocall V 86 [(.rs (5, 0) a0_0), (.int .i64 a1_)] fun x0 l1 =>
   asI .i64 x0 fun n2 => unn l1 (br (decide (n2 < 0))
     (some ((.int .i64 (-1)), []))
     (some ((.int .i64 n2), []))) := by
  exact (Vn_eq Tryz.func45 rfl _).trans (by kernel_rfl)
theorem elaws_szDefS (a0_ : List D) (a1_ : Int) : V 29 [.rs (3, 0) a0_, .int .i64 a1_] =
  br (decide (IntKind.wrap IntKind.i64 (a1_ - ni (List.length a0_)) < 0))
   (some ((.int .i64 (-1)), []))
   (Llaws_szDefS_5 a0_ (IntKind.wrap IntKind.i64 (a1_ - ni (List.length a0_))) (0)) := by
  exact (Vn_eq Tryz.func29 rfl _).trans (by kernel_rfl)
theorem eContainsFunc_rootsOk (l : List D) (p : List D) : V 129 [.rs (1, 0) l, .fn 130 [.bp [.rs (5, 0) p]]] =
  ocall V 137 [(.rs (1, 0) l), (.fn 130 [(.bp [(.rs (5, 0) p)])])] fun x0 l1 =>
   asI .i64 x0 fun n2 => unn l1 (some ((.bool (decide (n2 ≥ 0))), [])) := by
  exact (Vn_eq Tryz.func129 rfl _).trans (by kernel_rfl)
theorem eslices_Clone_impl_Node_impl_Node (a0_ : List D) : V 135 [.rs (5, 0) a0_] =
  nilb a0_
   (some ((.os (5, 0) []), []))
   (grd (decide (ni (List.length ([] ++ a0_)) ≤ LIM)) (nam ([] ++ a0_) fun l0 =>
    some ((.os (5, 0) l0), []))) := by
  exact (Vn_eq Tryz.func135 rfl _).trans (by kernel_rfl)
theorem elaws_eqInstrS (a0_ : List D) (a1_ : List D) : V 40 [.rs (4, 0) a0_, .rs (4, 0) a1_] =
  br (ni (List.length a0_) != ni (List.length a1_))
   (some ((.bool false), []))
   (Llaws_eqInstrS_4 a0_ a1_ (0)) := by
  exact (Vn_eq Tryz.func40 rfl _).trans (by kernel_rfl)
theorem elaws_eqDefS (a0_ : List D) (a1_ : List D) : V 41 [.rs (3, 0) a0_, .rs (3, 0) a1_] =
  br (ni (List.length a0_) != ni (List.length a1_))
   (some ((.bool false), []))
   (Llaws_eqDefS_4 a0_ a1_ (0)) := by
  exact (Vn_eq Tryz.func41 rfl _).trans (by kernel_rfl)
theorem elaws_toDef (a0_0 : ByteArray) (a0_1 : Int) (a0_2 : Int) : V 75 [.agg [.str a0_0, .int .i64 a0_1, .int .i64 a0_2]] =
  some ((.agg [(.str a0_0), (.int .i64 a0_1), (.int .i64 a0_2)]), []) := by
  exact (Vn_eq Tryz.func75 rfl _).trans (by kernel_rfl)
theorem eslices_Index_byte_byte (a0_ : List D) (a1_ : Int) : V 141 [.rs (1, 0) a0_, .int .u8 a1_] =
  Lslices_Index_byte_byte_2 a0_ a1_ (ni (List.length a0_)) (0) := by
  exact (Vn_eq Tryz.func141 rfl _).trans (by kernel_rfl)
theorem eIndexFunc_DefOf (l : List D) (s : ByteArray) : V 117 [.rs (3, 0) l, .fn 118 [.bp [.str s]]] =
  LIndexFunc_DefOf_2 l s (ni (List.length l)) (0) := by
  exact (Vn_eq Tryz.func117 rfl _).trans (by kernel_rfl)
theorem eIndexFunc_ProcOk1 (l : List D) : V 121 [.rs (1, 0) l, .fn 95 []] =
  LIndexFunc_ProcOk1_2 l (ni (List.length l)) (0) := by
  exact (Vn_eq Tryz.func121 rfl _).trans (by kernel_rfl)
theorem eimpl_ProcOk_2 (a0_ : ByteArray) : V 97 [.str a0_] =
  some ((.bool (decide (ni (ByteArray.size a0_) > 400))), []) := by
  exact (Vn_eq Tryz.func97 rfl _).trans (by kernel_rfl)
theorem espec_NameOk (a0_ : ByteArray) : V 115 [.str a0_] =
  Lspec_NameOk_2 a0_ (0) := by
  exact (Vn_eq Tryz.func115 rfl _).trans (by kernel_rfl)
end Go.Eng
