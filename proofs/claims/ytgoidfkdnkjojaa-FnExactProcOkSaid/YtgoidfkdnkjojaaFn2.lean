/- the functions as the interpreter has them -/
import Derived.Test.YtgoidfkdnkjojaaFn0
namespace Go.Eng
open Go.Proofs Go.Proofs.Try
set_option maxRecDepth 100000
theorem Lspec_l8Read_6_eq (p0 : Int) (p1 : Int) (p2 : Int) (p3 : Bool) (p4 : List D) : Lspec_l8Read_6 p0 p1 p2 p3 p4 =
  br (decide (p1 < p0))
   (br p3
    (ocall V 141 [(.op [(.os (1, 0) p4), (.int .i64 p2), (.bool p3)])] fun x15 l16 =>
     asI .i64 x15 fun n17 => unc l16 fun x18 l19 => asOp x18 fun l20 => unc l20 fun x21 l22 => asOs (1, 0) x21 fun l23 => unc l22 fun x24 l25 => asI .i64 x24 fun n26 => unc l25 fun x27 l28 => asB x27 fun b29 => unn l28 (unn l19 (br (n17 == 2)
               (br (n17 == 2)
                (ocall V 141 [(.op [(.os (1, 0) l23), (.int .i64 n26), (.bool b29)])] fun x30 l31 =>
                 asI .i64 x30 fun n32 => unc l31 fun x33 l34 => asOp x33 fun l35 => unc l35 fun x36 l37 => asOs (1, 0) x36 fun l38 => unc l37 fun x39 l40 => asI .i64 x39 fun n41 => unc l40 fun x42 l43 => asB x42 fun b44 => unn l43 (unn l34 (grd (decide (ni 1 ≤ LIM)) (Lspec_l8Read_6v1 p0 (IntKind.wrap IntKind.i64 (p1 + 1)) n41 b44 l38 ([D.agg [D.int IntKind.i64 n17, D.int IntKind.i64 n32, D.str { data := #[] }, D.int IntKind.i64 (0), D.int IntKind.i64 (0)]])))))
                (br (n17 == 3)
                 (ocall V 141 [(.op [(.os (1, 0) l23), (.int .i64 n26), (.bool b29)])] fun x45 l46 =>
                  asI .i64 x45 fun n47 => unc l46 fun x48 l49 => asOp x48 fun l50 => unc l50 fun x51 l52 => asOs (1, 0) x51 fun l53 => unc l52 fun x54 l55 => asI .i64 x54 fun n56 => unc l55 fun x57 l58 => asB x57 fun b59 => unn l58 (unn l49 (grd (decide (ni 1 ≤ LIM)) (Lspec_l8Read_6v1 p0 (IntKind.wrap IntKind.i64 (p1 + 1)) n56 b59 l53 ([D.agg [D.int IntKind.i64 n17, D.int IntKind.i64 (IntKind.wrap IntKind.i64 (n47 - 1000000000)), D.str { data := #[] }, D.int IntKind.i64 (0), D.int IntKind.i64 (0)]])))))
                 (br (n17 == 4)
                  (ocall V 142 [(.rs (1, 0) l23), (.int .i64 n26)] fun x60 l61 =>
                   asTup x60 fun l62 => unc l62 fun x63 l64 => asS x63 fun s65 => unc l64 fun x66 l67 => asI .i64 x66 fun n68 => unc l67 fun x69 l70 => asB x69 fun b71 => unn l70 (unn l61 (br b29
                           (grd (decide (ni 1 ≤ LIM)) (Lspec_l8Read_6v1 p0 (IntKind.wrap IntKind.i64 (p1 + 1)) n68 b71 l23 ([D.agg [D.int IntKind.i64 n17, D.int IntKind.i64 (0), D.str s65, D.int IntKind.i64 (0), D.int IntKind.i64 (0)]])))
                           (grd (decide (ni 1 ≤ LIM)) (Lspec_l8Read_6v1 p0 (IntKind.wrap IntKind.i64 (p1 + 1)) n68 false l23 ([D.agg [D.int IntKind.i64 n17, D.int IntKind.i64 (0), D.str s65, D.int IntKind.i64 (0), D.int IntKind.i64 (0)]]))))))
                  (br (n17 == 5)
                   (ocall V 141 [(.op [(.os (1, 0) l23), (.int .i64 n26), (.bool b29)])] fun x72 l73 =>
                    asI .i64 x72 fun n74 => unc l73 fun x75 l76 => asOp x75 fun l77 => unc l77 fun x78 l79 => asOs (1, 0) x78 fun l80 => unc l79 fun x81 l82 => asI .i64 x81 fun n83 => unc l82 fun x84 l85 => asB x84 fun b86 => unn l85 (unn l76 (ocall V 141 [(.op [(.os (1, 0) l80), (.int .i64 n83), (.bool b86)])] fun x87 l88 =>
                              asI .i64 x87 fun n89 => unc l88 fun x90 l91 => asOp x90 fun l92 => unc l92 fun x93 l94 => asOs (1, 0) x93 fun l95 => unc l94 fun x96 l97 => asI .i64 x96 fun n98 => unc l97 fun x99 l100 => asB x99 fun b101 => unn l100 (unn l91 (grd (decide (ni 1 ≤ LIM)) (Lspec_l8Read_6v1 p0 (IntKind.wrap IntKind.i64 (p1 + 1)) n98 b101 l95 ([D.agg [D.int IntKind.i64 n17, D.int IntKind.i64 (0), D.str { data := #[] }, D.int IntKind.i64 n74, D.int IntKind.i64 n89]])))))))
                   (br (n17 == 6)
                    (ocall V 141 [(.op [(.os (1, 0) l23), (.int .i64 n26), (.bool b29)])] fun x102 l103 =>
                     asI .i64 x102 fun n104 => unc l103 fun x105 l106 => asOp x105 fun l107 => unc l107 fun x108 l109 => asOs (1, 0) x108 fun l110 => unc l109 fun x111 l112 => asI .i64 x111 fun n113 => unc l112 fun x114 l115 => asB x114 fun b116 => unn l115 (unn l106 (ocall V 141 [(.op [(.os (1, 0) l110), (.int .i64 n113), (.bool b116)])] fun x117 l118 =>
                               asI .i64 x117 fun n119 => unc l118 fun x120 l121 => asOp x120 fun l122 => unc l122 fun x123 l124 => asOs (1, 0) x123 fun l125 => unc l124 fun x126 l127 => asI .i64 x126 fun n128 => unc l127 fun x129 l130 => asB x129 fun b131 => unn l130 (unn l121 (grd (decide (ni 1 ≤ LIM)) (Lspec_l8Read_6v1 p0 (IntKind.wrap IntKind.i64 (p1 + 1)) n128 b131 l125 ([D.agg [D.int IntKind.i64 n17, D.int IntKind.i64 n104, D.str { data := #[] }, D.int IntKind.i64 n119, D.int IntKind.i64 (0)]])))))))
                    (br (n17 == 7)
                     (ocall V 141 [(.op [(.os (1, 0) l23), (.int .i64 n26), (.bool b29)])] fun x132 l133 =>
                      asI .i64 x132 fun n134 => unc l133 fun x135 l136 => asOp x135 fun l137 => unc l137 fun x138 l139 => asOs (1, 0) x138 fun l140 => unc l139 fun x141 l142 => asI .i64 x141 fun n143 => unc l142 fun x144 l145 => asB x144 fun b146 => unn l145 (unn l136 (grd (decide (ni 1 ≤ LIM)) (Lspec_l8Read_6v1 p0 (IntKind.wrap IntKind.i64 (p1 + 1)) n143 b146 l140 ([D.agg [D.int IntKind.i64 n17, D.int IntKind.i64 (0), D.str { data := #[] }, D.int IntKind.i64 n134, D.int IntKind.i64 (0)]])))))
                     (grd (decide (ni 1 ≤ LIM)) (Lspec_l8Read_6v1 p0 (IntKind.wrap IntKind.i64 (p1 + 1)) n26 b29 l23 ([D.agg [D.int IntKind.i64 n17, D.int IntKind.i64 (0), D.str { data := #[] }, D.int IntKind.i64 (0), D.int IntKind.i64 (0)]])))))))))
               (br (n17 == 8)
                (br (n17 == 8)
                 (ocall V 141 [(.op [(.os (1, 0) l23), (.int .i64 n26), (.bool b29)])] fun x147 l148 =>
                  asI .i64 x147 fun n149 => unc l148 fun x150 l151 => asOp x150 fun l152 => unc l152 fun x153 l154 => asOs (1, 0) x153 fun l155 => unc l154 fun x156 l157 => asI .i64 x156 fun n158 => unc l157 fun x159 l160 => asB x159 fun b161 => unn l160 (unn l151 (grd (decide (ni 1 ≤ LIM)) (Lspec_l8Read_6v1 p0 (IntKind.wrap IntKind.i64 (p1 + 1)) n158 b161 l155 ([D.agg [D.int IntKind.i64 n17, D.int IntKind.i64 n149, D.str { data := #[] }, D.int IntKind.i64 (0), D.int IntKind.i64 (0)]])))))
                 (br (n17 == 3)
                  (ocall V 141 [(.op [(.os (1, 0) l23), (.int .i64 n26), (.bool b29)])] fun x162 l163 =>
                   asI .i64 x162 fun n164 => unc l163 fun x165 l166 => asOp x165 fun l167 => unc l167 fun x168 l169 => asOs (1, 0) x168 fun l170 => unc l169 fun x171 l172 => asI .i64 x171 fun n173 => unc l172 fun x174 l175 => asB x174 fun b176 => unn l175 (unn l166 (grd (decide (ni 1 ≤ LIM)) (Lspec_l8Read_6v1 p0 (IntKind.wrap IntKind.i64 (p1 + 1)) n173 b176 l170 ([D.agg [D.int IntKind.i64 n17, D.int IntKind.i64 (IntKind.wrap IntKind.i64 (n164 - 1000000000)), D.str { data := #[] }, D.int IntKind.i64 (0), D.int IntKind.i64 (0)]])))))
                  (br (n17 == 4)
                   (ocall V 142 [(.rs (1, 0) l23), (.int .i64 n26)] fun x177 l178 =>
                    asTup x177 fun l179 => unc l179 fun x180 l181 => asS x180 fun s182 => unc l181 fun x183 l184 => asI .i64 x183 fun n185 => unc l184 fun x186 l187 => asB x186 fun b188 => unn l187 (unn l178 (br b29
                            (grd (decide (ni 1 ≤ LIM)) (Lspec_l8Read_6v1 p0 (IntKind.wrap IntKind.i64 (p1 + 1)) n185 b188 l23 ([D.agg [D.int IntKind.i64 n17, D.int IntKind.i64 (0), D.str s182, D.int IntKind.i64 (0), D.int IntKind.i64 (0)]])))
                            (grd (decide (ni 1 ≤ LIM)) (Lspec_l8Read_6v1 p0 (IntKind.wrap IntKind.i64 (p1 + 1)) n185 false l23 ([D.agg [D.int IntKind.i64 n17, D.int IntKind.i64 (0), D.str s182, D.int IntKind.i64 (0), D.int IntKind.i64 (0)]]))))))
                   (br (n17 == 5)
                    (ocall V 141 [(.op [(.os (1, 0) l23), (.int .i64 n26), (.bool b29)])] fun x189 l190 =>
                     asI .i64 x189 fun n191 => unc l190 fun x192 l193 => asOp x192 fun l194 => unc l194 fun x195 l196 => asOs (1, 0) x195 fun l197 => unc l196 fun x198 l199 => asI .i64 x198 fun n200 => unc l199 fun x201 l202 => asB x201 fun b203 => unn l202 (unn l193 (ocall V 141 [(.op [(.os (1, 0) l197), (.int .i64 n200), (.bool b203)])] fun x204 l205 =>
                               asI .i64 x204 fun n206 => unc l205 fun x207 l208 => asOp x207 fun l209 => unc l209 fun x210 l211 => asOs (1, 0) x210 fun l212 => unc l211 fun x213 l214 => asI .i64 x213 fun n215 => unc l214 fun x216 l217 => asB x216 fun b218 => unn l217 (unn l208 (grd (decide (ni 1 ≤ LIM)) (Lspec_l8Read_6v1 p0 (IntKind.wrap IntKind.i64 (p1 + 1)) n215 b218 l212 ([D.agg [D.int IntKind.i64 n17, D.int IntKind.i64 (0), D.str { data := #[] }, D.int IntKind.i64 n191, D.int IntKind.i64 n206]])))))))
                    (br (n17 == 6)
                     (ocall V 141 [(.op [(.os (1, 0) l23), (.int .i64 n26), (.bool b29)])] fun x219 l220 =>
                      asI .i64 x219 fun n221 => unc l220 fun x222 l223 => asOp x222 fun l224 => unc l224 fun x225 l226 => asOs (1, 0) x225 fun l227 => unc l226 fun x228 l229 => asI .i64 x228 fun n230 => unc l229 fun x231 l232 => asB x231 fun b233 => unn l232 (unn l223 (ocall V 141 [(.op [(.os (1, 0) l227), (.int .i64 n230), (.bool b233)])] fun x234 l235 =>
                                asI .i64 x234 fun n236 => unc l235 fun x237 l238 => asOp x237 fun l239 => unc l239 fun x240 l241 => asOs (1, 0) x240 fun l242 => unc l241 fun x243 l244 => asI .i64 x243 fun n245 => unc l244 fun x246 l247 => asB x246 fun b248 => unn l247 (unn l238 (grd (decide (ni 1 ≤ LIM)) (Lspec_l8Read_6v1 p0 (IntKind.wrap IntKind.i64 (p1 + 1)) n245 b248 l242 ([D.agg [D.int IntKind.i64 n17, D.int IntKind.i64 n221, D.str { data := #[] }, D.int IntKind.i64 n236, D.int IntKind.i64 (0)]])))))))
                     (br (n17 == 7)
                      (ocall V 141 [(.op [(.os (1, 0) l23), (.int .i64 n26), (.bool b29)])] fun x249 l250 =>
                       asI .i64 x249 fun n251 => unc l250 fun x252 l253 => asOp x252 fun l254 => unc l254 fun x255 l256 => asOs (1, 0) x255 fun l257 => unc l256 fun x258 l259 => asI .i64 x258 fun n260 => unc l259 fun x261 l262 => asB x261 fun b263 => unn l262 (unn l253 (grd (decide (ni 1 ≤ LIM)) (Lspec_l8Read_6v1 p0 (IntKind.wrap IntKind.i64 (p1 + 1)) n260 b263 l257 ([D.agg [D.int IntKind.i64 n17, D.int IntKind.i64 (0), D.str { data := #[] }, D.int IntKind.i64 n251, D.int IntKind.i64 (0)]])))))
                      (grd (decide (ni 1 ≤ LIM)) (Lspec_l8Read_6v1 p0 (IntKind.wrap IntKind.i64 (p1 + 1)) n26 b29 l23 ([D.agg [D.int IntKind.i64 n17, D.int IntKind.i64 (0), D.str { data := #[] }, D.int IntKind.i64 (0), D.int IntKind.i64 (0)]])))))))))
                (br (n17 == 9)
                 (ocall V 141 [(.op [(.os (1, 0) l23), (.int .i64 n26), (.bool b29)])] fun x264 l265 =>
                  asI .i64 x264 fun n266 => unc l265 fun x267 l268 => asOp x267 fun l269 => unc l269 fun x270 l271 => asOs (1, 0) x270 fun l272 => unc l271 fun x273 l274 => asI .i64 x273 fun n275 => unc l274 fun x276 l277 => asB x276 fun b278 => unn l277 (unn l268 (grd (decide (ni 1 ≤ LIM)) (Lspec_l8Read_6v1 p0 (IntKind.wrap IntKind.i64 (p1 + 1)) n275 b278 l272 ([D.agg [D.int IntKind.i64 n17, D.int IntKind.i64 n266, D.str { data := #[] }, D.int IntKind.i64 (0), D.int IntKind.i64 (0)]])))))
                 (br (n17 == 3)
                  (ocall V 141 [(.op [(.os (1, 0) l23), (.int .i64 n26), (.bool b29)])] fun x279 l280 =>
                   asI .i64 x279 fun n281 => unc l280 fun x282 l283 => asOp x282 fun l284 => unc l284 fun x285 l286 => asOs (1, 0) x285 fun l287 => unc l286 fun x288 l289 => asI .i64 x288 fun n290 => unc l289 fun x291 l292 => asB x291 fun b293 => unn l292 (unn l283 (grd (decide (ni 1 ≤ LIM)) (Lspec_l8Read_6v1 p0 (IntKind.wrap IntKind.i64 (p1 + 1)) n290 b293 l287 ([D.agg [D.int IntKind.i64 n17, D.int IntKind.i64 (IntKind.wrap IntKind.i64 (n281 - 1000000000)), D.str { data := #[] }, D.int IntKind.i64 (0), D.int IntKind.i64 (0)]])))))
                  (br (n17 == 4)
                   (ocall V 142 [(.rs (1, 0) l23), (.int .i64 n26)] fun x294 l295 =>
                    asTup x294 fun l296 => unc l296 fun x297 l298 => asS x297 fun s299 => unc l298 fun x300 l301 => asI .i64 x300 fun n302 => unc l301 fun x303 l304 => asB x303 fun b305 => unn l304 (unn l295 (br b29
                            (grd (decide (ni 1 ≤ LIM)) (Lspec_l8Read_6v1 p0 (IntKind.wrap IntKind.i64 (p1 + 1)) n302 b305 l23 ([D.agg [D.int IntKind.i64 n17, D.int IntKind.i64 (0), D.str s299, D.int IntKind.i64 (0), D.int IntKind.i64 (0)]])))
                            (grd (decide (ni 1 ≤ LIM)) (Lspec_l8Read_6v1 p0 (IntKind.wrap IntKind.i64 (p1 + 1)) n302 false l23 ([D.agg [D.int IntKind.i64 n17, D.int IntKind.i64 (0), D.str s299, D.int IntKind.i64 (0), D.int IntKind.i64 (0)]]))))))
                   (br (n17 == 5)
                    (ocall V 141 [(.op [(.os (1, 0) l23), (.int .i64 n26), (.bool b29)])] fun x306 l307 =>
                     asI .i64 x306 fun n308 => unc l307 fun x309 l310 => asOp x309 fun l311 => unc l311 fun x312 l313 => asOs (1, 0) x312 fun l314 => unc l313 fun x315 l316 => asI .i64 x315 fun n317 => unc l316 fun x318 l319 => asB x318 fun b320 => unn l319 (unn l310 (ocall V 141 [(.op [(.os (1, 0) l314), (.int .i64 n317), (.bool b320)])] fun x321 l322 =>
                               asI .i64 x321 fun n323 => unc l322 fun x324 l325 => asOp x324 fun l326 => unc l326 fun x327 l328 => asOs (1, 0) x327 fun l329 => unc l328 fun x330 l331 => asI .i64 x330 fun n332 => unc l331 fun x333 l334 => asB x333 fun b335 => unn l334 (unn l325 (grd (decide (ni 1 ≤ LIM)) (Lspec_l8Read_6v1 p0 (IntKind.wrap IntKind.i64 (p1 + 1)) n332 b335 l329 ([D.agg [D.int IntKind.i64 n17, D.int IntKind.i64 (0), D.str { data := #[] }, D.int IntKind.i64 n308, D.int IntKind.i64 n323]])))))))
                    (br (n17 == 6)
                     (ocall V 141 [(.op [(.os (1, 0) l23), (.int .i64 n26), (.bool b29)])] fun x336 l337 =>
                      asI .i64 x336 fun n338 => unc l337 fun x339 l340 => asOp x339 fun l341 => unc l341 fun x342 l343 => asOs (1, 0) x342 fun l344 => unc l343 fun x345 l346 => asI .i64 x345 fun n347 => unc l346 fun x348 l349 => asB x348 fun b350 => unn l349 (unn l340 (ocall V 141 [(.op [(.os (1, 0) l344), (.int .i64 n347), (.bool b350)])] fun x351 l352 =>
                                asI .i64 x351 fun n353 => unc l352 fun x354 l355 => asOp x354 fun l356 => unc l356 fun x357 l358 => asOs (1, 0) x357 fun l359 => unc l358 fun x360 l361 => asI .i64 x360 fun n362 => unc l361 fun x363 l364 => asB x363 fun b365 => unn l364 (unn l355 (grd (decide (ni 1 ≤ LIM)) (Lspec_l8Read_6v1 p0 (IntKind.wrap IntKind.i64 (p1 + 1)) n362 b365 l359 ([D.agg [D.int IntKind.i64 n17, D.int IntKind.i64 n338, D.str { data := #[] }, D.int IntKind.i64 n353, D.int IntKind.i64 (0)]])))))))
                     (br (n17 == 7)
                      (ocall V 141 [(.op [(.os (1, 0) l23), (.int .i64 n26), (.bool b29)])] fun x366 l367 =>
                       asI .i64 x366 fun n368 => unc l367 fun x369 l370 => asOp x369 fun l371 => unc l371 fun x372 l373 => asOs (1, 0) x372 fun l374 => unc l373 fun x375 l376 => asI .i64 x375 fun n377 => unc l376 fun x378 l379 => asB x378 fun b380 => unn l379 (unn l370 (grd (decide (ni 1 ≤ LIM)) (Lspec_l8Read_6v1 p0 (IntKind.wrap IntKind.i64 (p1 + 1)) n377 b380 l374 ([D.agg [D.int IntKind.i64 n17, D.int IntKind.i64 (0), D.str { data := #[] }, D.int IntKind.i64 n368, D.int IntKind.i64 (0)]])))))
                      (grd (decide (ni 1 ≤ LIM)) (Lspec_l8Read_6v1 p0 (IntKind.wrap IntKind.i64 (p1 + 1)) n26 b29 l23 ([D.agg [D.int IntKind.i64 n17, D.int IntKind.i64 (0), D.str { data := #[] }, D.int IntKind.i64 (0), D.int IntKind.i64 (0)]])))))))))))))
    (br p3
     (br (p2 == ni (List.length p4))
      (ocall V 67 [(.agg [(.rs (5, 0) [])])] fun x381 l382 =>
       asB x381 fun b383 => unn l382 (some ((.agg [(.os (5, 0) [])]), [(.op [(.os (1, 0) p4), (.int .i64 p2), (.bool b383)])])))
      (some ((.agg [(.os (5, 0) [])]), [(.op [(.os (1, 0) p4), (.int .i64 p2), (.bool false)])])))
     (some ((.agg [(.os (5, 0) [])]), [(.op [(.os (1, 0) p4), (.int .i64 p2), (.bool false)])]))))
   (br p3
    (br (p2 == ni (List.length p4))
     (ocall V 67 [(.agg [(.rs (5, 0) [])])] fun x384 l385 =>
      asB x384 fun b386 => unn l385 (some ((.agg [(.os (5, 0) [])]), [(.op [(.os (1, 0) p4), (.int .i64 p2), (.bool b386)])])))
     (some ((.agg [(.os (5, 0) [])]), [(.op [(.os (1, 0) p4), (.int .i64 p2), (.bool false)])])))
    (some ((.agg [(.os (5, 0) [])]), [(.op [(.os (1, 0) p4), (.int .i64 p2), (.bool false)])]))) := by
  exact (Rn_eq _ _ _).trans (by kernel_rfl)
theorem elaws_FnExactProcOk (a0_0 : List D) (a0_1 : List D) (a0_2 : List D) (a1_0 : Int) (a1_1 : List D) (a1_2 : Int) (a1_3 : Int) (a1_4 : Int) (a1_5 : Int) (a1_6 : Int) (a1_7 : Int) (a1_8 : Int) (a1_9 : List D) (a1_10 : List D) : V 10 [.agg [.rs (5, 0) a0_0, .rs (4, 0) a0_1, .rs (3, 0) a0_2], .agg [.int .i64 a1_0, .rs (5, 0) a1_1, .int .i64 a1_2, .int .i64 a1_3, .int .i64 a1_4, .int .i64 a1_5, .int .i64 a1_6, .int .i64 a1_7, .int .i64 a1_8, .rs (1, 0) a1_9, .rs (1, 0) a1_10]] =
  ocall V 39 [(.agg [(.rs (5, 0) a0_0), (.rs (4, 0) a0_1), (.rs (3, 0) a0_2)]), (.int .i64 (1048576))] fun x0 l1 =>
   asI .i64 x0 fun n2 => unn l1 (br (decide (n2 < 0))
     (some ((.bool true), []))
     (ocall V 47 [(.agg [(.int .i64 a1_0), (.rs (5, 0) a1_1), (.int .i64 a1_2), (.int .i64 a1_3), (.int .i64 a1_4), (.int .i64 a1_5), (.int .i64 a1_6), (.int .i64 a1_7), (.int .i64 a1_8), (.rs (1, 0) a1_9), (.rs (1, 0) a1_10)]), (.int .i64 n2)] fun x3 l4 =>
      asI .i64 x3 fun n5 => unn l4 (br (decide (n5 < 0))
        (some ((.bool true), []))
        (ocall V 42 [(.agg [(.rs (5, 0) a0_0), (.rs (4, 0) a0_1), (.rs (3, 0) a0_2)])] fun x6 l7 =>
         asAgg x6 fun l8 => unc l8 fun x9 l10 => asOs (5, 0) x9 fun l11 => unc l10 fun x12 l13 => asOs (4, 0) x12 fun l14 => unc l13 fun x15 l16 => asOs (3, 0) x15 fun l17 => unn l16 (unn l7 (ocall V 49 [(.agg [(.int .i64 a1_0), (.rs (5, 0) a1_1), (.int .i64 a1_2), (.int .i64 a1_3), (.int .i64 a1_4), (.int .i64 a1_5), (.int .i64 a1_6), (.int .i64 a1_7), (.int .i64 a1_8), (.rs (1, 0) a1_9), (.rs (1, 0) a1_10)])] fun x18 l19 =>
                 asAgg x18 fun l20 => unc l20 fun x21 l22 => asI .i64 x21 fun n23 => unc l22 fun x24 l25 => asOs (5, 0) x24 fun l26 => unc l25 fun x27 l28 => asI .i64 x27 fun n29 => unc l28 fun x30 l31 => asI .i64 x30 fun n32 => unc l31 fun x33 l34 => asI .i64 x33 fun n35 => unc l34 fun x36 l37 => asI .i64 x36 fun n38 => unc l37 fun x39 l40 => asI .i64 x39 fun n41 => unc l40 fun x42 l43 => asI .i64 x42 fun n44 => unc l43 fun x45 l46 => asI .i64 x45 fun n47 => unc l46 fun x48 l49 => asOs (1, 0) x48 fun l50 => unc l49 fun x51 l52 => asOs (1, 0) x51 fun l53 => unn l52 (unn l19 (ocall V 48 [(.agg [(.rs (5, 0) l11), (.rs (4, 0) l14), (.rs (3, 0) l17)]), (.agg [(.int .i64 n23), (.rs (5, 0) l26), (.int .i64 n29), (.int .i64 n32), (.int .i64 n35), (.int .i64 n38), (.int .i64 n41), (.int .i64 n44), (.int .i64 n47), (.rs (1, 0) l50), (.rs (1, 0) l53)])] fun x54 l55 =>
                                         asB x54 fun b56 => unn l55 (ocall V 42 [(.agg [(.rs (5, 0) a0_0), (.rs (4, 0) a0_1), (.rs (3, 0) a0_2)])] fun x57 l58 =>
                                           asAgg x57 fun l59 => unc l59 fun x60 l61 => asOs (5, 0) x60 fun l62 => unc l61 fun x63 l64 => asOs (4, 0) x63 fun l65 => unc l64 fun x66 l67 => asOs (3, 0) x66 fun l68 => unn l67 (unn l58 (ocall V 49 [(.agg [(.int .i64 a1_0), (.rs (5, 0) a1_1), (.int .i64 a1_2), (.int .i64 a1_3), (.int .i64 a1_4), (.int .i64 a1_5), (.int .i64 a1_6), (.int .i64 a1_7), (.int .i64 a1_8), (.rs (1, 0) a1_9), (.rs (1, 0) a1_10)])] fun x69 l70 =>
                                                   asAgg x69 fun l71 => unc l71 fun x72 l73 => asI .i64 x72 fun n74 => unc l73 fun x75 l76 => asOs (5, 0) x75 fun l77 => unc l76 fun x78 l79 => asI .i64 x78 fun n80 => unc l79 fun x81 l82 => asI .i64 x81 fun n83 => unc l82 fun x84 l85 => asI .i64 x84 fun n86 => unc l85 fun x87 l88 => asI .i64 x87 fun n89 => unc l88 fun x90 l91 => asI .i64 x90 fun n92 => unc l91 fun x93 l94 => asI .i64 x93 fun n95 => unc l94 fun x96 l97 => asI .i64 x96 fun n98 => unc l97 fun x99 l100 => asOs (1, 0) x99 fun l101 => unc l100 fun x102 l103 => asOs (1, 0) x102 fun l104 => unn l103 (unn l70 (ocall V 50 [(.agg [(.rs (5, 0) l62), (.rs (4, 0) l65), (.rs (3, 0) l68)]), (.agg [(.int .i64 n74), (.rs (5, 0) l77), (.int .i64 n80), (.int .i64 n83), (.int .i64 n86), (.int .i64 n89), (.int .i64 n92), (.int .i64 n95), (.int .i64 n98), (.rs (1, 0) l101), (.rs (1, 0) l104)])] fun x105 l106 =>
                                                                           asB x105 fun b107 => unn l106 (br (!b107 == b56)
                                                                             (some ((.bool false), []))
                                                                             (ocall V 42 [(.agg [(.rs (5, 0) a0_0), (.rs (4, 0) a0_1), (.rs (3, 0) a0_2)])] fun x108 l109 =>
                                                                              asAgg x108 fun l110 => unc l110 fun x111 l112 => asOs (5, 0) x111 fun l113 => unc l112 fun x114 l115 => asOs (4, 0) x114 fun l116 => unc l115 fun x117 l118 => asOs (3, 0) x117 fun l119 => unn l118 (unn l109 (ocall V 45 [(.agg [(.rs (5, 0) l62), (.rs (4, 0) l65), (.rs (3, 0) l68)]), (.agg [(.rs (5, 0) l113), (.rs (4, 0) l116), (.rs (3, 0) l119)])] fun x120 l121 =>
                                                                                      asB x120 fun b122 => unn l121 (br (!b122)
                                                                                        (some ((.bool false), []))
                                                                                        (ocall V 49 [(.agg [(.int .i64 a1_0), (.rs (5, 0) a1_1), (.int .i64 a1_2), (.int .i64 a1_3), (.int .i64 a1_4), (.int .i64 a1_5), (.int .i64 a1_6), (.int .i64 a1_7), (.int .i64 a1_8), (.rs (1, 0) a1_9), (.rs (1, 0) a1_10)])] fun x123 l124 =>
                                                                                         asAgg x123 fun l125 => unc l125 fun x126 l127 => asI .i64 x126 fun n128 => unc l127 fun x129 l130 => asOs (5, 0) x129 fun l131 => unc l130 fun x132 l133 => asI .i64 x132 fun n134 => unc l133 fun x135 l136 => asI .i64 x135 fun n137 => unc l136 fun x138 l139 => asI .i64 x138 fun n140 => unc l139 fun x141 l142 => asI .i64 x141 fun n143 => unc l142 fun x144 l145 => asI .i64 x144 fun n146 => unc l145 fun x147 l148 => asI .i64 x147 fun n149 => unc l148 fun x150 l151 => asI .i64 x150 fun n152 => unc l151 fun x153 l154 => asOs (1, 0) x153 fun l155 => unc l154 fun x156 l157 => asOs (1, 0) x156 fun l158 => unn l157 (unn l124 (ocall V 51 [(.agg [(.int .i64 n74), (.rs (5, 0) l77), (.int .i64 n80), (.int .i64 n83), (.int .i64 n86), (.int .i64 n89), (.int .i64 n92), (.int .i64 n95), (.int .i64 n98), (.rs (1, 0) l101), (.rs (1, 0) l104)]), (.agg [(.int .i64 n128), (.rs (5, 0) l131), (.int .i64 n134), (.int .i64 n137), (.int .i64 n140), (.int .i64 n143), (.int .i64 n146), (.int .i64 n149), (.int .i64 n152), (.rs (1, 0) l155), (.rs (1, 0) l158)])] fun x159 l160 =>
                                                                                                                 asB x159 fun b161 => unn l160 (br (!b161)
                                                                                                                   (some ((.bool false), []))
                                                                                                                   (some ((.bool true), [])))))))))))))))))))))))) := by
  exact (Vn_eq Try.func10 rfl _).trans (by kernel_rfl)
theorem eimpl_instrOk (a0_0 : List D) (a0_1 : List D) (a0_2 : List D) (a1_ : Int) : V 173 [.agg [.rs (5, 0) a0_0, .rs (4, 0) a0_1, .rs (3, 0) a0_2], .int .i64 a1_] =
  grd (decide (0 ≤ a1_) && decide (a1_ < ni (List.length a0_1))) (oget a0_1 (Int.toNat a1_) fun x0 =>
   asAgg x0 fun l1 => unc l1 fun x2 l3 => asI .i64 x2 fun n4 => unc l3 fun x5 l6 => asI .i64 x5 fun n7 => unc l6 fun x8 l9 => asI .i64 x8 fun n10 => unc l9 fun x11 l12 => asS x11 fun s13 => unn l12 (br (n4 == 1)
             (ocall V 59 [(.agg [(.rs (5, 0) a0_0)]), (.int .i64 n7)] fun x14 l15 =>
              asB x14 fun b16 => unn l15 (br b16
                (br (n10 == 0)
                 (some ((.bool (strEq s13 { data := #[] })), []))
                 (some ((.bool false), [])))
                (some ((.bool false), []))))
             (br (n4 == 2)
              (ocall V 106 [(.int .i64 n7), (.int .i64 (0)), (.int .i64 (20))] fun x17 l18 =>
               asB x17 fun b19 => unn l18 (ocall V 106 [(.int .i64 n10), (.int .i64 (0)), (.int .i64 (3))] fun x20 l21 =>
                 asB x20 fun b22 => unn l21 (br b19
                   (br b22
                    (some ((.bool (strEq s13 { data := #[] })), []))
                    (some ((.bool false), [])))
                   (some ((.bool false), [])))))
              (br (n4 == 3)
               (ocall V 121 [(.str s13)] fun x23 l24 =>
                asB x23 fun b25 => unn l24 (br (n7 == 0)
                  (br (n10 == 0)
                   (some ((.bool b25), []))
                   (some ((.bool false), [])))
                  (some ((.bool false), []))))
               (br (n4 == 4)
                (br (n4 == 4)
                 (ocall V 106 [(.int .i64 n7), (.int .i64 (IntKind.wrap IntKind.i64 (a1_ + 1))), (.int .i64 (ni (List.length a0_1)))] fun x26 l27 =>
                  asB x26 fun b28 => unn l27 (br b28
                    (br (n10 == 0)
                     (some ((.bool (strEq s13 { data := #[] })), []))
                     (some ((.bool false), [])))
                    (some ((.bool false), []))))
                 (br (n4 == 6)
                  (ocall V 106 [(.int .i64 n7), (.int .i64 (IntKind.wrap IntKind.i64 (a1_ + 1))), (.int .i64 (IntKind.wrap IntKind.i64 (ni (List.length a0_1) - 1)))] fun x29 l30 =>
                   asB x29 fun b31 => unn l30 (ocall V 106 [(.int .i64 n10), (.int .i64 (0)), (.int .i64 (4))] fun x32 l33 =>
                     asB x32 fun b34 => unn l33 (br b31
                       (br b34
                        (some ((.bool (strEq s13 { data := #[] })), []))
                        (some ((.bool false), [])))
                       (some ((.bool false), [])))))
                  (br (n4 == 7)
                   (ocall V 106 [(.int .i64 n10), (.int .i64 (0)), (.int .i64 (4))] fun x35 l36 =>
                    asB x35 fun b37 => unn l36 (br (n7 == 0)
                      (br b37
                       (some ((.bool (strEq s13 { data := #[] })), []))
                       (some ((.bool false), [])))
                      (some ((.bool false), []))))
                   (br (n4 == 8)
                    (br (n4 == 8)
                     (br (n7 == 0)
                      (br (n10 == 0)
                       (some ((.bool (strEq s13 { data := #[] })), []))
                       (some ((.bool false), [])))
                      (some ((.bool false), [])))
                     (some ((.bool false), [])))
                    (br (n4 == 9)
                     (br (n7 == 0)
                      (br (n10 == 0)
                       (some ((.bool (strEq s13 { data := #[] })), []))
                       (some ((.bool false), [])))
                      (some ((.bool false), [])))
                     (some ((.bool false), [])))))))
                (br (n4 == 5)
                 (ocall V 106 [(.int .i64 n7), (.int .i64 (IntKind.wrap IntKind.i64 (a1_ + 1))), (.int .i64 (ni (List.length a0_1)))] fun x38 l39 =>
                  asB x38 fun b40 => unn l39 (br b40
                    (br (n10 == 0)
                     (some ((.bool (strEq s13 { data := #[] })), []))
                     (some ((.bool false), [])))
                    (some ((.bool false), []))))
                 (br (n4 == 6)
                  (ocall V 106 [(.int .i64 n7), (.int .i64 (IntKind.wrap IntKind.i64 (a1_ + 1))), (.int .i64 (IntKind.wrap IntKind.i64 (ni (List.length a0_1) - 1)))] fun x41 l42 =>
                   asB x41 fun b43 => unn l42 (ocall V 106 [(.int .i64 n10), (.int .i64 (0)), (.int .i64 (4))] fun x44 l45 =>
                     asB x44 fun b46 => unn l45 (br b43
                       (br b46
                        (some ((.bool (strEq s13 { data := #[] })), []))
                        (some ((.bool false), [])))
                       (some ((.bool false), [])))))
                  (br (n4 == 7)
                   (ocall V 106 [(.int .i64 n10), (.int .i64 (0)), (.int .i64 (4))] fun x47 l48 =>
                    asB x47 fun b49 => unn l48 (br (n7 == 0)
                      (br b49
                       (some ((.bool (strEq s13 { data := #[] })), []))
                       (some ((.bool false), [])))
                      (some ((.bool false), []))))
                   (br (n4 == 8)
                    (br (n4 == 8)
                     (br (n7 == 0)
                      (br (n10 == 0)
                       (some ((.bool (strEq s13 { data := #[] })), []))
                       (some ((.bool false), [])))
                      (some ((.bool false), [])))
                     (some ((.bool false), [])))
                    (br (n4 == 9)
                     (br (n7 == 0)
                      (br (n10 == 0)
                       (some ((.bool (strEq s13 { data := #[] })), []))
                       (some ((.bool false), [])))
                      (some ((.bool false), [])))
                     (some ((.bool false), [])))))))))))) := by
  exact (Vn_eq Try.func173 rfl _).trans (by kernel_rfl)
theorem Lspec_l7Into_3_eq (p0 : List D) (p1 : Int) (p2 : List D) (p3 : List D) (p4 : List D) : Lspec_l7Into_3 p0 p1 p2 p3 p4 =
  br (decide (p1 < ni (List.length p2)))
   (grd (decide (0 ≤ p1) && decide (p1 < ni (List.length p0))) (oget p0 (Int.toNat p1) fun x0 =>
    asB x0 fun b1 => br (!b1)
      (Lspec_l7Into_3 p0 (IntKind.wrap IntKind.i64 (p1 + 1)) p2 p3 p4)
      (grd (decide (0 ≤ p1) && decide (p1 < ni (List.length p2))) (oget p2 (Int.toNat p1) fun x2 =>
       asAgg x2 fun l3 => unc l3 fun x4 l5 => asI .i64 x4 fun n6 => unc l5 fun x7 l8 => asI .i64 x7 fun n9 => unc l8 fun x10 l11 => asS x10 fun s12 => unc l11 fun x13 l14 => asI .i64 x13 fun n15 => unc l14 fun x16 l17 => asI .i64 x16 fun n18 => unn l17 (br (n6 == 5)
                   (grd (decide (0 ≤ n15) && decide (n15 < ni (List.length p3))) (oget p3 (Int.toNat n15) fun x19 =>
                    asI .i64 x19 fun n20 => grd (decide (0 ≤ n18) && decide (n18 < ni (List.length p3))) (oget p3 (Int.toNat n18) fun x21 =>
                      asI .i64 x21 fun n22 => ocall V 75 [(.op [(.os (5, 0) p4)]), (.agg [(.int .i64 n6), (.int .i64 n9), (.str s12), (.int .i64 n20), (.int .i64 n22)])] fun x23 l24 =>
                        asI .i64 x23 fun n25 => unc l24 fun x26 l27 => asOp x26 fun l28 => unc l28 fun x29 l30 => asOs (5, 0) x29 fun l31 => unn l30 (unn l27 (grd (decide (0 ≤ p1) && decide (p1 < ni (List.length p3))) (oget p3 (Int.toNat p1) fun _ =>
                              nam (List.set p3 (Int.toNat p1) (D.int IntKind.i64 n25)) fun l33 =>
                               Lspec_l7Into_3 p0 (IntKind.wrap IntKind.i64 (p1 + 1)) p2 l33 l31))))))
                   (br (n6 == 6)
                    (br (n6 == 6)
                     (grd (decide (0 ≤ n15) && decide (n15 < ni (List.length p3))) (oget p3 (Int.toNat n15) fun x34 =>
                      asI .i64 x34 fun n35 => ocall V 75 [(.op [(.os (5, 0) p4)]), (.agg [(.int .i64 n6), (.int .i64 n9), (.str s12), (.int .i64 n35), (.int .i64 n18)])] fun x36 l37 =>
                        asI .i64 x36 fun n38 => unc l37 fun x39 l40 => asOp x39 fun l41 => unc l41 fun x42 l43 => asOs (5, 0) x42 fun l44 => unn l43 (unn l40 (grd (decide (0 ≤ p1) && decide (p1 < ni (List.length p3))) (oget p3 (Int.toNat p1) fun _ =>
                              nam (List.set p3 (Int.toNat p1) (D.int IntKind.i64 n38)) fun l46 =>
                               Lspec_l7Into_3 p0 (IntKind.wrap IntKind.i64 (p1 + 1)) p2 l46 l44)))))
                     (ocall V 75 [(.op [(.os (5, 0) p4)]), (.agg [(.int .i64 n6), (.int .i64 n9), (.str s12), (.int .i64 n15), (.int .i64 n18)])] fun x47 l48 =>
                      asI .i64 x47 fun n49 => unc l48 fun x50 l51 => asOp x50 fun l52 => unc l52 fun x53 l54 => asOs (5, 0) x53 fun l55 => unn l54 (unn l51 (grd (decide (0 ≤ p1) && decide (p1 < ni (List.length p3))) (oget p3 (Int.toNat p1) fun _ =>
                            nam (List.set p3 (Int.toNat p1) (D.int IntKind.i64 n49)) fun l57 =>
                             Lspec_l7Into_3 p0 (IntKind.wrap IntKind.i64 (p1 + 1)) p2 l57 l55)))))
                    (br (n6 == 7)
                     (grd (decide (0 ≤ n15) && decide (n15 < ni (List.length p3))) (oget p3 (Int.toNat n15) fun x58 =>
                      asI .i64 x58 fun n59 => ocall V 75 [(.op [(.os (5, 0) p4)]), (.agg [(.int .i64 n6), (.int .i64 n9), (.str s12), (.int .i64 n59), (.int .i64 n18)])] fun x60 l61 =>
                        asI .i64 x60 fun n62 => unc l61 fun x63 l64 => asOp x63 fun l65 => unc l65 fun x66 l67 => asOs (5, 0) x66 fun l68 => unn l67 (unn l64 (grd (decide (0 ≤ p1) && decide (p1 < ni (List.length p3))) (oget p3 (Int.toNat p1) fun _ =>
                              nam (List.set p3 (Int.toNat p1) (D.int IntKind.i64 n62)) fun l70 =>
                               Lspec_l7Into_3 p0 (IntKind.wrap IntKind.i64 (p1 + 1)) p2 l70 l68)))))
                     (ocall V 75 [(.op [(.os (5, 0) p4)]), (.agg [(.int .i64 n6), (.int .i64 n9), (.str s12), (.int .i64 n15), (.int .i64 n18)])] fun x71 l72 =>
                      asI .i64 x71 fun n73 => unc l72 fun x74 l75 => asOp x74 fun l76 => unc l76 fun x77 l78 => asOs (5, 0) x77 fun l79 => unn l78 (unn l75 (grd (decide (0 ≤ p1) && decide (p1 < ni (List.length p3))) (oget p3 (Int.toNat p1) fun _ =>
                            nam (List.set p3 (Int.toNat p1) (D.int IntKind.i64 n73)) fun l81 =>
                             Lspec_l7Into_3 p0 (IntKind.wrap IntKind.i64 (p1 + 1)) p2 l81 l79)))))))))))
   (some ((.os (1, 0) p3), [(.op [(.os (5, 0) p4)])])) := by
  exact (Rn_eq _ _ _).trans (by kernel_rfl)
theorem espec_MachineOk (a0_0 : List D) (a0_1 : List D) (a0_2 : List D) (a1_0 : List D) (a1_1 : Int) (a1_2 : Int) (a1_3 : Int) (a1_4 : Int) (a1_5 : Int) (a1_6 : Int) (a1_7 : Int) : V 93 [.agg [.rs (5, 0) a0_0, .rs (4, 0) a0_1, .rs (3, 0) a0_2], .agg [.rs (5, 0) a1_0, .int .i64 a1_1, .int .i64 a1_2, .int .i64 a1_3, .int .i64 a1_4, .int .i64 a1_5, .int .i64 a1_6, .int .i64 a1_7]] =
  ocall V 151 [(.agg [(.rs (5, 0) a0_0), (.rs (4, 0) a0_1), (.rs (3, 0) a0_2)])] fun x0 l1 =>
   asB x0 fun b2 => unn l1 (br (!b2)
     (some ((.bool false), []))
     (ocall V 67 [(.agg [(.rs (5, 0) a1_0)])] fun x3 l4 =>
      asB x3 fun b5 => unn l4 (br (!b5)
        (some ((.bool false), []))
        (ocall V 68 [(.agg [(.rs (5, 0) a1_0)]), (.int .i64 a1_2)] fun x6 l7 =>
         asB x6 fun b8 => unn l7 (br (!b8)
           (some ((.bool false), []))
           (ocall V 68 [(.agg [(.rs (5, 0) a1_0)]), (.int .i64 a1_3)] fun x9 l10 =>
            asB x9 fun b11 => unn l10 (br (!b11)
              (some ((.bool false), []))
              (ocall V 68 [(.agg [(.rs (5, 0) a1_0)]), (.int .i64 a1_4)] fun x12 l13 =>
               asB x12 fun b14 => unn l13 (br (!b14)
                 (some ((.bool false), []))
                 (ocall V 104 [(.int .i64 a1_1), (.int .i64 (0)), (.int .i64 (IntKind.wrap IntKind.i64 (ni (List.length a0_1) - 1)))] fun x15 l16 =>
                  asB x15 fun b17 => unn l16 (br (a1_5 == 0)
                    (br b17
                     (br (a1_6 == 0)
                      (some ((.bool (a1_7 == 0)), []))
                      (some ((.bool false), [])))
                     (some ((.bool false), [])))
                    (br (a1_5 == 1)
                     (br b17
                      (ocall V 104 [(.int .i64 a1_6), (.int .i64 (13)), (.int .i64 (19))] fun x18 l19 =>
                       asB x18 fun b20 => unn l19 (br b20
                         (br (a1_6 != 18)
                          (ocall V 68 [(.agg [(.rs (5, 0) a1_0)]), (.int .i64 a1_7)] fun x21 l22 =>
                           asB x21 fun b23 => unn l22 (some ((.bool b23), [])))
                          (some ((.bool false), [])))
                         (some ((.bool false), []))))
                      (some ((.bool false), [])))
                     (br (a1_5 == 2)
                      (br (a1_1 == 0)
                       (br (a1_6 == 0)
                        (ocall V 68 [(.agg [(.rs (5, 0) a1_0)]), (.int .i64 a1_7)] fun x24 l25 =>
                         asB x24 fun b26 => unn l25 (some ((.bool b26), [])))
                        (some ((.bool false), [])))
                       (some ((.bool false), [])))
                      (br (a1_5 == 3)
                       (br (a1_1 == 0)
                        (ocall V 104 [(.int .i64 a1_6), (.int .i64 (1)), (.int .i64 (7))] fun x27 l28 =>
                         asB x27 fun b29 => unn l28 (br b29
                           (some ((.bool (a1_7 == 0)), []))
                           (some ((.bool false), []))))
                        (some ((.bool false), [])))
                       (some ((.bool false), [])))))))))))))))) := by
  exact (Vn_eq Try.func93 rfl _).trans (by kernel_rfl)
theorem Lspec_l3Write_24_eq (p0 : ByteArray) (p1 : List D) (p2 : Int) (p3 : Int) (p4 : ByteArray) (p5 : Int) (p6 : Int) : Lspec_l3Write_24 p0 p1 p2 p3 p4 p5 p6 =
  grd (decide (0 ≤ p6) && decide (p6 < ni (List.length p1))) (oget p1 (Int.toNat p6) fun x35 =>
   asAgg x35 fun l36 => oget l36 0 fun x37 =>
     asI .i64 x37 fun n38 => br (n38 == 5)
       (br (decide (ni (ByteArray.size p0) ≤ 400))
        (grd (decide (0 ≤ p6) && decide (p6 < ni (List.length p1))) (oget p1 (Int.toNat p6) fun x39 =>
         asAgg x39 fun l40 => unc l40 fun x41 l42 => asI .i64 x41 fun n43 => unc l42 fun x44 l45 => asI .i64 x44 fun n46 => unc l45 fun x47 l48 => asS x47 fun s49 => unc l48 fun x50 l51 => asI .i64 x50 fun n52 => unc l51 fun x53 l54 => asI .i64 x53 fun n55 => unn l54 (grd (decide (ni (ByteArray.size p0 + ByteArray.size { data := #[32] }) ≤ LIM)) (ocall V 69 [(.agg [(.rs (5, 0) p1)]), (.int .i64 n52), (.str (p0 ++ { data := #[32] }))] fun x56 l57 =>
                     asS x56 fun s58 => unn l57 (Lspec_l3Write_24 s58 p1 n43 n46 s49 n52 n55)))))
        (grd (decide (0 ≤ p6) && decide (p6 < ni (List.length p1))) (oget p1 (Int.toNat p6) fun x59 =>
         asAgg x59 fun l60 => oget l60 0 fun x61 =>
           asI .i64 x61 fun n62 => br (n62 != 1)
             (grd (decide (ni (ByteArray.size p0 + ByteArray.size { data := #[32, 46, 32] }) ≤ LIM)) (ocall V 69 [(.agg [(.rs (5, 0) p1)]), (.int .i64 p6), (.str (p0 ++ { data := #[32, 46, 32] }))] fun x63 l64 =>
              asS x63 fun s65 => unn l64 (grd (decide (ni (ByteArray.size s65 + ByteArray.size { data := #[41] }) ≤ LIM)) (some ((.str (s65 ++ { data := #[41] })), [])))))
             (grd (decide (ni (ByteArray.size p0 + ByteArray.size { data := #[41] }) ≤ LIM)) (some ((.str (p0 ++ { data := #[41] })), []))))))
       (grd (decide (0 ≤ p6) && decide (p6 < ni (List.length p1))) (oget p1 (Int.toNat p6) fun x66 =>
        asAgg x66 fun l67 => oget l67 0 fun x68 =>
          asI .i64 x68 fun n69 => br (n69 != 1)
            (grd (decide (ni (ByteArray.size p0 + ByteArray.size { data := #[32, 46, 32] }) ≤ LIM)) (ocall V 69 [(.agg [(.rs (5, 0) p1)]), (.int .i64 p6), (.str (p0 ++ { data := #[32, 46, 32] }))] fun x70 l71 =>
             asS x70 fun s72 => unn l71 (grd (decide (ni (ByteArray.size s72 + ByteArray.size { data := #[41] }) ≤ LIM)) (some ((.str (s72 ++ { data := #[41] })), [])))))
            (grd (decide (ni (ByteArray.size p0 + ByteArray.size { data := #[41] }) ≤ LIM)) (some ((.str (p0 ++ { data := #[41] })), [])))))) := by
  exact (Rn_eq _ _ _).trans (by kernel_rfl)
theorem Limpl_reach_8_eq (p0 : Int) (p1 : List D) (p2 : List D) : Limpl_reach_8 p0 p1 p2 =
  br (decide (p0 ≥ 0))
   (grd (decide (0 ≤ p0) && decide (p0 < ni (List.length p2))) (oget p2 (Int.toNat p0) fun x4 =>
    asB x4 fun b5 => br (!b5)
      (Limpl_reach_8 (IntKind.wrap IntKind.i64 (p0 - 1)) p1 p2)
      (grd (decide (0 ≤ p0) && decide (p0 < ni (List.length p1))) (oget p1 (Int.toNat p0) fun x6 =>
       asAgg x6 fun l7 => unc l7 fun x8 l9 => asI .i64 x8 fun n10 => unc l9 fun x11 l12 => asI .i64 x11 fun _ => unc l12 fun x14 l15 => asS x14 fun _ => unc l15 fun x17 l18 => asI .i64 x17 fun n19 => unc l18 fun x20 l21 => asI .i64 x20 fun n22 => unn l21 (br (n10 == 5)
                   (grd (decide (0 ≤ n19) && decide (n19 < ni (List.length p2))) (oget p2 (Int.toNat n19) fun _ =>
                    nam (List.set p2 (Int.toNat n19) (D.bool true)) fun l24 =>
                     grd (decide (0 ≤ n22) && decide (n22 < ni (List.length l24))) (oget l24 (Int.toNat n22) fun _ =>
                      nam (List.set l24 (Int.toNat n22) (D.bool true)) fun l26 =>
                       Limpl_reach_8 (IntKind.wrap IntKind.i64 (p0 - 1)) p1 l26)))
                   (br (n10 == 6)
                    (br (n10 == 6)
                     (grd (decide (0 ≤ n19) && decide (n19 < ni (List.length p2))) (oget p2 (Int.toNat n19) fun _ =>
                      nam (List.set p2 (Int.toNat n19) (D.bool true)) fun l28 =>
                       Limpl_reach_8 (IntKind.wrap IntKind.i64 (p0 - 1)) p1 l28))
                     (Limpl_reach_8 (IntKind.wrap IntKind.i64 (p0 - 1)) p1 p2))
                    (br (n10 == 7)
                     (grd (decide (0 ≤ n19) && decide (n19 < ni (List.length p2))) (oget p2 (Int.toNat n19) fun _ =>
                      nam (List.set p2 (Int.toNat n19) (D.bool true)) fun l30 =>
                       Limpl_reach_8 (IntKind.wrap IntKind.i64 (p0 - 1)) p1 l30))
                     (Limpl_reach_8 (IntKind.wrap IntKind.i64 (p0 - 1)) p1 p2))))))))
   (some ((.os (1, 0) p2), [])) := by
  exact (Rn_eq _ _ _).trans (by kernel_rfl)
theorem Limpl_reader_nodes_4v1_eq (p0 : Int) (p1 : Int) (p2 : Int) (p3 : Bool) (p4 : List D) (p5 : List D) : Limpl_reader_nodes_4v1 p0 p1 p2 p3 p4 p5 =
  br (decide (p1 < p0))
   (br p3
    (br (decide (p1 ≤ 3000))
     (ocall V 144 [(.op [(.os (1, 0) p4), (.int .i64 p2), (.bool p3)])] fun x45 l46 =>
      asAgg x45 fun l47 => unc l47 fun x48 l49 => asI .i64 x48 fun n50 => unc l49 fun x51 l52 => asI .i64 x51 fun n53 => unc l52 fun x54 l55 => asS x54 fun s56 => unc l55 fun x57 l58 => asI .i64 x57 fun n59 => unc l58 fun x60 l61 => asI .i64 x60 fun n62 => unn l61 (unc l46 fun x63 l64 => asOp x63 fun l65 => unc l65 fun x66 l67 => asOs (1, 0) x66 fun l68 => unc l67 fun x69 l70 => asI .i64 x69 fun n71 => unc l70 fun x72 l73 => asB x72 fun b74 => unn l73 (unn l64 (grd (decide (ni (List.length (p5 ++ [D.agg [D.int IntKind.i64 n50, D.int IntKind.i64 n53, D.str s56, D.int IntKind.i64 n59, D.int IntKind.i64 n62]])) ≤ LIM)) (nam (p5 ++ [D.agg [D.int IntKind.i64 n50, D.int IntKind.i64 n53, D.str s56, D.int IntKind.i64 n59, D.int IntKind.i64 n62]]) fun l75 =>
                          Limpl_reader_nodes_4v1 p0 (IntKind.wrap IntKind.i64 (p1 + 1)) n71 b74 l68 l75)))))
     (some ((.agg [(.os (5, 0) p5)]), [(.op [(.os (1, 0) p4), (.int .i64 p2), (.bool p3)])])))
    (some ((.agg [(.os (5, 0) p5)]), [(.op [(.os (1, 0) p4), (.int .i64 p2), (.bool p3)])])))
   (some ((.agg [(.os (5, 0) p5)]), [(.op [(.os (1, 0) p4), (.int .i64 p2), (.bool p3)])])) := by
  exact (Rn_eq _ _ _).trans (by kernel_rfl)
theorem Lspec_CodeOk_9_eq (p0 : Int) (p1 : List D) (p2 : List D) (p3 : List D) : Lspec_CodeOk_9 p0 p1 p2 p3 =
  br (decide (p0 < ni (List.length p3)))
   (grd (decide (0 ≤ p0) && decide (p0 < ni (List.length p3))) (oget p3 (Int.toNat p0) fun x6 =>
    asAgg x6 fun l7 => unc l7 fun x8 l9 => asS x8 fun s10 => unc l9 fun x11 l12 => asI .i64 x11 fun n13 => unc l12 fun x14 l15 => asI .i64 x14 fun n16 => unn l15 (ocall V 131 [(.str s10)] fun x17 l18 =>
            asB x17 fun b19 => unn l18 (br (!b19)
              (some ((.bool false), []))
              (ocall V 172 [(.agg [(.rs (5, 0) p1), (.rs (4, 0) p2), (.rs (3, 0) p3)]), (.str s10)] fun x20 l21 =>
               asI .i64 x20 fun n22 => unn l21 (br (n22 != p0)
                 (some ((.bool false), []))
                 (ocall V 104 [(.int .i64 n13), (.int .i64 (0)), (.int .i64 (IntKind.wrap IntKind.i64 (ni (List.length p2) - 1)))] fun x23 l24 =>
                  asB x23 fun b25 => unn l24 (br (!b25)
                    (some ((.bool false), []))
                    (ocall V 104 [(.int .i64 n16), (.int .i64 (0)), (.int .i64 (4))] fun x26 l27 =>
                     asB x26 fun b28 => unn l27 (br (!b28)
                       (some ((.bool false), []))
                       (Lspec_CodeOk_9 (IntKind.wrap IntKind.i64 (p0 + 1)) p1 p2 p3)))))))))))
   (some ((.bool true), [])) := by
  exact (Rn_eq _ _ _).trans (by kernel_rfl)
theorem Llaws_toInstrS_3_eq (p0 : List D) (p1 : Int) (p2 : List D) : Llaws_toInstrS_3 p0 p1 p2 =
  br (decide (p1 < ni (List.length p0)))
   (grd (decide (0 ≤ p1) && decide (p1 < ni (List.length p0))) (oget p0 (Int.toNat p1) fun x0 =>
    asAgg x0 fun l1 => unc l1 fun x2 l3 => asI .i64 x2 fun n4 => unc l3 fun x5 l6 => asI .i64 x5 fun n7 => unc l6 fun x8 l9 => asI .i64 x8 fun n10 => unc l9 fun x11 l12 => asS x11 fun s13 => unn l12 (ocall V 153 [(.agg [(.int .i64 n4), (.int .i64 n7), (.int .i64 n10), (.str s13)])] fun x14 l15 =>
              asAgg x14 fun l16 => unc l16 fun x17 l18 => asI .i64 x17 fun n19 => unc l18 fun x20 l21 => asI .i64 x20 fun n22 => unc l21 fun x23 l24 => asI .i64 x23 fun n25 => unc l24 fun x26 l27 => asS x26 fun s28 => unn l27 (unn l15 (grd (decide (0 ≤ p1) && decide (p1 < ni (List.length p2))) (oget p2 (Int.toNat p1) fun _ =>
                        nam (List.set p2 (Int.toNat p1) (D.agg [D.int IntKind.i64 n19, D.int IntKind.i64 n22, D.int IntKind.i64 n25, D.str s28])) fun l30 =>
                         Llaws_toInstrS_3 p0 (IntKind.wrap IntKind.i64 (p1 + 1)) l30))))))
   (some ((.os (4, 0) p2), [])) := by
  exact (Rn_eq _ _ _).trans (by kernel_rfl)
theorem espec_ValuePack (a0_0 : List D) (a1_ : Int) : V 37 [.agg [.rs (5, 0) a0_0], .int .i64 a1_] =
  ocall V 67 [(.agg [(.rs (5, 0) a0_0)])] fun x0 l1 =>
   asB x0 fun b2 => unn l1 (br (!b2)
     (some ((.tup [(.str ({ data := #[] })), (.bool false)]), []))
     (ocall V 68 [(.agg [(.rs (5, 0) a0_0)]), (.int .i64 a1_)] fun x3 l4 =>
      asB x3 fun b5 => unn l4 (br (!b5)
        (some ((.tup [(.str ({ data := #[] })), (.bool false)]), []))
        (ocall V 58 [(.agg [(.rs (5, 0) a0_0)]), (.rs (1, 0) [(.int .i64 a1_)])] fun x6 l7 =>
         asTup x6 fun l8 => unc l8 fun x9 l10 => asAgg x9 fun l11 => unc l11 fun x12 l13 => asOs (5, 0) x12 fun l14 => unn l13 (unc l10 fun x15 l16 => asOs (1, 0) x15 fun _ => unn l16 (unn l7 (ocall V 88 [(.agg [(.rs (5, 0) l14)])] fun x18 l19 =>
                 asOs (1, 0) x18 fun l20 => unn l19 (obytes l20 fun s21 => some ((.tup [(.str s21), (.bool true)]), []))))))))) := by
  exact (Vn_eq Try.func37 rfl _).trans (by kernel_rfl)
theorem Limpl_PoolOk_2_eq (p0 : List D) (p1 : Int) (p2 : Int) (p3 : List D) : Limpl_PoolOk_2 p0 p1 p2 p3 =
  br (decide (p2 < p1))
   (grd (decide (0 ≤ p2) && decide (p2 < ni (List.length p0))) (oget p0 (Int.toNat p2) fun x0 =>
    asAgg x0 fun l1 => unc l1 fun x2 l3 => asI .i64 x2 fun n4 => unc l3 fun x5 l6 => asI .i64 x5 fun n7 => unc l6 fun x8 l9 => asS x8 fun s10 => unc l9 fun x11 l12 => asI .i64 x11 fun n13 => unc l12 fun x14 l15 => asI .i64 x14 fun n16 => unn l15 (ocall V 62 [(.agg [(.int .i64 n4), (.int .i64 n7), (.str s10), (.int .i64 n13), (.int .i64 n16)]), (.int .i64 p2)] fun x17 l18 =>
                asB x17 fun b19 => unn l18 (br (!b19)
                  (some ((.bool false), []))
                  (Limpl_PoolOk_2 p0 p1 (IntKind.wrap IntKind.i64 (p2 + 1)) p3)))))
   (some ((.bool (decide (ni (List.length p3) ≤ 3000))), [])) := by
  exact (Rn_eq _ _ _).trans (by kernel_rfl)
theorem Llaws_szNodeS_5_eq (p0 : List D) (p1 : Int) (p2 : Int) : Llaws_szNodeS_5 p0 p1 p2 =
  br (decide (p2 < ni (List.length p0)))
   (grd (decide (0 ≤ p2) && decide (p2 < ni (List.length p0))) (oget p0 (Int.toNat p2) fun x0 =>
    asAgg x0 fun l1 => unc l1 fun x2 l3 => asI .i64 x2 fun n4 => unc l3 fun x5 l6 => asI .i64 x5 fun n7 => unc l6 fun x8 l9 => asS x8 fun s10 => unc l9 fun x11 l12 => asI .i64 x11 fun n13 => unc l12 fun x14 l15 => asI .i64 x14 fun n16 => unn l15 (ocall V 127 [(.agg [(.int .i64 n4), (.int .i64 n7), (.str s10), (.int .i64 n13), (.int .i64 n16)]), (.int .i64 p1)] fun x17 l18 =>
                asI .i64 x17 fun n19 => unn l18 (br (decide (n19 < 0))
                  (some ((.int .i64 (-1)), []))
                  (Llaws_szNodeS_5 p0 n19 (IntKind.wrap IntKind.i64 (p2 + 1)))))))
   (some ((.int .i64 p1), [])) := by
  exact (Rn_eq _ _ _).trans (by kernel_rfl)
theorem Llaws_szDefS_5_eq (p0 : List D) (p1 : Int) (p2 : Int) : Llaws_szDefS_5 p0 p1 p2 =
  br (decide (p2 < ni (List.length p0)))
   (grd (decide (0 ≤ p2) && decide (p2 < ni (List.length p0))) (oget p0 (Int.toNat p2) fun x0 =>
    asAgg x0 fun l1 => unc l1 fun x2 l3 => asS x2 fun s4 => unc l3 fun x5 l6 => asI .i64 x5 fun n7 => unc l6 fun x8 l9 => asI .i64 x8 fun n10 => unn l9 (ocall V 150 [(.agg [(.str s4), (.int .i64 n7), (.int .i64 n10)]), (.int .i64 p1)] fun x11 l12 =>
            asI .i64 x11 fun n13 => unn l12 (br (decide (n13 < 0))
              (some ((.int .i64 (-1)), []))
              (Llaws_szDefS_5 p0 n13 (IntKind.wrap IntKind.i64 (p2 + 1)))))))
   (some ((.int .i64 p1), [])) := by
  exact (Rn_eq _ _ _).trans (by kernel_rfl)
theorem Limpl_keep_5_eq (p0 : List D) (p1 : Int) (p2 : Int) (p3 : List D) (p4 : List D) (p5 : List D) : Limpl_keep_5 p0 p1 p2 p3 p4 p5 =
  br (decide (p2 < p1))
   (grd (decide (0 ≤ p2) && decide (p2 < ni (List.length p0))) (oget p0 (Int.toNat p2) fun x9 =>
    asI .i64 x9 fun n10 => grd (decide (0 ≤ n10) && decide (n10 < ni (List.length p3))) (oget p3 (Int.toNat n10) fun x11 =>
      asI .i64 x11 fun n12 => grd (decide (ni (List.length (p4 ++ [D.int IntKind.i64 n12])) ≤ LIM)) (nam (p4 ++ [D.int IntKind.i64 n12]) fun l13 =>
        Limpl_keep_5 p0 p1 (IntKind.wrap IntKind.i64 (p2 + 1)) p3 l13 p5))))
   (some ((.tup [(.agg [(.os (5, 0) p5)]), (.os (1, 0) p4)]), [])) := by
  exact (Rn_eq _ _ _).trans (by kernel_rfl)
theorem Lspec_ProcOk_10_eq (p0 : Int) (p1 : Int) (p2 : List D) (p3 : Int) (p4 : Int) (p5 : Int) (p6 : Int) (p7 : Int) (p8 : Int) (p9 : Int) (p10 : List D) (p11 : List D) : Lspec_ProcOk_10 p0 p1 p2 p3 p4 p5 p6 p7 p8 p9 p10 p11 =
  br (decide (p0 < ni (List.length p11)))
   (grd (decide (0 ≤ p0) && decide (p0 < ni (List.length p11))) (oget p11 (Int.toNat p0) fun x23 =>
    asS x23 fun s24 => br (decide (ni (ByteArray.size s24) > 400))
      (some ((.bool false), []))
      (Lspec_ProcOk_10 (IntKind.wrap IntKind.i64 (p0 + 1)) p1 p2 p3 p4 p5 p6 p7 p8 p9 p10 p11)))
   (some ((.bool true), [])) := by
  exact (Rn_eq _ _ _).trans (by kernel_rfl)
theorem eimpl_Pool_add (p : List D) (k : Int) (n : Int) (s : ByteArray) (a : Int) (b : Int) : V 138 [.op [.os (5, 0) p], .agg [.int .i64 k, .int .i64 n, .str s, .int .i64 a, .int .i64 b]] =
  grd (decide (ni (List.length (p ++ [D.agg [D.int IntKind.i64 k, D.int IntKind.i64 n, D.str s, D.int IntKind.i64 a, D.int IntKind.i64 b]])) ≤ LIM)) (nam (p ++ [D.agg [D.int IntKind.i64 k, D.int IntKind.i64 n, D.str s, D.int IntKind.i64 a, D.int IntKind.i64 b]]) fun l0 =>
   some ((.int .i64 (IntKind.wrap IntKind.i64 (ni (List.length l0) - 1))), [(.op [(.os (5, 0) l0)])])) := by
  exact (Vn_eq Try.func138 rfl _).trans (by kernel_rfl)
theorem eimpl_reader_num (b : List D) (i : Int) (k : Bool)  : V 143 [.op [.os (1, 0) b, .int .i64 i, .bool k]] =
  ocall V 168 [(.rs (1, 0) b), (.int .i64 i)] fun x0 l1 =>
   asTup x0 fun l2 => unc l2 fun x3 l4 => asI .i64 x3 fun n5 => unc l4 fun x6 l7 => asI .i64 x6 fun n8 => unc l7 fun x9 l10 => asB x9 fun b11 => unn l10 (unn l1 (br (!b11)
           (some ((.int .i64 (0)), [(.op [(.os (1, 0) b), (.int .i64 i), (.bool false)])]))
           (some ((.int .i64 n5), [(.op [(.os (1, 0) b), (.int .i64 n8), (.bool k)])])))) := by
  exact (Vn_eq Try.func143 rfl _).trans (by kernel_rfl)
theorem espec_l8Read (b : List D) (i : Int) (k : Bool) : V 82 [.op [.os (1, 0) b, .int .i64 i, .bool k]] =
  ocall V 141 [(.op [(.os (1, 0) b), (.int .i64 i), (.bool k)])] fun x0 l1 =>
   asI .i64 x0 fun n2 => unc l1 fun x3 l4 => asOp x3 fun l5 => unc l5 fun x6 l7 => asOs (1, 0) x6 fun l8 => unc l7 fun x9 l10 => asI .i64 x9 fun n11 => unc l10 fun x12 l13 => asB x12 fun b14 => unn l13 (unn l4 (br (decide (n2 > 3000))
             (Lspec_l8Read_6 n2 (0) n11 false l8)
             (Lspec_l8Read_6 n2 (0) n11 b14 l8))) := by
  exact (Vn_eq Try.func82 rfl _).trans (by kernel_rfl)
theorem eimpl_CodeOk (a0_0 : List D) (a0_1 : List D) (a0_2 : List D) : V 155 [.agg [.rs (5, 0) a0_0, .rs (4, 0) a0_1, .rs (3, 0) a0_2]] =
  ocall V 18 [(.agg [(.rs (5, 0) a0_0)])] fun x0 l1 =>
   asB x0 fun b2 => unn l1 (br (!b2)
     (some ((.bool false), []))
     (br (decide (ni (List.length a0_1) > 400))
      (some ((.bool false), []))
      (br (decide (ni (List.length a0_2) > 20))
       (some ((.bool false), []))
       (Limpl_CodeOk_4 (ni (List.length a0_1)) (0) a0_0 a0_1 a0_2)))) := by
  exact (Vn_eq Try.func155 rfl _).trans (by kernel_rfl)
theorem LIndexFunc_ProcOk2_2_eq (p0 : List D) (p1 : Int) (p2 : Int) : LIndexFunc_ProcOk2_2 p0 p1 p2 =
  br (decide (p2 < p1))
   (grd (decide (0 ≤ p2) && decide (p2 < ni (List.length p0))) (oget p0 (Int.toNat p2) fun x0 =>
    asS x0 fun s1 => ocall V 110 [(.str s1)] fun x2 l3 =>
      asB x2 fun b4 => unn l3 (br b4
        (some ((.int .i64 p2), []))
        (LIndexFunc_ProcOk2_2 p0 p1 (IntKind.wrap IntKind.i64 (p2 + 1))))))
   (some ((.int .i64 (-1)), [])) := by
  exact (Rn_eq _ _ _).trans (by kernel_rfl)
theorem Llaws_markIntS_2_eq (p0 : Int) (p1 : Int) (p2 : List D) : Llaws_markIntS_2 p0 p1 p2 =
  br (decide (p1 < ni (List.length p2)))
   (grd (decide (0 ≤ p1) && decide (p1 < ni (List.length p2))) (oget p2 (Int.toNat p1) fun _ =>
    nam (List.set p2 (Int.toNat p1) (D.int IntKind.i64 p0)) fun l1 =>
     Llaws_markIntS_2 (IntKind.wrap IntKind.i64 (p0 + 1)) (IntKind.wrap IntKind.i64 (p1 + 1)) l1))
   (some ((.int .i64 p0), [(.os (1, 0) p2)])) := by
  exact (Rn_eq _ _ _).trans (by kernel_rfl)
theorem Lslices_Index_byte_byte_2_eq (p0 : List D) (p1 : Int) (p2 : Int) (p3 : Int) : Lslices_Index_byte_byte_2 p0 p1 p2 p3 =
  br (decide (p3 < p2))
   (grd (decide (0 ≤ p3) && decide (p3 < ni (List.length p0))) (oget p0 (Int.toNat p3) fun x0 =>
    asI .u8 x0 fun n1 => br (p1 == n1)
      (some ((.int .i64 p3), []))
      (Lslices_Index_byte_byte_2 p0 p1 p2 (IntKind.wrap IntKind.i64 (p3 + 1)))))
   (some ((.int .i64 (-1)), [])) := by
  exact (Rn_eq _ _ _).trans (by kernel_rfl)
theorem eimpl_rootsOk (a0_0 : List D) (a1_ : List D) : V 55 [.agg [.rs (5, 0) a0_0], .rs (1, 0) a1_] =
  ocall V 18 [(.agg [(.rs (5, 0) a0_0)])] fun x0 l1 =>
   asB x0 fun b2 => unn l1 (br b2
     (ocall V 113 [(.rs (1, 0) a1_), (.fn 114 [(.bp [(.rs (5, 0) a0_0)])])] fun x3 l4 =>
      asB x3 fun b5 => unn l4 (some ((.bool (!b5)), [])))
     (some ((.bool false), []))) := by
  exact (Vn_eq Try.func55 rfl _).trans (by kernel_rfl)
theorem eimpl_isPlace (a0_0 : List D) (a0_1 : List D) (a0_2 : List D) (a1_ : Int) : V 156 [.agg [.rs (5, 0) a0_0, .rs (4, 0) a0_1, .rs (3, 0) a0_2], .int .i64 a1_] =
  ocall V 106 [(.int .i64 a1_), (.int .i64 (0)), (.int .i64 (IntKind.wrap IntKind.i64 (ni (List.length a0_1) - 1)))] fun x0 l1 =>
   asB x0 fun b2 => unn l1 (some ((.bool b2), [])) := by
  exact (Vn_eq Try.func156 rfl _).trans (by kernel_rfl)
theorem elaws_toDefS (a0_ : List D) : V 97 [.rs (3, 0) a0_] =
  grd (decide (0 ≤ ni (List.length a0_)) && decide (ni (List.length a0_) ≤ LIM)) (Llaws_toDefS_3 a0_ (0) (List.replicate (Int.toNat (ni (List.length a0_))) (D.agg [D.str { data := #[] }, D.int IntKind.i64 (0), D.int IntKind.i64 (0)]))) := by
  exact (Vn_eq Try.func97 rfl _).trans (by kernel_rfl)
theorem eimpl_PutText (a0_ : ByteArray) : V 146 [.str a0_] =
  ocall V 100 [(.int .i64 (ni (ByteArray.size a0_)))] fun x0 l1 =>
   asOs (1, 0) x0 fun l2 => unn l1 (grd (decide (ni (List.length (l2 ++ bytesD a0_)) ≤ LIM)) (nam (l2 ++ bytesD a0_) fun l3 =>
     some ((.os (1, 0) l3), []))) := by
  exact (Vn_eq Try.func146 rfl _).trans (by kernel_rfl)
theorem elaws_szPool (a0_0 : List D) (a1_ : Int) : V 21 [.agg [.rs (5, 0) a0_0], .int .i64 a1_] =
  ocall V 70 [(.rs (5, 0) a0_0), (.int .i64 a1_)] fun x0 l1 =>
   asI .i64 x0 fun n2 => unn l1 (br (decide (n2 < 0))
     (some ((.int .i64 (-1)), []))
     (some ((.int .i64 n2), []))) := by
  exact (Vn_eq Try.func21 rfl _).trans (by kernel_rfl)
theorem espec_l2Has (a0_0 : List D) (a1_ : Int) : V 68 [.agg [.rs (5, 0) a0_0], .int .i64 a1_] =
  ocall V 104 [(.int .i64 a1_), (.int .i64 (0)), (.int .i64 (IntKind.wrap IntKind.i64 (ni (List.length a0_0) - 1)))] fun x0 l1 =>
   asB x0 fun b2 => unn l1 (some ((.bool b2), [])) := by
  exact (Vn_eq Try.func68 rfl _).trans (by kernel_rfl)
theorem elaws_eqStringS (a0_ : List D) (a1_ : List D) : V 111 [.rs (1, 0) a0_, .rs (1, 0) a1_] =
  br (ni (List.length a0_) != ni (List.length a1_))
   (some ((.bool false), []))
   (Llaws_eqStringS_4 a0_ a1_ (0)) := by
  exact (Vn_eq Try.func111 rfl _).trans (by kernel_rfl)
theorem elaws_eqIntS (a0_ : List D) (a1_ : List D) : V 26 [.rs (1, 0) a0_, .rs (1, 0) a1_] =
  br (ni (List.length a0_) != ni (List.length a1_))
   (some ((.bool false), []))
   (Llaws_eqIntS_4 a0_ a1_ (0)) := by
  exact (Vn_eq Try.func26 rfl _).trans (by kernel_rfl)
theorem elaws_toPool (a0_0 : List D) : V 23 [.agg [.rs (5, 0) a0_0]] =
  ocall V 76 [(.rs (5, 0) a0_0)] fun x0 l1 =>
   asOs (5, 0) x0 fun l2 => unn l1 (some ((.agg [(.os (5, 0) l2)]), [])) := by
  exact (Vn_eq Try.func23 rfl _).trans (by kernel_rfl)
theorem eimpl_ProcOk_1 (a0_ : ByteArray) : V 108 [.str a0_] =
  ocall V 109 [(.str a0_)] fun x0 l1 =>
   asB x0 fun b2 => unn l1 (some ((.bool (!b2)), [])) := by
  exact (Vn_eq Try.func108 rfl _).trans (by kernel_rfl)
theorem eimpl_ProcOk_2 (a0_ : ByteArray) : V 110 [.str a0_] =
  some ((.bool (decide (ni (ByteArray.size a0_) > 400))), []) := by
  exact (Vn_eq Try.func110 rfl _).trans (by kernel_rfl)
theorem espec_NameOk (a0_ : ByteArray) : V 131 [.str a0_] =
  Lspec_NameOk_2 a0_ (0) := by
  exact (Vn_eq Try.func131 rfl _).trans (by kernel_rfl)
end Go.Eng
