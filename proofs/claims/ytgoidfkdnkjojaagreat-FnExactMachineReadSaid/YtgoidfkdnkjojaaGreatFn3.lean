/- the functions as the interpreter has them -/
import Derived.Test.YtgoidfkdnkjojaaGreatFn0
namespace Go.Eng
open Go.Proofs Go.Proofs.Tryz
set_option maxRecDepth 100000
theorem Lspec_l8Read_6_eq (p0 : Int) (p1 : Int) (p2 : Int) (p3 : Bool) (p4 : List D) : Lspec_l8Read_6 p0 p1 p2 p3 p4 =
  br (decide (p1 < p0))
   (br p3
    (ocall V 30 [(.op [(.os (1, 0) p4), (.int .i64 p2), (.bool p3)])] fun x15 l16 =>
     asI .i64 x15 fun n17 => unc l16 fun x18 l19 => asOp x18 fun l20 => unc l20 fun x21 l22 => asOs (1, 0) x21 fun l23 => unc l22 fun x24 l25 => asI .i64 x24 fun n26 => unc l25 fun x27 l28 => asB x27 fun b29 => unn l28 (unn l19 (br (n17 == 2)
               (br (n17 == 2)
                (ocall V 30 [(.op [(.os (1, 0) l23), (.int .i64 n26), (.bool b29)])] fun x30 l31 =>
                 asI .i64 x30 fun n32 => unc l31 fun x33 l34 => asOp x33 fun l35 => unc l35 fun x36 l37 => asOs (1, 0) x36 fun l38 => unc l37 fun x39 l40 => asI .i64 x39 fun n41 => unc l40 fun x42 l43 => asB x42 fun b44 => unn l43 (unn l34 (grd (decide (ni 1 ≤ LIM)) (Lspec_l8Read_6v1 p0 (IntKind.wrap IntKind.i64 (p1 + 1)) n41 b44 l38 ([D.agg [D.int IntKind.i64 n17, D.int IntKind.i64 n32, D.str { data := #[] }, D.int IntKind.i64 (0), D.int IntKind.i64 (0)]])))))
                (br (n17 == 3)
                 (ocall V 30 [(.op [(.os (1, 0) l23), (.int .i64 n26), (.bool b29)])] fun x45 l46 =>
                  asI .i64 x45 fun n47 => unc l46 fun x48 l49 => asOp x48 fun l50 => unc l50 fun x51 l52 => asOs (1, 0) x51 fun l53 => unc l52 fun x54 l55 => asI .i64 x54 fun n56 => unc l55 fun x57 l58 => asB x57 fun b59 => unn l58 (unn l49 (grd (decide (ni 1 ≤ LIM)) (Lspec_l8Read_6v1 p0 (IntKind.wrap IntKind.i64 (p1 + 1)) n56 b59 l53 ([D.agg [D.int IntKind.i64 n17, D.int IntKind.i64 (IntKind.wrap IntKind.i64 (n47 - 1000000000)), D.str { data := #[] }, D.int IntKind.i64 (0), D.int IntKind.i64 (0)]])))))
                 (br (n17 == 4)
                  (ocall V 68 [(.rs (1, 0) l23), (.int .i64 n26)] fun x60 l61 =>
                   asTup x60 fun l62 => unc l62 fun x63 l64 => asS x63 fun s65 => unc l64 fun x66 l67 => asI .i64 x66 fun n68 => unc l67 fun x69 l70 => asB x69 fun b71 => unn l70 (unn l61 (br b29
                           (grd (decide (ni 1 ≤ LIM)) (Lspec_l8Read_6v1 p0 (IntKind.wrap IntKind.i64 (p1 + 1)) n68 b71 l23 ([D.agg [D.int IntKind.i64 n17, D.int IntKind.i64 (0), D.str s65, D.int IntKind.i64 (0), D.int IntKind.i64 (0)]])))
                           (grd (decide (ni 1 ≤ LIM)) (Lspec_l8Read_6v1 p0 (IntKind.wrap IntKind.i64 (p1 + 1)) n68 false l23 ([D.agg [D.int IntKind.i64 n17, D.int IntKind.i64 (0), D.str s65, D.int IntKind.i64 (0), D.int IntKind.i64 (0)]]))))))
                  (br (n17 == 5)
                   (ocall V 30 [(.op [(.os (1, 0) l23), (.int .i64 n26), (.bool b29)])] fun x72 l73 =>
                    asI .i64 x72 fun n74 => unc l73 fun x75 l76 => asOp x75 fun l77 => unc l77 fun x78 l79 => asOs (1, 0) x78 fun l80 => unc l79 fun x81 l82 => asI .i64 x81 fun n83 => unc l82 fun x84 l85 => asB x84 fun b86 => unn l85 (unn l76 (ocall V 30 [(.op [(.os (1, 0) l80), (.int .i64 n83), (.bool b86)])] fun x87 l88 =>
                              asI .i64 x87 fun n89 => unc l88 fun x90 l91 => asOp x90 fun l92 => unc l92 fun x93 l94 => asOs (1, 0) x93 fun l95 => unc l94 fun x96 l97 => asI .i64 x96 fun n98 => unc l97 fun x99 l100 => asB x99 fun b101 => unn l100 (unn l91 (grd (decide (ni 1 ≤ LIM)) (Lspec_l8Read_6v1 p0 (IntKind.wrap IntKind.i64 (p1 + 1)) n98 b101 l95 ([D.agg [D.int IntKind.i64 n17, D.int IntKind.i64 (0), D.str { data := #[] }, D.int IntKind.i64 n74, D.int IntKind.i64 n89]])))))))
                   (br (n17 == 6)
                    (ocall V 30 [(.op [(.os (1, 0) l23), (.int .i64 n26), (.bool b29)])] fun x102 l103 =>
                     asI .i64 x102 fun n104 => unc l103 fun x105 l106 => asOp x105 fun l107 => unc l107 fun x108 l109 => asOs (1, 0) x108 fun l110 => unc l109 fun x111 l112 => asI .i64 x111 fun n113 => unc l112 fun x114 l115 => asB x114 fun b116 => unn l115 (unn l106 (ocall V 30 [(.op [(.os (1, 0) l110), (.int .i64 n113), (.bool b116)])] fun x117 l118 =>
                               asI .i64 x117 fun n119 => unc l118 fun x120 l121 => asOp x120 fun l122 => unc l122 fun x123 l124 => asOs (1, 0) x123 fun l125 => unc l124 fun x126 l127 => asI .i64 x126 fun n128 => unc l127 fun x129 l130 => asB x129 fun b131 => unn l130 (unn l121 (grd (decide (ni 1 ≤ LIM)) (Lspec_l8Read_6v1 p0 (IntKind.wrap IntKind.i64 (p1 + 1)) n128 b131 l125 ([D.agg [D.int IntKind.i64 n17, D.int IntKind.i64 n104, D.str { data := #[] }, D.int IntKind.i64 n119, D.int IntKind.i64 (0)]])))))))
                    (br (n17 == 7)
                     (ocall V 30 [(.op [(.os (1, 0) l23), (.int .i64 n26), (.bool b29)])] fun x132 l133 =>
                      asI .i64 x132 fun n134 => unc l133 fun x135 l136 => asOp x135 fun l137 => unc l137 fun x138 l139 => asOs (1, 0) x138 fun l140 => unc l139 fun x141 l142 => asI .i64 x141 fun n143 => unc l142 fun x144 l145 => asB x144 fun b146 => unn l145 (unn l136 (grd (decide (ni 1 ≤ LIM)) (Lspec_l8Read_6v1 p0 (IntKind.wrap IntKind.i64 (p1 + 1)) n143 b146 l140 ([D.agg [D.int IntKind.i64 n17, D.int IntKind.i64 (0), D.str { data := #[] }, D.int IntKind.i64 n134, D.int IntKind.i64 (0)]])))))
                     (grd (decide (ni 1 ≤ LIM)) (Lspec_l8Read_6v1 p0 (IntKind.wrap IntKind.i64 (p1 + 1)) n26 b29 l23 ([D.agg [D.int IntKind.i64 n17, D.int IntKind.i64 (0), D.str { data := #[] }, D.int IntKind.i64 (0), D.int IntKind.i64 (0)]])))))))))
               (br (n17 == 8)
                (br (n17 == 8)
                 (ocall V 30 [(.op [(.os (1, 0) l23), (.int .i64 n26), (.bool b29)])] fun x147 l148 =>
                  asI .i64 x147 fun n149 => unc l148 fun x150 l151 => asOp x150 fun l152 => unc l152 fun x153 l154 => asOs (1, 0) x153 fun l155 => unc l154 fun x156 l157 => asI .i64 x156 fun n158 => unc l157 fun x159 l160 => asB x159 fun b161 => unn l160 (unn l151 (grd (decide (ni 1 ≤ LIM)) (Lspec_l8Read_6v1 p0 (IntKind.wrap IntKind.i64 (p1 + 1)) n158 b161 l155 ([D.agg [D.int IntKind.i64 n17, D.int IntKind.i64 n149, D.str { data := #[] }, D.int IntKind.i64 (0), D.int IntKind.i64 (0)]])))))
                 (br (n17 == 3)
                  (ocall V 30 [(.op [(.os (1, 0) l23), (.int .i64 n26), (.bool b29)])] fun x162 l163 =>
                   asI .i64 x162 fun n164 => unc l163 fun x165 l166 => asOp x165 fun l167 => unc l167 fun x168 l169 => asOs (1, 0) x168 fun l170 => unc l169 fun x171 l172 => asI .i64 x171 fun n173 => unc l172 fun x174 l175 => asB x174 fun b176 => unn l175 (unn l166 (grd (decide (ni 1 ≤ LIM)) (Lspec_l8Read_6v1 p0 (IntKind.wrap IntKind.i64 (p1 + 1)) n173 b176 l170 ([D.agg [D.int IntKind.i64 n17, D.int IntKind.i64 (IntKind.wrap IntKind.i64 (n164 - 1000000000)), D.str { data := #[] }, D.int IntKind.i64 (0), D.int IntKind.i64 (0)]])))))
                  (br (n17 == 4)
                   (ocall V 68 [(.rs (1, 0) l23), (.int .i64 n26)] fun x177 l178 =>
                    asTup x177 fun l179 => unc l179 fun x180 l181 => asS x180 fun s182 => unc l181 fun x183 l184 => asI .i64 x183 fun n185 => unc l184 fun x186 l187 => asB x186 fun b188 => unn l187 (unn l178 (br b29
                            (grd (decide (ni 1 ≤ LIM)) (Lspec_l8Read_6v1 p0 (IntKind.wrap IntKind.i64 (p1 + 1)) n185 b188 l23 ([D.agg [D.int IntKind.i64 n17, D.int IntKind.i64 (0), D.str s182, D.int IntKind.i64 (0), D.int IntKind.i64 (0)]])))
                            (grd (decide (ni 1 ≤ LIM)) (Lspec_l8Read_6v1 p0 (IntKind.wrap IntKind.i64 (p1 + 1)) n185 false l23 ([D.agg [D.int IntKind.i64 n17, D.int IntKind.i64 (0), D.str s182, D.int IntKind.i64 (0), D.int IntKind.i64 (0)]]))))))
                   (br (n17 == 5)
                    (ocall V 30 [(.op [(.os (1, 0) l23), (.int .i64 n26), (.bool b29)])] fun x189 l190 =>
                     asI .i64 x189 fun n191 => unc l190 fun x192 l193 => asOp x192 fun l194 => unc l194 fun x195 l196 => asOs (1, 0) x195 fun l197 => unc l196 fun x198 l199 => asI .i64 x198 fun n200 => unc l199 fun x201 l202 => asB x201 fun b203 => unn l202 (unn l193 (ocall V 30 [(.op [(.os (1, 0) l197), (.int .i64 n200), (.bool b203)])] fun x204 l205 =>
                               asI .i64 x204 fun n206 => unc l205 fun x207 l208 => asOp x207 fun l209 => unc l209 fun x210 l211 => asOs (1, 0) x210 fun l212 => unc l211 fun x213 l214 => asI .i64 x213 fun n215 => unc l214 fun x216 l217 => asB x216 fun b218 => unn l217 (unn l208 (grd (decide (ni 1 ≤ LIM)) (Lspec_l8Read_6v1 p0 (IntKind.wrap IntKind.i64 (p1 + 1)) n215 b218 l212 ([D.agg [D.int IntKind.i64 n17, D.int IntKind.i64 (0), D.str { data := #[] }, D.int IntKind.i64 n191, D.int IntKind.i64 n206]])))))))
                    (br (n17 == 6)
                     (ocall V 30 [(.op [(.os (1, 0) l23), (.int .i64 n26), (.bool b29)])] fun x219 l220 =>
                      asI .i64 x219 fun n221 => unc l220 fun x222 l223 => asOp x222 fun l224 => unc l224 fun x225 l226 => asOs (1, 0) x225 fun l227 => unc l226 fun x228 l229 => asI .i64 x228 fun n230 => unc l229 fun x231 l232 => asB x231 fun b233 => unn l232 (unn l223 (ocall V 30 [(.op [(.os (1, 0) l227), (.int .i64 n230), (.bool b233)])] fun x234 l235 =>
                                asI .i64 x234 fun n236 => unc l235 fun x237 l238 => asOp x237 fun l239 => unc l239 fun x240 l241 => asOs (1, 0) x240 fun l242 => unc l241 fun x243 l244 => asI .i64 x243 fun n245 => unc l244 fun x246 l247 => asB x246 fun b248 => unn l247 (unn l238 (grd (decide (ni 1 ≤ LIM)) (Lspec_l8Read_6v1 p0 (IntKind.wrap IntKind.i64 (p1 + 1)) n245 b248 l242 ([D.agg [D.int IntKind.i64 n17, D.int IntKind.i64 n221, D.str { data := #[] }, D.int IntKind.i64 n236, D.int IntKind.i64 (0)]])))))))
                     (br (n17 == 7)
                      (ocall V 30 [(.op [(.os (1, 0) l23), (.int .i64 n26), (.bool b29)])] fun x249 l250 =>
                       asI .i64 x249 fun n251 => unc l250 fun x252 l253 => asOp x252 fun l254 => unc l254 fun x255 l256 => asOs (1, 0) x255 fun l257 => unc l256 fun x258 l259 => asI .i64 x258 fun n260 => unc l259 fun x261 l262 => asB x261 fun b263 => unn l262 (unn l253 (grd (decide (ni 1 ≤ LIM)) (Lspec_l8Read_6v1 p0 (IntKind.wrap IntKind.i64 (p1 + 1)) n260 b263 l257 ([D.agg [D.int IntKind.i64 n17, D.int IntKind.i64 (0), D.str { data := #[] }, D.int IntKind.i64 n251, D.int IntKind.i64 (0)]])))))
                      (grd (decide (ni 1 ≤ LIM)) (Lspec_l8Read_6v1 p0 (IntKind.wrap IntKind.i64 (p1 + 1)) n26 b29 l23 ([D.agg [D.int IntKind.i64 n17, D.int IntKind.i64 (0), D.str { data := #[] }, D.int IntKind.i64 (0), D.int IntKind.i64 (0)]])))))))))
                (br (n17 == 9)
                 (ocall V 30 [(.op [(.os (1, 0) l23), (.int .i64 n26), (.bool b29)])] fun x264 l265 =>
                  asI .i64 x264 fun n266 => unc l265 fun x267 l268 => asOp x267 fun l269 => unc l269 fun x270 l271 => asOs (1, 0) x270 fun l272 => unc l271 fun x273 l274 => asI .i64 x273 fun n275 => unc l274 fun x276 l277 => asB x276 fun b278 => unn l277 (unn l268 (grd (decide (ni 1 ≤ LIM)) (Lspec_l8Read_6v1 p0 (IntKind.wrap IntKind.i64 (p1 + 1)) n275 b278 l272 ([D.agg [D.int IntKind.i64 n17, D.int IntKind.i64 n266, D.str { data := #[] }, D.int IntKind.i64 (0), D.int IntKind.i64 (0)]])))))
                 (br (n17 == 3)
                  (ocall V 30 [(.op [(.os (1, 0) l23), (.int .i64 n26), (.bool b29)])] fun x279 l280 =>
                   asI .i64 x279 fun n281 => unc l280 fun x282 l283 => asOp x282 fun l284 => unc l284 fun x285 l286 => asOs (1, 0) x285 fun l287 => unc l286 fun x288 l289 => asI .i64 x288 fun n290 => unc l289 fun x291 l292 => asB x291 fun b293 => unn l292 (unn l283 (grd (decide (ni 1 ≤ LIM)) (Lspec_l8Read_6v1 p0 (IntKind.wrap IntKind.i64 (p1 + 1)) n290 b293 l287 ([D.agg [D.int IntKind.i64 n17, D.int IntKind.i64 (IntKind.wrap IntKind.i64 (n281 - 1000000000)), D.str { data := #[] }, D.int IntKind.i64 (0), D.int IntKind.i64 (0)]])))))
                  (br (n17 == 4)
                   (ocall V 68 [(.rs (1, 0) l23), (.int .i64 n26)] fun x294 l295 =>
                    asTup x294 fun l296 => unc l296 fun x297 l298 => asS x297 fun s299 => unc l298 fun x300 l301 => asI .i64 x300 fun n302 => unc l301 fun x303 l304 => asB x303 fun b305 => unn l304 (unn l295 (br b29
                            (grd (decide (ni 1 ≤ LIM)) (Lspec_l8Read_6v1 p0 (IntKind.wrap IntKind.i64 (p1 + 1)) n302 b305 l23 ([D.agg [D.int IntKind.i64 n17, D.int IntKind.i64 (0), D.str s299, D.int IntKind.i64 (0), D.int IntKind.i64 (0)]])))
                            (grd (decide (ni 1 ≤ LIM)) (Lspec_l8Read_6v1 p0 (IntKind.wrap IntKind.i64 (p1 + 1)) n302 false l23 ([D.agg [D.int IntKind.i64 n17, D.int IntKind.i64 (0), D.str s299, D.int IntKind.i64 (0), D.int IntKind.i64 (0)]]))))))
                   (br (n17 == 5)
                    (ocall V 30 [(.op [(.os (1, 0) l23), (.int .i64 n26), (.bool b29)])] fun x306 l307 =>
                     asI .i64 x306 fun n308 => unc l307 fun x309 l310 => asOp x309 fun l311 => unc l311 fun x312 l313 => asOs (1, 0) x312 fun l314 => unc l313 fun x315 l316 => asI .i64 x315 fun n317 => unc l316 fun x318 l319 => asB x318 fun b320 => unn l319 (unn l310 (ocall V 30 [(.op [(.os (1, 0) l314), (.int .i64 n317), (.bool b320)])] fun x321 l322 =>
                               asI .i64 x321 fun n323 => unc l322 fun x324 l325 => asOp x324 fun l326 => unc l326 fun x327 l328 => asOs (1, 0) x327 fun l329 => unc l328 fun x330 l331 => asI .i64 x330 fun n332 => unc l331 fun x333 l334 => asB x333 fun b335 => unn l334 (unn l325 (grd (decide (ni 1 ≤ LIM)) (Lspec_l8Read_6v1 p0 (IntKind.wrap IntKind.i64 (p1 + 1)) n332 b335 l329 ([D.agg [D.int IntKind.i64 n17, D.int IntKind.i64 (0), D.str { data := #[] }, D.int IntKind.i64 n308, D.int IntKind.i64 n323]])))))))
                    (br (n17 == 6)
                     (ocall V 30 [(.op [(.os (1, 0) l23), (.int .i64 n26), (.bool b29)])] fun x336 l337 =>
                      asI .i64 x336 fun n338 => unc l337 fun x339 l340 => asOp x339 fun l341 => unc l341 fun x342 l343 => asOs (1, 0) x342 fun l344 => unc l343 fun x345 l346 => asI .i64 x345 fun n347 => unc l346 fun x348 l349 => asB x348 fun b350 => unn l349 (unn l340 (ocall V 30 [(.op [(.os (1, 0) l344), (.int .i64 n347), (.bool b350)])] fun x351 l352 =>
                                asI .i64 x351 fun n353 => unc l352 fun x354 l355 => asOp x354 fun l356 => unc l356 fun x357 l358 => asOs (1, 0) x357 fun l359 => unc l358 fun x360 l361 => asI .i64 x360 fun n362 => unc l361 fun x363 l364 => asB x363 fun b365 => unn l364 (unn l355 (grd (decide (ni 1 ≤ LIM)) (Lspec_l8Read_6v1 p0 (IntKind.wrap IntKind.i64 (p1 + 1)) n362 b365 l359 ([D.agg [D.int IntKind.i64 n17, D.int IntKind.i64 n338, D.str { data := #[] }, D.int IntKind.i64 n353, D.int IntKind.i64 (0)]])))))))
                     (br (n17 == 7)
                      (ocall V 30 [(.op [(.os (1, 0) l23), (.int .i64 n26), (.bool b29)])] fun x366 l367 =>
                       asI .i64 x366 fun n368 => unc l367 fun x369 l370 => asOp x369 fun l371 => unc l371 fun x372 l373 => asOs (1, 0) x372 fun l374 => unc l373 fun x375 l376 => asI .i64 x375 fun n377 => unc l376 fun x378 l379 => asB x378 fun b380 => unn l379 (unn l370 (grd (decide (ni 1 ≤ LIM)) (Lspec_l8Read_6v1 p0 (IntKind.wrap IntKind.i64 (p1 + 1)) n377 b380 l374 ([D.agg [D.int IntKind.i64 n17, D.int IntKind.i64 (0), D.str { data := #[] }, D.int IntKind.i64 n368, D.int IntKind.i64 (0)]])))))
                      (grd (decide (ni 1 ≤ LIM)) (Lspec_l8Read_6v1 p0 (IntKind.wrap IntKind.i64 (p1 + 1)) n26 b29 l23 ([D.agg [D.int IntKind.i64 n17, D.int IntKind.i64 (0), D.str { data := #[] }, D.int IntKind.i64 (0), D.int IntKind.i64 (0)]])))))))))))))
    (br p3
     (br (p2 == ni (List.length p4))
      (ocall V 69 [(.agg [(.rs (5, 0) [])])] fun x381 l382 =>
       asB x381 fun b383 => unn l382 (some ((.agg [(.os (5, 0) [])]), [(.op [(.os (1, 0) p4), (.int .i64 p2), (.bool b383)])])))
      (some ((.agg [(.os (5, 0) [])]), [(.op [(.os (1, 0) p4), (.int .i64 p2), (.bool false)])])))
     (some ((.agg [(.os (5, 0) [])]), [(.op [(.os (1, 0) p4), (.int .i64 p2), (.bool false)])]))))
   (br p3
    (br (p2 == ni (List.length p4))
     (ocall V 69 [(.agg [(.rs (5, 0) [])])] fun x384 l385 =>
      asB x384 fun b386 => unn l385 (some ((.agg [(.os (5, 0) [])]), [(.op [(.os (1, 0) p4), (.int .i64 p2), (.bool b386)])])))
     (some ((.agg [(.os (5, 0) [])]), [(.op [(.os (1, 0) p4), (.int .i64 p2), (.bool false)])])))
    (some ((.agg [(.os (5, 0) [])]), [(.op [(.os (1, 0) p4), (.int .i64 p2), (.bool false)])]))) := by
  exact (Rn_eq _ _ _).trans (by kernel_rfl)
theorem Lspec_l8Nodes_3_eq (p0 : Int) (p1 : List D) (p2 : List D) : Lspec_l8Nodes_3 p0 p1 p2 =
  br (decide (p0 < ni (List.length p1)))
   (grd (decide (0 ≤ p0) && decide (p0 < ni (List.length p1))) (oget p1 (Int.toNat p0) fun x3 =>
    asAgg x3 fun l4 => unc l4 fun x5 l6 => asI .i64 x5 fun n7 => unc l6 fun x8 l9 => asI .i64 x8 fun n10 => unc l9 fun x11 l12 => asS x11 fun s13 => unc l12 fun x14 l15 => asI .i64 x14 fun n16 => unc l15 fun x17 l18 => asI .i64 x17 fun n19 => unn l18 (ocall V 55 [(.int .i64 n7)] fun x20 l21 =>
                asOs (1, 0) x20 fun l22 => unn l21 (grd (decide (ni (List.length (p2 ++ l22)) ≤ LIM)) (nam (p2 ++ l22) fun l23 =>
                  br (n7 == 2)
                   (br (n7 == 2)
                    (ocall V 55 [(.int .i64 n10)] fun x24 l25 =>
                     asOs (1, 0) x24 fun l26 => unn l25 (grd (decide (ni (List.length (l23 ++ l26)) ≤ LIM)) (nam (l23 ++ l26) fun l27 =>
                       Lspec_l8Nodes_3 (IntKind.wrap IntKind.i64 (p0 + 1)) p1 l27)))
                    (br (n7 == 3)
                     (ocall V 55 [(.int .i64 (IntKind.wrap IntKind.i64 (n10 + 1000000000)))] fun x28 l29 =>
                      asOs (1, 0) x28 fun l30 => unn l29 (grd (decide (ni (List.length (l23 ++ l30)) ≤ LIM)) (nam (l23 ++ l30) fun l31 =>
                        Lspec_l8Nodes_3 (IntKind.wrap IntKind.i64 (p0 + 1)) p1 l31)))
                     (br (n7 == 4)
                      (ocall V 56 [(.str s13)] fun x32 l33 =>
                       asOs (1, 0) x32 fun l34 => unn l33 (grd (decide (ni (List.length (l23 ++ l34)) ≤ LIM)) (nam (l23 ++ l34) fun l35 =>
                         Lspec_l8Nodes_3 (IntKind.wrap IntKind.i64 (p0 + 1)) p1 l35)))
                      (br (n7 == 5)
                       (ocall V 55 [(.int .i64 n16)] fun x36 l37 =>
                        asOs (1, 0) x36 fun l38 => unn l37 (grd (decide (ni (List.length (l23 ++ l38)) ≤ LIM)) (nam (l23 ++ l38) fun l39 =>
                          ocall V 55 [(.int .i64 n19)] fun x40 l41 =>
                           asOs (1, 0) x40 fun l42 => unn l41 (grd (decide (ni (List.length (l39 ++ l42)) ≤ LIM)) (nam (l39 ++ l42) fun l43 =>
                             Lspec_l8Nodes_3 (IntKind.wrap IntKind.i64 (p0 + 1)) p1 l43)))))
                       (br (n7 == 6)
                        (ocall V 55 [(.int .i64 n10)] fun x44 l45 =>
                         asOs (1, 0) x44 fun l46 => unn l45 (grd (decide (ni (List.length (l23 ++ l46)) ≤ LIM)) (nam (l23 ++ l46) fun l47 =>
                           ocall V 55 [(.int .i64 n16)] fun x48 l49 =>
                            asOs (1, 0) x48 fun l50 => unn l49 (grd (decide (ni (List.length (l47 ++ l50)) ≤ LIM)) (nam (l47 ++ l50) fun l51 =>
                              Lspec_l8Nodes_3 (IntKind.wrap IntKind.i64 (p0 + 1)) p1 l51)))))
                        (br (n7 == 7)
                         (ocall V 55 [(.int .i64 n16)] fun x52 l53 =>
                          asOs (1, 0) x52 fun l54 => unn l53 (grd (decide (ni (List.length (l23 ++ l54)) ≤ LIM)) (nam (l23 ++ l54) fun l55 =>
                            Lspec_l8Nodes_3 (IntKind.wrap IntKind.i64 (p0 + 1)) p1 l55)))
                         (Lspec_l8Nodes_3 (IntKind.wrap IntKind.i64 (p0 + 1)) p1 l23)))))))
                   (br (n7 == 8)
                    (br (n7 == 8)
                     (ocall V 55 [(.int .i64 n10)] fun x56 l57 =>
                      asOs (1, 0) x56 fun l58 => unn l57 (grd (decide (ni (List.length (l23 ++ l58)) ≤ LIM)) (nam (l23 ++ l58) fun l59 =>
                        Lspec_l8Nodes_3 (IntKind.wrap IntKind.i64 (p0 + 1)) p1 l59)))
                     (br (n7 == 3)
                      (ocall V 55 [(.int .i64 (IntKind.wrap IntKind.i64 (n10 + 1000000000)))] fun x60 l61 =>
                       asOs (1, 0) x60 fun l62 => unn l61 (grd (decide (ni (List.length (l23 ++ l62)) ≤ LIM)) (nam (l23 ++ l62) fun l63 =>
                         Lspec_l8Nodes_3 (IntKind.wrap IntKind.i64 (p0 + 1)) p1 l63)))
                      (br (n7 == 4)
                       (ocall V 56 [(.str s13)] fun x64 l65 =>
                        asOs (1, 0) x64 fun l66 => unn l65 (grd (decide (ni (List.length (l23 ++ l66)) ≤ LIM)) (nam (l23 ++ l66) fun l67 =>
                          Lspec_l8Nodes_3 (IntKind.wrap IntKind.i64 (p0 + 1)) p1 l67)))
                       (br (n7 == 5)
                        (ocall V 55 [(.int .i64 n16)] fun x68 l69 =>
                         asOs (1, 0) x68 fun l70 => unn l69 (grd (decide (ni (List.length (l23 ++ l70)) ≤ LIM)) (nam (l23 ++ l70) fun l71 =>
                           ocall V 55 [(.int .i64 n19)] fun x72 l73 =>
                            asOs (1, 0) x72 fun l74 => unn l73 (grd (decide (ni (List.length (l71 ++ l74)) ≤ LIM)) (nam (l71 ++ l74) fun l75 =>
                              Lspec_l8Nodes_3 (IntKind.wrap IntKind.i64 (p0 + 1)) p1 l75)))))
                        (br (n7 == 6)
                         (ocall V 55 [(.int .i64 n10)] fun x76 l77 =>
                          asOs (1, 0) x76 fun l78 => unn l77 (grd (decide (ni (List.length (l23 ++ l78)) ≤ LIM)) (nam (l23 ++ l78) fun l79 =>
                            ocall V 55 [(.int .i64 n16)] fun x80 l81 =>
                             asOs (1, 0) x80 fun l82 => unn l81 (grd (decide (ni (List.length (l79 ++ l82)) ≤ LIM)) (nam (l79 ++ l82) fun l83 =>
                               Lspec_l8Nodes_3 (IntKind.wrap IntKind.i64 (p0 + 1)) p1 l83)))))
                         (br (n7 == 7)
                          (ocall V 55 [(.int .i64 n16)] fun x84 l85 =>
                           asOs (1, 0) x84 fun l86 => unn l85 (grd (decide (ni (List.length (l23 ++ l86)) ≤ LIM)) (nam (l23 ++ l86) fun l87 =>
                             Lspec_l8Nodes_3 (IntKind.wrap IntKind.i64 (p0 + 1)) p1 l87)))
                          (Lspec_l8Nodes_3 (IntKind.wrap IntKind.i64 (p0 + 1)) p1 l23)))))))
                    (br (n7 == 9)
                     (ocall V 55 [(.int .i64 n10)] fun x88 l89 =>
                      asOs (1, 0) x88 fun l90 => unn l89 (grd (decide (ni (List.length (l23 ++ l90)) ≤ LIM)) (nam (l23 ++ l90) fun l91 =>
                        Lspec_l8Nodes_3 (IntKind.wrap IntKind.i64 (p0 + 1)) p1 l91)))
                     (br (n7 == 3)
                      (ocall V 55 [(.int .i64 (IntKind.wrap IntKind.i64 (n10 + 1000000000)))] fun x92 l93 =>
                       asOs (1, 0) x92 fun l94 => unn l93 (grd (decide (ni (List.length (l23 ++ l94)) ≤ LIM)) (nam (l23 ++ l94) fun l95 =>
                         Lspec_l8Nodes_3 (IntKind.wrap IntKind.i64 (p0 + 1)) p1 l95)))
                      (br (n7 == 4)
                       (ocall V 56 [(.str s13)] fun x96 l97 =>
                        asOs (1, 0) x96 fun l98 => unn l97 (grd (decide (ni (List.length (l23 ++ l98)) ≤ LIM)) (nam (l23 ++ l98) fun l99 =>
                          Lspec_l8Nodes_3 (IntKind.wrap IntKind.i64 (p0 + 1)) p1 l99)))
                       (br (n7 == 5)
                        (ocall V 55 [(.int .i64 n16)] fun x100 l101 =>
                         asOs (1, 0) x100 fun l102 => unn l101 (grd (decide (ni (List.length (l23 ++ l102)) ≤ LIM)) (nam (l23 ++ l102) fun l103 =>
                           ocall V 55 [(.int .i64 n19)] fun x104 l105 =>
                            asOs (1, 0) x104 fun l106 => unn l105 (grd (decide (ni (List.length (l103 ++ l106)) ≤ LIM)) (nam (l103 ++ l106) fun l107 =>
                              Lspec_l8Nodes_3 (IntKind.wrap IntKind.i64 (p0 + 1)) p1 l107)))))
                        (br (n7 == 6)
                         (ocall V 55 [(.int .i64 n10)] fun x108 l109 =>
                          asOs (1, 0) x108 fun l110 => unn l109 (grd (decide (ni (List.length (l23 ++ l110)) ≤ LIM)) (nam (l23 ++ l110) fun l111 =>
                            ocall V 55 [(.int .i64 n16)] fun x112 l113 =>
                             asOs (1, 0) x112 fun l114 => unn l113 (grd (decide (ni (List.length (l111 ++ l114)) ≤ LIM)) (nam (l111 ++ l114) fun l115 =>
                               Lspec_l8Nodes_3 (IntKind.wrap IntKind.i64 (p0 + 1)) p1 l115)))))
                         (br (n7 == 7)
                          (ocall V 55 [(.int .i64 n16)] fun x116 l117 =>
                           asOs (1, 0) x116 fun l118 => unn l117 (grd (decide (ni (List.length (l23 ++ l118)) ≤ LIM)) (nam (l23 ++ l118) fun l119 =>
                             Lspec_l8Nodes_3 (IntKind.wrap IntKind.i64 (p0 + 1)) p1 l119)))
                          (Lspec_l8Nodes_3 (IntKind.wrap IntKind.i64 (p0 + 1)) p1 l23)))))))))))))
   (some ((.os (1, 0) p2), [])) := by
  exact (Rn_eq _ _ _).trans (by kernel_rfl)
theorem Limpl_Pool_moveIn_4_eq (p0 : List D) (p1 : Int) (p2 : Int) (p3 : List D) (p4 : List D) (p5 : List D) : Limpl_Pool_moveIn_4 p0 p1 p2 p3 p4 p5 =
  br (decide (p2 < p1))
   (grd (decide (0 ≤ p2) && decide (p2 < ni (List.length p0))) (oget p0 (Int.toNat p2) fun x3 =>
    asAgg x3 fun l4 => unc l4 fun x5 l6 => asI .i64 x5 fun n7 => unc l6 fun x8 l9 => asI .i64 x8 fun n10 => unc l9 fun x11 l12 => asS x11 fun s13 => unc l12 fun x14 l15 => asI .i64 x14 fun n16 => unc l15 fun x17 l18 => asI .i64 x17 fun n19 => unn l18 (grd (decide (0 ≤ p2) && decide (p2 < ni (List.length p3))) (oget p3 (Int.toNat p2) fun _ =>
                nam (List.set p3 (Int.toNat p2) (D.int IntKind.i64 (-1))) fun l21 =>
                 grd (decide (0 ≤ p2) && decide (p2 < ni (List.length p4))) (oget p4 (Int.toNat p2) fun x22 =>
                  asB x22 fun b23 => br (!b23)
                    (Limpl_Pool_moveIn_4 p0 p1 (IntKind.wrap IntKind.i64 (p2 + 1)) l21 p4 p5)
                    (br (n7 == 5)
                     (grd (decide (0 ≤ n16) && decide (n16 < ni (List.length l21))) (oget l21 (Int.toNat n16) fun x24 =>
                      asI .i64 x24 fun n25 => grd (decide (0 ≤ n19) && decide (n19 < ni (List.length l21))) (oget l21 (Int.toNat n19) fun x26 =>
                        asI .i64 x26 fun n27 => ocall V 139 [(.op [(.os (5, 0) p5)]), (.agg [(.int .i64 n7), (.int .i64 n10), (.str s13), (.int .i64 n25), (.int .i64 n27)])] fun x28 l29 =>
                          asI .i64 x28 fun n30 => unc l29 fun x31 l32 => asOp x31 fun l33 => unc l33 fun x34 l35 => asOs (5, 0) x34 fun l36 => unn l35 (unn l32 (grd (decide (0 ≤ p2) && decide (p2 < ni (List.length l21))) (oget l21 (Int.toNat p2) fun _ =>
                                nam (List.set l21 (Int.toNat p2) (D.int IntKind.i64 n30)) fun l38 =>
                                 Limpl_Pool_moveIn_4 p0 p1 (IntKind.wrap IntKind.i64 (p2 + 1)) l38 p4 l36))))))
                     (br (n7 == 6)
                      (br (n7 == 6)
                       (grd (decide (0 ≤ n16) && decide (n16 < ni (List.length l21))) (oget l21 (Int.toNat n16) fun x39 =>
                        asI .i64 x39 fun n40 => ocall V 139 [(.op [(.os (5, 0) p5)]), (.agg [(.int .i64 n7), (.int .i64 n10), (.str s13), (.int .i64 n40), (.int .i64 n19)])] fun x41 l42 =>
                          asI .i64 x41 fun n43 => unc l42 fun x44 l45 => asOp x44 fun l46 => unc l46 fun x47 l48 => asOs (5, 0) x47 fun l49 => unn l48 (unn l45 (grd (decide (0 ≤ p2) && decide (p2 < ni (List.length l21))) (oget l21 (Int.toNat p2) fun _ =>
                                nam (List.set l21 (Int.toNat p2) (D.int IntKind.i64 n43)) fun l51 =>
                                 Limpl_Pool_moveIn_4 p0 p1 (IntKind.wrap IntKind.i64 (p2 + 1)) l51 p4 l49)))))
                       (ocall V 139 [(.op [(.os (5, 0) p5)]), (.agg [(.int .i64 n7), (.int .i64 n10), (.str s13), (.int .i64 n16), (.int .i64 n19)])] fun x52 l53 =>
                        asI .i64 x52 fun n54 => unc l53 fun x55 l56 => asOp x55 fun l57 => unc l57 fun x58 l59 => asOs (5, 0) x58 fun l60 => unn l59 (unn l56 (grd (decide (0 ≤ p2) && decide (p2 < ni (List.length l21))) (oget l21 (Int.toNat p2) fun _ =>
                              nam (List.set l21 (Int.toNat p2) (D.int IntKind.i64 n54)) fun l62 =>
                               Limpl_Pool_moveIn_4 p0 p1 (IntKind.wrap IntKind.i64 (p2 + 1)) l62 p4 l60)))))
                      (br (n7 == 7)
                       (grd (decide (0 ≤ n16) && decide (n16 < ni (List.length l21))) (oget l21 (Int.toNat n16) fun x63 =>
                        asI .i64 x63 fun n64 => ocall V 139 [(.op [(.os (5, 0) p5)]), (.agg [(.int .i64 n7), (.int .i64 n10), (.str s13), (.int .i64 n64), (.int .i64 n19)])] fun x65 l66 =>
                          asI .i64 x65 fun n67 => unc l66 fun x68 l69 => asOp x68 fun l70 => unc l70 fun x71 l72 => asOs (5, 0) x71 fun l73 => unn l72 (unn l69 (grd (decide (0 ≤ p2) && decide (p2 < ni (List.length l21))) (oget l21 (Int.toNat p2) fun _ =>
                                nam (List.set l21 (Int.toNat p2) (D.int IntKind.i64 n67)) fun l75 =>
                                 Limpl_Pool_moveIn_4 p0 p1 (IntKind.wrap IntKind.i64 (p2 + 1)) l75 p4 l73)))))
                       (ocall V 139 [(.op [(.os (5, 0) p5)]), (.agg [(.int .i64 n7), (.int .i64 n10), (.str s13), (.int .i64 n16), (.int .i64 n19)])] fun x76 l77 =>
                        asI .i64 x76 fun n78 => unc l77 fun x79 l80 => asOp x79 fun l81 => unc l81 fun x82 l83 => asOs (5, 0) x82 fun l84 => unn l83 (unn l80 (grd (decide (0 ≤ p2) && decide (p2 < ni (List.length l21))) (oget l21 (Int.toNat p2) fun _ =>
                              nam (List.set l21 (Int.toNat p2) (D.int IntKind.i64 n78)) fun l86 =>
                               Limpl_Pool_moveIn_4 p0 p1 (IntKind.wrap IntKind.i64 (p2 + 1)) l86 p4 l84))))))))))))
   (some ((.os (1, 0) p3), [(.op [(.os (5, 0) p5)])])) := by
  exact (Rn_eq _ _ _).trans (by kernel_rfl)
theorem Lspec_l7Into_3_eq (p0 : List D) (p1 : Int) (p2 : List D) (p3 : List D) (p4 : List D) : Lspec_l7Into_3 p0 p1 p2 p3 p4 =
  br (decide (p1 < ni (List.length p2)))
   (grd (decide (0 ≤ p1) && decide (p1 < ni (List.length p0))) (oget p0 (Int.toNat p1) fun x0 =>
    asB x0 fun b1 => br (!b1)
      (Lspec_l7Into_3 p0 (IntKind.wrap IntKind.i64 (p1 + 1)) p2 p3 p4)
      (grd (decide (0 ≤ p1) && decide (p1 < ni (List.length p2))) (oget p2 (Int.toNat p1) fun x2 =>
       asAgg x2 fun l3 => unc l3 fun x4 l5 => asI .i64 x4 fun n6 => unc l5 fun x7 l8 => asI .i64 x7 fun n9 => unc l8 fun x10 l11 => asS x10 fun s12 => unc l11 fun x13 l14 => asI .i64 x13 fun n15 => unc l14 fun x16 l17 => asI .i64 x16 fun n18 => unn l17 (br (n6 == 5)
                   (grd (decide (0 ≤ n15) && decide (n15 < ni (List.length p3))) (oget p3 (Int.toNat n15) fun x19 =>
                    asI .i64 x19 fun n20 => grd (decide (0 ≤ n18) && decide (n18 < ni (List.length p3))) (oget p3 (Int.toNat n18) fun x21 =>
                      asI .i64 x21 fun n22 => ocall V 136 [(.op [(.os (5, 0) p4)]), (.agg [(.int .i64 n6), (.int .i64 n9), (.str s12), (.int .i64 n20), (.int .i64 n22)])] fun x23 l24 =>
                        asI .i64 x23 fun n25 => unc l24 fun x26 l27 => asOp x26 fun l28 => unc l28 fun x29 l30 => asOs (5, 0) x29 fun l31 => unn l30 (unn l27 (grd (decide (0 ≤ p1) && decide (p1 < ni (List.length p3))) (oget p3 (Int.toNat p1) fun _ =>
                              nam (List.set p3 (Int.toNat p1) (D.int IntKind.i64 n25)) fun l33 =>
                               Lspec_l7Into_3 p0 (IntKind.wrap IntKind.i64 (p1 + 1)) p2 l33 l31))))))
                   (br (n6 == 6)
                    (br (n6 == 6)
                     (grd (decide (0 ≤ n15) && decide (n15 < ni (List.length p3))) (oget p3 (Int.toNat n15) fun x34 =>
                      asI .i64 x34 fun n35 => ocall V 136 [(.op [(.os (5, 0) p4)]), (.agg [(.int .i64 n6), (.int .i64 n9), (.str s12), (.int .i64 n35), (.int .i64 n18)])] fun x36 l37 =>
                        asI .i64 x36 fun n38 => unc l37 fun x39 l40 => asOp x39 fun l41 => unc l41 fun x42 l43 => asOs (5, 0) x42 fun l44 => unn l43 (unn l40 (grd (decide (0 ≤ p1) && decide (p1 < ni (List.length p3))) (oget p3 (Int.toNat p1) fun _ =>
                              nam (List.set p3 (Int.toNat p1) (D.int IntKind.i64 n38)) fun l46 =>
                               Lspec_l7Into_3 p0 (IntKind.wrap IntKind.i64 (p1 + 1)) p2 l46 l44)))))
                     (ocall V 136 [(.op [(.os (5, 0) p4)]), (.agg [(.int .i64 n6), (.int .i64 n9), (.str s12), (.int .i64 n15), (.int .i64 n18)])] fun x47 l48 =>
                      asI .i64 x47 fun n49 => unc l48 fun x50 l51 => asOp x50 fun l52 => unc l52 fun x53 l54 => asOs (5, 0) x53 fun l55 => unn l54 (unn l51 (grd (decide (0 ≤ p1) && decide (p1 < ni (List.length p3))) (oget p3 (Int.toNat p1) fun _ =>
                            nam (List.set p3 (Int.toNat p1) (D.int IntKind.i64 n49)) fun l57 =>
                             Lspec_l7Into_3 p0 (IntKind.wrap IntKind.i64 (p1 + 1)) p2 l57 l55)))))
                    (br (n6 == 7)
                     (grd (decide (0 ≤ n15) && decide (n15 < ni (List.length p3))) (oget p3 (Int.toNat n15) fun x58 =>
                      asI .i64 x58 fun n59 => ocall V 136 [(.op [(.os (5, 0) p4)]), (.agg [(.int .i64 n6), (.int .i64 n9), (.str s12), (.int .i64 n59), (.int .i64 n18)])] fun x60 l61 =>
                        asI .i64 x60 fun n62 => unc l61 fun x63 l64 => asOp x63 fun l65 => unc l65 fun x66 l67 => asOs (5, 0) x66 fun l68 => unn l67 (unn l64 (grd (decide (0 ≤ p1) && decide (p1 < ni (List.length p3))) (oget p3 (Int.toNat p1) fun _ =>
                              nam (List.set p3 (Int.toNat p1) (D.int IntKind.i64 n62)) fun l70 =>
                               Lspec_l7Into_3 p0 (IntKind.wrap IntKind.i64 (p1 + 1)) p2 l70 l68)))))
                     (ocall V 136 [(.op [(.os (5, 0) p4)]), (.agg [(.int .i64 n6), (.int .i64 n9), (.str s12), (.int .i64 n15), (.int .i64 n18)])] fun x71 l72 =>
                      asI .i64 x71 fun n73 => unc l72 fun x74 l75 => asOp x74 fun l76 => unc l76 fun x77 l78 => asOs (5, 0) x77 fun l79 => unn l78 (unn l75 (grd (decide (0 ≤ p1) && decide (p1 < ni (List.length p3))) (oget p3 (Int.toNat p1) fun _ =>
                            nam (List.set p3 (Int.toNat p1) (D.int IntKind.i64 n73)) fun l81 =>
                             Lspec_l7Into_3 p0 (IntKind.wrap IntKind.i64 (p1 + 1)) p2 l81 l79)))))))))))
   (some ((.os (1, 0) p3), [(.op [(.os (5, 0) p4)])])) := by
  exact (Rn_eq _ _ _).trans (by kernel_rfl)
theorem espec_l2Node (a0_0 : Int) (a0_1 : Int) (a0_2 : ByteArray) (a0_3 : Int) (a0_4 : Int) (a1_ : Int) : V 102 [.agg [.int .i64 a0_0, .int .i64 a0_1, .str a0_2, .int .i64 a0_3, .int .i64 a0_4], .int .i64 a1_] =
  ocall V 89 [(.int .i64 a0_3), (.int .i64 (0)), (.int .i64 (IntKind.wrap IntKind.i64 (a1_ - 1)))] fun x0 l1 =>
   asB x0 fun b2 => unn l1 (ocall V 89 [(.int .i64 a0_4), (.int .i64 (0)), (.int .i64 (IntKind.wrap IntKind.i64 (a1_ - 1)))] fun x3 l4 =>
     asB x3 fun b5 => unn l4 (br (a0_0 == 1)
       (some ((.bool (a0_0 == 1 && (a0_1 == 0 && (strEq a0_2 { data := #[] } && (a0_3 == 0 && (a0_4 == 0 && true)))))), []))
       (br (a0_0 == 2)
        (ocall V 89 [(.int .i64 a0_1), (.int .i64 (0)), (.int .i64 (1))] fun x6 l7 =>
         asB x6 fun b8 => unn l7 (br b8
           (some ((.bool (a0_0 == 2 && (a0_1 == a0_1 && (strEq a0_2 { data := #[] } && (a0_3 == 0 && (a0_4 == 0 && true)))))), []))
           (some ((.bool false), []))))
        (br (a0_0 == 3)
         (ocall V 89 [(.int .i64 a0_1), (.int .i64 (-1000000000)), (.int .i64 (1000000000))] fun x9 l10 =>
          asB x9 fun b11 => unn l10 (br b11
            (some ((.bool (a0_0 == 3 && (a0_1 == a0_1 && (strEq a0_2 { data := #[] } && (a0_3 == 0 && (a0_4 == 0 && true)))))), []))
            (some ((.bool false), []))))
         (br (a0_0 == 4)
          (ocall V 115 [(.str a0_2)] fun x12 l13 =>
           asB x12 fun b14 => unn l13 (br b14
             (some ((.bool (a0_0 == 4 && (a0_1 == 0 && (strEq a0_2 a0_2 && (a0_3 == 0 && (a0_4 == 0 && true)))))), []))
             (some ((.bool false), []))))
          (br (a0_0 == 5)
           (br b2
            (br b5
             (br (a0_1 == 0)
              (some ((.bool (strEq a0_2 { data := #[] })), []))
              (some ((.bool false), [])))
             (some ((.bool false), [])))
            (some ((.bool false), [])))
           (br (a0_0 == 6)
            (br b2
             (ocall V 89 [(.int .i64 a0_1), (.int .i64 (0)), (.int .i64 (1000000000))] fun x15 l16 =>
              asB x15 fun b17 => unn l16 (br b17
                (br (a0_4 == 0)
                 (some ((.bool (strEq a0_2 { data := #[] })), []))
                 (some ((.bool false), [])))
                (some ((.bool false), []))))
             (some ((.bool false), [])))
            (br (a0_0 == 7)
             (br b2
              (br (a0_1 == 0)
               (br (a0_4 == 0)
                (some ((.bool (strEq a0_2 { data := #[] })), []))
                (some ((.bool false), [])))
               (some ((.bool false), [])))
              (some ((.bool false), [])))
             (br (a0_0 == 8)
              (ocall V 89 [(.int .i64 a0_1), (.int .i64 (0)), (.int .i64 (99))] fun x18 l19 =>
               asB x18 fun b20 => unn l19 (br b20
                 (some ((.bool (a0_0 == 8 && (a0_1 == a0_1 && (strEq a0_2 { data := #[] } && (a0_3 == 0 && (a0_4 == 0 && true)))))), []))
                 (some ((.bool false), []))))
              (br (a0_0 == 9)
               (ocall V 89 [(.int .i64 a0_1), (.int .i64 (0)), (.int .i64 (1000000000))] fun x21 l22 =>
                asB x21 fun b23 => unn l22 (br b23
                  (some ((.bool (a0_0 == 9 && (a0_1 == a0_1 && (strEq a0_2 { data := #[] } && (a0_3 == 0 && (a0_4 == 0 && true)))))), []))
                  (some ((.bool false), []))))
               (some ((.bool false), [])))))))))))) := by
  exact (Vn_eq Tryz.func102 rfl _).trans (by kernel_rfl)
theorem Llaws_markNodeS_2_eq (p0 : Int) (p1 : Int) (p2 : List D) : Llaws_markNodeS_2 p0 p1 p2 =
  br (decide (p1 < ni (List.length p2)))
   (grd (decide (0 ≤ p1) && decide (p1 < ni (List.length p2))) (oget p2 (Int.toNat p1) fun x0 =>
    asAgg x0 fun l1 => nam (List.set p2 (Int.toNat p1) (D.agg (List.take 0 l1 ++ [D.int IntKind.i64 p0] ++ List.drop 1 l1))) fun l2 =>
      grd (decide (0 ≤ p1) && decide (p1 < ni (List.length l2))) (oget l2 (Int.toNat p1) fun x3 =>
       asAgg x3 fun l4 => nam (List.set l2 (Int.toNat p1) (D.agg (List.take 1 l4 ++ [D.int IntKind.i64 (IntKind.wrap IntKind.i64 (p0 + 1))] ++ List.drop 2 l4))) fun l5 =>
         ocall V 85 [(.int .i64 (IntKind.wrap IntKind.i64 (IntKind.wrap IntKind.i64 (p0 + 1) + 1)))] fun x6 l7 =>
          asS x6 fun s8 => unn l7 (grd (decide (0 ≤ p1) && decide (p1 < ni (List.length l5))) (oget l5 (Int.toNat p1) fun x9 =>
            asAgg x9 fun l10 => nam (List.set l5 (Int.toNat p1) (D.agg (List.take 2 l10 ++ [D.str s8] ++ List.drop 3 l10))) fun l11 =>
              grd (decide (0 ≤ p1) && decide (p1 < ni (List.length l11))) (oget l11 (Int.toNat p1) fun x12 =>
               asAgg x12 fun l13 => nam (List.set l11 (Int.toNat p1) (D.agg (List.take 3 l13 ++ [D.int IntKind.i64 (IntKind.wrap IntKind.i64 (IntKind.wrap IntKind.i64 (IntKind.wrap IntKind.i64 (p0 + 1) + 1) + 1))] ++ List.drop 4 l13))) fun l14 =>
                 grd (decide (0 ≤ p1) && decide (p1 < ni (List.length l14))) (oget l14 (Int.toNat p1) fun x15 =>
                  asAgg x15 fun l16 => nam (List.set l14 (Int.toNat p1) (D.agg (List.take 4 l16 ++ [D.int IntKind.i64 (IntKind.wrap IntKind.i64 (IntKind.wrap IntKind.i64 (IntKind.wrap IntKind.i64 (IntKind.wrap IntKind.i64 (p0 + 1) + 1) + 1) + 1))] ++ List.drop 5 l16))) fun l17 =>
                    Llaws_markNodeS_2 (IntKind.wrap IntKind.i64 (IntKind.wrap IntKind.i64 (IntKind.wrap IntKind.i64 (IntKind.wrap IntKind.i64 (IntKind.wrap IntKind.i64 (p0 + 1) + 1) + 1) + 1) + 1)) (IntKind.wrap IntKind.i64 (p1 + 1)) l17)))))))
   (some ((.int .i64 p0), [(.os (5, 0) p2)])) := by
  exact (Rn_eq _ _ _).trans (by kernel_rfl)
theorem eimpl_MachinePack (a0_0 : List D) (a0_1 : List D) (a0_2 : List D) (a1_0 : List D) (a1_1 : Int) (a1_2 : Int) (a1_3 : Int) (a1_4 : Int) (a1_5 : Int) (a1_6 : Int) (a1_7 : Int) : V 38 [.agg [.rs (5, 0) a0_0, .rs (4, 0) a0_1, .rs (3, 0) a0_2], .agg [.rs (5, 0) a1_0, .int .i64 a1_1, .int .i64 a1_2, .int .i64 a1_3, .int .i64 a1_4, .int .i64 a1_5, .int .i64 a1_6, .int .i64 a1_7]] =
  ocall V 78 [(.agg [(.rs (5, 0) a0_0), (.rs (4, 0) a0_1), (.rs (3, 0) a0_2)]), (.agg [(.rs (5, 0) a1_0), (.int .i64 a1_1), (.int .i64 a1_2), (.int .i64 a1_3), (.int .i64 a1_4), (.int .i64 a1_5), (.int .i64 a1_6), (.int .i64 a1_7)])] fun x0 l1 =>
   asB x0 fun b2 => unn l1 (br (!b2)
     (some ((.tup [(.str ({ data := #[] })), (.bool false)]), []))
     (ocall V 79 [(.agg [(.rs (5, 0) a1_0), (.int .i64 a1_1), (.int .i64 a1_2), (.int .i64 a1_3), (.int .i64 a1_4), (.int .i64 a1_5), (.int .i64 a1_6), (.int .i64 a1_7)])] fun x3 l4 =>
      asAgg x3 fun l5 => unc l5 fun x6 l7 => asOs (5, 0) x6 fun l8 => unc l7 fun x9 l10 => asI .i64 x9 fun n11 => unc l10 fun x12 l13 => asI .i64 x12 fun n14 => unc l13 fun x15 l16 => asI .i64 x15 fun n17 => unc l16 fun x18 l19 => asI .i64 x18 fun n20 => unc l19 fun x21 l22 => asI .i64 x21 fun n23 => unc l22 fun x24 l25 => asI .i64 x24 fun n26 => unc l25 fun x27 l28 => asI .i64 x27 fun n29 => unn l28 (unn l4 (Limpl_MachinePack_6 (ni 7) (0) n11 n14 n17 n20 n23 n26 n29 [] ([D.int IntKind.i64 n11, D.int IntKind.i64 n23, D.int IntKind.i64 n26, D.int IntKind.i64 n14, D.int IntKind.i64 n17, D.int IntKind.i64 n20, D.int IntKind.i64 n29]) l8)))) := by
  exact (Vn_eq Tryz.func38 rfl _).trans (by kernel_rfl)
theorem Limpl_reader_nodes_4v1_eq (p0 : Int) (p1 : Int) (p2 : Int) (p3 : Bool) (p4 : List D) (p5 : List D) : Limpl_reader_nodes_4v1 p0 p1 p2 p3 p4 p5 =
  br (decide (p1 < p0))
   (br p3
    (br (decide (p1 ≤ 3000))
     (ocall V 77 [(.op [(.os (1, 0) p4), (.int .i64 p2), (.bool p3)])] fun x45 l46 =>
      asAgg x45 fun l47 => unc l47 fun x48 l49 => asI .i64 x48 fun n50 => unc l49 fun x51 l52 => asI .i64 x51 fun n53 => unc l52 fun x54 l55 => asS x54 fun s56 => unc l55 fun x57 l58 => asI .i64 x57 fun n59 => unc l58 fun x60 l61 => asI .i64 x60 fun n62 => unn l61 (unc l46 fun x63 l64 => asOp x63 fun l65 => unc l65 fun x66 l67 => asOs (1, 0) x66 fun l68 => unc l67 fun x69 l70 => asI .i64 x69 fun n71 => unc l70 fun x72 l73 => asB x72 fun b74 => unn l73 (unn l64 (grd (decide (ni (List.length (p5 ++ [D.agg [D.int IntKind.i64 n50, D.int IntKind.i64 n53, D.str s56, D.int IntKind.i64 n59, D.int IntKind.i64 n62]])) ≤ LIM)) (nam (p5 ++ [D.agg [D.int IntKind.i64 n50, D.int IntKind.i64 n53, D.str s56, D.int IntKind.i64 n59, D.int IntKind.i64 n62]]) fun l75 =>
                          Limpl_reader_nodes_4v1 p0 (IntKind.wrap IntKind.i64 (p1 + 1)) n71 b74 l68 l75)))))
     (some ((.agg [(.os (5, 0) p5)]), [(.op [(.os (1, 0) p4), (.int .i64 p2), (.bool p3)])])))
    (some ((.agg [(.os (5, 0) p5)]), [(.op [(.os (1, 0) p4), (.int .i64 p2), (.bool p3)])])))
   (some ((.agg [(.os (5, 0) p5)]), [(.op [(.os (1, 0) p4), (.int .i64 p2), (.bool p3)])])) := by
  exact (Rn_eq _ _ _).trans (by kernel_rfl)
theorem elaws_toProc (a0_0 : Int) (a0_1 : List D) (a0_2 : Int) (a0_3 : Int) (a0_4 : Int) (a0_5 : Int) (a0_6 : Int) (a0_7 : Int) (a0_8 : Int) (a0_9 : List D) (a0_10 : List D) : V 23 [.agg [.int .i64 a0_0, .rs (5, 0) a0_1, .int .i64 a0_2, .int .i64 a0_3, .int .i64 a0_4, .int .i64 a0_5, .int .i64 a0_6, .int .i64 a0_7, .int .i64 a0_8, .rs (1, 0) a0_9, .rs (1, 0) a0_10]] =
  ocall V 58 [(.agg [(.rs (5, 0) a0_1), (.int .i64 a0_2), (.int .i64 a0_3), (.int .i64 a0_4), (.int .i64 a0_5), (.int .i64 a0_6), (.int .i64 a0_7), (.int .i64 a0_8)])] fun x0 l1 =>
   asAgg x0 fun l2 => unc l2 fun x3 l4 => asOs (5, 0) x3 fun l5 => unc l4 fun x6 l7 => asI .i64 x6 fun n8 => unc l7 fun x9 l10 => asI .i64 x9 fun n11 => unc l10 fun x12 l13 => asI .i64 x12 fun n14 => unc l13 fun x15 l16 => asI .i64 x15 fun n17 => unc l16 fun x18 l19 => asI .i64 x18 fun n20 => unc l19 fun x21 l22 => asI .i64 x21 fun n23 => unc l22 fun x24 l25 => asI .i64 x24 fun n26 => unn l25 (unn l1 (ocall V 59 [(.rs (1, 0) a0_9)] fun x27 l28 =>
                     asOs (1, 0) x27 fun l29 => unn l28 (ocall V 59 [(.rs (1, 0) a0_10)] fun x30 l31 =>
                       asOs (1, 0) x30 fun l32 => unn l31 (some ((.agg [(.int .i64 a0_0), (.os (5, 0) l5), (.int .i64 n8), (.int .i64 n11), (.int .i64 n14), (.int .i64 n17), (.int .i64 n20), (.int .i64 n23), (.int .i64 n26), (.os (1, 0) l29), (.os (1, 0) l32)]), []))))) := by
  exact (Vn_eq Tryz.func23 rfl _).trans (by kernel_rfl)
theorem Limpl_reader_nodes_4_eq (p0 : Int) (p1 : Int) (p2 : Int) (p3 : Bool) (p4 : List D) : Limpl_reader_nodes_4 p0 p1 p2 p3 p4 =
  br (decide (p1 < p0))
   (br p3
    (br (decide (p1 ≤ 3000))
     (ocall V 77 [(.op [(.os (1, 0) p4), (.int .i64 p2), (.bool p3)])] fun x15 l16 =>
      asAgg x15 fun l17 => unc l17 fun x18 l19 => asI .i64 x18 fun n20 => unc l19 fun x21 l22 => asI .i64 x21 fun n23 => unc l22 fun x24 l25 => asS x24 fun s26 => unc l25 fun x27 l28 => asI .i64 x27 fun n29 => unc l28 fun x30 l31 => asI .i64 x30 fun n32 => unn l31 (unc l16 fun x33 l34 => asOp x33 fun l35 => unc l35 fun x36 l37 => asOs (1, 0) x36 fun l38 => unc l37 fun x39 l40 => asI .i64 x39 fun n41 => unc l40 fun x42 l43 => asB x42 fun b44 => unn l43 (unn l34 (grd (decide (ni 1 ≤ LIM)) (Limpl_reader_nodes_4v1 p0 (IntKind.wrap IntKind.i64 (p1 + 1)) n41 b44 l38 ([D.agg [D.int IntKind.i64 n20, D.int IntKind.i64 n23, D.str s26, D.int IntKind.i64 n29, D.int IntKind.i64 n32]]))))))
     (some ((.agg [(.os (5, 0) [])]), [(.op [(.os (1, 0) p4), (.int .i64 p2), (.bool p3)])])))
    (some ((.agg [(.os (5, 0) [])]), [(.op [(.os (1, 0) p4), (.int .i64 p2), (.bool p3)])])))
   (some ((.agg [(.os (5, 0) [])]), [(.op [(.os (1, 0) p4), (.int .i64 p2), (.bool p3)])])) := by
  exact (Rn_eq _ _ _).trans (by kernel_rfl)
theorem elaws_eqMachine (a0_0 : List D) (a0_1 : Int) (a0_2 : Int) (a0_3 : Int) (a0_4 : Int) (a0_5 : Int) (a0_6 : Int) (a0_7 : Int) (a1_0 : List D) (a1_1 : Int) (a1_2 : Int) (a1_3 : Int) (a1_4 : Int) (a1_5 : Int) (a1_6 : Int) (a1_7 : Int) : V 11 [.agg [.rs (5, 0) a0_0, .int .i64 a0_1, .int .i64 a0_2, .int .i64 a0_3, .int .i64 a0_4, .int .i64 a0_5, .int .i64 a0_6, .int .i64 a0_7], .agg [.rs (5, 0) a1_0, .int .i64 a1_1, .int .i64 a1_2, .int .i64 a1_3, .int .i64 a1_4, .int .i64 a1_5, .int .i64 a1_6, .int .i64 a1_7]] =
  ocall V 39 [(.agg [(.rs (5, 0) a0_0)]), (.agg [(.rs (5, 0) a1_0)])] fun x0 l1 =>
   asB x0 fun b2 => unn l1 (br (!b2)
     (some ((.bool false), []))
     (br (a0_1 != a1_1)
      (some ((.bool false), []))
      (br (a0_2 != a1_2)
       (some ((.bool false), []))
       (br (a0_3 != a1_3)
        (some ((.bool false), []))
        (br (a0_4 != a1_4)
         (some ((.bool false), []))
         (br (a0_5 != a1_5)
          (some ((.bool false), []))
          (br (a0_6 != a1_6)
           (some ((.bool false), []))
           (br (a0_7 != a1_7)
            (some ((.bool false), []))
            (some ((.bool true), [])))))))))) := by
  exact (Vn_eq Tryz.func11 rfl _).trans (by kernel_rfl)
theorem Llaws_toDefS_3_eq (p0 : List D) (p1 : Int) (p2 : List D) : Llaws_toDefS_3 p0 p1 p2 =
  br (decide (p1 < ni (List.length p0)))
   (grd (decide (0 ≤ p1) && decide (p1 < ni (List.length p0))) (oget p0 (Int.toNat p1) fun x0 =>
    asAgg x0 fun l1 => unc l1 fun x2 l3 => asS x2 fun s4 => unc l3 fun x5 l6 => asI .i64 x5 fun n7 => unc l6 fun x8 l9 => asI .i64 x8 fun n10 => unn l9 (ocall V 75 [(.agg [(.str s4), (.int .i64 n7), (.int .i64 n10)])] fun x11 l12 =>
            asAgg x11 fun l13 => unc l13 fun x14 l15 => asS x14 fun s16 => unc l15 fun x17 l18 => asI .i64 x17 fun n19 => unc l18 fun x20 l21 => asI .i64 x20 fun n22 => unn l21 (unn l12 (grd (decide (0 ≤ p1) && decide (p1 < ni (List.length p2))) (oget p2 (Int.toNat p1) fun _ =>
                    nam (List.set p2 (Int.toNat p1) (D.agg [D.str s16, D.int IntKind.i64 n19, D.int IntKind.i64 n22])) fun l24 =>
                     Llaws_toDefS_3 p0 (IntKind.wrap IntKind.i64 (p1 + 1)) l24))))))
   (some ((.os (3, 0) p2), [])) := by
  exact (Rn_eq _ _ _).trans (by kernel_rfl)
theorem Lspec_MachinePack_7_eq (p0 : Int) (p1 : Int) (p2 : Int) (p3 : Int) (p4 : Int) (p5 : Int) (p6 : Int) (p7 : Int) (p8 : List D) (p9 : List D) (p10 : List D) : Lspec_MachinePack_7 p0 p1 p2 p3 p4 p5 p6 p7 p8 p9 p10 =
  br (decide (p0 < ni (List.length p9)))
   (grd (decide (0 ≤ p0) && decide (p0 < ni (List.length p9))) (oget p9 (Int.toNat p0) fun x30 =>
    asI .i64 x30 fun n31 => ocall V 55 [(.int .i64 n31)] fun x32 l33 =>
      asOs (1, 0) x32 fun l34 => unn l33 (grd (decide (ni (List.length (p8 ++ l34)) ≤ LIM)) (nam (p8 ++ l34) fun l35 =>
        Lspec_MachinePack_7 (IntKind.wrap IntKind.i64 (p0 + 1)) p1 p2 p3 p4 p5 p6 p7 l35 p9 p10))))
   (ocall V 72 [(.agg [(.rs (5, 0) p10)])] fun x36 l37 =>
    asOs (1, 0) x36 fun l38 => unn l37 (grd (decide (ni (List.length (p8 ++ l38)) ≤ LIM)) (nam (p8 ++ l38) fun l39 =>
      obytes l39 fun s40 => some ((.tup [(.str s40), (.bool true)]), [])))) := by
  exact (Rn_eq _ _ _).trans (by kernel_rfl)
theorem Limpl_PoolOk_2_eq (p0 : List D) (p1 : Int) (p2 : Int) (p3 : List D) : Limpl_PoolOk_2 p0 p1 p2 p3 =
  br (decide (p2 < p1))
   (grd (decide (0 ≤ p2) && decide (p2 < ni (List.length p0))) (oget p0 (Int.toNat p2) fun x0 =>
    asAgg x0 fun l1 => unc l1 fun x2 l3 => asI .i64 x2 fun n4 => unc l3 fun x5 l6 => asI .i64 x5 fun n7 => unc l6 fun x8 l9 => asS x8 fun s10 => unc l9 fun x11 l12 => asI .i64 x11 fun n13 => unc l12 fun x14 l15 => asI .i64 x14 fun n16 => unn l15 (ocall V 128 [(.agg [(.int .i64 n4), (.int .i64 n7), (.str s10), (.int .i64 n13), (.int .i64 n16)]), (.int .i64 p2)] fun x17 l18 =>
                asB x17 fun b19 => unn l18 (br (!b19)
                  (some ((.bool false), []))
                  (Limpl_PoolOk_2 p0 p1 (IntKind.wrap IntKind.i64 (p2 + 1)) p3)))))
   (some ((.bool (decide (ni (List.length p3) ≤ 3000))), [])) := by
  exact (Rn_eq _ _ _).trans (by kernel_rfl)
theorem eimpl_isNameByte (a0_ : Int) : V 133 [.int .u8 a0_] =
  br (decide (a0_ ≥ 97))
   (br (decide (a0_ ≤ 122))
    (some ((.bool true), []))
    (grd (decide (0 < 8)) (ocall V 140 [(.rs (1, 0) [(.int .u8 (43)), (.int .u8 (45)), (.int .u8 (42)), (.int .u8 (60)), (.int .u8 (61)), (.int .u8 (63)), (.int .u8 (33)), (.int .u8 (47))]), (.int .u8 a0_)] fun x0 l1 =>
     asB x0 fun b2 => unn l1 (some ((.bool b2), [])))))
   (grd (decide (0 < 8)) (ocall V 140 [(.rs (1, 0) [(.int .u8 (43)), (.int .u8 (45)), (.int .u8 (42)), (.int .u8 (60)), (.int .u8 (61)), (.int .u8 (63)), (.int .u8 (33)), (.int .u8 (47))]), (.int .u8 a0_)] fun x3 l4 =>
    asB x3 fun b5 => unn l4 (some ((.bool b5), [])))) := by
  exact (Vn_eq Tryz.func133 rfl _).trans (by kernel_rfl)
theorem Lspec_PutNum_4_eq (p0 : Int) (p1 : List D) : Lspec_PutNum_4 p0 p1 =
  br (decide (p0 > 127))
   (grd (!decide (128 = 0)) (grd (decide (ni (List.length (p1 ++ [D.int IntKind.u8 (IntKind.wrap IntKind.u8 (IntKind.wrap IntKind.i64 (Int.tmod p0 (128) + 128)))])) ≤ LIM)) (nam (p1 ++ [D.int IntKind.u8 (IntKind.wrap IntKind.u8 (IntKind.wrap IntKind.i64 (Int.tmod p0 (128) + 128)))]) fun l0 =>
    grd (!decide (128 = 0)) (Lspec_PutNum_4 (IntKind.wrap IntKind.i64 (Int.tdiv p0 (128))) l0))))
   (grd (decide (ni (List.length (p1 ++ [D.int IntKind.u8 (IntKind.wrap IntKind.u8 p0)])) ≤ LIM)) (nam (p1 ++ [D.int IntKind.u8 (IntKind.wrap IntKind.u8 p0)]) fun l1 =>
    some ((.os (1, 0) l1), []))) := by
  exact (Rn_eq _ _ _).trans (by kernel_rfl)
theorem elaws_eqNode (a0_0 : Int) (a0_1 : Int) (a0_2 : ByteArray) (a0_3 : Int) (a0_4 : Int) (a1_0 : Int) (a1_1 : Int) (a1_2 : ByteArray) (a1_3 : Int) (a1_4 : Int) : V 113 [.agg [.int .i64 a0_0, .int .i64 a0_1, .str a0_2, .int .i64 a0_3, .int .i64 a0_4], .agg [.int .i64 a1_0, .int .i64 a1_1, .str a1_2, .int .i64 a1_3, .int .i64 a1_4]] =
  br (a0_0 != a1_0)
   (some ((.bool false), []))
   (br (a0_1 != a1_1)
    (some ((.bool false), []))
    (br (!strEq a0_2 a1_2)
     (some ((.bool false), []))
     (br (a0_3 != a1_3)
      (some ((.bool false), []))
      (br (a0_4 != a1_4)
       (some ((.bool false), []))
       (some ((.bool true), [])))))) := by
  exact (Vn_eq Tryz.func113 rfl _).trans (by kernel_rfl)
theorem espec_l6Copy (a0_0 : List D) (a0_1 : Int) (a0_2 : Int) (a0_3 : Int) (a0_4 : Int) (a0_5 : Int) (a0_6 : Int) (a0_7 : Int) : V 98 [.agg [.rs (5, 0) a0_0, .int .i64 a0_1, .int .i64 a0_2, .int .i64 a0_3, .int .i64 a0_4, .int .i64 a0_5, .int .i64 a0_6, .int .i64 a0_7]] =
  ocall V 123 [(.agg [(.rs (5, 0) a0_0)])] fun x0 l1 =>
   asAgg x0 fun l2 => unc l2 fun x3 l4 => asOs (5, 0) x3 fun l5 => unn l4 (unn l1 (some ((.agg [(.os (5, 0) l5), (.int .i64 a0_1), (.int .i64 a0_2), (.int .i64 a0_3), (.int .i64 a0_4), (.int .i64 a0_5), (.int .i64 a0_6), (.int .i64 a0_7)]), []))) := by
  exact (Vn_eq Tryz.func98 rfl _).trans (by kernel_rfl)
theorem Limpl_reach_3_eq (p0 : List D) (p1 : Int) (p2 : Int) (p3 : List D) (p4 : List D) : Limpl_reach_3 p0 p1 p2 p3 p4 =
  br (decide (p2 < p1))
   (grd (decide (0 ≤ p2) && decide (p2 < ni (List.length p0))) (oget p0 (Int.toNat p2) fun x0 =>
    asI .i64 x0 fun n1 => grd (decide (0 ≤ n1) && decide (n1 < ni (List.length p4))) (oget p4 (Int.toNat n1) fun _ =>
      nam (List.set p4 (Int.toNat n1) (D.bool true)) fun l3 =>
       Limpl_reach_3 p0 p1 (IntKind.wrap IntKind.i64 (p2 + 1)) p3 l3)))
   (Limpl_reach_8 (IntKind.wrap IntKind.i64 (ni (List.length p3) - 1)) p3 p4) := by
  exact (Rn_eq _ _ _).trans (by kernel_rfl)
theorem espec_l8Read (b : List D) (i : Int) (k : Bool) : V 31 [.op [.os (1, 0) b, .int .i64 i, .bool k]] =
  ocall V 30 [(.op [(.os (1, 0) b), (.int .i64 i), (.bool k)])] fun x0 l1 =>
   asI .i64 x0 fun n2 => unc l1 fun x3 l4 => asOp x3 fun l5 => unc l5 fun x6 l7 => asOs (1, 0) x6 fun l8 => unc l7 fun x9 l10 => asI .i64 x9 fun n11 => unc l10 fun x12 l13 => asB x12 fun b14 => unn l13 (unn l4 (br (decide (n2 > 3000))
             (Lspec_l8Read_6 n2 (0) n11 false l8)
             (Lspec_l8Read_6 n2 (0) n11 b14 l8))) := by
  exact (Vn_eq Tryz.func31 rfl _).trans (by kernel_rfl)
theorem Llaws_szStringS_5_eq (p0 : List D) (p1 : Int) (p2 : Int) : Llaws_szStringS_5 p0 p1 p2 =
  br (decide (p2 < ni (List.length p0)))
   (grd (decide (0 ≤ p2) && decide (p2 < ni (List.length p0))) (oget p0 (Int.toNat p2) fun x0 =>
    asS x0 fun s1 => br (decide (IntKind.wrap IntKind.i64 (p1 - ni (ByteArray.size s1)) < 0))
      (some ((.int .i64 (-1)), []))
      (Llaws_szStringS_5 p0 (IntKind.wrap IntKind.i64 (p1 - ni (ByteArray.size s1))) (IntKind.wrap IntKind.i64 (p2 + 1)))))
   (some ((.int .i64 p1), [])) := by
  exact (Rn_eq _ _ _).trans (by kernel_rfl)
theorem LIndexFunc_ProcOk1_2_eq (p0 : List D) (p1 : Int) (p2 : Int) : LIndexFunc_ProcOk1_2 p0 p1 p2 =
  br (decide (p2 < p1))
   (grd (decide (0 ≤ p2) && decide (p2 < ni (List.length p0))) (oget p0 (Int.toNat p2) fun x0 =>
    asS x0 fun s1 => ocall V 95 [(.str s1)] fun x2 l3 =>
      asB x2 fun b4 => unn l3 (br b4
        (some ((.int .i64 p2), []))
        (LIndexFunc_ProcOk1_2 p0 p1 (IntKind.wrap IntKind.i64 (p2 + 1))))))
   (some ((.int .i64 (-1)), [])) := by
  exact (Rn_eq _ _ _).trans (by kernel_rfl)
theorem LIndexFunc_ProcOk2_2_eq (p0 : List D) (p1 : Int) (p2 : Int) : LIndexFunc_ProcOk2_2 p0 p1 p2 =
  br (decide (p2 < p1))
   (grd (decide (0 ≤ p2) && decide (p2 < ni (List.length p0))) (oget p0 (Int.toNat p2) fun x0 =>
    asS x0 fun s1 => ocall V 97 [(.str s1)] fun x2 l3 =>
      asB x2 fun b4 => unn l3 (br b4
        (some ((.int .i64 p2), []))
        (LIndexFunc_ProcOk2_2 p0 p1 (IntKind.wrap IntKind.i64 (p2 + 1))))))
   (some ((.int .i64 (-1)), [])) := by
  exact (Rn_eq _ _ _).trans (by kernel_rfl)
theorem Lspec_CodeOk_4_eq (p0 : Int) (p1 : List D) (p2 : List D) (p3 : List D) : Lspec_CodeOk_4 p0 p1 p2 p3 =
  br (decide (p0 < ni (List.length p2)))
   (ocall V 114 [(.agg [(.rs (5, 0) p1), (.rs (4, 0) p2), (.rs (3, 0) p3)]), (.int .i64 p0)] fun x3 l4 =>
    asB x3 fun b5 => unn l4 (br (!b5)
      (some ((.bool false), []))
      (Lspec_CodeOk_4 (IntKind.wrap IntKind.i64 (p0 + 1)) p1 p2 p3)))
   (Lspec_CodeOk_9 (0) p1 p2 p3) := by
  exact (Rn_eq _ _ _).trans (by kernel_rfl)
theorem eimpl_GetNum (a0_ : List D) (a1_ : Int) : V 76 [.rs (1, 0) a0_, .int .i64 a1_] =
  ocall V 93 [(.int .i64 a1_), (.int .i64 (0)), (.int .i64 (IntKind.wrap IntKind.i64 (ni (List.length a0_) - 1)))] fun x0 l1 =>
   asB x0 fun b2 => unn l1 (br (!b2)
     (some ((.tup [(.int .i64 (0)), (.int .i64 (0)), (.bool false)]), []))
     (Limpl_GetNum_5 a0_ a1_ (0) (0))) := by
  exact (Vn_eq Tryz.func76 rfl _).trans (by kernel_rfl)
theorem eimpl_reach (a0_0 : List D) (a1_ : List D) : V 138 [.agg [.rs (5, 0) a0_0], .rs (1, 0) a1_] =
  grd (decide (0 ≤ ni (List.length a0_0)) && decide (ni (List.length a0_0) ≤ LIM)) (Limpl_reach_3 a1_ (ni (List.length a1_)) (0) a0_0 (List.replicate (Int.toNat (ni (List.length a0_0))) (D.bool false))) := by
  exact (Vn_eq Tryz.func138 rfl _).trans (by kernel_rfl)
theorem espec_l7Into (p : List D) (q : List D) (t : List D) : V 125 [.op [.os (5, 0) p], .agg [.rs (5, 0) q], .rs (1, 0) t] =
  grd (decide (0 ≤ ni (List.length q)) && decide (ni (List.length q) ≤ LIM)) (Lspec_l7Into_3 t (0) q (List.replicate (Int.toNat (ni (List.length q))) (D.int IntKind.i64 (0))) p) := by
  exact (Vn_eq Tryz.func125 rfl _).trans (by kernel_rfl)
theorem eimpl_NameOk (a0_ : ByteArray) : V 120 [.str a0_] =
  ocall V 93 [(.int .i64 (ni (ByteArray.size a0_))), (.int .i64 (1)), (.int .i64 (12))] fun x0 l1 =>
   asB x0 fun b2 => unn l1 (br (!b2)
     (some ((.bool false), []))
     (Limpl_NameOk_4 a0_ (ni (ByteArray.size a0_)) (0))) := by
  exact (Vn_eq Tryz.func120 rfl _).trans (by kernel_rfl)
theorem elaws_szStringS (a0_ : List D) (a1_ : Int) : V 54 [.rs (1, 0) a0_, .int .i64 a1_] =
  br (decide (IntKind.wrap IntKind.i64 (a1_ - ni (List.length a0_)) < 0))
   (some ((.int .i64 (-1)), []))
   (Llaws_szStringS_5 a0_ (IntKind.wrap IntKind.i64 (a1_ - ni (List.length a0_))) (0)) := by
  exact (Vn_eq Tryz.func54 rfl _).trans (by kernel_rfl)
theorem eimpl_isNode (a0_0 : List D) (a1_ : Int) : V 109 [.agg [.rs (5, 0) a0_0], .int .i64 a1_] =
  ocall V 93 [(.int .i64 a1_), (.int .i64 (0)), (.int .i64 (IntKind.wrap IntKind.i64 (ni (List.length a0_0) - 1)))] fun x0 l1 =>
   asB x0 fun b2 => unn l1 (some ((.bool b2), [])) := by
  exact (Vn_eq Tryz.func109 rfl _).trans (by kernel_rfl)
theorem eslices_Contains_byte_byte (a0_ : List D) (a1_ : Int) : V 140 [.rs (1, 0) a0_, .int .u8 a1_] =
  ocall V 141 [(.rs (1, 0) a0_), (.int .u8 a1_)] fun x0 l1 =>
   asI .i64 x0 fun n2 => unn l1 (some ((.bool (decide (n2 ≥ 0))), [])) := by
  exact (Vn_eq Tryz.func140 rfl _).trans (by kernel_rfl)
theorem espec_l1In (a0_ : Int) (a1_ : Int) (a2_ : Int) : V 89 [.int .i64 a0_, .int .i64 a1_, .int .i64 a2_] =
  br (decide (a0_ ≥ a1_))
   (some ((.bool (decide (a0_ ≤ a2_))), []))
   (some ((.bool false), [])) := by
  exact (Vn_eq Tryz.func89 rfl _).trans (by kernel_rfl)
theorem eContainsFunc_ProcOk2 (l : List D) : V 94 [.rs (1, 0) l, .fn 97 []] =
  ocall V 121 [(.rs (1, 0) l), (.fn 97 [])] fun x0 l1 =>
   asI .i64 x0 fun n2 => unn l1 (some ((.bool (decide (n2 ≥ 0))), [])) := by
  exact (Vn_eq Tryz.func94 rfl _).trans (by kernel_rfl)
theorem elaws_toPool (a0_0 : List D) : V 33 [.agg [.rs (5, 0) a0_0]] =
  ocall V 73 [(.rs (5, 0) a0_0)] fun x0 l1 =>
   asOs (5, 0) x0 fun l2 => unn l1 (some ((.agg [(.os (5, 0) l2)]), [])) := by
  exact (Vn_eq Tryz.func33 rfl _).trans (by kernel_rfl)
theorem espec_l7Roots (a0_0 : List D) (a1_ : List D) : V 104 [.agg [.rs (5, 0) a0_0], .rs (1, 0) a1_] =
  Lspec_l7Roots_2 a1_ (0) a0_0 := by
  exact (Vn_eq Tryz.func104 rfl _).trans (by kernel_rfl)
theorem eIndexFunc_ProcOk2 (l : List D) : V 121 [.rs (1, 0) l, .fn 97 []] =
  LIndexFunc_ProcOk2_2 l (ni (List.length l)) (0) := by
  exact (Vn_eq Tryz.func121 rfl _).trans (by kernel_rfl)
theorem elaws_markDefS (a0_ : List D) (a1_ : Int) : V 44 [.os (3, 0) a0_, .int .i64 a1_] =
  Llaws_markDefS_2 a1_ (0) a0_ := by
  exact (Vn_eq Tryz.func44 rfl _).trans (by kernel_rfl)
end Go.Eng
