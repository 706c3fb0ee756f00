/- the functions as the interpreter has them -/
import Derived.Test.YtgoidfkdnkjojaaGreatFn0
namespace Go.Eng
open Go.Proofs Go.Proofs.Tryz
set_option maxRecDepth 100000
theorem elaws_FnExactProcPost (a0_0 : List D) (a0_1 : List D) (a0_2 : List D) (a1_0 : Int) (a1_1 : List D) (a1_2 : Int) (a1_3 : Int) (a1_4 : Int) (a1_5 : Int) (a1_6 : Int) (a1_7 : Int) (a1_8 : Int) (a1_9 : List D) (a1_10 : List D) (a2_ : ByteArray) : V 6 [.agg [.rs (5, 0) a0_0, .rs (4, 0) a0_1, .rs (3, 0) a0_2], .agg [.int .i64 a1_0, .rs (5, 0) a1_1, .int .i64 a1_2, .int .i64 a1_3, .int .i64 a1_4, .int .i64 a1_5, .int .i64 a1_6, .int .i64 a1_7, .int .i64 a1_8, .rs (1, 0) a1_9, .rs (1, 0) a1_10], .str a2_] =
  br (decide (ni (ByteArray.size a2_) > 1048576))
   (some ((.bool true), []))
   (ocall V 7 [(.agg [(.rs (5, 0) a0_0), (.rs (4, 0) a0_1), (.rs (3, 0) a0_2)]), (.int .i64 (1048576))] fun x0 l1 =>
    asI .i64 x0 fun n2 => unn l1 (br (decide (n2 < 0))
      (some ((.bool true), []))
      (ocall V 21 [(.agg [(.int .i64 a1_0), (.rs (5, 0) a1_1), (.int .i64 a1_2), (.int .i64 a1_3), (.int .i64 a1_4), (.int .i64 a1_5), (.int .i64 a1_6), (.int .i64 a1_7), (.int .i64 a1_8), (.rs (1, 0) a1_9), (.rs (1, 0) a1_10)]), (.int .i64 n2)] fun x3 l4 =>
       asI .i64 x3 fun n5 => unn l4 (br (decide (n5 < 0))
         (some ((.bool true), []))
         (ocall V 9 [(.agg [(.rs (5, 0) a0_0), (.rs (4, 0) a0_1), (.rs (3, 0) a0_2)])] fun x6 l7 =>
          asAgg x6 fun l8 => unc l8 fun x9 l10 => asOs (5, 0) x9 fun l11 => unc l10 fun x12 l13 => asOs (4, 0) x12 fun l14 => unc l13 fun x15 l16 => asOs (3, 0) x15 fun l17 => unn l16 (unn l7 (ocall V 23 [(.agg [(.int .i64 a1_0), (.rs (5, 0) a1_1), (.int .i64 a1_2), (.int .i64 a1_3), (.int .i64 a1_4), (.int .i64 a1_5), (.int .i64 a1_6), (.int .i64 a1_7), (.int .i64 a1_8), (.rs (1, 0) a1_9), (.rs (1, 0) a1_10)])] fun x18 l19 =>
                  asAgg x18 fun l20 => unc l20 fun x21 l22 => asI .i64 x21 fun n23 => unc l22 fun x24 l25 => asOs (5, 0) x24 fun l26 => unc l25 fun x27 l28 => asI .i64 x27 fun n29 => unc l28 fun x30 l31 => asI .i64 x30 fun n32 => unc l31 fun x33 l34 => asI .i64 x33 fun n35 => unc l34 fun x36 l37 => asI .i64 x36 fun n38 => unc l37 fun x39 l40 => asI .i64 x39 fun n41 => unc l40 fun x42 l43 => asI .i64 x42 fun n44 => unc l43 fun x45 l46 => asI .i64 x45 fun n47 => unc l46 fun x48 l49 => asOs (1, 0) x48 fun l50 => unc l49 fun x51 l52 => asOs (1, 0) x51 fun l53 => unn l52 (unn l19 (ocall V 25 [(.agg [(.rs (5, 0) l11), (.rs (4, 0) l14), (.rs (3, 0) l17)]), (.agg [(.int .i64 n23), (.rs (5, 0) l26), (.int .i64 n29), (.int .i64 n32), (.int .i64 n35), (.int .i64 n38), (.int .i64 n41), (.int .i64 n44), (.int .i64 n47), (.rs (1, 0) l50), (.rs (1, 0) l53)]), (.str a2_)] fun x54 l55 =>
                                          asTup x54 fun l56 => unc l56 fun x57 l58 => asAgg x57 fun l59 => unc l59 fun x60 l61 => asI .i64 x60 fun n62 => unc l61 fun x63 l64 => asOs (5, 0) x63 fun l65 => unc l64 fun x66 l67 => asI .i64 x66 fun n68 => unc l67 fun x69 l70 => asI .i64 x69 fun n71 => unc l70 fun x72 l73 => asI .i64 x72 fun n74 => unc l73 fun x75 l76 => asI .i64 x75 fun n77 => unc l76 fun x78 l79 => asI .i64 x78 fun n80 => unc l79 fun x81 l82 => asI .i64 x81 fun n83 => unc l82 fun x84 l85 => asI .i64 x84 fun n86 => unc l85 fun x87 l88 => asOs (1, 0) x87 fun l89 => unc l88 fun x90 l91 => asOs (1, 0) x90 fun l92 => unn l91 (unc l58 fun x93 l94 => asB x93 fun b95 => unn l94 (unn l55 (ocall V 9 [(.agg [(.rs (5, 0) a0_0), (.rs (4, 0) a0_1), (.rs (3, 0) a0_2)])] fun x96 l97 =>
                                                                      asAgg x96 fun l98 => unc l98 fun x99 l100 => asOs (5, 0) x99 fun l101 => unc l100 fun x102 l103 => asOs (4, 0) x102 fun l104 => unc l103 fun x105 l106 => asOs (3, 0) x105 fun l107 => unn l106 (unn l97 (ocall V 23 [(.agg [(.int .i64 a1_0), (.rs (5, 0) a1_1), (.int .i64 a1_2), (.int .i64 a1_3), (.int .i64 a1_4), (.int .i64 a1_5), (.int .i64 a1_6), (.int .i64 a1_7), (.int .i64 a1_8), (.rs (1, 0) a1_9), (.rs (1, 0) a1_10)])] fun x108 l109 =>
                                                                              asAgg x108 fun l110 => unc l110 fun x111 l112 => asI .i64 x111 fun n113 => unc l112 fun x114 l115 => asOs (5, 0) x114 fun l116 => unc l115 fun x117 l118 => asI .i64 x117 fun n119 => unc l118 fun x120 l121 => asI .i64 x120 fun n122 => unc l121 fun x123 l124 => asI .i64 x123 fun n125 => unc l124 fun x126 l127 => asI .i64 x126 fun n128 => unc l127 fun x129 l130 => asI .i64 x129 fun n131 => unc l130 fun x132 l133 => asI .i64 x132 fun n134 => unc l133 fun x135 l136 => asI .i64 x135 fun n137 => unc l136 fun x138 l139 => asOs (1, 0) x138 fun l140 => unc l139 fun x141 l142 => asOs (1, 0) x141 fun l143 => unn l142 (unn l109 (ocall V 26 [(.agg [(.rs (5, 0) l101), (.rs (4, 0) l104), (.rs (3, 0) l107)]), (.agg [(.int .i64 n113), (.rs (5, 0) l116), (.int .i64 n119), (.int .i64 n122), (.int .i64 n125), (.int .i64 n128), (.int .i64 n131), (.int .i64 n134), (.int .i64 n137), (.rs (1, 0) l140), (.rs (1, 0) l143)]), (.str a2_)] fun x144 l145 =>
                                                                                                      asTup x144 fun l146 => unc l146 fun x147 l148 => asAgg x147 fun l149 => unc l149 fun x150 l151 => asI .i64 x150 fun n152 => unc l151 fun x153 l154 => asOs (5, 0) x153 fun l155 => unc l154 fun x156 l157 => asI .i64 x156 fun n158 => unc l157 fun x159 l160 => asI .i64 x159 fun n161 => unc l160 fun x162 l163 => asI .i64 x162 fun n164 => unc l163 fun x165 l166 => asI .i64 x165 fun n167 => unc l166 fun x168 l169 => asI .i64 x168 fun n170 => unc l169 fun x171 l172 => asI .i64 x171 fun n173 => unc l172 fun x174 l175 => asI .i64 x174 fun n176 => unc l175 fun x177 l178 => asOs (1, 0) x177 fun l179 => unc l178 fun x180 l181 => asOs (1, 0) x180 fun l182 => unn l181 (unc l148 fun x183 l184 => asB x183 fun b185 => unn l184 (unn l145 (ocall V 18 [(.agg [(.int .i64 n152), (.rs (5, 0) l155), (.int .i64 n158), (.int .i64 n161), (.int .i64 n164), (.int .i64 n167), (.int .i64 n170), (.int .i64 n173), (.int .i64 n176), (.rs (1, 0) l179), (.rs (1, 0) l182)]), (.agg [(.int .i64 n62), (.rs (5, 0) l65), (.int .i64 n68), (.int .i64 n71), (.int .i64 n74), (.int .i64 n77), (.int .i64 n80), (.int .i64 n83), (.int .i64 n86), (.rs (1, 0) l89), (.rs (1, 0) l92)])] fun x186 l187 =>
                                                                                                                                  asB x186 fun b188 => unn l187 (br (!b188)
                                                                                                                                    (some ((.bool false), []))
                                                                                                                                    (br (!b185 == b95)
                                                                                                                                     (some ((.bool false), []))
                                                                                                                                     (ocall V 9 [(.agg [(.rs (5, 0) a0_0), (.rs (4, 0) a0_1), (.rs (3, 0) a0_2)])] fun x189 l190 =>
                                                                                                                                      asAgg x189 fun l191 => unc l191 fun x192 l193 => asOs (5, 0) x192 fun l194 => unc l193 fun x195 l196 => asOs (4, 0) x195 fun l197 => unc l196 fun x198 l199 => asOs (3, 0) x198 fun l200 => unn l199 (unn l190 (ocall V 12 [(.agg [(.rs (5, 0) l101), (.rs (4, 0) l104), (.rs (3, 0) l107)]), (.agg [(.rs (5, 0) l194), (.rs (4, 0) l197), (.rs (3, 0) l200)])] fun x201 l202 =>
                                                                                                                                              asB x201 fun b203 => unn l202 (br (!b203)
                                                                                                                                                (some ((.bool false), []))
                                                                                                                                                (ocall V 23 [(.agg [(.int .i64 a1_0), (.rs (5, 0) a1_1), (.int .i64 a1_2), (.int .i64 a1_3), (.int .i64 a1_4), (.int .i64 a1_5), (.int .i64 a1_6), (.int .i64 a1_7), (.int .i64 a1_8), (.rs (1, 0) a1_9), (.rs (1, 0) a1_10)])] fun x204 l205 =>
                                                                                                                                                 asAgg x204 fun l206 => unc l206 fun x207 l208 => asI .i64 x207 fun n209 => unc l208 fun x210 l211 => asOs (5, 0) x210 fun l212 => unc l211 fun x213 l214 => asI .i64 x213 fun n215 => unc l214 fun x216 l217 => asI .i64 x216 fun n218 => unc l217 fun x219 l220 => asI .i64 x219 fun n221 => unc l220 fun x222 l223 => asI .i64 x222 fun n224 => unc l223 fun x225 l226 => asI .i64 x225 fun n227 => unc l226 fun x228 l229 => asI .i64 x228 fun n230 => unc l229 fun x231 l232 => asI .i64 x231 fun n233 => unc l232 fun x234 l235 => asOs (1, 0) x234 fun l236 => unc l235 fun x237 l238 => asOs (1, 0) x237 fun l239 => unn l238 (unn l205 (ocall V 18 [(.agg [(.int .i64 n113), (.rs (5, 0) l116), (.int .i64 n119), (.int .i64 n122), (.int .i64 n125), (.int .i64 n128), (.int .i64 n131), (.int .i64 n134), (.int .i64 n137), (.rs (1, 0) l140), (.rs (1, 0) l143)]), (.agg [(.int .i64 n209), (.rs (5, 0) l212), (.int .i64 n215), (.int .i64 n218), (.int .i64 n221), (.int .i64 n224), (.int .i64 n227), (.int .i64 n230), (.int .i64 n233), (.rs (1, 0) l236), (.rs (1, 0) l239)])] fun x240 l241 =>
                                                                                                                                                                         asB x240 fun b242 => unn l241 (br (!b242)
                                                                                                                                                                           (some ((.bool false), []))
                                                                                                                                                                           (ocall V 13 [(.agg [(.os (5, 0) l101), (.os (4, 0) l104), (.os (3, 0) l107)]), (.int .i64 (1))] fun x243 l244 =>
                                                                                                                                                                            asI .i64 x243 fun n245 => unc l244 fun x246 l247 => asAgg x246 fun l248 => unc l248 fun x249 l250 => asOs (5, 0) x249 fun _ => unc l250 fun x252 l253 => asOs (4, 0) x252 fun _ => unc l253 fun x255 l256 => asOs (3, 0) x255 fun _ => unn l256 (unn l247 (ocall V 19 [(.agg [(.int .i64 n113), (.os (5, 0) l116), (.int .i64 n119), (.int .i64 n122), (.int .i64 n125), (.int .i64 n128), (.int .i64 n131), (.int .i64 n134), (.int .i64 n137), (.os (1, 0) l140), (.os (1, 0) l143)]), (.int .i64 n245)] fun x258 l259 =>
                                                                                                                                                                                      asI .i64 x258 fun n260 => unc l259 fun x261 l262 => asAgg x261 fun l263 => unc l263 fun x264 l265 => asI .i64 x264 fun _ => unc l265 fun x267 l268 => asOs (5, 0) x267 fun _ => unc l268 fun x270 l271 => asI .i64 x270 fun _ => unc l271 fun x273 l274 => asI .i64 x273 fun _ => unc l274 fun x276 l277 => asI .i64 x276 fun _ => unc l277 fun x279 l280 => asI .i64 x279 fun _ => unc l280 fun x282 l283 => asI .i64 x282 fun _ => unc l283 fun x285 l286 => asI .i64 x285 fun _ => unc l286 fun x288 l289 => asI .i64 x288 fun _ => unc l289 fun x291 l292 => asOs (1, 0) x291 fun _ => unc l292 fun x294 l295 => asOs (1, 0) x294 fun _ => unn l295 (unn l262 (br (decide (n260 < 0))
                                                                                                                                                                                                                (some ((.bool false), []))
                                                                                                                                                                                                                (ocall V 18 [(.agg [(.int .i64 n152), (.rs (5, 0) l155), (.int .i64 n158), (.int .i64 n161), (.int .i64 n164), (.int .i64 n167), (.int .i64 n170), (.int .i64 n173), (.int .i64 n176), (.rs (1, 0) l179), (.rs (1, 0) l182)]), (.agg [(.int .i64 n62), (.rs (5, 0) l65), (.int .i64 n68), (.int .i64 n71), (.int .i64 n74), (.int .i64 n77), (.int .i64 n80), (.int .i64 n83), (.int .i64 n86), (.rs (1, 0) l89), (.rs (1, 0) l92)])] fun x297 l298 =>
                                                                                                                                                                                                                 asB x297 fun b299 => unn l298 (br (!b299)
                                                                                                                                                                                                                   (some ((.bool false), []))
                                                                                                                                                                                                                   (br (!b185 == b95)
                                                                                                                                                                                                                    (some ((.bool false), []))
                                                                                                                                                                                                                    (ocall V 19 [(.agg [(.int .i64 n152), (.os (5, 0) l155), (.int .i64 n158), (.int .i64 n161), (.int .i64 n164), (.int .i64 n167), (.int .i64 n170), (.int .i64 n173), (.int .i64 n176), (.os (1, 0) l179), (.os (1, 0) l182)]), (.int .i64 (1))] fun x300 l301 =>
                                                                                                                                                                                                                     asI .i64 x300 fun n302 => unc l301 fun x303 l304 => asAgg x303 fun l305 => unc l305 fun x306 l307 => asI .i64 x306 fun _ => unc l307 fun x309 l310 => asOs (5, 0) x309 fun l311 => unc l310 fun x312 l313 => asI .i64 x312 fun _ => unc l313 fun x315 l316 => asI .i64 x315 fun _ => unc l316 fun x318 l319 => asI .i64 x318 fun _ => unc l319 fun x321 l322 => asI .i64 x321 fun _ => unc l322 fun x324 l325 => asI .i64 x324 fun _ => unc l325 fun x327 l328 => asI .i64 x327 fun _ => unc l328 fun x330 l331 => asI .i64 x330 fun _ => unc l331 fun x333 l334 => asOs (1, 0) x333 fun l335 => unc l334 fun x336 l337 => asOs (1, 0) x336 fun l338 => unn l337 (unn l304 (ocall V 20 [(.agg [(.int .i64 n152), (.rs (5, 0) l311), (.int .i64 n158), (.int .i64 n161), (.int .i64 n164), (.int .i64 n167), (.int .i64 n170), (.int .i64 n173), (.int .i64 n176), (.rs (1, 0) l335), (.rs (1, 0) l338)]), (.int .i64 (1))] fun x339 l340 =>
                                                                                                                                                                                                                                               asI .i64 x339 fun n341 => unn l340 (br (decide (n341 < 0))
                                                                                                                                                                                                                                                 (some ((.bool false), []))
                                                                                                                                                                                                                                                 (br (n341 != n302)
                                                                                                                                                                                                                                                  (some ((.bool false), []))
                                                                                                                                                                                                                                                  (ocall V 9 [(.agg [(.rs (5, 0) a0_0), (.rs (4, 0) a0_1), (.rs (3, 0) a0_2)])] fun x342 l343 =>
                                                                                                                                                                                                                                                   asAgg x342 fun l344 => unc l344 fun x345 l346 => asOs (5, 0) x345 fun l347 => unc l346 fun x348 l349 => asOs (4, 0) x348 fun l350 => unc l349 fun x351 l352 => asOs (3, 0) x351 fun l353 => unn l352 (unn l343 (ocall V 23 [(.agg [(.int .i64 a1_0), (.rs (5, 0) a1_1), (.int .i64 a1_2), (.int .i64 a1_3), (.int .i64 a1_4), (.int .i64 a1_5), (.int .i64 a1_6), (.int .i64 a1_7), (.int .i64 a1_8), (.rs (1, 0) a1_9), (.rs (1, 0) a1_10)])] fun x354 l355 =>
                                                                                                                                                                                                                                                           asAgg x354 fun l356 => unc l356 fun x357 l358 => asI .i64 x357 fun n359 => unc l358 fun x360 l361 => asOs (5, 0) x360 fun l362 => unc l361 fun x363 l364 => asI .i64 x363 fun n365 => unc l364 fun x366 l367 => asI .i64 x366 fun n368 => unc l367 fun x369 l370 => asI .i64 x369 fun n371 => unc l370 fun x372 l373 => asI .i64 x372 fun n374 => unc l373 fun x375 l376 => asI .i64 x375 fun n377 => unc l376 fun x378 l379 => asI .i64 x378 fun n380 => unc l379 fun x381 l382 => asI .i64 x381 fun n383 => unc l382 fun x384 l385 => asOs (1, 0) x384 fun l386 => unc l385 fun x387 l388 => asOs (1, 0) x387 fun l389 => unn l388 (unn l355 (ocall V 26 [(.agg [(.rs (5, 0) l347), (.rs (4, 0) l350), (.rs (3, 0) l353)]), (.agg [(.int .i64 n359), (.rs (5, 0) l362), (.int .i64 n365), (.int .i64 n368), (.int .i64 n371), (.int .i64 n374), (.int .i64 n377), (.int .i64 n380), (.int .i64 n383), (.rs (1, 0) l386), (.rs (1, 0) l389)]), (.str a2_)] fun x390 l391 =>
                                                                                                                                                                                                                                                                                   asTup x390 fun l392 => unc l392 fun x393 l394 => asAgg x393 fun l395 => unc l395 fun x396 l397 => asI .i64 x396 fun n398 => unc l397 fun x399 l400 => asOs (5, 0) x399 fun l401 => unc l400 fun x402 l403 => asI .i64 x402 fun n404 => unc l403 fun x405 l406 => asI .i64 x405 fun n407 => unc l406 fun x408 l409 => asI .i64 x408 fun n410 => unc l409 fun x411 l412 => asI .i64 x411 fun n413 => unc l412 fun x414 l415 => asI .i64 x414 fun n416 => unc l415 fun x417 l418 => asI .i64 x417 fun n419 => unc l418 fun x420 l421 => asI .i64 x420 fun n422 => unc l421 fun x423 l424 => asOs (1, 0) x423 fun l425 => unc l424 fun x426 l427 => asOs (1, 0) x426 fun l428 => unn l427 (unc l394 fun x429 l430 => asB x429 fun b431 => unn l430 (unn l391 (ocall V 18 [(.agg [(.int .i64 n398), (.rs (5, 0) l401), (.int .i64 n404), (.int .i64 n407), (.int .i64 n410), (.int .i64 n413), (.int .i64 n416), (.int .i64 n419), (.int .i64 n422), (.rs (1, 0) l425), (.rs (1, 0) l428)]), (.agg [(.int .i64 n62), (.rs (5, 0) l65), (.int .i64 n68), (.int .i64 n71), (.int .i64 n74), (.int .i64 n77), (.int .i64 n80), (.int .i64 n83), (.int .i64 n86), (.rs (1, 0) l89), (.rs (1, 0) l92)])] fun x432 l433 =>
                                                                                                                                                                                                                                                                                                               asB x432 fun b434 => unn l433 (br (!b434)
                                                                                                                                                                                                                                                                                                                 (some ((.bool false), []))
                                                                                                                                                                                                                                                                                                                 (br (!b431 == b95)
                                                                                                                                                                                                                                                                                                                  (some ((.bool false), []))
                                                                                                                                                                                                                                                                                                                  (ocall V 20 [(.agg [(.int .i64 n152), (.rs (5, 0) l311), (.int .i64 n158), (.int .i64 n161), (.int .i64 n164), (.int .i64 n167), (.int .i64 n170), (.int .i64 n173), (.int .i64 n176), (.rs (1, 0) l335), (.rs (1, 0) l338)]), (.int .i64 (1))] fun x435 l436 =>
                                                                                                                                                                                                                                                                                                                   asI .i64 x435 fun n437 => unn l436 (br (decide (n437 < 0))
                                                                                                                                                                                                                                                                                                                     (some ((.bool false), []))
                                                                                                                                                                                                                                                                                                                     (br (n437 != n302)
                                                                                                                                                                                                                                                                                                                      (some ((.bool false), []))
                                                                                                                                                                                                                                                                                                                      (some ((.bool true), []))))))))))))))))))))))))))))))))))))))))))))))))))))))))) := by
  exact (Vn_eq Tryz.func6 rfl _).trans (by kernel_rfl)
theorem eimpl_Tidy (a0_0 : List D) (a0_1 : Int) (a0_2 : Int) (a0_3 : Int) (a0_4 : Int) (a0_5 : Int) (a0_6 : Int) (a0_7 : Int) : V 79 [.agg [.rs (5, 0) a0_0, .int .i64 a0_1, .int .i64 a0_2, .int .i64 a0_3, .int .i64 a0_4, .int .i64 a0_5, .int .i64 a0_6, .int .i64 a0_7]] =
  br (a0_5 == 1)
   (grd (decide (ni 4 ≤ LIM)) (ocall V 111 [(.agg [(.rs (5, 0) a0_0)]), (.rs (1, 0) [(.int .i64 a0_2), (.int .i64 a0_3), (.int .i64 a0_4), (.int .i64 a0_7)])] fun x0 l1 =>
    asB x0 fun b2 => unn l1 (br (!b2)
      (ocall V 99 [(.agg [(.rs (5, 0) a0_0), (.int .i64 a0_1), (.int .i64 a0_2), (.int .i64 a0_3), (.int .i64 a0_4), (.int .i64 a0_5), (.int .i64 a0_6), (.int .i64 a0_7)])] fun x3 l4 =>
       asAgg x3 fun l5 => unc l5 fun x6 l7 => asOs (5, 0) x6 fun l8 => unc l7 fun x9 l10 => asI .i64 x9 fun n11 => unc l10 fun x12 l13 => asI .i64 x12 fun n14 => unc l13 fun x15 l16 => asI .i64 x15 fun n17 => unc l16 fun x18 l19 => asI .i64 x18 fun n20 => unc l19 fun x21 l22 => asI .i64 x21 fun n23 => unc l22 fun x24 l25 => asI .i64 x24 fun n26 => unc l25 fun x27 l28 => asI .i64 x27 fun n29 => unn l28 (unn l4 (some ((.agg [(.os (5, 0) l8), (.int .i64 n11), (.int .i64 n14), (.int .i64 n17), (.int .i64 n20), (.int .i64 n23), (.int .i64 n26), (.int .i64 n29)]), []))))
      (ocall V 112 [(.agg [(.rs (5, 0) a0_0)]), (.rs (1, 0) [(.int .i64 a0_2), (.int .i64 a0_3), (.int .i64 a0_4), (.int .i64 a0_7)])] fun x30 l31 =>
       asTup x30 fun l32 => unc l32 fun x33 l34 => asAgg x33 fun l35 => unc l35 fun x36 l37 => asOs (5, 0) x36 fun l38 => unn l37 (unc l34 fun x39 l40 => asOs (1, 0) x39 fun l41 => unn l40 (unn l31 (grd (decide (0 ≤ 0) && decide (0 < ni (List.length l41))) (oget l41 0 fun x42 =>
               asI .i64 x42 fun n43 => grd (decide (0 ≤ 1) && decide (1 < ni (List.length l41))) (oget l41 1 fun x44 =>
                 asI .i64 x44 fun n45 => grd (decide (0 ≤ 2) && decide (2 < ni (List.length l41))) (oget l41 2 fun x46 =>
                   asI .i64 x46 fun n47 => grd (decide (0 ≤ 3) && decide (3 < ni (List.length l41))) (oget l41 3 fun x48 =>
                     asI .i64 x48 fun n49 => some ((.agg [(.os (5, 0) l38), (.int .i64 a0_1), (.int .i64 n43), (.int .i64 n45), (.int .i64 n47), (.int .i64 a0_5), (.int .i64 a0_6), (.int .i64 n49)]), []))))))))))))
   (br (a0_5 == 2)
    (grd (decide (ni 4 ≤ LIM)) (ocall V 111 [(.agg [(.rs (5, 0) a0_0)]), (.rs (1, 0) [(.int .i64 a0_2), (.int .i64 a0_3), (.int .i64 a0_4), (.int .i64 a0_7)])] fun x50 l51 =>
     asB x50 fun b52 => unn l51 (br (!b52)
       (ocall V 99 [(.agg [(.rs (5, 0) a0_0), (.int .i64 a0_1), (.int .i64 a0_2), (.int .i64 a0_3), (.int .i64 a0_4), (.int .i64 a0_5), (.int .i64 a0_6), (.int .i64 a0_7)])] fun x53 l54 =>
        asAgg x53 fun l55 => unc l55 fun x56 l57 => asOs (5, 0) x56 fun l58 => unc l57 fun x59 l60 => asI .i64 x59 fun n61 => unc l60 fun x62 l63 => asI .i64 x62 fun n64 => unc l63 fun x65 l66 => asI .i64 x65 fun n67 => unc l66 fun x68 l69 => asI .i64 x68 fun n70 => unc l69 fun x71 l72 => asI .i64 x71 fun n73 => unc l72 fun x74 l75 => asI .i64 x74 fun n76 => unc l75 fun x77 l78 => asI .i64 x77 fun n79 => unn l78 (unn l54 (some ((.agg [(.os (5, 0) l58), (.int .i64 n61), (.int .i64 n64), (.int .i64 n67), (.int .i64 n70), (.int .i64 n73), (.int .i64 n76), (.int .i64 n79)]), []))))
       (ocall V 112 [(.agg [(.rs (5, 0) a0_0)]), (.rs (1, 0) [(.int .i64 a0_2), (.int .i64 a0_3), (.int .i64 a0_4), (.int .i64 a0_7)])] fun x80 l81 =>
        asTup x80 fun l82 => unc l82 fun x83 l84 => asAgg x83 fun l85 => unc l85 fun x86 l87 => asOs (5, 0) x86 fun l88 => unn l87 (unc l84 fun x89 l90 => asOs (1, 0) x89 fun l91 => unn l90 (unn l81 (grd (decide (0 ≤ 0) && decide (0 < ni (List.length l91))) (oget l91 0 fun x92 =>
                asI .i64 x92 fun n93 => grd (decide (0 ≤ 1) && decide (1 < ni (List.length l91))) (oget l91 1 fun x94 =>
                  asI .i64 x94 fun n95 => grd (decide (0 ≤ 2) && decide (2 < ni (List.length l91))) (oget l91 2 fun x96 =>
                    asI .i64 x96 fun n97 => br (a0_5 == 2)
                      (grd (decide (0 ≤ 3) && decide (3 < ni (List.length l91))) (oget l91 3 fun x98 =>
                       asI .i64 x98 fun n99 => some ((.agg [(.os (5, 0) l88), (.int .i64 a0_1), (.int .i64 n93), (.int .i64 n95), (.int .i64 n97), (.int .i64 a0_5), (.int .i64 a0_6), (.int .i64 n99)]), [])))
                      (some ((.agg [(.os (5, 0) l88), (.int .i64 a0_1), (.int .i64 n93), (.int .i64 n95), (.int .i64 n97), (.int .i64 a0_5), (.int .i64 a0_6), (.int .i64 a0_7)]), []))))))))))))
    (ocall V 111 [(.agg [(.rs (5, 0) a0_0)]), (.rs (1, 0) [(.int .i64 a0_2), (.int .i64 a0_3), (.int .i64 a0_4)])] fun x100 l101 =>
     asB x100 fun b102 => unn l101 (br (!b102)
       (ocall V 99 [(.agg [(.rs (5, 0) a0_0), (.int .i64 a0_1), (.int .i64 a0_2), (.int .i64 a0_3), (.int .i64 a0_4), (.int .i64 a0_5), (.int .i64 a0_6), (.int .i64 a0_7)])] fun x103 l104 =>
        asAgg x103 fun l105 => unc l105 fun x106 l107 => asOs (5, 0) x106 fun l108 => unc l107 fun x109 l110 => asI .i64 x109 fun n111 => unc l110 fun x112 l113 => asI .i64 x112 fun n114 => unc l113 fun x115 l116 => asI .i64 x115 fun n117 => unc l116 fun x118 l119 => asI .i64 x118 fun n120 => unc l119 fun x121 l122 => asI .i64 x121 fun n123 => unc l122 fun x124 l125 => asI .i64 x124 fun n126 => unc l125 fun x127 l128 => asI .i64 x127 fun n129 => unn l128 (unn l104 (some ((.agg [(.os (5, 0) l108), (.int .i64 n111), (.int .i64 n114), (.int .i64 n117), (.int .i64 n120), (.int .i64 n123), (.int .i64 n126), (.int .i64 n129)]), []))))
       (ocall V 112 [(.agg [(.rs (5, 0) a0_0)]), (.rs (1, 0) [(.int .i64 a0_2), (.int .i64 a0_3), (.int .i64 a0_4)])] fun x130 l131 =>
        asTup x130 fun l132 => unc l132 fun x133 l134 => asAgg x133 fun l135 => unc l135 fun x136 l137 => asOs (5, 0) x136 fun l138 => unn l137 (unc l134 fun x139 l140 => asOs (1, 0) x139 fun l141 => unn l140 (unn l131 (grd (decide (0 ≤ 0) && decide (0 < ni (List.length l141))) (oget l141 0 fun x142 =>
                asI .i64 x142 fun n143 => grd (decide (0 ≤ 1) && decide (1 < ni (List.length l141))) (oget l141 1 fun x144 =>
                  asI .i64 x144 fun n145 => grd (decide (0 ≤ 2) && decide (2 < ni (List.length l141))) (oget l141 2 fun x146 =>
                    asI .i64 x146 fun n147 => br (a0_5 == 2)
                      (grd (decide (0 ≤ 3) && decide (3 < ni (List.length l141))) (oget l141 3 fun x148 =>
                       asI .i64 x148 fun n149 => some ((.agg [(.os (5, 0) l138), (.int .i64 a0_1), (.int .i64 n143), (.int .i64 n145), (.int .i64 n147), (.int .i64 a0_5), (.int .i64 a0_6), (.int .i64 n149)]), [])))
                      (some ((.agg [(.os (5, 0) l138), (.int .i64 a0_1), (.int .i64 n143), (.int .i64 n145), (.int .i64 n147), (.int .i64 a0_5), (.int .i64 a0_6), (.int .i64 a0_7)]), [])))))))))))) := by
  exact (Vn_eq Tryz.func79 rfl _).trans (by kernel_rfl)
theorem eimpl_nodeOk (a0_0 : Int) (a0_1 : Int) (a0_2 : ByteArray) (a0_3 : Int) (a0_4 : Int) (a1_ : Int) : V 128 [.agg [.int .i64 a0_0, .int .i64 a0_1, .str a0_2, .int .i64 a0_3, .int .i64 a0_4], .int .i64 a1_] =
  br (a0_0 == 1)
   (ocall V 93 [(.int .i64 a0_1), (.int .i64 (0)), (.int .i64 (0))] fun x0 l1 =>
    asB x0 fun b2 => unn l1 (br b2
      (br (strEq a0_2 { data := #[] })
       (br (a0_3 == 0)
        (some ((.bool (a0_4 == 0)), []))
        (some ((.bool false), [])))
       (some ((.bool false), [])))
      (some ((.bool false), []))))
   (br (a0_0 == 2)
    (ocall V 93 [(.int .i64 a0_1), (.int .i64 (0)), (.int .i64 (1))] fun x3 l4 =>
     asB x3 fun b5 => unn l4 (br b5
       (br (strEq a0_2 { data := #[] })
        (br (a0_3 == 0)
         (some ((.bool (a0_4 == 0)), []))
         (some ((.bool false), [])))
        (some ((.bool false), [])))
       (some ((.bool false), []))))
    (br (a0_0 == 3)
     (ocall V 93 [(.int .i64 a0_1), (.int .i64 (-1000000000)), (.int .i64 (1000000000))] fun x6 l7 =>
      asB x6 fun b8 => unn l7 (br b8
        (br (strEq a0_2 { data := #[] })
         (br (a0_3 == 0)
          (some ((.bool (a0_4 == 0)), []))
          (some ((.bool false), [])))
         (some ((.bool false), [])))
        (some ((.bool false), []))))
     (br (a0_0 == 4)
      (ocall V 120 [(.str a0_2)] fun x9 l10 =>
       asB x9 fun b11 => unn l10 (ocall V 93 [(.int .i64 a0_1), (.int .i64 (0)), (.int .i64 (0))] fun x12 l13 =>
         asB x12 fun b14 => unn l13 (br b14
           (br b11
            (br (a0_3 == 0)
             (some ((.bool (a0_4 == 0)), []))
             (some ((.bool false), [])))
            (some ((.bool false), [])))
           (some ((.bool false), [])))))
      (br (a0_0 == 5)
       (ocall V 93 [(.int .i64 a0_3), (.int .i64 (0)), (.int .i64 (IntKind.wrap IntKind.i64 (a1_ - 1)))] fun x15 l16 =>
        asB x15 fun b17 => unn l16 (ocall V 93 [(.int .i64 a0_4), (.int .i64 (0)), (.int .i64 (IntKind.wrap IntKind.i64 (a1_ - 1)))] fun x18 l19 =>
          asB x18 fun b20 => unn l19 (ocall V 93 [(.int .i64 a0_1), (.int .i64 (0)), (.int .i64 (0))] fun x21 l22 =>
            asB x21 fun b23 => unn l22 (br b23
              (br (strEq a0_2 { data := #[] })
               (br b17
                (some ((.bool b20), []))
                (some ((.bool false), [])))
               (some ((.bool false), [])))
              (some ((.bool false), []))))))
       (br (a0_0 == 6)
        (ocall V 93 [(.int .i64 a0_3), (.int .i64 (0)), (.int .i64 (IntKind.wrap IntKind.i64 (a1_ - 1)))] fun x24 l25 =>
         asB x24 fun b26 => unn l25 (ocall V 93 [(.int .i64 a0_1), (.int .i64 (0)), (.int .i64 (1000000000))] fun x27 l28 =>
           asB x27 fun b29 => unn l28 (br b29
             (br (strEq a0_2 { data := #[] })
              (br b26
               (some ((.bool (a0_4 == 0)), []))
               (some ((.bool false), [])))
              (some ((.bool false), [])))
             (some ((.bool false), [])))))
        (br (a0_0 == 7)
         (ocall V 93 [(.int .i64 a0_3), (.int .i64 (0)), (.int .i64 (IntKind.wrap IntKind.i64 (a1_ - 1)))] fun x30 l31 =>
          asB x30 fun b32 => unn l31 (ocall V 93 [(.int .i64 a0_1), (.int .i64 (0)), (.int .i64 (0))] fun x33 l34 =>
            asB x33 fun b35 => unn l34 (br b35
              (br (strEq a0_2 { data := #[] })
               (br b32
                (some ((.bool (a0_4 == 0)), []))
                (some ((.bool false), [])))
               (some ((.bool false), [])))
              (some ((.bool false), [])))))
         (br (a0_0 == 8)
          (ocall V 93 [(.int .i64 a0_1), (.int .i64 (0)), (.int .i64 (99))] fun x36 l37 =>
           asB x36 fun b38 => unn l37 (br b38
             (br (strEq a0_2 { data := #[] })
              (br (a0_3 == 0)
               (some ((.bool (a0_4 == 0)), []))
               (some ((.bool false), [])))
              (some ((.bool false), [])))
             (some ((.bool false), []))))
          (br (a0_0 == 9)
           (ocall V 93 [(.int .i64 a0_1), (.int .i64 (0)), (.int .i64 (1000000000))] fun x39 l40 =>
            asB x39 fun b41 => unn l40 (br b41
              (br (strEq a0_2 { data := #[] })
               (br (a0_3 == 0)
                (some ((.bool (a0_4 == 0)), []))
                (some ((.bool false), [])))
               (some ((.bool false), [])))
              (some ((.bool false), []))))
           (some ((.bool false), [])))))))))) := by
  exact (Vn_eq Tryz.func128 rfl _).trans (by kernel_rfl)
theorem espec_MachineOk (a0_0 : List D) (a0_1 : List D) (a0_2 : List D) (a1_0 : List D) (a1_1 : Int) (a1_2 : Int) (a1_3 : Int) (a1_4 : Int) (a1_5 : Int) (a1_6 : Int) (a1_7 : Int) : V 70 [.agg [.rs (5, 0) a0_0, .rs (4, 0) a0_1, .rs (3, 0) a0_2], .agg [.rs (5, 0) a1_0, .int .i64 a1_1, .int .i64 a1_2, .int .i64 a1_3, .int .i64 a1_4, .int .i64 a1_5, .int .i64 a1_6, .int .i64 a1_7]] =
  ocall V 88 [(.agg [(.rs (5, 0) a0_0), (.rs (4, 0) a0_1), (.rs (3, 0) a0_2)])] fun x0 l1 =>
   asB x0 fun b2 => unn l1 (br (!b2)
     (some ((.bool false), []))
     (ocall V 69 [(.agg [(.rs (5, 0) a1_0)])] fun x3 l4 =>
      asB x3 fun b5 => unn l4 (br (!b5)
        (some ((.bool false), []))
        (ocall V 103 [(.agg [(.rs (5, 0) a1_0)]), (.int .i64 a1_2)] fun x6 l7 =>
         asB x6 fun b8 => unn l7 (br (!b8)
           (some ((.bool false), []))
           (ocall V 103 [(.agg [(.rs (5, 0) a1_0)]), (.int .i64 a1_3)] fun x9 l10 =>
            asB x9 fun b11 => unn l10 (br (!b11)
              (some ((.bool false), []))
              (ocall V 103 [(.agg [(.rs (5, 0) a1_0)]), (.int .i64 a1_4)] fun x12 l13 =>
               asB x12 fun b14 => unn l13 (br (!b14)
                 (some ((.bool false), []))
                 (ocall V 89 [(.int .i64 a1_1), (.int .i64 (0)), (.int .i64 (IntKind.wrap IntKind.i64 (ni (List.length a0_1) - 1)))] fun x15 l16 =>
                  asB x15 fun b17 => unn l16 (br (a1_5 == 0)
                    (br b17
                     (br (a1_6 == 0)
                      (some ((.bool (a1_7 == 0)), []))
                      (some ((.bool false), [])))
                     (some ((.bool false), [])))
                    (br (a1_5 == 1)
                     (br b17
                      (ocall V 89 [(.int .i64 a1_6), (.int .i64 (13)), (.int .i64 (19))] fun x18 l19 =>
                       asB x18 fun b20 => unn l19 (br b20
                         (br (a1_6 != 18)
                          (ocall V 103 [(.agg [(.rs (5, 0) a1_0)]), (.int .i64 a1_7)] fun x21 l22 =>
                           asB x21 fun b23 => unn l22 (some ((.bool b23), [])))
                          (some ((.bool false), [])))
                         (some ((.bool false), []))))
                      (some ((.bool false), [])))
                     (br (a1_5 == 2)
                      (br (a1_1 == 0)
                       (br (a1_6 == 0)
                        (ocall V 103 [(.agg [(.rs (5, 0) a1_0)]), (.int .i64 a1_7)] fun x24 l25 =>
                         asB x24 fun b26 => unn l25 (some ((.bool b26), [])))
                        (some ((.bool false), [])))
                       (some ((.bool false), [])))
                      (br (a1_5 == 3)
                       (br (a1_1 == 0)
                        (ocall V 89 [(.int .i64 a1_6), (.int .i64 (1)), (.int .i64 (7))] fun x27 l28 =>
                         asB x27 fun b29 => unn l28 (br b29
                           (some ((.bool (a1_7 == 0)), []))
                           (some ((.bool false), []))))
                        (some ((.bool false), [])))
                       (some ((.bool false), [])))))))))))))))) := by
  exact (Vn_eq Tryz.func70 rfl _).trans (by kernel_rfl)
theorem espec_ProcPack (a0_0 : List D) (a0_1 : List D) (a0_2 : List D) (a1_0 : Int) (a1_1 : List D) (a1_2 : Int) (a1_3 : Int) (a1_4 : Int) (a1_5 : Int) (a1_6 : Int) (a1_7 : Int) (a1_8 : Int) (a1_9 : List D) (a1_10 : List D) : V 22 [.agg [.rs (5, 0) a0_0, .rs (4, 0) a0_1, .rs (3, 0) a0_2], .agg [.int .i64 a1_0, .rs (5, 0) a1_1, .int .i64 a1_2, .int .i64 a1_3, .int .i64 a1_4, .int .i64 a1_5, .int .i64 a1_6, .int .i64 a1_7, .int .i64 a1_8, .rs (1, 0) a1_9, .rs (1, 0) a1_10]] =
  ocall V 47 [(.agg [(.rs (5, 0) a0_0), (.rs (4, 0) a0_1), (.rs (3, 0) a0_2)]), (.agg [(.int .i64 a1_0), (.rs (5, 0) a1_1), (.int .i64 a1_2), (.int .i64 a1_3), (.int .i64 a1_4), (.int .i64 a1_5), (.int .i64 a1_6), (.int .i64 a1_7), (.int .i64 a1_8), (.rs (1, 0) a1_9), (.rs (1, 0) a1_10)])] fun x0 l1 =>
   asB x0 fun b2 => unn l1 (br (!b2)
     (some ((.tup [(.str ({ data := #[] })), (.bool false)]), []))
     (ocall V 32 [(.agg [(.rs (5, 0) a0_0), (.rs (4, 0) a0_1), (.rs (3, 0) a0_2)]), (.agg [(.rs (5, 0) a1_1), (.int .i64 a1_2), (.int .i64 a1_3), (.int .i64 a1_4), (.int .i64 a1_5), (.int .i64 a1_6), (.int .i64 a1_7), (.int .i64 a1_8)])] fun x3 l4 =>
      asTup x3 fun l5 => unc l5 fun x6 l7 => asS x6 fun s8 => unc l7 fun x9 l10 => asB x9 fun _ => unn l10 (unn l4 (ocall V 55 [(.int .i64 a1_0)] fun x12 l13 =>
            asOs (1, 0) x12 fun l14 => unn l13 (ocall V 56 [(.str s8)] fun x15 l16 =>
              asOs (1, 0) x15 fun l17 => unn l16 (grd (decide (ni (List.length (l14 ++ l17)) ≤ LIM)) (nam (l14 ++ l17) fun l18 =>
                ocall V 57 [(.rs (1, 0) a1_9)] fun x19 l20 =>
                 asOs (1, 0) x19 fun l21 => unn l20 (grd (decide (ni (List.length (l18 ++ l21)) ≤ LIM)) (nam (l18 ++ l21) fun l22 =>
                   ocall V 57 [(.rs (1, 0) a1_10)] fun x23 l24 =>
                    asOs (1, 0) x23 fun l25 => unn l24 (grd (decide (ni (List.length (l22 ++ l25)) ≤ LIM)) (nam (l22 ++ l25) fun l26 =>
                      obytes l26 fun s27 => some ((.tup [(.str s27), (.bool true)]), [])))))))))))) := by
  exact (Vn_eq Tryz.func22 rfl _).trans (by kernel_rfl)
theorem espec_MachinePack (a0_0 : List D) (a0_1 : List D) (a0_2 : List D) (a1_0 : List D) (a1_1 : Int) (a1_2 : Int) (a1_3 : Int) (a1_4 : Int) (a1_5 : Int) (a1_6 : Int) (a1_7 : Int) : V 32 [.agg [.rs (5, 0) a0_0, .rs (4, 0) a0_1, .rs (3, 0) a0_2], .agg [.rs (5, 0) a1_0, .int .i64 a1_1, .int .i64 a1_2, .int .i64 a1_3, .int .i64 a1_4, .int .i64 a1_5, .int .i64 a1_6, .int .i64 a1_7]] =
  ocall V 70 [(.agg [(.rs (5, 0) a0_0), (.rs (4, 0) a0_1), (.rs (3, 0) a0_2)]), (.agg [(.rs (5, 0) a1_0), (.int .i64 a1_1), (.int .i64 a1_2), (.int .i64 a1_3), (.int .i64 a1_4), (.int .i64 a1_5), (.int .i64 a1_6), (.int .i64 a1_7)])] fun x0 l1 =>
   asB x0 fun b2 => unn l1 (br (!b2)
     (some ((.tup [(.str ({ data := #[] })), (.bool false)]), []))
     (ocall V 71 [(.agg [(.rs (5, 0) a1_0), (.int .i64 a1_1), (.int .i64 a1_2), (.int .i64 a1_3), (.int .i64 a1_4), (.int .i64 a1_5), (.int .i64 a1_6), (.int .i64 a1_7)])] fun x3 l4 =>
      asAgg x3 fun l5 => unc l5 fun x6 l7 => asOs (5, 0) x6 fun l8 => unc l7 fun x9 l10 => asI .i64 x9 fun n11 => unc l10 fun x12 l13 => asI .i64 x12 fun n14 => unc l13 fun x15 l16 => asI .i64 x15 fun n17 => unc l16 fun x18 l19 => asI .i64 x18 fun n20 => unc l19 fun x21 l22 => asI .i64 x21 fun n23 => unc l22 fun x24 l25 => asI .i64 x24 fun n26 => unc l25 fun x27 l28 => asI .i64 x27 fun n29 => unn l28 (unn l4 (Lspec_MachinePack_7 (0) n11 n14 n17 n20 n23 n26 n29 [] ([D.int IntKind.i64 n11, D.int IntKind.i64 n23, D.int IntKind.i64 n26, D.int IntKind.i64 n14, D.int IntKind.i64 n17, D.int IntKind.i64 n20, D.int IntKind.i64 n29]) l8)))) := by
  exact (Vn_eq Tryz.func32 rfl _).trans (by kernel_rfl)
theorem eimpl_copyProc (a0_0 : Int) (a0_1 : List D) (a0_2 : Int) (a0_3 : Int) (a0_4 : Int) (a0_5 : Int) (a0_6 : Int) (a0_7 : Int) (a0_8 : Int) (a0_9 : List D) (a0_10 : List D) : V 63 [.agg [.int .i64 a0_0, .rs (5, 0) a0_1, .int .i64 a0_2, .int .i64 a0_3, .int .i64 a0_4, .int .i64 a0_5, .int .i64 a0_6, .int .i64 a0_7, .int .i64 a0_8, .rs (1, 0) a0_9, .rs (1, 0) a0_10]] =
  ocall V 99 [(.agg [(.rs (5, 0) a0_1), (.int .i64 a0_2), (.int .i64 a0_3), (.int .i64 a0_4), (.int .i64 a0_5), (.int .i64 a0_6), (.int .i64 a0_7), (.int .i64 a0_8)])] fun x0 l1 =>
   asAgg x0 fun l2 => unc l2 fun x3 l4 => asOs (5, 0) x3 fun l5 => unc l4 fun x6 l7 => asI .i64 x6 fun n8 => unc l7 fun x9 l10 => asI .i64 x9 fun n11 => unc l10 fun x12 l13 => asI .i64 x12 fun n14 => unc l13 fun x15 l16 => asI .i64 x15 fun n17 => unc l16 fun x18 l19 => asI .i64 x18 fun n20 => unc l19 fun x21 l22 => asI .i64 x21 fun n23 => unc l22 fun x24 l25 => asI .i64 x24 fun n26 => unn l25 (unn l1 (ocall V 100 [(.rs (1, 0) a0_9)] fun x27 l28 =>
                     asOs (1, 0) x27 fun l29 => unn l28 (ocall V 100 [(.rs (1, 0) a0_10)] fun x30 l31 =>
                       asOs (1, 0) x30 fun l32 => unn l31 (some ((.agg [(.int .i64 a0_0), (.os (5, 0) l5), (.int .i64 n8), (.int .i64 n11), (.int .i64 n14), (.int .i64 n17), (.int .i64 n20), (.int .i64 n23), (.int .i64 n26), (.os (1, 0) l29), (.os (1, 0) l32)]), []))))) := by
  exact (Vn_eq Tryz.func63 rfl _).trans (by kernel_rfl)
theorem Llaws_eqNodeS_4_eq (p0 : List D) (p1 : List D) (p2 : Int) : Llaws_eqNodeS_4 p0 p1 p2 =
  br (decide (p2 < ni (List.length p0)))
   (grd (decide (0 ≤ p2) && decide (p2 < ni (List.length p0))) (oget p0 (Int.toNat p2) fun x0 =>
    asAgg x0 fun l1 => unc l1 fun x2 l3 => asI .i64 x2 fun n4 => unc l3 fun x5 l6 => asI .i64 x5 fun n7 => unc l6 fun x8 l9 => asS x8 fun s10 => unc l9 fun x11 l12 => asI .i64 x11 fun n13 => unc l12 fun x14 l15 => asI .i64 x14 fun n16 => unn l15 (grd (decide (0 ≤ p2) && decide (p2 < ni (List.length p1))) (oget p1 (Int.toNat p2) fun x17 =>
                asAgg x17 fun l18 => unc l18 fun x19 l20 => asI .i64 x19 fun n21 => unc l20 fun x22 l23 => asI .i64 x22 fun n24 => unc l23 fun x25 l26 => asS x25 fun s27 => unc l26 fun x28 l29 => asI .i64 x28 fun n30 => unc l29 fun x31 l32 => asI .i64 x31 fun n33 => unn l32 (ocall V 113 [(.agg [(.int .i64 n4), (.int .i64 n7), (.str s10), (.int .i64 n13), (.int .i64 n16)]), (.agg [(.int .i64 n21), (.int .i64 n24), (.str s27), (.int .i64 n30), (.int .i64 n33)])] fun x34 l35 =>
                            asB x34 fun b36 => unn l35 (br (!b36)
                              (some ((.bool false), []))
                              (Llaws_eqNodeS_4 p0 p1 (IntKind.wrap IntKind.i64 (p2 + 1)))))))))
   (some ((.bool true), [])) := by
  exact (Rn_eq _ _ _).trans (by kernel_rfl)
theorem Llaws_toNodeS_3_eq (p0 : List D) (p1 : Int) (p2 : List D) : Llaws_toNodeS_3 p0 p1 p2 =
  br (decide (p1 < ni (List.length p0)))
   (grd (decide (0 ≤ p1) && decide (p1 < ni (List.length p0))) (oget p0 (Int.toNat p1) fun x0 =>
    asAgg x0 fun l1 => unc l1 fun x2 l3 => asI .i64 x2 fun n4 => unc l3 fun x5 l6 => asI .i64 x5 fun n7 => unc l6 fun x8 l9 => asS x8 fun s10 => unc l9 fun x11 l12 => asI .i64 x11 fun n13 => unc l12 fun x14 l15 => asI .i64 x14 fun n16 => unn l15 (ocall V 106 [(.agg [(.int .i64 n4), (.int .i64 n7), (.str s10), (.int .i64 n13), (.int .i64 n16)])] fun x17 l18 =>
                asAgg x17 fun l19 => unc l19 fun x20 l21 => asI .i64 x20 fun n22 => unc l21 fun x23 l24 => asI .i64 x23 fun n25 => unc l24 fun x26 l27 => asS x26 fun s28 => unc l27 fun x29 l30 => asI .i64 x29 fun n31 => unc l30 fun x32 l33 => asI .i64 x32 fun n34 => unn l33 (unn l18 (grd (decide (0 ≤ p1) && decide (p1 < ni (List.length p2))) (oget p2 (Int.toNat p1) fun _ =>
                            nam (List.set p2 (Int.toNat p1) (D.agg [D.int IntKind.i64 n22, D.int IntKind.i64 n25, D.str s28, D.int IntKind.i64 n31, D.int IntKind.i64 n34])) fun l36 =>
                             Llaws_toNodeS_3 p0 (IntKind.wrap IntKind.i64 (p1 + 1)) l36))))))
   (some ((.os (5, 0) p2), [])) := by
  exact (Rn_eq _ _ _).trans (by kernel_rfl)
theorem elaws_heldProc (a0_0 : Int) (a0_1 : List D) (a0_2 : Int) (a0_3 : Int) (a0_4 : Int) (a0_5 : Int) (a0_6 : Int) (a0_7 : Int) (a0_8 : Int) (a0_9 : List D) (a0_10 : List D) (a1_ : Int) : V 20 [.agg [.int .i64 a0_0, .rs (5, 0) a0_1, .int .i64 a0_2, .int .i64 a0_3, .int .i64 a0_4, .int .i64 a0_5, .int .i64 a0_6, .int .i64 a0_7, .int .i64 a0_8, .rs (1, 0) a0_9, .rs (1, 0) a0_10], .int .i64 a1_] =
  ocall V 15 [(.agg [(.rs (5, 0) a0_1), (.int .i64 a0_2), (.int .i64 a0_3), (.int .i64 a0_4), (.int .i64 a0_5), (.int .i64 a0_6), (.int .i64 a0_7), (.int .i64 a0_8)]), (.int .i64 a1_)] fun x0 l1 =>
   asI .i64 x0 fun n2 => unn l1 (br (decide (n2 < 0))
     (some ((.int .i64 (-1)), []))
     (ocall V 52 [(.rs (1, 0) a0_9), (.int .i64 n2)] fun x3 l4 =>
      asI .i64 x3 fun n5 => unn l4 (br (decide (n5 < 0))
        (some ((.int .i64 (-1)), []))
        (ocall V 52 [(.rs (1, 0) a0_10), (.int .i64 n5)] fun x6 l7 =>
         asI .i64 x6 fun n8 => unn l7 (br (decide (n8 < 0))
           (some ((.int .i64 (-1)), []))
           (some ((.int .i64 n8), []))))))) := by
  exact (Vn_eq Tryz.func20 rfl _).trans (by kernel_rfl)
theorem elaws_szProc (a0_0 : Int) (a0_1 : List D) (a0_2 : Int) (a0_3 : Int) (a0_4 : Int) (a0_5 : Int) (a0_6 : Int) (a0_7 : Int) (a0_8 : Int) (a0_9 : List D) (a0_10 : List D) (a1_ : Int) : V 21 [.agg [.int .i64 a0_0, .rs (5, 0) a0_1, .int .i64 a0_2, .int .i64 a0_3, .int .i64 a0_4, .int .i64 a0_5, .int .i64 a0_6, .int .i64 a0_7, .int .i64 a0_8, .rs (1, 0) a0_9, .rs (1, 0) a0_10], .int .i64 a1_] =
  ocall V 53 [(.agg [(.rs (5, 0) a0_1), (.int .i64 a0_2), (.int .i64 a0_3), (.int .i64 a0_4), (.int .i64 a0_5), (.int .i64 a0_6), (.int .i64 a0_7), (.int .i64 a0_8)]), (.int .i64 a1_)] fun x0 l1 =>
   asI .i64 x0 fun n2 => unn l1 (br (decide (n2 < 0))
     (some ((.int .i64 (-1)), []))
     (ocall V 54 [(.rs (1, 0) a0_9), (.int .i64 n2)] fun x3 l4 =>
      asI .i64 x3 fun n5 => unn l4 (br (decide (n5 < 0))
        (some ((.int .i64 (-1)), []))
        (ocall V 54 [(.rs (1, 0) a0_10), (.int .i64 n5)] fun x6 l7 =>
         asI .i64 x6 fun n8 => unn l7 (br (decide (n8 < 0))
           (some ((.int .i64 (-1)), []))
           (some ((.int .i64 n8), []))))))) := by
  exact (Vn_eq Tryz.func21 rfl _).trans (by kernel_rfl)
theorem espec_ValuePack (a0_0 : List D) (a1_ : Int) : V 116 [.agg [.rs (5, 0) a0_0], .int .i64 a1_] =
  ocall V 69 [(.agg [(.rs (5, 0) a0_0)])] fun x0 l1 =>
   asB x0 fun b2 => unn l1 (br (!b2)
     (some ((.tup [(.str ({ data := #[] })), (.bool false)]), []))
     (ocall V 103 [(.agg [(.rs (5, 0) a0_0)]), (.int .i64 a1_)] fun x3 l4 =>
      asB x3 fun b5 => unn l4 (br (!b5)
        (some ((.tup [(.str ({ data := #[] })), (.bool false)]), []))
        (ocall V 105 [(.agg [(.rs (5, 0) a0_0)]), (.rs (1, 0) [(.int .i64 a1_)])] fun x6 l7 =>
         asTup x6 fun l8 => unc l8 fun x9 l10 => asAgg x9 fun l11 => unc l11 fun x12 l13 => asOs (5, 0) x12 fun l14 => unn l13 (unc l10 fun x15 l16 => asOs (1, 0) x15 fun _ => unn l16 (unn l7 (ocall V 72 [(.agg [(.rs (5, 0) l14)])] fun x18 l19 =>
                 asOs (1, 0) x18 fun l20 => unn l19 (obytes l20 fun s21 => some ((.tup [(.str s21), (.bool true)]), []))))))))) := by
  exact (Vn_eq Tryz.func116 rfl _).trans (by kernel_rfl)
theorem elaws_markCode (a0_0 : List D) (a0_1 : List D) (a0_2 : List D) (a1_ : Int) : V 13 [.agg [.os (5, 0) a0_0, .os (4, 0) a0_1, .os (3, 0) a0_2], .int .i64 a1_] =
  ocall V 42 [(.agg [(.os (5, 0) a0_0)]), (.int .i64 a1_)] fun x0 l1 =>
   asI .i64 x0 fun n2 => unc l1 fun x3 l4 => asAgg x3 fun l5 => unc l5 fun x6 l7 => asOs (5, 0) x6 fun l8 => unn l7 (unn l4 (ocall V 43 [(.os (4, 0) a0_1), (.int .i64 n2)] fun x9 l10 =>
         asI .i64 x9 fun n11 => unc l10 fun x12 l13 => asOs (4, 0) x12 fun l14 => unn l13 (ocall V 44 [(.os (3, 0) a0_2), (.int .i64 n11)] fun x15 l16 =>
             asI .i64 x15 fun n17 => unc l16 fun x18 l19 => asOs (3, 0) x18 fun l20 => unn l19 (some ((.int .i64 n17), [(.agg [(.os (5, 0) l8), (.os (4, 0) l14), (.os (3, 0) l20)])]))))) := by
  exact (Vn_eq Tryz.func13 rfl _).trans (by kernel_rfl)
theorem Llaws_szInstrS_5_eq (p0 : List D) (p1 : Int) (p2 : Int) : Llaws_szInstrS_5 p0 p1 p2 =
  br (decide (p2 < ni (List.length p0)))
   (grd (decide (0 ≤ p2) && decide (p2 < ni (List.length p0))) (oget p0 (Int.toNat p2) fun x0 =>
    asAgg x0 fun l1 => unc l1 fun x2 l3 => asI .i64 x2 fun n4 => unc l3 fun x5 l6 => asI .i64 x5 fun n7 => unc l6 fun x8 l9 => asI .i64 x8 fun n10 => unc l9 fun x11 l12 => asS x11 fun s13 => unn l12 (ocall V 65 [(.agg [(.int .i64 n4), (.int .i64 n7), (.int .i64 n10), (.str s13)]), (.int .i64 p1)] fun x14 l15 =>
              asI .i64 x14 fun n16 => unn l15 (br (decide (n16 < 0))
                (some ((.int .i64 (-1)), []))
                (Llaws_szInstrS_5 p0 n16 (IntKind.wrap IntKind.i64 (p2 + 1)))))))
   (some ((.int .i64 p1), [])) := by
  exact (Rn_eq _ _ _).trans (by kernel_rfl)
theorem elaws_markMachine (a0_0 : List D) (a0_1 : Int) (a0_2 : Int) (a0_3 : Int) (a0_4 : Int) (a0_5 : Int) (a0_6 : Int) (a0_7 : Int) (a1_ : Int) : V 14 [.agg [.os (5, 0) a0_0, .int .i64 a0_1, .int .i64 a0_2, .int .i64 a0_3, .int .i64 a0_4, .int .i64 a0_5, .int .i64 a0_6, .int .i64 a0_7], .int .i64 a1_] =
  ocall V 42 [(.agg [(.os (5, 0) a0_0)]), (.int .i64 a1_)] fun x0 l1 =>
   asI .i64 x0 fun n2 => unc l1 fun x3 l4 => asAgg x3 fun l5 => unc l5 fun x6 l7 => asOs (5, 0) x6 fun l8 => unn l7 (unn l4 (some ((.int .i64 n2), [(.agg [(.os (5, 0) l8), (.int .i64 a0_1), (.int .i64 a0_2), (.int .i64 a0_3), (.int .i64 a0_4), (.int .i64 a0_5), (.int .i64 a0_6), (.int .i64 a0_7)])]))) := by
  exact (Vn_eq Tryz.func14 rfl _).trans (by kernel_rfl)
theorem Lspec_ProcOk_10_eq (p0 : Int) (p1 : Int) (p2 : List D) (p3 : Int) (p4 : Int) (p5 : Int) (p6 : Int) (p7 : Int) (p8 : Int) (p9 : Int) (p10 : List D) (p11 : List D) : Lspec_ProcOk_10 p0 p1 p2 p3 p4 p5 p6 p7 p8 p9 p10 p11 =
  br (decide (p0 < ni (List.length p11)))
   (grd (decide (0 ≤ p0) && decide (p0 < ni (List.length p11))) (oget p11 (Int.toNat p0) fun x23 =>
    asS x23 fun s24 => br (decide (ni (ByteArray.size s24) > 400))
      (some ((.bool false), []))
      (Lspec_ProcOk_10 (IntKind.wrap IntKind.i64 (p0 + 1)) p1 p2 p3 p4 p5 p6 p7 p8 p9 p10 p11)))
   (some ((.bool true), [])) := by
  exact (Rn_eq _ _ _).trans (by kernel_rfl)
theorem eimpl_copyMachine (a0_0 : List D) (a0_1 : Int) (a0_2 : Int) (a0_3 : Int) (a0_4 : Int) (a0_5 : Int) (a0_6 : Int) (a0_7 : Int) : V 99 [.agg [.rs (5, 0) a0_0, .int .i64 a0_1, .int .i64 a0_2, .int .i64 a0_3, .int .i64 a0_4, .int .i64 a0_5, .int .i64 a0_6, .int .i64 a0_7]] =
  ocall V 124 [(.agg [(.rs (5, 0) a0_0)])] fun x0 l1 =>
   asAgg x0 fun l2 => unc l2 fun x3 l4 => asOs (5, 0) x3 fun l5 => unn l4 (unn l1 (some ((.agg [(.os (5, 0) l5), (.int .i64 a0_1), (.int .i64 a0_2), (.int .i64 a0_3), (.int .i64 a0_4), (.int .i64 a0_5), (.int .i64 a0_6), (.int .i64 a0_7)]), []))) := by
  exact (Vn_eq Tryz.func99 rfl _).trans (by kernel_rfl)
theorem Lspec_l7Roots_2_eq (p0 : List D) (p1 : Int) (p2 : List D) : Lspec_l7Roots_2 p0 p1 p2 =
  br (decide (p1 < ni (List.length p0)))
   (grd (decide (0 ≤ p1) && decide (p1 < ni (List.length p0))) (oget p0 (Int.toNat p1) fun x0 =>
    asI .i64 x0 fun n1 => ocall V 103 [(.agg [(.rs (5, 0) p2)]), (.int .i64 n1)] fun x2 l3 =>
      asB x2 fun b4 => unn l3 (br (!b4)
        (some ((.bool false), []))
        (Lspec_l7Roots_2 p0 (IntKind.wrap IntKind.i64 (p1 + 1)) p2))))
   (ocall V 69 [(.agg [(.rs (5, 0) p2)])] fun x5 l6 =>
    asB x5 fun b7 => unn l6 (some ((.bool b7), []))) := by
  exact (Rn_eq _ _ _).trans (by kernel_rfl)
theorem elaws_eqInstr (a0_0 : Int) (a0_1 : Int) (a0_2 : Int) (a0_3 : ByteArray) (a1_0 : Int) (a1_1 : Int) (a1_2 : Int) (a1_3 : ByteArray) : V 82 [.agg [.int .i64 a0_0, .int .i64 a0_1, .int .i64 a0_2, .str a0_3], .agg [.int .i64 a1_0, .int .i64 a1_1, .int .i64 a1_2, .str a1_3]] =
  br (a0_0 != a1_0)
   (some ((.bool false), []))
   (br (a0_1 != a1_1)
    (some ((.bool false), []))
    (br (a0_2 != a1_2)
     (some ((.bool false), []))
     (br (!strEq a0_3 a1_3)
      (some ((.bool false), []))
      (some ((.bool true), []))))) := by
  exact (Vn_eq Tryz.func82 rfl _).trans (by kernel_rfl)
theorem Lspec_NameOk_2_eq (p0 : ByteArray) (p1 : Int) : Lspec_NameOk_2 p0 p1 =
  br (decide (p1 < ni (ByteArray.size p0)))
   (grd (decide (0 ≤ p1) && decide (p1 < ni (ByteArray.size p0))) (ocall V 132 [(.int .u8 (bt p0 p1))] fun x0 l1 =>
    asB x0 fun b2 => unn l1 (br (!b2)
      (some ((.bool false), []))
      (Lspec_NameOk_2 p0 (IntKind.wrap IntKind.i64 (p1 + 1))))))
   (ocall V 89 [(.int .i64 (ni (ByteArray.size p0))), (.int .i64 (1)), (.int .i64 (12))] fun x3 l4 =>
    asB x3 fun b5 => unn l4 (some ((.bool b5), []))) := by
  exact (Rn_eq _ _ _).trans (by kernel_rfl)
theorem LIndexFunc_rootsOk_2_eq (p0 : List D) (p1 : List D) (p2 : Int) (p3 : Int) : LIndexFunc_rootsOk_2 p0 p1 p2 p3 =
  br (decide (p3 < p2))
   (grd (decide (0 ≤ p3) && decide (p3 < ni (List.length p0))) (oget p0 (Int.toNat p3) fun x0 =>
    asI .i64 x0 fun n1 => ocall V 130 [(.int .i64 n1), (.bp [(.rs (5, 0) p1)])] fun x2 l3 =>
      asB x2 fun b4 => unn l3 (br b4
        (some ((.int .i64 p3), []))
        (LIndexFunc_rootsOk_2 p0 p1 p2 (IntKind.wrap IntKind.i64 (p3 + 1))))))
   (some ((.int .i64 (-1)), [])) := by
  exact (Rn_eq _ _ _).trans (by kernel_rfl)
theorem espec_l7Keep (a0_0 : List D) (a1_ : List D) : V 105 [.agg [.rs (5, 0) a0_0], .rs (1, 0) a1_] =
  ocall V 126 [(.agg [(.rs (5, 0) a0_0)]), (.rs (1, 0) a1_)] fun x0 l1 =>
   asOs (1, 0) x0 fun l2 => unn l1 (ocall V 125 [(.op [(.os (5, 0) [])]), (.agg [(.rs (5, 0) a0_0)]), (.rs (1, 0) l2)] fun x3 l4 =>
     asOs (1, 0) x3 fun l5 => unc l4 fun x6 l7 => asOp x6 fun l8 => unc l8 fun x9 l10 => asOs (5, 0) x9 fun l11 => unn l10 (unn l7 (Lspec_l7Keep_5 a1_ (0) l5 [] l11))) := by
  exact (Vn_eq Tryz.func105 rfl _).trans (by kernel_rfl)
theorem eimpl_Pool_moveIn (p : List D) (q : List D) (l : List D) : V 131 [.op [.os (5, 0) p], .agg [.rs (5, 0) q], .rs (1, 0) l] =
  grd (decide (0 ≤ ni (List.length q)) && decide (ni (List.length q) ≤ LIM)) (ocall V 138 [(.agg [(.rs (5, 0) q)]), (.rs (1, 0) l)] fun x0 l1 =>
   asOs (1, 0) x0 fun l2 => unn l1 (Limpl_Pool_moveIn_4 q (ni (List.length q)) (0) (List.replicate (Int.toNat (ni (List.length q))) (D.int IntKind.i64 (0))) l2 p)) := by
  exact (Vn_eq Tryz.func131 rfl _).trans (by kernel_rfl)
theorem Limpl_NameOk_4_eq (p0 : ByteArray) (p1 : Int) (p2 : Int) : Limpl_NameOk_4 p0 p1 p2 =
  br (decide (p2 < p1))
   (grd (decide (0 ≤ p2) && decide (p2 < ni (ByteArray.size p0))) (ocall V 133 [(.int .u8 (bt p0 p2))] fun x3 l4 =>
    asB x3 fun b5 => unn l4 (br (!b5)
      (some ((.bool false), []))
      (Limpl_NameOk_4 p0 p1 (IntKind.wrap IntKind.i64 (p2 + 1))))))
   (some ((.bool true), [])) := by
  exact (Rn_eq _ _ _).trans (by kernel_rfl)
theorem eimpl_rootsOk (a0_0 : List D) (a1_ : List D) : V 111 [.agg [.rs (5, 0) a0_0], .rs (1, 0) a1_] =
  ocall V 108 [(.agg [(.rs (5, 0) a0_0)])] fun x0 l1 =>
   asB x0 fun b2 => unn l1 (br b2
     (ocall V 129 [(.rs (1, 0) a1_), (.fn 130 [(.bp [(.rs (5, 0) a0_0)])])] fun x3 l4 =>
      asB x3 fun b5 => unn l4 (some ((.bool (!b5)), [])))
     (some ((.bool false), []))) := by
  exact (Vn_eq Tryz.func111 rfl _).trans (by kernel_rfl)
theorem eimpl_isValue (a0_ : ByteArray) : V 96 [.str a0_] =
  ocall V 122 [(.str a0_)] fun x0 l1 =>
   asTup x0 fun l2 => unc l2 fun x3 l4 => asAgg x3 fun l5 => unc l5 fun x6 l7 => asOs (5, 0) x6 fun _ => unn l7 (unc l4 fun x9 l10 => asI .i64 x9 fun _ => unc l10 fun x12 l13 => asB x12 fun b14 => unn l13 (unn l1 (some ((.bool b14), [])))) := by
  exact (Vn_eq Tryz.func96 rfl _).trans (by kernel_rfl)
theorem elaws_markPool (a0_0 : List D) (a1_ : Int) : V 42 [.agg [.os (5, 0) a0_0], .int .i64 a1_] =
  ocall V 84 [(.os (5, 0) a0_0), (.int .i64 a1_)] fun x0 l1 =>
   asI .i64 x0 fun n2 => unc l1 fun x3 l4 => asOs (5, 0) x3 fun l5 => unn l4 (some ((.int .i64 n2), [(.agg [(.os (5, 0) l5)])])) := by
  exact (Vn_eq Tryz.func42 rfl _).trans (by kernel_rfl)
theorem eimpl_PutText (a0_ : ByteArray) : V 61 [.str a0_] =
  ocall V 60 [(.int .i64 (ni (ByteArray.size a0_)))] fun x0 l1 =>
   asOs (1, 0) x0 fun l2 => unn l1 (grd (decide (ni (List.length (l2 ++ bytesD a0_)) ≤ LIM)) (nam (l2 ++ bytesD a0_) fun l3 =>
     some ((.os (1, 0) l3), []))) := by
  exact (Vn_eq Tryz.func61 rfl _).trans (by kernel_rfl)
theorem elaws_szInstrS (a0_ : List D) (a1_ : Int) : V 28 [.rs (4, 0) a0_, .int .i64 a1_] =
  br (decide (IntKind.wrap IntKind.i64 (a1_ - ni (List.length a0_)) < 0))
   (some ((.int .i64 (-1)), []))
   (Llaws_szInstrS_5 a0_ (IntKind.wrap IntKind.i64 (a1_ - ni (List.length a0_))) (0)) := by
  exact (Vn_eq Tryz.func28 rfl _).trans (by kernel_rfl)
theorem elaws_toStringS (a0_ : List D) : V 59 [.rs (1, 0) a0_] =
  grd (decide (0 ≤ ni (List.length a0_)) && decide (ni (List.length a0_) ≤ LIM)) (Llaws_toStringS_3 a0_ (0) (List.replicate (Int.toNat (ni (List.length a0_))) (D.str { data := #[] }))) := by
  exact (Vn_eq Tryz.func59 rfl _).trans (by kernel_rfl)
theorem elaws_toInstr (a0_0 : Int) (a0_1 : Int) (a0_2 : Int) (a0_3 : ByteArray) : V 74 [.agg [.int .i64 a0_0, .int .i64 a0_1, .int .i64 a0_2, .str a0_3]] =
  some ((.agg [(.int .i64 a0_0), (.int .i64 a0_1), (.int .i64 a0_2), (.str a0_3)]), []) := by
  exact (Vn_eq Tryz.func74 rfl _).trans (by kernel_rfl)
theorem elaws_eqStringS (a0_ : List D) (a1_ : List D) : V 50 [.rs (1, 0) a0_, .rs (1, 0) a1_] =
  br (ni (List.length a0_) != ni (List.length a1_))
   (some ((.bool false), []))
   (Llaws_eqStringS_4 a0_ a1_ (0)) := by
  exact (Vn_eq Tryz.func50 rfl _).trans (by kernel_rfl)
theorem erootsOk_1 (r : Int) (p : List D) : V 130 [.int .i64 r, .bp [.rs (5, 0) p]] =
  ocall V 109 [(.agg [(.rs (5, 0) p)]), (.int .i64 r)] fun x0 l1 =>
   asB x0 fun b2 => unn l1 (some ((.bool (!b2)), [])) := by
  exact (Vn_eq Tryz.func130 rfl _).trans (by kernel_rfl)
theorem espec_l8Nodes (a0_0 : List D) : V 72 [.agg [.rs (5, 0) a0_0]] =
  ocall V 55 [(.int .i64 (ni (List.length a0_0)))] fun x0 l1 =>
   asOs (1, 0) x0 fun l2 => unn l1 (Lspec_l8Nodes_3 (0) a0_0 l2) := by
  exact (Vn_eq Tryz.func72 rfl _).trans (by kernel_rfl)
theorem elaws_markText (a0_ : Int) : V 85 [.int .i64 a0_] =
  br (decide (a0_ ≤ 0))
   (some ((.str ({ data := #[109, 48] })), []))
   (Llaws_markText_4 a0_ ({ data := #[] })) := by
  exact (Vn_eq Tryz.func85 rfl _).trans (by kernel_rfl)
theorem eimpl_PutNum (a0_ : Int) : V 60 [.int .i64 a0_] =
  br (decide (a0_ < 0))
   (some ((.os (1, 0) []), []))
   (Limpl_PutNum_4 a0_ []) := by
  exact (Vn_eq Tryz.func60 rfl _).trans (by kernel_rfl)
theorem eimpl_PoolOk (a0_0 : List D) : V 108 [.agg [.rs (5, 0) a0_0]] =
  Limpl_PoolOk_2 a0_0 (ni (List.length a0_0)) (0) a0_0 := by
  exact (Vn_eq Tryz.func108 rfl _).trans (by kernel_rfl)
theorem elaws_heldNodeS (a0_ : List D) (a1_ : Int) : V 86 [.rs (5, 0) a0_, .int .i64 a1_] =
  Llaws_heldNodeS_2 a0_ a1_ (0) := by
  exact (Vn_eq Tryz.func86 rfl _).trans (by kernel_rfl)
end Go.Eng
