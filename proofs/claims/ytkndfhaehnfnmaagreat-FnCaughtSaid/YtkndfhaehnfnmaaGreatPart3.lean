/- the program and the reference on plain data, part 3 -/
import Derived.Test.YtkndfhaehnfnmaaGreatEngC
import Derived.Test.YtkndfhaehnfnmaaGreatPart1
import Derived.Test.YtkndfhaehnfnmaaGreatPart2
/-! a call and its results,taken in one step -/
namespace Go.Eng
open Go.Proofs
theorem AX {ds:List D}{v2:Int}{v8 v11 v14:List D}{v17:Int} (h:V 237 ds=some (iN v2,[.op [.os (5,0) v8,.os (4,0) v11,.os (3,0) v14,iN v17]])) (K:Int->List D->List D->List D->Int->Option Ret):ck3 237 ds (fun v2 v8 v11 v14 v17=>(((K v2 v8 v11 v14 v17))))=K v2 v8 v11 v14 v17:=(yx h _).trans rfl
theorem Fp {ds v8 v11 v14:List D}{v17:Int} (h:V 244 ds=some (.tup [],[.op [.os (5,0) v8,.os (4,0) v11,.os (3,0) v14,iN v17]])) (K:List D->List D->List D->Int->Option Ret):ck4 244 ds (fun v8 v11 v14 v17=>((((K v8 v11 v14 v17)))))=K v8 v11 v14 v17:=(yx h _).trans rfl
theorem PM {ds v8 v11 v14:List D}{v17:Int} (h:V 253 ds=some (.tup [],[.op [.os (5,0) v8,.os (4,0) v11,.os (3,0) v14,iN v17]])) (K:List D->List D->List D->Int->Option Ret):ck4 253 ds (fun v8 v11 v14 v17=>((((K v8 v11 v14 v17)))))=K v8 v11 v14 v17:=(yx h _).trans rfl
theorem LF {ds v8 v11 v14:List D}{v17:Int} (h:V 236 ds=some (.tup [],[.op [.os (5,0) v8,.os (4,0) v11,.os (3,0) v14,iN v17]])) (K:List D->List D->List D->Int->Option Ret):ck4 236 ds (fun v8 v11 v14 v17=>((((K v8 v11 v14 v17)))))=K v8 v11 v14 v17:=(yx h _).trans rfl
theorem Gd {ds v5:List D}{v8:Bool} (h:V 228 ds=some (.tup [.os (1,0) v5,.bool v8],[])) (K:List D->Bool->Option Ret):ck5 228 ds (fun v5 v8=>(((K v5 v8))))=K v5 v8:=(yx h _).trans rfl
theorem Nw {ds v2 v8 v11 v14:List D}{v17:Int} (h:V 231 ds=some (.os (1,0) v2,[.op [.os (5,0) v8,.os (4,0) v11,.os (3,0) v14,iN v17]])) (K:List D->List D->List D->List D->Int->Option Ret):ck6 231 ds (fun v2 v8 v11 v14 v17=>(((K v2 v8 v11 v14 v17))))=K v2 v8 v11 v14 v17:=(yx h _).trans rfl
theorem Wq {ds v8 v11 v14:List D}{v17:Int} (h:V 254 ds=some (.tup [],[.op [.os (5,0) v8,.os (4,0) v11,.os (3,0) v14,iN v17]])) (K:List D->List D->List D->Int->Option Ret):ck4 254 ds (fun v8 v11 v14 v17=>((((K v8 v11 v14 v17)))))=K v8 v11 v14 v17:=(yx h _).trans rfl
theorem ad3 {ds v5:List D}{v8 v11 v14 v17 v20 v23 v26:Int} (h:V 18 ds=some (.agg [.os (5,0) v5,iN v8,iN v11,iN v14,iN v17,iN v20,iN v23,iN v26],[])) (K:List D->Int->Int->Int->Int->Int->Int->Int->Option Ret):ck7 18 ds (fun v5 v8 v11 v14 v17 v20 v23 v26=>(((K v5 v8 v11 v14 v17 v20 v23 v26))))=K v5 v8 v11 v14 v17 v20 v23 v26:=(yx h _).trans rfl
theorem Fm {ds:List D}{v2:Bool}(h:V 60 ds=some (.bool v2,[]))(K:Bool->Option Ret):ck1 60 ds (fun v2=>((K v2)))=K v2:=(yx h _).trans rfl
theorem Nv {ds:List D}{v2:Bool}(h:V 61 ds=some (.bool v2,[]))(K:Bool->Option Ret):ck1 61 ds (fun v2=>((K v2)))=K v2:=(yx h _).trans rfl
theorem NU {ds:List D}{v2:Bool}(h:V 180 ds=some (.bool v2,[]))(K:Bool->Option Ret):ck1 180 ds (fun v2=>((K v2)))=K v2:=(yx h _).trans rfl
theorem Cq {ds:List D}{v2:Bool}(h:V 62 ds=some (.bool v2,[]))(K:Bool->Option Ret):ck1 62 ds (fun v2=>((K v2)))=K v2:=(yx h _).trans rfl
theorem DK {ds:List D}{v2:Int}{v8:List D}{v11:Int}{v14:Bool} (h:V 71 ds=some (iN v2,[.op [.os (1,0) v8,iN v11,.bool v14]])) (K:Int->List D->Int->Bool->Option Ret):ck8 71 ds (fun v2 v8 v11 v14=>(((K v2 v8 v11 v14))))=K v2 v8 v11 v14:=(yx h _).trans rfl
theorem Sf {ds:List D}{v2:Int}{v8:List D}{v11 v14:Int} (h:V 76 ds=some (iN v2,[.op [.rs (1,0) v8,iN v11,iN v14]])) (K:Int->List D->Int->Int->Option Ret):ck9 76 ds (fun v2 v8 v11 v14=>(((K v2 v8 v11 v14))))=K v2 v8 v11 v14:=(yx h _).trans rfl
theorem AW {ds v5:List D} (h:V 147 ds=some (.agg [.os (5,0) v5],[])) (K:List D->Option Ret):Fi 147 ds (fun v5=>(((K v5))))=K v5:=(yx h _).trans rfl
theorem Gz {ds:List D}{v2:Int}{v8:List D} (h:V 210 ds=some (iN v2,[.op [.os (5,0) v8]])) (K:Int->List D->Option Ret):AP 210 ds (fun v2 v8=>(((K v2 v8))))=K v2 v8:=(yx h _).trans rfl
theorem Dr {ds:List D}{v2:Bool}(h:V 211 ds=some (.bool v2,[]))(K:Bool->Option Ret):ck1 211 ds (fun v2=>((K v2)))=K v2:=(yx h _).trans rfl
theorem Pc {ds:List D}{v2:Bool}(h:V 56 ds=some (.bool v2,[]))(K:Bool->Option Ret):ck1 56 ds (fun v2=>((K v2)))=K v2:=(yx h _).trans rfl
theorem AF {ds:List D}{v2:Bool}(h:V 58 ds=some (.bool v2,[]))(K:Bool->Option Ret):ck1 58 ds (fun v2=>((K v2)))=K v2:=(yx h _).trans rfl
theorem abk {ds:List D}{v2:Bool}(h:V 124 ds=some (.bool v2,[]))(K:Bool->Option Ret):ck1 124 ds (fun v2=>((K v2)))=K v2:=(yx h _).trans rfl
theorem Uf {ds:List D}{v2:Bool}(h:V 128 ds=some (.bool v2,[]))(K:Bool->Option Ret):ck1 128 ds (fun v2=>((K v2)))=K v2:=(yx h _).trans rfl
theorem CR {ds:List D}{v5:Int}{v8:Bool}{v14:List D}{v17 v20 v23 v26 v29 v32 v35:Int} (h:V 218 ds=some (.tup [iN v5,.bool v8],[.op [.os (5,0) v14,iN v17,iN v20,iN v23,iN v26,iN v29,iN v32,iN v35]])) (K:Int->Bool->List D->Int->Int->Int->Int->Int->Int->Int->Option Ret):aau 218 ds (fun v5 v8 v14 v17 v20 v23 v26 v29 v32 v35=>((((K v5 v8 v14 v17 v20 v23 v26 v29 v32 v35)))))=K v5 v8 v14 v17 v20 v23 v26 v29 v32 v35:=(yx h _).trans rfl
theorem Si {ds:List D}{v2:Int}{v8:List D}{v11 v14 v17 v20 v23 v26 v29:Int} (h:V 233 ds=some (iN v2,[.op [.os (5,0) v8,iN v11,iN v14,iN v17,iN v20,iN v23,iN v26,iN v29]])) (K:Int->List D->Int->Int->Int->Int->Int->Int->Int->Option Ret):QI 233 ds (fun v2 v8 v11 v14 v17 v20 v23 v26 v29=>(((K v2 v8 v11 v14 v17 v20 v23 v26 v29))))=K v2 v8 v11 v14 v17 v20 v23 v26 v29:=(yx h _).trans rfl
theorem Dt {ds:List D}{v5:Int}{v8:Bool}{v14:List D}{v17 v20 v23 v26 v29 v32 v35:Int}{v38 v41 v44:List D} (h:V 182 ds=some (.tup [iN v5,.bool v8],[.op [.os (5,0) v14,iN v17,iN v20,iN v23,iN v26,iN v29,iN v32,iN v35,.rs (5,0) v38,.rs (4,0) v41,.rs (3,0) v44]])) (K:Int->Bool->List D->Int->Int->Int->Int->Int->Int->Int->List D->List D->List D->Option Ret):YM 182 ds (fun v5 v8 v14 v17 v20 v23 v26 v29 v32 v35 v38 v41 v44=>((((K v5 v8 v14 v17 v20 v23 v26 v29 v32 v35 v38 v41 v44)))))=K v5 v8 v14 v17 v20 v23 v26 v29 v32 v35 v38 v41 v44:=(yx h _).trans rfl
theorem KQ {ds v5:List D} (h:V 183 ds=some (.tup [],[.os (1,0) v5])) (K:List D->Option Ret):afO 183 ds (fun v5=>(((K v5))))=K v5:=(yx h _).trans rfl
theorem Gp {ds:List D}{v2:Int}{v8:List D}{v11 v14 v17 v20 v23 v26 v29:Int}{v32 v35 v38:List D} (h:V 184 ds=some (iN v2,[.op [.os (5,0) v8,iN v11,iN v14,iN v17,iN v20,iN v23,iN v26,iN v29,.rs (5,0) v32,.rs (4,0) v35,.rs (3,0) v38]])) (K:Int->List D->Int->Int->Int->Int->Int->Int->Int->List D->List D->List D->Option Ret):LQ 184 ds (fun v2 v8 v11 v14 v17 v20 v23 v26 v29 v32 v35 v38=>(((K v2 v8 v11 v14 v17 v20 v23 v26 v29 v32 v35 v38))))=K v2 v8 v11 v14 v17 v20 v23 v26 v29 v32 v35 v38:=(yx h _).trans rfl
theorem DI {ds:List D}{v5 v8:Int}{v11:ByteArray}{v14 v17:Int}(h:V 241 ds=some (.agg [iN v5,iN v8,.str v11,iN v14,iN v17],[]))(K:Int->Int->ByteArray->Int->Int->Option Ret):ck2 241 ds (fun v5 v8 v11 v14 v17=>(((K v5 v8 v11 v14 v17))))=K v5 v8 v11 v14 v17:=(yx h _).trans rfl
theorem Ub {ds:List D}{v2:Bool}(h:V 55 ds=some (.bool v2,[]))(K:Bool->Option Ret):ck1 55 ds (fun v2=>((K v2)))=K v2:=(yx h _).trans rfl
theorem JW {ds:List D}{v2:Int}(h:V 188 ds=some (iN v2,[]))(K:Int->Option Ret):Ir 188 ds (fun v2=>((K v2)))=K v2:=(yx h _).trans rfl
theorem Uc {ds v8:List D}{v11 v14 v17 v20 v23 v26 v29 v32:Int} (h:V 22 ds=some (.tup [.agg [.os (5,0) v8,iN v11,iN v14,iN v17,iN v20,iN v23,iN v26,iN v29],iN v32],[])) (K:List D->Int->Int->Int->Int->Int->Int->Int->Int->Option Ret):aeF 22 ds (fun v8 v11 v14 v17 v20 v23 v26 v29 v32=>((((K v8 v11 v14 v17 v20 v23 v26 v29 v32)))))=K v8 v11 v14 v17 v20 v23 v26 v29 v32:=(yx h _).trans rfl
theorem XF {ds:List D}{v8 v11:Int}{v14:ByteArray}{v17 v20 v23:Int} (h:V 250 ds=some (.tup [.agg [iN v8,iN v11,.str v14,iN v17,iN v20],iN v23],[])) (K:Int->Int->ByteArray->Int->Int->Int->Option Ret):afP 250 ds (fun v8 v11 v14 v17 v20 v23=>((((K v8 v11 v14 v17 v20 v23)))))=K v8 v11 v14 v17 v20 v23:=(yx h _).trans rfl
theorem Ar {ds:List D}{v2:Int}{v8:List D} (h:V 158 ds=some (iN v2,[.op [.os (5,0) v8]])) (K:Int->List D->Option Ret):AP 158 ds (fun v2 v8=>(((K v2 v8))))=K v2 v8:=(yx h _).trans rfl
theorem GA {ds:List D}{v5 v8:Int}{v11:ByteArray}{v14 v17:Int}(h:V 251 ds=some (.agg [iN v5,iN v8,.str v11,iN v14,iN v17],[]))(K:Int->Int->ByteArray->Int->Int->Option Ret):ck2 251 ds (fun v5 v8 v11 v14 v17=>(((K v5 v8 v11 v14 v17))))=K v5 v8 v11 v14 v17:=(yx h _).trans rfl
theorem Wo {ds v2:List D}(h:V 252 ds=some (.os (1,0) v2,[]))(K:List D->Option Ret):AY 252 ds (fun v2=>((K v2)))=K v2:=(yx h _).trans rfl
theorem Pa {ds v5:List D}{v8:Bool}{v14:List D} (h:V 119 ds=some (.tup [.os (1,0) v5,.bool v8],[.op [.os (5,0) v14]])) (K:List D->Bool->List D->Option Ret):aeG 119 ds (fun v5 v8 v14=>((((K v5 v8 v14)))))=K v5 v8 v14:=(yx h _).trans rfl
theorem Bq {ds:List D}{v2:Bool}(h:V 57 ds=some (.bool v2,[]))(K:Bool->Option Ret):ck1 57 ds (fun v2=>((K v2)))=K v2:=(yx h _).trans rfl
theorem Cx {ds v8:List D}{v11 v14 v17 v20 v23 v26 v29:Int}{v32 v35 v38:List D} (h:V 185 ds=some (.tup [],[.op [.os (5,0) v8,iN v11,iN v14,iN v17,iN v20,iN v23,iN v26,iN v29,.rs (5,0) v32,.rs (4,0) v35,.rs (3,0) v38]])) (K:List D->Int->Int->Int->Int->Int->Int->Int->List D->List D->List D->Option Ret):Vf 185 ds (fun v8 v11 v14 v17 v20 v23 v26 v29 v32 v35 v38=>((((K v8 v11 v14 v17 v20 v23 v26 v29 v32 v35 v38)))))=K v8 v11 v14 v17 v20 v23 v26 v29 v32 v35 v38:=(yx h _).trans rfl
theorem MR {ds:List D}{v2:Int}{v8:List D}{v11 v14 v17 v20 v23 v26 v29:Int}{v32 v35 v38:List D} (h:V 204 ds=some (iN v2,[.op [.os (5,0) v8,iN v11,iN v14,iN v17,iN v20,iN v23,iN v26,iN v29,.rs (5,0) v32,.rs (4,0) v35,.rs (3,0) v38]])) (K:Int->List D->Int->Int->Int->Int->Int->Int->Int->List D->List D->List D->Option Ret):LQ 204 ds (fun v2 v8 v11 v14 v17 v20 v23 v26 v29 v32 v35 v38=>(((K v2 v8 v11 v14 v17 v20 v23 v26 v29 v32 v35 v38))))=K v2 v8 v11 v14 v17 v20 v23 v26 v29 v32 v35 v38:=(yx h _).trans rfl
theorem Ju {ds:List D}{v2:Int}{v8:List D}{v11 v14 v17 v20 v23 v26 v29:Int}{v32 v35 v38:List D} (h:V 205 ds=some (iN v2,[.op [.os (5,0) v8,iN v11,iN v14,iN v17,iN v20,iN v23,iN v26,iN v29,.rs (5,0) v32,.rs (4,0) v35,.rs (3,0) v38]])) (K:Int->List D->Int->Int->Int->Int->Int->Int->Int->List D->List D->List D->Option Ret):LQ 205 ds (fun v2 v8 v11 v14 v17 v20 v23 v26 v29 v32 v35 v38=>(((K v2 v8 v11 v14 v17 v20 v23 v26 v29 v32 v35 v38))))=K v2 v8 v11 v14 v17 v20 v23 v26 v29 v32 v35 v38:=(yx h _).trans rfl
theorem LH {ds:List D}{v2:Int}{v8:List D}{v11 v14 v17 v20 v23 v26 v29:Int}{v32 v35 v38:List D} (h:V 206 ds=some (iN v2,[.op [.os (5,0) v8,iN v11,iN v14,iN v17,iN v20,iN v23,iN v26,iN v29,.rs (5,0) v32,.rs (4,0) v35,.rs (3,0) v38]])) (K:Int->List D->Int->Int->Int->Int->Int->Int->Int->List D->List D->List D->Option Ret):LQ 206 ds (fun v2 v8 v11 v14 v17 v20 v23 v26 v29 v32 v35 v38=>(((K v2 v8 v11 v14 v17 v20 v23 v26 v29 v32 v35 v38))))=K v2 v8 v11 v14 v17 v20 v23 v26 v29 v32 v35 v38:=(yx h _).trans rfl
theorem Bg {ds:List D}{v2:Int}{v8:List D} (h:V 157 ds=some (iN v2,[.op [.os (5,0) v8]])) (K:Int->List D->Option Ret):AP 157 ds (fun v2 v8=>(((K v2 v8))))=K v2 v8:=(yx h _).trans rfl
theorem JU {ds:List D}{v2:Int}{v8:List D} (h:V 222 ds=some (iN v2,[.op [.os (5,0) v8]])) (K:Int->List D->Option Ret):AP 222 ds (fun v2 v8=>(((K v2 v8))))=K v2 v8:=(yx h _).trans rfl
theorem JV {ds:List D}{v2:Int}{v8:List D} (h:V 94 ds=some (iN v2,[.op [.os (5,0) v8]])) (K:Int->List D->Option Ret):AP 94 ds (fun v2 v8=>(((K v2 v8))))=K v2 v8:=(yx h _).trans rfl
theorem MQ {ds:List D}{v5:ByteArray}{v8:Bool}(h:V 20 ds=some (.tup [.str v5,.bool v8],[]))(K:ByteArray->Bool->Option Ret):YN 20 ds (fun v5 v8=>(((K v5 v8))))=K v5 v8:=(yx h _).trans rfl
theorem Pd {ds:List D}{v2:Bool}(h:V 15 ds=some (.bool v2,[]))(K:Bool->Option Ret):ck1 15 ds (fun v2=>((K v2)))=K v2:=(yx h _).trans rfl
theorem Sj {ds v2:List D}(h:V 149 ds=some (.os (1,0) v2,[]))(K:List D->Option Ret):AY 149 ds (fun v2=>((K v2)))=K v2:=(yx h _).trans rfl
theorem Ui {ds v2 v8:List D} (h:V 148 ds=some (.os (1,0) v2,[.op [.os (5,0) v8]])) (K:List D->List D->Option Ret):aav 148 ds (fun v2 v8=>(((K v2 v8))))=K v2 v8:=(yx h _).trans rfl
theorem Sg {ds:List D}{v2:Bool}(h:V 226 ds=some (.bool v2,[]))(K:Bool->Option Ret):ck1 226 ds (fun v2=>((K v2)))=K v2:=(yx h _).trans rfl
theorem KO {ds:List D}{v2:Int}(h:V 221 ds=some (iN v2,[]))(K:Int->Option Ret):Ir 221 ds (fun v2=>((K v2)))=K v2:=(yx h _).trans rfl
theorem Z6 {ds v2:List D}(h:V 239 ds=some (.os (1,0) v2,[]))(K:List D->Option Ret):AY 239 ds (fun v2=>((K v2)))=K v2:=(yx h _).trans rfl
theorem Wl {ds:List D}{v2:Int}(h:V 129 ds=some (iN v2,[]))(K:Int->Option Ret):Ir 129 ds (fun v2=>((K v2)))=K v2:=(yx h _).trans rfl
theorem Dq {ds v8:List D}{v11 v14 v17 v20 v23 v26 v29:Int}{v32:Bool} (h:V 78 ds=some (.tup [.agg [.os (5,0) v8,iN v11,iN v14,iN v17,iN v20,iN v23,iN v26,iN v29],.bool v32],[])) (K:List D->Int->Int->Int->Int->Int->Int->Int->Bool->Option Ret):Uv 78 ds (fun v8 v11 v14 v17 v20 v23 v26 v29 v32=>((((K v8 v11 v14 v17 v20 v23 v26 v29 v32)))))=K v8 v11 v14 v17 v20 v23 v26 v29 v32:=(yx h _).trans rfl
theorem KF {ds v8:List D}{v11 v14 v17 v20 v23 v26 v29:Int}{v32:Bool} (h:V 171 ds=some (.tup [.agg [.os (5,0) v8,iN v11,iN v14,iN v17,iN v20,iN v23,iN v26,iN v29],.bool v32],[])) (K:List D->Int->Int->Int->Int->Int->Int->Int->Bool->Option Ret):Uv 171 ds (fun v8 v11 v14 v17 v20 v23 v26 v29 v32=>((((K v8 v11 v14 v17 v20 v23 v26 v29 v32)))))=K v8 v11 v14 v17 v20 v23 v26 v29 v32:=(yx h _).trans rfl
theorem Fq {ds v5:List D}{v8 v11 v14 v17 v20 v23 v26:Int} (h:V 85 ds=some (.agg [.os (5,0) v5,iN v8,iN v11,iN v14,iN v17,iN v20,iN v23,iN v26],[])) (K:List D->Int->Int->Int->Int->Int->Int->Int->Option Ret):ck7 85 ds (fun v5 v8 v11 v14 v17 v20 v23 v26=>(((K v5 v8 v11 v14 v17 v20 v23 v26))))=K v5 v8 v11 v14 v17 v20 v23 v26:=(yx h _).trans rfl
theorem Uh {ds:List D}{v2:Int}{v8:List D} (h:V 96 ds=some (iN v2,[.op [.os (5,0) v8]])) (K:Int->List D->Option Ret):AP 96 ds (fun v2 v8=>(((K v2 v8))))=K v2 v8:=(yx h _).trans rfl
theorem CZ {ds v8:List D}{v11 v14 v17 v20 v23 v26 v29:Int} (h:V 95 ds=some (.tup [],[.op [.os (5,0) v8,iN v11,iN v14,iN v17,iN v20,iN v23,iN v26,iN v29]])) (K:List D->Int->Int->Int->Int->Int->Int->Int->Option Ret):Uw 95 ds (fun v8 v11 v14 v17 v20 v23 v26 v29=>((((K v8 v11 v14 v17 v20 v23 v26 v29)))))=K v8 v11 v14 v17 v20 v23 v26 v29:=(yx h _).trans rfl
theorem Js {ds v5:List D}{v8 v11 v14 v17 v20 v23 v26:Int} (h:V 97 ds=some (.agg [.os (5,0) v5,iN v8,iN v11,iN v14,iN v17,iN v20,iN v23,iN v26],[])) (K:List D->Int->Int->Int->Int->Int->Int->Int->Option Ret):ck7 97 ds (fun v5 v8 v11 v14 v17 v20 v23 v26=>(((K v5 v8 v11 v14 v17 v20 v23 v26))))=K v5 v8 v11 v14 v17 v20 v23 v26:=(yx h _).trans rfl
theorem LD {ds:List D}{v8 v11:Int}{v14:ByteArray}{v17 v20:Int}{v23:Bool} (h:V 212 ds=some (.tup [.agg [iN v8,iN v11,.str v14,iN v17,iN v20],.bool v23],[])) (K:Int->Int->ByteArray->Int->Int->Bool->Option Ret):Vg 212 ds (fun v8 v11 v14 v17 v20 v23=>((((K v8 v11 v14 v17 v20 v23)))))=K v8 v11 v14 v17 v20 v23:=(yx h _).trans rfl
theorem ad2 {ds v5:List D}{v8 v11 v14 v17 v20 v23 v26:Int} (h:V 17 ds=some (.agg [.os (5,0) v5,iN v8,iN v11,iN v14,iN v17,iN v20,iN v23,iN v26],[])) (K:List D->Int->Int->Int->Int->Int->Int->Int->Option Ret):ck7 17 ds (fun v5 v8 v11 v14 v17 v20 v23 v26=>(((K v5 v8 v11 v14 v17 v20 v23 v26))))=K v5 v8 v11 v14 v17 v20 v23 v26:=(yx h _).trans rfl
theorem CW {ds:List D}{v5:ByteArray}{v8:Bool}(h:V 19 ds=some (.tup [.str v5,.bool v8],[]))(K:ByteArray->Bool->Option Ret):YN 19 ds (fun v5 v8=>(((K v5 v8))))=K v5 v8:=(yx h _).trans rfl
theorem KE {ds:List D}{v2:Bool}(h:V 14 ds=some (.bool v2,[]))(K:Bool->Option Ret):ck1 14 ds (fun v2=>((K v2)))=K v2:=(yx h _).trans rfl
theorem FG {ds v5:List D}{v8 v11 v14 v17 v20 v23 v26:Int} (h:V 63 ds=some (.agg [.os (5,0) v5,iN v8,iN v11,iN v14,iN v17,iN v20,iN v23,iN v26],[])) (K:List D->Int->Int->Int->Int->Int->Int->Int->Option Ret):ck7 63 ds (fun v5 v8 v11 v14 v17 v20 v23 v26=>(((K v5 v8 v11 v14 v17 v20 v23 v26))))=K v5 v8 v11 v14 v17 v20 v23 v26:=(yx h _).trans rfl
theorem Yj {ds v5:List D}{v8 v11 v14 v17 v20 v23 v26:Int} (h:V 64 ds=some (.agg [.os (5,0) v5,iN v8,iN v11,iN v14,iN v17,iN v20,iN v23,iN v26],[])) (K:List D->Int->Int->Int->Int->Int->Int->Int->Option Ret):ck7 64 ds (fun v5 v8 v11 v14 v17 v20 v23 v26=>(((K v5 v8 v11 v14 v17 v20 v23 v26))))=K v5 v8 v11 v14 v17 v20 v23 v26:=(yx h _).trans rfl
theorem abn {ds v5:List D}{v8 v11 v14 v17 v20 v23 v26:Int} (h:V 73 ds=some (.agg [.os (5,0) v5,iN v8,iN v11,iN v14,iN v17,iN v20,iN v23,iN v26],[])) (K:List D->Int->Int->Int->Int->Int->Int->Int->Option Ret):ck7 73 ds (fun v5 v8 v11 v14 v17 v20 v23 v26=>(((K v5 v8 v11 v14 v17 v20 v23 v26))))=K v5 v8 v11 v14 v17 v20 v23 v26:=(yx h _).trans rfl
theorem LR {ds:List D}{v2:ByteArray}(h:V 202 ds=some (.str v2,[]))(K:ByteArray->Option Ret):aaw 202 ds (fun v2=>((K v2)))=K v2:=(yx h _).trans rfl
theorem UK {ds v5 v11:List D}{v14:Int}{v17:Bool} (h:V 72 ds=some (.agg [.os (5,0) v5],[.op [.os (1,0) v11,iN v14,.bool v17]])) (K:List D->List D->Int->Bool->Option Ret):afQ 72 ds (fun v5 v11 v14 v17=>((((K v5 v11 v14 v17)))))=K v5 v11 v14 v17:=(yx h _).trans rfl
theorem Ge {ds v8 v11 v14:List D}{v17:Int} (h:V 229 ds=some (.tup [],[.op [.os (5,0) v8,.os (4,0) v11,.os (3,0) v14,iN v17]])) (K:List D->List D->List D->Int->Option Ret):ck4 229 ds (fun v8 v11 v14 v17=>((((K v8 v11 v14 v17)))))=K v8 v11 v14 v17:=(yx h _).trans rfl
theorem Ug {ds:List D}{v5:ByteArray}{v8:Bool}{v14 v17 v20:List D}{v23:Int} (h:V 230 ds=some (.tup [.str v5,.bool v8],[.op [.os (5,0) v14,.os (4,0) v17,.os (3,0) v20,iN v23]])) (K:ByteArray->Bool->List D->List D->List D->Int->Option Ret):aeH 230 ds (fun v5 v8 v14 v17 v20 v23=>((((K v5 v8 v14 v17 v20 v23)))))=K v5 v8 v14 v17 v20 v23:=(yx h _).trans rfl
theorem afi {ds:List D}{v2:Bool}(h:V 12 ds=some (.bool v2,[]))(K:Bool->Option Ret):ck1 12 ds (fun v2=>((K v2)))=K v2:=(yx h _).trans rfl
theorem FI {ds:List D}{v5:Int}{v8:Bool}{v14:List D}{v17 v20 v23 v26 v29 v32 v35:Int}{v38 v41 v44:List D} (h:V 207 ds=some (.tup [iN v5,.bool v8],[.op [.os (5,0) v14,iN v17,iN v20,iN v23,iN v26,iN v29,iN v32,iN v35,.rs (5,0) v38,.rs (4,0) v41,.rs (3,0) v44]])) (K:Int->Bool->List D->Int->Int->Int->Int->Int->Int->Int->List D->List D->List D->Option Ret):YM 207 ds (fun v5 v8 v14 v17 v20 v23 v26 v29 v32 v35 v38 v41 v44=>((((K v5 v8 v14 v17 v20 v23 v26 v29 v32 v35 v38 v41 v44)))))=K v5 v8 v14 v17 v20 v23 v26 v29 v32 v35 v38 v41 v44:=(yx h _).trans rfl
theorem Ue {ds:List D}{v2:Bool}(h:V 59 ds=some (.bool v2,[]))(K:Bool->Option Ret):ck1 59 ds (fun v2=>((K v2)))=K v2:=(yx h _).trans rfl
theorem abv {ds v5:List D}{v8 v11 v14 v17 v20 v23 v26:Int} (h:V 153 ds=some (.agg [.os (5,0) v5,iN v8,iN v11,iN v14,iN v17,iN v20,iN v23,iN v26],[])) (K:List D->Int->Int->Int->Int->Int->Int->Int->Option Ret):ck7 153 ds (fun v5 v8 v11 v14 v17 v20 v23 v26=>(((K v5 v8 v11 v14 v17 v20 v23 v26))))=K v5 v8 v11 v14 v17 v20 v23 v26:=(yx h _).trans rfl
theorem acJ {ds v8 v11 v14:List D}{v17:Int} (h:V 215 ds=some (.tup [],[.op [.os (5,0) v8,.os (4,0) v11,.os (3,0) v14,iN v17]])) (K:List D->List D->List D->Int->Option Ret):ck4 215 ds (fun v8 v11 v14 v17=>((((K v8 v11 v14 v17)))))=K v8 v11 v14 v17:=(yx h _).trans rfl
theorem Wj {ds v2:List D}(h:V 176 ds=some (.os (1,0) v2,[]))(K:List D->Option Ret):AY 176 ds (fun v2=>((K v2)))=K v2:=(yx h _).trans rfl
theorem Wk {ds:List D}{v2:Bool}(h:V 136 ds=some (.bool v2,[]))(K:Bool->Option Ret):ck1 136 ds (fun v2=>((K v2)))=K v2:=(yx h _).trans rfl
theorem Jt {ds:List D}{v2:Int}(h:V 225 ds=some (iN v2,[]))(K:Int->Option Ret):Ir 225 ds (fun v2=>((K v2)))=K v2:=(yx h _).trans rfl
theorem JG {ds:List D}{v2:Bool}(h:V 238 ds=some (.bool v2,[]))(K:Bool->Option Ret):ck1 238 ds (fun v2=>((K v2)))=K v2:=(yx h _).trans rfl
theorem Ws {ds:List D}{v5 v8:Int}(h:V 248 ds=some (.tup [iN v5,iN v8],[]))(K:Int->Int->Option Ret):adI 248 ds (fun v5 v8=>(((K v5 v8))))=K v5 v8:=(yx h _).trans rfl
theorem abr {ds v8 v11 v14:List D}{v17:Int} (h:V 249 ds=some (.tup [],[.op [.os (5,0) v8,.os (4,0) v11,.os (3,0) v14,iN v17]])) (K:List D->List D->List D->Int->Option Ret):ck4 249 ds (fun v8 v11 v14 v17=>((((K v8 v11 v14 v17)))))=K v8 v11 v14 v17:=(yx h _).trans rfl
theorem abu {ds:List D}{v2:Int}{v8:List D}{v11 v14 v17 v20 v23 v26 v29:Int} (h:V 240 ds=some (iN v2,[.op [.os (5,0) v8,iN v11,iN v14,iN v17,iN v20,iN v23,iN v26,iN v29]])) (K:Int->List D->Int->Int->Int->Int->Int->Int->Int->Option Ret):QI 240 ds (fun v2 v8 v11 v14 v17 v20 v23 v26 v29=>(((K v2 v8 v11 v14 v17 v20 v23 v26 v29))))=K v2 v8 v11 v14 v17 v20 v23 v26 v29:=(yx h _).trans rfl
theorem FH {ds:List D}{v5:Int}{v8:List D}{v11:Bool} (h:V 234 ds=some (.tup [iN v5,.os (1,0) v8,.bool v11],[])) (K:Int->List D->Bool->Option Ret):aeI 234 ds (fun v5 v8 v11=>(((K v5 v8 v11))))=K v5 v8 v11:=(yx h _).trans rfl
theorem Xz {ds:List D}{v2:Int}(h:V 223 ds=some (iN v2,[]))(K:Int->Option Ret):Ir 223 ds (fun v2=>((K v2)))=K v2:=(yx h _).trans rfl
theorem Sc {ds:List D}{v5 v8:Int}{v14:List D} (h:V 224 ds=some (.tup [iN v5,iN v8],[.op [.os (5,0) v14]])) (K:Int->Int->List D->Option Ret):adJ 224 ds (fun v5 v8 v14=>((((K v5 v8 v14)))))=K v5 v8 v14:=(yx h _).trans rfl
theorem acG {ds:List D}{v2:Int}(h:V 125 ds=some (iN v2,[]))(K:Int->Option Ret):Ir 125 ds (fun v2=>((K v2)))=K v2:=(yx h _).trans rfl
theorem abl {ds:List D}{v2:Int}(h:V 208 ds=some (iN v2,[]))(K:Int->Option Ret):Ir 208 ds (fun v2=>((K v2)))=K v2:=(yx h _).trans rfl
theorem ad4 {ds v5:List D}{v8 v11 v14 v17 v20 v23 v26:Int} (h:V 89 ds=some (.agg [.os (5,0) v5,iN v8,iN v11,iN v14,iN v17,iN v20,iN v23,iN v26],[])) (K:List D->Int->Int->Int->Int->Int->Int->Int->Option Ret):ck7 89 ds (fun v5 v8 v11 v14 v17 v20 v23 v26=>(((K v5 v8 v11 v14 v17 v20 v23 v26))))=K v5 v8 v11 v14 v17 v20 v23 v26:=(yx h _).trans rfl
theorem acH {ds v2:List D}(h:V 189 ds=some (.os (1,0) v2,[]))(K:List D->Option Ret):AY 189 ds (fun v2=>((K v2)))=K v2:=(yx h _).trans rfl
theorem IK {ds:List D}{v2:Bool}(h:V 135 ds=some (.bool v2,[]))(K:Bool->Option Ret):ck1 135 ds (fun v2=>((K v2)))=K v2:=(yx h _).trans rfl
theorem KG {ds:List D}{v2:Int}{v8:List D}{v11 v14 v17 v20 v23 v26 v29:Int}{v32 v35 v38:List D} (h:V 132 ds=some (iN v2,[.op [.os (5,0) v8,iN v11,iN v14,iN v17,iN v20,iN v23,iN v26,iN v29,.rs (5,0) v32,.rs (4,0) v35,.rs (3,0) v38]])) (K:Int->List D->Int->Int->Int->Int->Int->Int->Int->List D->List D->List D->Option Ret):LQ 132 ds (fun v2 v8 v11 v14 v17 v20 v23 v26 v29 v32 v35 v38=>(((K v2 v8 v11 v14 v17 v20 v23 v26 v29 v32 v35 v38))))=K v2 v8 v11 v14 v17 v20 v23 v26 v29 v32 v35 v38:=(yx h _).trans rfl
theorem Gy {ds v5:List D}{v8 v11 v14 v17 v20 v23 v26:Int} (h:V 92 ds=some (.agg [.os (5,0) v5,iN v8,iN v11,iN v14,iN v17,iN v20,iN v23,iN v26],[])) (K:List D->Int->Int->Int->Int->Int->Int->Int->Option Ret):ck7 92 ds (fun v5 v8 v11 v14 v17 v20 v23 v26=>(((K v5 v8 v11 v14 v17 v20 v23 v26))))=K v5 v8 v11 v14 v17 v20 v23 v26:=(yx h _).trans rfl
theorem NV {ds:List D}{v2:Int}{v8:List D}{v11 v14 v17 v20 v23 v26 v29:Int}{v32 v35 v38:List D} (h:V 133 ds=some (iN v2,[.op [.os (5,0) v8,iN v11,iN v14,iN v17,iN v20,iN v23,iN v26,iN v29,.rs (5,0) v32,.rs (4,0) v35,.rs (3,0) v38]])) (K:Int->List D->Int->Int->Int->Int->Int->Int->Int->List D->List D->List D->Option Ret):LQ 133 ds (fun v2 v8 v11 v14 v17 v20 v23 v26 v29 v32 v35 v38=>(((K v2 v8 v11 v14 v17 v20 v23 v26 v29 v32 v35 v38))))=K v2 v8 v11 v14 v17 v20 v23 v26 v29 v32 v35 v38:=(yx h _).trans rfl
theorem MU {ds:List D}{v2:Int}{v8:List D}{v11 v14 v17 v20 v23 v26 v29:Int}{v32 v35 v38:List D} (h:V 134 ds=some (iN v2,[.op [.os (5,0) v8,iN v11,iN v14,iN v17,iN v20,iN v23,iN v26,iN v29,.rs (5,0) v32,.rs (4,0) v35,.rs (3,0) v38]])) (K:Int->List D->Int->Int->Int->Int->Int->Int->Int->List D->List D->List D->Option Ret):LQ 134 ds (fun v2 v8 v11 v14 v17 v20 v23 v26 v29 v32 v35 v38=>(((K v2 v8 v11 v14 v17 v20 v23 v26 v29 v32 v35 v38))))=K v2 v8 v11 v14 v17 v20 v23 v26 v29 v32 v35 v38:=(yx h _).trans rfl
theorem abo {ds v5:List D}{v8 v11 v14 v17 v20 v23 v26:Int} (h:V 32 ds=some (.agg [.os (5,0) v5,iN v8,iN v11,iN v14,iN v17,iN v20,iN v23,iN v26],[])) (K:List D->Int->Int->Int->Int->Int->Int->Int->Option Ret):ck7 32 ds (fun v5 v8 v11 v14 v17 v20 v23 v26=>(((K v5 v8 v11 v14 v17 v20 v23 v26))))=K v5 v8 v11 v14 v17 v20 v23 v26:=(yx h _).trans rfl
theorem ad1 {ds:List D}{v2:Bool}(h:V 242 ds=some (.bool v2,[]))(K:Bool->Option Ret):ck1 242 ds (fun v2=>((K v2)))=K v2:=(yx h _).trans rfl
theorem Z5 {ds:List D}{v5 v8:Int}{v11:ByteArray}{v14 v17:Int}(h:V 243 ds=some (.agg [iN v5,iN v8,.str v11,iN v14,iN v17],[]))(K:Int->Int->ByteArray->Int->Int->Option Ret):ck2 243 ds (fun v5 v8 v11 v14 v17=>(((K v5 v8 v11 v14 v17))))=K v5 v8 v11 v14 v17:=(yx h _).trans rfl
theorem XD {ds:List D}{v5 v8:Int}{v11:ByteArray}{v14 v17:Int}(h:V 235 ds=some (.agg [iN v5,iN v8,.str v11,iN v14,iN v17],[]))(K:Int->Int->ByteArray->Int->Int->Option Ret):ck2 235 ds (fun v5 v8 v11 v14 v17=>(((K v5 v8 v11 v14 v17))))=K v5 v8 v11 v14 v17:=(yx h _).trans rfl
theorem TM {ds:List D}{v2:Int}{v8:List D} (h:V 93 ds=some (iN v2,[.op [.os (5,0) v8]])) (K:Int->List D->Option Ret):AP 93 ds (fun v2 v8=>(((K v2 v8))))=K v2 v8:=(yx h _).trans rfl
theorem JN {ds:List D}{v2:Int}{v8:List D}{v11 v14 v17 v20 v23 v26 v29:Int}{v32 v35 v38:List D} (h:V 186 ds=some (iN v2,[.op [.os (5,0) v8,iN v11,iN v14,iN v17,iN v20,iN v23,iN v26,iN v29,.rs (5,0) v32,.rs (4,0) v35,.rs (3,0) v38]])) (K:Int->List D->Int->Int->Int->Int->Int->Int->Int->List D->List D->List D->Option Ret):LQ 186 ds (fun v2 v8 v11 v14 v17 v20 v23 v26 v29 v32 v35 v38=>(((K v2 v8 v11 v14 v17 v20 v23 v26 v29 v32 v35 v38))))=K v2 v8 v11 v14 v17 v20 v23 v26 v29 v32 v35 v38:=(yx h _).trans rfl
theorem LG {ds:List D}{v2:Int}{v8:List D}{v11 v14 v17 v20 v23 v26 v29:Int}{v32 v35 v38:List D} (h:V 187 ds=some (iN v2,[.op [.os (5,0) v8,iN v11,iN v14,iN v17,iN v20,iN v23,iN v26,iN v29,.rs (5,0) v32,.rs (4,0) v35,.rs (3,0) v38]])) (K:Int->List D->Int->Int->Int->Int->Int->Int->Int->List D->List D->List D->Option Ret):LQ 187 ds (fun v2 v8 v11 v14 v17 v20 v23 v26 v29 v32 v35 v38=>(((K v2 v8 v11 v14 v17 v20 v23 v26 v29 v32 v35 v38))))=K v2 v8 v11 v14 v17 v20 v23 v26 v29 v32 v35 v38:=(yx h _).trans rfl
theorem TP {ds:List D}{v2:Int}{v8:List D}{v11 v14 v17 v20 v23 v26 v29:Int} (h:V 196 ds=some (iN v2,[.op [.os (5,0) v8,iN v11,iN v14,iN v17,iN v20,iN v23,iN v26,iN v29]])) (K:Int->List D->Int->Int->Int->Int->Int->Int->Int->Option Ret):QI 196 ds (fun v2 v8 v11 v14 v17 v20 v23 v26 v29=>(((K v2 v8 v11 v14 v17 v20 v23 v26 v29))))=K v2 v8 v11 v14 v17 v20 v23 v26 v29:=(yx h _).trans rfl
theorem Yk {ds v8 v11:List D}{v14 v17:Int} (h:V 191 ds=some (.tup [.agg [.os (5,0) v8],.os (1,0) v11,iN v14,iN v17],[])) (K:List D->List D->Int->Int->Option Ret):aeJ 191 ds (fun v8 v11 v14 v17=>((((K v8 v11 v14 v17)))))=K v8 v11 v14 v17:=(yx h _).trans rfl
theorem Se {ds v8 v11 v14:List D}{v17 v20:Int} (h:V 193 ds=some (.tup [.agg [.os (5,0) v8,.os (4,0) v11,.os (3,0) v14],iN v17,iN v20],[])) (K:List D->List D->List D->Int->Int->Option Ret):aeK 193 ds (fun v8 v11 v14 v17 v20=>((((K v8 v11 v14 v17 v20)))))=K v8 v11 v14 v17 v20:=(yx h _).trans rfl
theorem Z4 {ds v2:List D}(h:V 247 ds=some (.os (1,0) v2,[]))(K:List D->Option Ret):AY 247 ds (fun v2=>((K v2)))=K v2:=(yx h _).trans rfl
theorem abm {ds:List D}{v2:Bool}(h:V 126 ds=some (.bool v2,[]))(K:Bool->Option Ret):ck1 126 ds (fun v2=>((K v2)))=K v2:=(yx h _).trans rfl
theorem JH {ds:List D}{v2:Bool}(h:V 203 ds=some (.bool v2,[]))(K:Bool->Option Ret):ck1 203 ds (fun v2=>((K v2)))=K v2:=(yx h _).trans rfl
theorem Pb {ds v2 v8:List D} (h:V 137 ds=some (.os (1,0) v2,[.op [.os (5,0) v8]])) (K:List D->List D->Option Ret):aav 137 ds (fun v2 v8=>(((K v2 v8))))=K v2 v8:=(yx h _).trans rfl
theorem Ny {ds:List D}{v5:Int}{v8:Bool}(h:V 216 ds=some (.tup [iN v5,.bool v8],[]))(K:Int->Bool->Option Ret):aca 216 ds (fun v5 v8=>(((K v5 v8))))=K v5 v8:=(yx h _).trans rfl
theorem Qq {ds:List D}{v2:Int}{v8:List D}{v11 v14 v17 v20 v23 v26 v29:Int} (h:V 217 ds=some (iN v2,[.op [.os (5,0) v8,iN v11,iN v14,iN v17,iN v20,iN v23,iN v26,iN v29]])) (K:Int->List D->Int->Int->Int->Int->Int->Int->Int->Option Ret):QI 217 ds (fun v2 v8 v11 v14 v17 v20 v23 v26 v29=>(((K v2 v8 v11 v14 v17 v20 v23 v26 v29))))=K v2 v8 v11 v14 v17 v20 v23 v26 v29:=(yx h _).trans rfl
theorem abt {ds:List D}{v2:Int}{v8:List D}{v11 v14 v17 v20 v23 v26 v29:Int} (h:V 219 ds=some (iN v2,[.op [.os (5,0) v8,iN v11,iN v14,iN v17,iN v20,iN v23,iN v26,iN v29]])) (K:Int->List D->Int->Int->Int->Int->Int->Int->Int->Option Ret):QI 219 ds (fun v2 v8 v11 v14 v17 v20 v23 v26 v29=>(((K v2 v8 v11 v14 v17 v20 v23 v26 v29))))=K v2 v8 v11 v14 v17 v20 v23 v26 v29:=(yx h _).trans rfl
theorem abs {ds:List D}{v2:Int}{v8:List D}{v11 v14 v17 v20 v23 v26 v29:Int} (h:V 220 ds=some (iN v2,[.op [.os (5,0) v8,iN v11,iN v14,iN v17,iN v20,iN v23,iN v26,iN v29]])) (K:Int->List D->Int->Int->Int->Int->Int->Int->Int->Option Ret):QI 220 ds (fun v2 v8 v11 v14 v17 v20 v23 v26 v29=>(((K v2 v8 v11 v14 v17 v20 v23 v26 v29))))=K v2 v8 v11 v14 v17 v20 v23 v26 v29:=(yx h _).trans rfl
theorem TN {ds v8:List D}{v11 v14 v17 v20 v23 v26 v29:Int}{v32:Bool} (h:V 21 ds=some (.tup [.agg [.os (5,0) v8,iN v11,iN v14,iN v17,iN v20,iN v23,iN v26,iN v29],.bool v32],[])) (K:List D->Int->Int->Int->Int->Int->Int->Int->Bool->Option Ret):Uv 21 ds (fun v8 v11 v14 v17 v20 v23 v26 v29 v32=>((((K v8 v11 v14 v17 v20 v23 v26 v29 v32)))))=K v8 v11 v14 v17 v20 v23 v26 v29 v32:=(yx h _).trans rfl
theorem XE {ds:List D}{v2:Int}(h:V 245 ds=some (iN v2,[]))(K:Int->Option Ret):Ir 245 ds (fun v2=>((K v2)))=K v2:=(yx h _).trans rfl
theorem Yl {ds:List D}{v5 v8:Int}{v14:List D} (h:V 246 ds=some (.tup [iN v5,iN v8],[.op [.os (5,0) v14]])) (K:Int->Int->List D->Option Ret):adJ 246 ds (fun v5 v8 v14=>((((K v5 v8 v14)))))=K v5 v8 v14:=(yx h _).trans rfl
theorem abp {ds:List D}{v2:Int}(h:V 232 ds=some (iN v2,[]))(K:Int->Option Ret):Ir 232 ds (fun v2=>((K v2)))=K v2:=(yx h _).trans rfl
theorem Jr {ds:List D}{v2:Int}{v8:List D}{v11 v14:Int} (h:V 143 ds=some (iN v2,[.op [.rs (1,0) v8,iN v11,iN v14]])) (K:Int->List D->Int->Int->Option Ret):ck9 143 ds (fun v2 v8 v11 v14=>(((K v2 v8 v11 v14))))=K v2 v8 v11 v14:=(yx h _).trans rfl
theorem acI {ds:List D}{v5:Int}{v8:Bool}(h:V 227 ds=some (.tup [iN v5,.bool v8],[]))(K:Int->Bool->Option Ret):aca 227 ds (fun v5 v8=>(((K v5 v8))))=K v5 v8:=(yx h _).trans rfl
theorem abq {ds:List D}{v2:Bool}(h:V 130 ds=some (.bool v2,[]))(K:Bool->Option Ret):ck1 130 ds (fun v2=>((K v2)))=K v2:=(yx h _).trans rfl
theorem UJ {ds:List D}{v2:Bool}(h:V 177 ds=some (.bool v2,[]))(K:Bool->Option Ret):ck1 177 ds (fun v2=>((K v2)))=K v2:=(yx h _).trans rfl
end Go.Eng
/-! nodes and pools: when they are right,on both sides -/
namespace Go.Eng
noncomputable section
open Go.Proofs Go.Proofs.Tryz

theorem AJ (b c:Bool)(l:List D):br b (some (D.bool c,l)) (some (D.bool false,l))=some (D.bool (b&&c),l):=by cases b<;>rfl
theorem aeE (b c:Bool)(l:List D):br b (some (D.bool true,l)) (some (D.bool c,l))=some (D.bool (b||c),l):=by cases b<;>rfl
theorem PG (b c:Bool)(l:List D):br b (some (D.bool false,l)) (some (D.bool c,l))=some (D.bool (!b&&c),l):=by cases b<;>rfl

structure Nd where
 kind:Int
 n:Int
 s:ByteArray
 a:Int
 b:Int
abbrev eN (x:Nd):D:=.agg [iN x.kind,iN x.n,.str x.s,iN x.a,iN x.b]
section
variable {R:Type}
theorem Nq (x:Nd)(K:Int->Int->ByteArray->Int->Int->Option R):tk2 (eN x) (fun n4 n7 s10 n13 n16=>(K n4 n7 s10 n13 n16))=K x.kind x.n x.s x.a x.b:=rfl
theorem ah8 (x:Nd)(K:Int->Option R):asAgg (eN x) (fun l=>dd l 0 fun y=>asI .i64 y fun n=>K n)=K x.kind:=rfl
theorem ah9 (x:Nd)(K:Int->Option R):asAgg (eN x) (fun l=>dd l 1 fun y=>asI .i64 y fun n=>K n)=K x.n:=rfl
theorem aia (x:Nd)(K:ByteArray->Option R):asAgg (eN x) (fun l=>dd l 2 fun y=>asS y fun n=>K n)=K x.s:=rfl
theorem aib (x:Nd)(K:Int->Option R):asAgg (eN x) (fun l=>dd l 3 fun y=>asI .i64 y fun n=>K n)=K x.a:=rfl
theorem aic (x:Nd)(K:Int->Option R):asAgg (eN x) (fun l=>dd l 4 fun y=>asI .i64 y fun n=>K n)=K x.b:=rfl
end

theorem AI (n lo hi:Int):V 58 [iN n,iN lo,iN hi]=some (.bool (wi n lo hi),[]):=(Y9 n lo hi).trans yW
theorem Dg (n lo hi:Int):V 62 [iN n,iN lo,iN hi]=some (.bool (wi n lo hi),[]):=(acp n lo hi).trans yW
theorem aak (a b:Int):V 116 [iN a,iN b]=some (iN (mnI a b),[]):=by
 rw[aaP]
 unfold mnI
 by_cases h:a<b
 ·rw[y6 (bE h),aD (by omega)]
 ·rw[yp (bK h)]
  by_cases h2:b<a
  ·rw[aG h2]
  ·rw[aD h2,show b=a by omega]

def nmB (c:Int):Bool:=(decide (c>=97)&&decide (c<=122))||[43,45,42,60,61,63,33,47].any fun x=>c==x
theorem VT {l:List Int}(hl:l.length<4611686018427387904)(c:Int):∀(k i:Nat),i+k=l.length->Cj (l.map (D.int .u8)) c (ni (l.map (D.int .u8)).length) (i:Int)=some (iN (d9 (fun x=>c==x) l i),[])
 |0,i,hi=>by
  rw[Eo,yp (by rw[lnM];exact zI (by omega)),ym (by omega)]
 |k+1,i,hi=>by
  obtain⟨x,hx⟩:=yM (l:=l) (i:=i) (by omega)
  have ih:=VT hl c k (i+1) (by omega)
  rw[Eo,y6 (by rw[lnM];exact zN (by omega)),zJ (by rw[lnM];exact zM (by omega)),bI,zj hx,zq]
  cases h:c==x with
  |true=>rw[zy,yn hx h]
  |false=>rw[y0,z6 (by omega),ih,ya hx h]
theorem afm {l:List Int}{c:Int}:decide (zm (fun x=>c==x) l>=0)=l.any fun x=>c==x:=by
 unfold zm
 cases h:l.findIdx? fun x=>c==x with
 |none=>
  have:=List.findIdx?_eq_none_iff.1 h
  symm
  simpa[List.any_eq_false]using this
 |some k=>
  have h2:(l.any fun x=>c==x)=true:=by
   rw[List.findIdx?_eq_some_iff_getElem]at h
   obtain⟨hk,h3,_⟩:=h
   exact List.any_eq_true.2 ⟨l[k],List.getElem_mem hk,h3⟩
  rw[h2]
  simp
theorem acT {l:List Int}(hl:l.length<4611686018427387904)(c:Int):V 203 [.rs (1,0) (l.map (D.int .u8)),.int .u8 c]=some (.bool (l.any fun x=>c==x),[]):=by
 have h:V 221 [.rs (1,0) (l.map (D.int .u8)),.int .u8 c]=some (iN (zm (fun x=>c==x) l),[]):=by
  rw[MG,<-yb]
  exact VT hl c l.length 0 (bX _)
 rw[Kt,KO h,afm]
theorem aaj (c:Int):V 177 [.int .u8 c]=some (.bool (nmB c),[]):=by
 have h:=acT (l:=[43,45,42,60,61,63,33,47]) (by simp) c
 simp only[bR,eL]at h
 rw[Tm,zJ (by decide),JH h]
 unfold nmB
 cases decide (c>=97)<;>cases decide (c<=122)<;>rfl
theorem SG (c:Int):V 180 [.int .u8 c]=some (.bool (nmB c),[]):=by
 rw[Tw]
 simp only[aeE,nmB,List.any_cons,List.any_nil,Bool.or_false]
 cases decide (c>=97)<;>cases decide (c<=122)<;>rfl

def ZY (s:ByteArray):Nat->Nat->Bool
 |_,0=>true
 |i,k+1=>nmB (bt s i)&&ZY s (i+1) k
def Oi (s:ByteArray):Bool:=wi s.size 1 12&&ZY s 0 s.size
theorem OL {s:ByteArray}(hl:s.size<4611686018427387904):∀(k i:Nat),i+k=s.size->Fa s (ni s.size) (i:Int)=some (.bool (ZY s i k),[])
 |0,i,hi=>by rw[KU,yp (zI (by omega))];rfl
 |k+1,i,hi=>by
  rw[KU,y6 (zN (by omega)),zJ (zM (by omega)),UJ (aaj _),z6 (by omega),OL hl k (i+1) (by omega),PG,Bool.not_not]
  rfl
theorem Pt {s:ByteArray}(hl:s.size<4611686018427387904):∀(k i:Nat),i+k=s.size->Ff s (i:Int)=some (.bool (ZY s i k&&wi s.size 1 12),[])
 |0,i,hi=>by rw[Ld,yp (zI (by omega)),Cq (Dg _ _ _)];rfl
 |k+1,i,hi=>by
  rw[Ld,y6 (zN (by omega)),zJ (zM (by omega)),NU (SG _),z6 (by omega),Pt hl k (i+1) (by omega),PG,Bool.not_not,<-Bool.and_assoc]
  rfl
theorem LZ {s:ByteArray}(hl:s.size<4611686018427387904):V 124 [.str s]=some (.bool (Oi s),[]):=by
 have h:Fa s (ni s.size) 0=_:=OL hl s.size 0 (bX _)
 rw[YU,AF (AI _ _ _),h,PG,Bool.not_not]
 rfl
theorem Jh {s:ByteArray}(hl:s.size<4611686018427387904):V 128 [.str s]=some (.bool (Oi s),[]):=by
 have h:Ff s 0=_:=Pt hl s.size 0 (bX _)
 rw[Zf,h,Bool.and_comm]
 rfl

def nz (s:ByteArray):Bool:=kJ s ⟨#[]⟩
def okN (x:Nd)(h:Int):Bool:=
 if x.kind=1 then wi x.n 0 0&&(nz x.s&&(x.a==0&&x.b==0))
 else if x.kind=2 then wi x.n 0 1&&(nz x.s&&(x.a==0&&x.b==0))
 else if x.kind=3 then wi x.n (-1000000000) 1000000000&&(nz x.s&&(x.a==0&&x.b==0))
 else if x.kind=4 then wi x.n 0 0&&(Oi x.s&&(x.a==0&&x.b==0))
 else if x.kind=5 then wi x.n 0 0&&(nz x.s&&(wi x.a 0 (h-1)&&wi x.b 0 (h-1)))
 else if x.kind=6 then wi x.n 0 1000000000&&(nz x.s&&(wi x.a 0 (h-1)&&x.b==0))
 else if x.kind=7 then wi x.n 0 0&&(nz x.s&&(wi x.a 0 (h-1)&&x.b==0))
 else if x.kind=8 then wi x.n 0 99&&(nz x.s&&(x.a==0&&x.b==0))
 else if x.kind=9 then wi x.n 0 1000000000&&(nz x.s&&(x.a==0&&x.b==0))
 else false
theorem agu (n:Int):wi n 0 0=(n==0):=by
 unfold wi
 by_cases h:n=0
 ·subst h;rfl
 ·have:(n==0)=false:=by simp[h]
  rw[this]
  simp;omega

theorem XJ {x:Nd}(hs:x.s.size<4611686018427387904){h:Int}(h0 : -4611686018427387904<h)(h1:h<4611686018427387904):V 126 [eN x,iN h]=some (.bool (okN x h),[]):=by
 rw[Y7,w64 (n:=h-1) (by omega) (by omega)]
 unfold okN
 by_cases e1:x.kind=1
 ·rw[y6 (by simp[e1]),if_pos e1,AF (AI _ _ _)];simp only[AJ];rfl
 rw[yp (by simp[e1]),if_neg e1]
 by_cases e2:x.kind=2
 ·rw[y6 (by simp[e2]),if_pos e2,AF (AI _ _ _)];simp only[AJ];rfl
 rw[yp (by simp[e2]),if_neg e2]
 by_cases e3:x.kind=3
 ·rw[y6 (by simp[e3]),if_pos e3,AF (AI _ _ _)];simp only[AJ];rfl
 rw[yp (by simp[e3]),if_neg e3]
 by_cases e4:x.kind=4
 ·rw[y6 (by simp[e4]),if_pos e4,abk (LZ hs),AF (AI _ _ _)];simp only[AJ]
 rw[yp (by simp[e4]),if_neg e4]
 by_cases e5:x.kind=5
 ·rw[y6 (by simp[e5]),if_pos e5,AF (AI _ _ _),AF (AI _ _ _),AF (AI _ _ _)];simp only[AJ];rfl
 rw[yp (by simp[e5]),if_neg e5]
 by_cases e6:x.kind=6
 ·rw[y6 (by simp[e6]),if_pos e6,AF (AI _ _ _),AF (AI _ _ _)];simp only[AJ];rfl
 rw[yp (by simp[e6]),if_neg e6]
 by_cases e7:x.kind=7
 ·rw[y6 (by simp[e7]),if_pos e7,AF (AI _ _ _),AF (AI _ _ _)];simp only[AJ];rfl
 rw[yp (by simp[e7]),if_neg e7]
 by_cases e8:x.kind=8
 ·rw[y6 (by simp[e8]),if_pos e8,AF (AI _ _ _)];simp only[AJ];rfl
 rw[yp (by simp[e8]),if_neg e8]
 by_cases e9:x.kind=9
 ·rw[y6 (by simp[e9]),if_pos e9,AF (AI _ _ _)];simp only[AJ];rfl
 rw[yp (by simp[e9]),if_neg e9]

theorem afz {x:Nd}(hs:x.s.size<4611686018427387904){h:Int}(h0 : -4611686018427387904<h)(h1:h<4611686018427387904):V 130 [eN x,iN h]=some (.bool (okN x h),[]):=by
 rw[Zo,w64 (n:=h-1) (by omega) (by omega),Cq (Dg _ _ _),Cq (Dg _ _ _)]
 unfold okN
 have hss:kJ x.s x.s=true:=by rw[Dz];simp
 by_cases e1:x.kind=1
 ·rw[y6 (by simp[e1]),if_pos e1,e1,agu];simp[nz]
 rw[yp (by simp[e1]),if_neg e1]
 by_cases e2:x.kind=2
 ·rw[y6 (by simp[e2]),if_pos e2,e2,Cq (Dg _ _ _)];simp only[AJ];simp[nz]
 rw[yp (by simp[e2]),if_neg e2]
 by_cases e3:x.kind=3
 ·rw[y6 (by simp[e3]),if_pos e3,e3,Cq (Dg _ _ _)];simp only[AJ];simp[nz]
 rw[yp (by simp[e3]),if_neg e3]
 by_cases e4:x.kind=4
 ·rw[y6 (by simp[e4]),if_pos e4,e4,Uf (Jh hs),agu,hss];simp only[AJ]
  cases Oi x.s<;>cases x.n==0<;>simp
 rw[yp (by simp[e4]),if_neg e4]
 by_cases e5:x.kind=5
 ·rw[y6 (by simp[e5]),if_pos e5,agu];simp only[AJ]
  show some (D.bool (_&&(_&&(_&&nz x.s))),_)=_
  cases wi x.a 0 (h-1)<;>cases wi x.b 0 (h-1)<;>cases x.n==0<;>cases nz x.s<;>rfl
 rw[yp (by simp[e5]),if_neg e5]
 by_cases e6:x.kind=6
 ·rw[y6 (by simp[e6]),if_pos e6,Cq (Dg _ _ _)];simp only[AJ]
  show some (D.bool (_&&(_&&(_&&nz x.s))),_)=_
  cases wi x.a 0 (h-1)<;>cases wi x.n 0 1000000000<;>cases x.b==0<;>cases nz x.s<;>rfl
 rw[yp (by simp[e6]),if_neg e6]
 by_cases e7:x.kind=7
 ·rw[y6 (by simp[e7]),if_pos e7,agu];simp only[AJ]
  show some (D.bool (_&&(_&&(_&&nz x.s))),_)=_
  cases wi x.a 0 (h-1)<;>cases x.n==0<;>cases x.b==0<;>cases nz x.s<;>rfl
 rw[yp (by simp[e7]),if_neg e7]
 by_cases e8:x.kind=8
 ·rw[y6 (by simp[e8]),if_pos e8,e8,Cq (Dg _ _ _)];simp only[AJ];simp[nz]
 rw[yp (by simp[e8]),if_neg e8]
 by_cases e9:x.kind=9
 ·rw[y6 (by simp[e9]),if_pos e9,e9,Cq (Dg _ _ _)];simp only[AJ];simp[nz]
 rw[yp (by simp[e9]),if_neg e9]

abbrev eP (p:List Nd):D:=.agg [.rs (5,0) (p.map eN)]
abbrev oP (p:List Nd):D:=.agg [.os (5,0) (p.map eN)]
abbrev rP (p:List Nd):D:=.op [.os (5,0) (p.map eN)]
def Cu (p:List Nd):Prop:=∀x∈p,x.s.size<4611686018427387904
def LX (p:List Nd):Nat->Nat->Bool
 |_,0=>true
 |i,k+1=>(match p[i]? with|some x=>okN x i|none=>true)&&LX p (i+1) k
def Ac (p:List Nd):Bool:=LX p 0 p.length&&decide ((p.length:Int)<=3000)
theorem OT {p:List Nd}(hf:Cu p)(hl:p.length<4611686018427387904):∀(k i:Nat),i+k=p.length->GG (p.map eN) (ni (p.map eN).length) (i:Int) (p.map eN)=some (.bool (LX p i k&&decide ((p.length:Int)<=3000)),[])
 |0,i,hi=>by
  rw[KV,yp (by rw[lnM];exact zI (by omega)),lnM];rfl
 |k+1,i,hi=>by
  obtain⟨x,hx⟩:=yM (l:=p) (i:=i) (by omega)
  rw[KV,y6 (by rw[lnM];exact zN (by omega)),zJ (by rw[lnM];exact zM (by omega)),bI,zj hx,Nq,abm (XJ (hf x (bT hx)) (by omega) (by omega)),z6 (by omega),OT hf hl k (i+1) (by omega),PG,Bool.not_not,<-Bool.and_assoc]
  simp only[LX,hx]
theorem Pw {p:List Nd}(hf:Cu p)(hl:p.length<4611686018427387904):∀(k i:Nat),i+k=p.length->GP (i:Int) (p.map eN)=some (.bool (LX p i k&&decide ((p.length:Int)<=3000)),[])
 |0,i,hi=>by
  rw[Lf,yp (by rw[lnM];exact zI (by omega)),lnM];rfl
 |k+1,i,hi=>by
  obtain⟨x,hx⟩:=yM (l:=p) (i:=i) (by omega)
  rw[Lf,y6 (by rw[lnM];exact zN (by omega)),zJ (by rw[lnM];exact zM (by omega)),bI,zj hx,Nq,abq (afz (hf x (bT hx)) (by omega) (by omega)),z6 (by omega),Pw hf hl k (i+1) (by omega),PG,Bool.not_not,<-Bool.and_assoc]
  simp only[LX,hx]
theorem Jf {p:List Nd}(hf:Cu p)(hl:p.length<4611686018427387904):V 55 [eP p]=some (.bool (Ac p),[]):=by
 rw[YV];exact OT hf hl p.length 0 (bX _)
theorem CU {p:List Nd}(hf:Cu p)(hl:p.length<4611686018427387904):V 60 [eP p]=some (.bool (Ac p),[]):=by
 rw[Zg];exact Pw hf hl p.length 0 (bX _)
end
end Go.Eng
/-! what is reached,on both sides -/
namespace Go.Eng
noncomputable section
open Go.Proofs Go.Proofs.Tryz

theorem ad8 {α:Type}{l:List α}{p:α->Bool}:decide (zm p l>=0)=l.any p:=by
 unfold zm
 cases h:l.findIdx? p with
 |none=>
  have:=List.findIdx?_eq_none_iff.1 h
  symm
  simpa[List.any_eq_false]using this
 |some k=>
  have h2:l.any p=true:=by
   rw[List.findIdx?_eq_some_iff_getElem]at h
   obtain⟨hk,h3,_⟩:=h
   exact List.any_eq_true.2 ⟨l[k],List.getElem_mem hk,h3⟩
  rw[h2]
  simp

abbrev eI:Int->D:=D.int .i64
theorem wi_iff {n lo hi:Int}:wi n lo hi=true↔lo<=n/\n<=hi:=by simp[wi]

theorem Wt {p:List Nd}:∀{k i j:Nat}{x:Nd},LX p i k=true->i<=j->j<i+k->p[j]? = some x->okN x j=true
 |0,i,j,x,_,h1,h2,_=>by omega
 |k+1,i,j,x,h,h1,h2,hx=>by
  simp only[LX,aB]at h
  by_cases e:i=j
  ·subst e;rw[hx]at h;exact h.1
  ·exact Wt h.2 (by omega) (by omega) hx
theorem De {p:List Nd}(h:Ac p=true){j:Nat}{x:Nd}(hx:p[j]? = some x):okN x j=true:=by
 simp only[Ac,aB]at h
 exact Wt h.1 (Nat.zero_le _) (by have:=aQ hx;omega) hx
theorem Ak {p:List Nd}(h:Ac p=true):p.length<=3000:=by
 simp only[Ac,aB,bL]at h;omega
theorem AH {x:Nd}{h:Int}(ho:okN x h=true)(hk:x.kind=5):0<=x.a/\x.a<h/\0<=x.b/\x.b<h:=by
 simp[okN,hk,wi]at ho;omega
theorem BM {x:Nd}{h:Int}(ho:okN x h=true)(hk:x.kind=6\/x.kind=7):0<=x.a/\x.a<h:=by
 rcases hk with hk|hk<;>simp[okN,hk,wi]at ho<;>omega

def Ap (p:List Nd)(rs:List Int):Bool:=rs.all fun r=>wi r 0 ((p.length:Int)-1)
theorem Jy {p:List Nd}(hl:p.length<4611686018427387904)(r:Int):V 56 [eP p,iN r]=some (.bool (wi r 0 ((p.length:Int)-1)),[]):=by
 rw[Y6,AF (AI _ _ _),lnM,w64 (by simp only[ni];omega) (by simp only[ni];omega)]
theorem JY {p:List Nd}(hl:p.length<4611686018427387904)(r:Int):V 61 [eP p,iN r]=some (.bool (wi r 0 ((p.length:Int)-1)),[]):=by
 rw[aaS,Cq (Dg _ _ _),lnM,w64 (by simp only[ni];omega) (by simp only[ni];omega)]
theorem WB {p:List Nd}(hl:p.length<4611686018427387904){l:List Int}(h2:l.length<4611686018427387904):∀(k i:Nat),i+k=l.length->Dv (l.map eI) (p.map eN) (ni (l.map eI).length) (i:Int)=some (iN (d9 (fun r=>!wi r 0 ((p.length:Int)-1)) l i),[])
 |0,i,hi=>by
  rw[Gx,yp (by rw[lnM];exact zI (by omega)),ym (by omega)]
 |k+1,i,hi=>by
  obtain⟨x,hx⟩:=yM (l:=l) (i:=i) (by omega)
  have ih:=WB hl h2 k (i+1) (by omega)
  have hr:V 136 [iN x,.bp [.rs (5,0) (p.map eN)]]=some (.bool (!wi x 0 ((p.length:Int)-1)),[]):=by
   rw[acl,Pc (Jy hl x)]
  rw[Gx,y6 (by rw[lnM];exact zN (by omega)),zJ (by rw[lnM];exact zM (by omega)),bI,zj hx,zq,Wk hr]
  cases h:(!wi x 0 ((p.length:Int)-1)) with
  |true=>rw[zy,yn hx h]
  |false=>rw[y0,z6 (by omega),ih,ya hx h]
theorem aeq {p:List Nd}(hf:Cu p)(hl:p.length<4611686018427387904){l:List Int}(h2:l.length<4611686018427387904):V 65 [eP p,.rs (1,0) (l.map eI)]=some (.bool (Ac p&&Ap p l),[]):=by
 have h:V 188 [.rs (1,0) (l.map eI),.fn 136 [.bp [.rs (5,0) (p.map eN)]]]=some (iN (zm (fun r=>!wi r 0 ((p.length:Int)-1)) l),[]):=by
  rw[QL,<-yb]
  exact WB hl h2 l.length 0 (bX _)
 have h3:V 135 [.rs (1,0) (l.map eI),.fn 136 [.bp [.rs (5,0) (p.map eN)]]]=some (.bool (l.any fun r=>!wi r 0 ((p.length:Int)-1)),[]):=by
  rw[Og,JW h,ad8]
 rw[Xg,Ub (Jf hf hl),IK h3,AJ]
 congr 3
 unfold Ap
 rw[List.any_eq_not_all_not,Bool.not_not]
 simp
theorem NW {p:List Nd}(hf:Cu p)(hl:p.length<4611686018427387904){l:List Int}(h2:l.length<4611686018427387904):∀(k i:Nat),i+k=l.length->Ew (l.map eI) (i:Int) (p.map eN)=some (.bool ((l.drop i).all (fun r=>wi r 0 ((p.length:Int)-1))&&Ac p),[])
 |0,i,hi=>by
  rw[Kh,yp (by rw[lnM];exact zI (by omega)),cD (by omega),Fm (CU hf hl)];rfl
 |k+1,i,hi=>by
  obtain⟨x,hx⟩:=yM (l:=l) (i:=i) (by omega)
  rw[Kh,y6 (by rw[lnM];exact zN (by omega)),zJ (by rw[lnM];exact zM (by omega)),bI,zj hx,zq,Nv (JY hl x),z6 (by omega),NW hf hl h2 k (i+1) (by omega),PG,Bool.not_not,vc hx,List.all_cons,Bool.and_assoc]
theorem aem {p:List Nd}(hf:Cu p)(hl:p.length<4611686018427387904){l:List Int}(h2:l.length<4611686018427387904):V 84 [eP p,.rs (1,0) (l.map eI)]=some (.bool (Ac p&&Ap p l),[]):=by
 have h:Ew (l.map eI) 0 (p.map eN)=_:=NW hf hl h2 l.length 0 (bX _)
 rw[Xu,h,Bool.and_comm];rfl

def Bw (x:Nd)(m:List Bool):List Bool:=if x.kind=5 then (m.set x.a.toNat true).set x.b.toNat true else if x.kind=6\/x.kind=7 then m.set x.a.toNat true else m
def Bv (p:List Nd):Nat->List Bool->List Bool
 |0,m=>m
 |k+1,m=>Bv p k (match p[k]?,m[k]? with|some x,some true=>Bw x m|_,_=>m)
def NG (rs:List Int)(m:List Bool):List Bool:=rs.foldl (fun m r=>m.set r.toNat true) m
def BG (p:List Nd)(rs:List Int):List Bool:=Bv p p.length (NG rs (List.replicate p.length false))
theorem Qo (x:Nd)(m:List Bool):(Bw x m).length=m.length:=by
 unfold Bw
 split
 ·simp
 ·split<;>simp
theorem Pj {p:List Nd}:∀(k:Nat)(m:List Bool),(Bv p k m).length=m.length
 |0,m=>rfl
 |k+1,m=>by
  simp only[Bv]
  rw[Pj k]
  split
  ·exact Qo _ _
  ·rfl
theorem LY:∀(rs:List Int)(m:List Bool),(NG rs m).length=m.length
 |[],m=>rfl
 |r::rs,m=>by
  have:=LY rs (m.set r.toNat true)
  simpa[NG]using this
theorem DV {n:Int}{l:Nat}(h0:0<=n)(h1:n<l):(decide (0<=n)&&decide (n<ni l))=true:=by
 simp only[ni,aB,bL];omega
theorem FC {α:Type}{l:List α}{n:Int}(h0:0<=n)(h1:n<l.length):∃x,l[n.toNat]? = some x:=yM (by omega)
theorem Jd {m:List Bool}{j:Nat}:List.set (m.map D.bool) j (D.bool true)=(m.set j true).map D.bool:=by rw[List.map_set]

theorem Dp {p:List Nd}(hp:Ac p=true):∀(k:Nat)(m:List Bool)(i:Int),i=(k:Int)-1->k<=p.length->m.length=p.length->Ct i (p.map eN) (m.map D.bool)=some (.os (1,0) ((Bv p k m).map D.bool),[])
 |0,m,i,hi,hk,hm=>by
  rw[Mg,yp (bK (by omega))];rfl
 |k+1,m,i,hi,hk,hm=>by
  have hl:=Ak hp
  have ei:i=(k:Int):=by omega
  subst ei
  obtain⟨x,hx⟩:=yM (l:=p) (i:=k) (by omega)
  obtain⟨b,hb⟩:=yM (l:=m) (i:=k) (by omega)
  have ho:=De hp hx
  have hw:w6 ((k:Int)-1)=(k:Int)-1:=w64 (by omega) (by omega)
  rw[Mg,y6 (bE (by omega)),zJ (by rw[lnM];exact zM (by omega)),bI,zj hb,yZ,hw]
  simp only[Bv,hx,hb]
  cases b with
  |false=>rw[bO,zy];exact Dp hp k m _ rfl (by omega) hm
  |true=>
   show _=some (D.os (1,0) ((Bv p k (Bw x m)).map D.bool),[])
   rw[aO,y0,zJ (by rw[lnM];exact zM (by omega)),zj hx,Nq]
   by_cases h5:x.kind=5
   ·obtain⟨a0,a1,b0,b1⟩:=AH ho h5
    obtain⟨u,hu⟩:=FC (l:=m) (n:=x.a) a0 (by omega)
    obtain⟨v,hv⟩:=FC (l:=m.set x.a.toNat true) (n:=x.b) b0 (by simp;omega)
    rw[y6 (by simp[h5]),zJ (by rw[List.length_map];exact DV a0 (by omega)),zj hu,zO,Jd,zJ (by rw[List.length_map];exact DV b0 (by simp;omega)),zj hv,zO,Jd]
    simp only[Bw,h5,if_true]
    exact Dp hp k _ _ rfl (by omega) (by simp;omega)
   rw[yp (by simp[h5])]
   by_cases h6:x.kind=6
   ·obtain⟨a0,a1⟩:=BM ho (.inl h6)
    obtain⟨u,hu⟩:=FC (l:=m) (n:=x.a) a0 (by omega)
    rw[y6 (by simp[h6]),y6 (by simp[h6]),zJ (by rw[List.length_map];exact DV a0 (by omega)),zj hu,zO,Jd]
    have e:Bw x m=m.set x.a.toNat true:=by simp[Bw,h6]
    rw[e]
    exact Dp hp k _ _ rfl (by omega) (by simp;omega)
   rw[yp (by simp[h6])]
   by_cases h7:x.kind=7
   ·obtain⟨a0,a1⟩:=BM ho (.inr h7)
    obtain⟨u,hu⟩:=FC (l:=m) (n:=x.a) a0 (by omega)
    rw[y6 (by simp[h7]),zJ (by rw[List.length_map];exact DV a0 (by omega)),zj hu,zO,Jd]
    have e:Bw x m=m.set x.a.toNat true:=by simp[Bw,h7]
    rw[e]
    exact Dp hp k _ _ rfl (by omega) (by simp;omega)
   rw[yp (by simp[h7])]
   have e:Bw x m=m:=by simp[Bw,h5,h6,h7]
   rw[e]
   exact Dp hp k _ _ rfl (by omega) hm
theorem Du {p:List Nd}(hp:Ac p=true):∀(k:Nat)(m:List Bool)(i:Int),i=(k:Int)-1->k<=p.length->m.length=p.length->BJ i (p.map eN) (m.map D.bool)=some (.os (1,0) ((Bv p k m).map D.bool),[])
 |0,m,i,hi,hk,hm=>by
  rw[Kg,yp (bK (by omega))];rfl
 |k+1,m,i,hi,hk,hm=>by
  have hl:=Ak hp
  have ei:i=(k:Int):=by omega
  subst ei
  obtain⟨x,hx⟩:=yM (l:=p) (i:=k) (by omega)
  obtain⟨b,hb⟩:=yM (l:=m) (i:=k) (by omega)
  have ho:=De hp hx
  have hw:w6 ((k:Int)-1)=(k:Int)-1:=w64 (by omega) (by omega)
  rw[Kg,y6 (bE (by omega)),zJ (by rw[lnM];exact zM (by omega)),bI,zj hx,Nq,zJ (by rw[lnM];exact zM (by omega)),zj hb,yZ,hw]
  simp only[Bv,hx,hb]
  cases b with
  |false=>rw[bO,zy];exact Du hp k m _ rfl (by omega) hm
  |true=>
   show _=some (D.os (1,0) ((Bv p k (Bw x m)).map D.bool),[])
   rw[aO,y0]
   by_cases h5:x.kind=5
   ·obtain⟨a0,a1,b0,b1⟩:=AH ho h5
    obtain⟨u,hu⟩:=FC (l:=m) (n:=x.a) a0 (by omega)
    obtain⟨v,hv⟩:=FC (l:=m.set x.a.toNat true) (n:=x.b) b0 (by simp;omega)
    rw[y6 (by simp[h5]),zJ (by rw[List.length_map];exact DV a0 (by omega)),zj hu,zO,Jd,zJ (by rw[List.length_map];exact DV b0 (by simp;omega)),zj hv,zO,Jd]
    simp only[Bw,h5,if_true]
    exact Du hp k _ _ rfl (by omega) (by simp;omega)
   rw[yp (by simp[h5])]
   by_cases h6:x.kind=6
   ·obtain⟨a0,a1⟩:=BM ho (.inl h6)
    obtain⟨u,hu⟩:=FC (l:=m) (n:=x.a) a0 (by omega)
    rw[y6 (by simp[h6]),y6 (by simp[h6]),zJ (by rw[List.length_map];exact DV a0 (by omega)),zj hu,zO,Jd]
    have e:Bw x m=m.set x.a.toNat true:=by simp[Bw,h6]
    rw[e]
    exact Du hp k _ _ rfl (by omega) (by simp;omega)
   rw[yp (by simp[h6])]
   by_cases h7:x.kind=7
   ·obtain⟨a0,a1⟩:=BM ho (.inr h7)
    obtain⟨u,hu⟩:=FC (l:=m) (n:=x.a) a0 (by omega)
    rw[y6 (by simp[h7]),zJ (by rw[List.length_map];exact DV a0 (by omega)),zj hu,zO,Jd]
    have e:Bw x m=m.set x.a.toNat true:=by simp[Bw,h7]
    rw[e]
    exact Du hp k _ _ rfl (by omega) (by simp;omega)
   rw[yp (by simp[h7])]
   have e:Bw x m=m:=by simp[Bw,h5,h6,h7]
   rw[e]
   exact Du hp k _ _ rfl (by omega) hm

theorem OJ {p:List Nd}(hp:Ac p=true){l:List Int}(h2:l.length<4611686018427387904)(hr:Ap p l=true):∀(k i:Nat)(m:List Bool),i+k=l.length->m.length=p.length->FW (l.map eI) (ni (l.map eI).length) (i:Int) (p.map eN) (m.map D.bool)=some (.os (1,0) ((Bv p p.length (NG (l.drop i) m)).map D.bool),[])
 |0,i,m,hi,hm=>by
  have hl:=Ak hp
  rw[Mf,yp (by rw[lnM];exact zI (by omega)),cD (by omega),lnM,w64 (by simp only[ni];omega) (by simp only[ni];omega)]
  exact Dp hp p.length m _ rfl (cB _) hm
 |k+1,i,m,hi,hm=>by
  obtain⟨x,hx⟩:=yM (l:=l) (i:=i) (by omega)
  have hx2:=wi_iff.1 (cO.1 hr x (bT hx))
  obtain⟨u,hu⟩:=FC (l:=m) (n:=x) hx2.1 (by omega)
  rw[Mf,y6 (by rw[lnM];exact zN (by omega)),zJ (by rw[lnM];exact zM (by omega)),bI,zj hx,zq,zJ (by rw[lnM];exact DV hx2.1 (by omega)),zj hu,zO,Jd,z6 (by omega),vc hx]
  exact OJ hp h2 hr k (i+1) _ (by omega) (by simp;omega)
theorem Pq {p:List Nd}(hp:Ac p=true){l:List Int}(h2:l.length<4611686018427387904)(hr:Ap p l=true):∀(k i:Nat)(m:List Bool),i+k=l.length->m.length=p.length->Eu (l.map eI) (i:Int) (p.map eN) (m.map D.bool)=some (.os (1,0) ((Bv p p.length (NG (l.drop i) m)).map D.bool),[])
 |0,i,m,hi,hm=>by
  have hl:=Ak hp
  rw[Kf,yp (by rw[lnM];exact zI (by omega)),cD (by omega),lnM,w64 (by simp only[ni];omega) (by simp only[ni];omega)]
  exact Du hp p.length m _ rfl (cB _) hm
 |k+1,i,m,hi,hm=>by
  obtain⟨x,hx⟩:=yM (l:=l) (i:=i) (by omega)
  have hx2:=wi_iff.1 (cO.1 hr x (bT hx))
  obtain⟨u,hu⟩:=FC (l:=m) (n:=x) hx2.1 (by omega)
  rw[Kf,y6 (by rw[lnM];exact zN (by omega)),zJ (by rw[lnM];exact zM (by omega)),bI,zj hx,zq,zJ (by rw[lnM];exact DV hx2.1 (by omega)),zj hu,zO,Jd,z6 (by omega),vc hx]
  exact Pq hp h2 hr k (i+1) _ (by omega) (by simp;omega)
theorem UV {α:Type}{f:α->D}{l:List α}(h:l.length<=4294967296):(decide (0<=ni (l.map f).length)&&decide (ni (l.map f).length<=LIM))=true:=by
 rw[aB]
 exact⟨bE (by simp only[ni];omega),bE (by rw[qA,lnM];simp only[ni];omega)⟩
theorem Yr {n:Nat}:List.replicate (Int.toNat (ni n)) (D.bool false)=(List.replicate n false).map D.bool:=by simp[ni]
theorem agr {p:List Nd}(hp:Ac p=true){l:List Int}(h2:l.length<4611686018427387904)(hr:Ap p l=true):V 189 [eP p,.rs (1,0) (l.map eI)]=some (.os (1,0) ((BG p l).map D.bool),[]):=by
 have hl:=Ak hp
 have h:FW (l.map eI) (ni (l.map eI).length) 0 (p.map eN) ((List.replicate p.length false).map D.bool)=_:=OJ hp h2 hr l.length 0 _ (bX _) (by simp)
 have e:(p.map eN).length=p.length:=lnM _
 rw[aaL,zJ (UV (by omega)),Yr,e,h];rfl
theorem YC {p:List Nd}(hp:Ac p=true){l:List Int}(h2:l.length<4611686018427387904)(hr:Ap p l=true):V 149 [eP p,.rs (1,0) (l.map eI)]=some (.os (1,0) ((BG p l).map D.bool),[]):=by
 have hl:=Ak hp
 have h:Eu (l.map eI) 0 (p.map eN) ((List.replicate p.length false).map D.bool)=_:=Pq hp h2 hr l.length 0 _ (bX _) (by simp)
 have e:(p.map eN).length=p.length:=lnM _
 rw[Xt,zJ (UV (by omega)),Yr,e,h];rfl
end
end Go.Eng
/-! what is moved into another pool,on both sides -/
namespace Go.Eng
open Go.Proofs Go.Proofs.Tryz

theorem adj {p:List Nd}(h:p.length<4294967296)(x:D):decide (ni (p.map eN++[x]).length<=LIM)=true:=
 bE (by rw[qA];simp only[ni,lnA,lnM,lnC,lnN];omega)
theorem KM {p:List Nd}(h:p.length<4294967296)(x:Nd):V 157 [rP p,eN x]=some (iN p.length,[rP (p++[x])]):=by
 rw[Vl,zJ (adj h _),zO]
 have:w6 (ni (p.map eN++[eN x]).length-1)=p.length:=by
  rw[w64 (by simp only[ni];omega) (by simp only[ni,lnA,lnM,lnC,lnN];omega)]
  simp[ni]
 rw[this];simp
theorem AV {p:List Nd}(h:p.length<4294967296)(x:Nd):V 158 [rP p,eN x]=some (iN p.length,[rP (p++[x])]):=by
 rw[aaR,zJ (adj h _),zO]
 have:w6 (ni (p.map eN++[eN x]).length-1)=p.length:=by
  rw[w64 (by simp only[ni];omega) (by simp only[ni,lnA,lnM,lnC,lnN];omega)]
  simp[ni]
 rw[this];simp

noncomputable def Aq (pre:List Int) (x:Nd):Nd:=
 if x.kind=5 then ⟨x.kind,x.n,x.s,pre.getD x.a.toNat 0,pre.getD x.b.toNat 0⟩
 else if x.kind=6\/x.kind=7 then ⟨x.kind,x.n,x.s,pre.getD x.a.toNat 0,x.b⟩ else x
noncomputable def Ci (d:Int) (q:List Nd) (m:List Bool):Nat->List Int->List Nd->List Int×List Nd
 |0,pre,acc=>(pre,acc)
 |k+1,pre,acc=>match q[pre.length]?,m[pre.length]? with
  |some x,some true=>Ci d q m k (pre++[(acc.length:Int)]) (acc++[Aq pre x])
  |_,_=>Ci d q m k (pre++[d]) acc
theorem aae {pre r:List Int}{v u:Int}{i:Nat}(h:pre.length=i):(pre++u::r).set i v=pre++v::r:=by
 subst h;simp
theorem ZN {pre r:List Int}{u:Int}{i:Nat}(h:pre.length=i):(pre++u::r)[i]? = some u:=by
 subst h;simp
theorem Jp {pre r:List Int}{j:Nat}(h:j<pre.length):(pre++r)[j]? = pre[j]?:=cC h
theorem Ly {l pre:List Int}{n:Int}(h0:0<=n)(h1:n<pre.length)(h:∀j,j<pre.length->l[j]? = pre[j]?):∃u,l[n.toNat]? = some u/\pre[n.toNat]? = some u:=by
 obtain⟨u,hu⟩:=yM (l:=pre) (i:=n.toNat) (by omega)
 exact⟨u,by rw[h _ (by omega),hu],hu⟩
theorem DU {q:List Nd}(hp:Ac q=true){m:List Bool}(hm:m.length=q.length):∀(k i:Nat)(pre:List Int)(acc:List Nd),pre.length=i->i+k=q.length->acc.length+k<4294967296 ->
  AK (q.map eN) (ni (q.map eN).length) (i:Int) ((pre++List.replicate k 0).map eI) (m.map D.bool) (acc.map eN)=some (.os (1,0) ((Ci (-1) q m k pre acc).1.map eI),[rP (Ci (-1) q m k pre acc).2])
 |0,i,pre,acc,hpre,hi,hc=>by
  rw[GH,yp (by rw[lnM];exact zI (by omega))]
  simp[Ci]
 |k+1,i,pre,acc,hpre,hi,hc=>by
  have hl:=Ak hp
  obtain⟨x,hx⟩:=yM (l:=q) (i:=i) (by omega)
  obtain⟨b,hb⟩:=yM (l:=m) (i:=i) (by omega)
  have ho:=De hp hx
  have s1:List.set ((pre++List.replicate (k+1) 0).map eI) i (eI (-1))=(pre++(-1)::List.replicate k 0).map eI:=by
   rw[<-List.map_set,List.replicate_succ,aae hpre]
  have s2:∀v:Int,List.set ((pre++(-1)::List.replicate k 0).map eI) i (eI v)=(pre++[v]++List.replicate k 0).map eI:=by
   intro v;rw[<-List.map_set,aae hpre];simp
  have hz:(pre++List.replicate (k+1) 0)[i]? = some 0:=by rw[List.replicate_succ,ZN hpre]
  have hz2:(pre++(-1)::List.replicate k 0)[i]? = some (-1):=ZN hpre
  rw[GH,y6 (by rw[lnM];exact zN (by omega)),zJ (by rw[lnM];exact zM (by omega)),bI,zj hx,Nq,zJ (by rw[lnM];exact zM (by simp;omega)),zj hz,zO,s1,zJ (by rw[lnM];exact zM (by omega)),zj hb,yZ]
  cases b with
  |false=>
   rw[bO,zy,z6 (by omega)]
   have ih:=DU hp hm k (i+1) (pre++[-1]) acc (by simp[hpre]) (by omega) (by omega)
   simp only[Ci,hpre,hx,hb]
   simpa using ih
  |true=>
   rw[aO,y0]
   by_cases h5:x.kind=5
   ·obtain⟨a0,a1,b0,b1⟩:=AH ho h5
    obtain⟨u,hu,hu'⟩:=Ly (l:=(pre++(-1)::List.replicate k 0)) (pre:=pre) a0 (by omega) (by intro j hj;exact Jp hj)
    obtain⟨v,hv,hv'⟩:=Ly (l:=(pre++(-1)::List.replicate k 0)) (pre:=pre) b0 (by omega) (by intro j hj;exact Jp hj)
    have e:Aq pre x=⟨x.kind,x.n,x.s,u,v⟩:=by simp[Aq,h5,hu',hv']
    rw[y6 (by simp[h5]),zJ (by rw[List.length_map];exact DV a0 (by simp;omega)),zj hu,zq,zJ (by rw[List.length_map];exact DV b0 (by simp;omega)),zj hv,zq]
    have ha:=KM (p:=acc) (by omega) ⟨x.kind,x.n,x.s,u,v⟩
    have ih:=DU hp hm k (i+1) (pre++[(acc.length:Int)]) (acc++[⟨x.kind,x.n,x.s,u,v⟩]) (by simp[hpre]) (by omega) (by simp;omega)
    rw[Bg ha,zJ (by rw[lnM];exact zM (by simp;omega)),zj hz2,zO,s2,z6 (by omega)]
    simp only[Ci,hpre,hx,hb,e]
    exact ih
   rw[yp (by simp[h5])]
   by_cases h6:x.kind=6
   ·obtain⟨a0,a1⟩:=BM ho (.inl h6)
    obtain⟨u,hu,hu'⟩:=Ly (l:=(pre++(-1)::List.replicate k 0)) (pre:=pre) a0 (by omega) (by intro j hj;exact Jp hj)
    have e:Aq pre x=⟨x.kind,x.n,x.s,u,x.b⟩:=by simp[Aq,h6,hu']
    rw[y6 (by simp[h6]),y6 (by simp[h6]),zJ (by rw[List.length_map];exact DV a0 (by simp;omega)),zj hu,zq]
    have ha:=KM (p:=acc) (by omega) ⟨x.kind,x.n,x.s,u,x.b⟩
    have ih:=DU hp hm k (i+1) (pre++[(acc.length:Int)]) (acc++[⟨x.kind,x.n,x.s,u,x.b⟩]) (by simp[hpre]) (by omega) (by simp;omega)
    rw[Bg ha,zJ (by rw[lnM];exact zM (by simp;omega)),zj hz2,zO,s2,z6 (by omega)]
    simp only[Ci,hpre,hx,hb,e]
    exact ih
   rw[yp (by simp[h6])]
   by_cases h7:x.kind=7
   ·obtain⟨a0,a1⟩:=BM ho (.inr h7)
    obtain⟨u,hu,hu'⟩:=Ly (l:=(pre++(-1)::List.replicate k 0)) (pre:=pre) a0 (by omega) (by intro j hj;exact Jp hj)
    have e:Aq pre x=⟨x.kind,x.n,x.s,u,x.b⟩:=by simp[Aq,h7,hu']
    rw[y6 (by simp[h7]),zJ (by rw[List.length_map];exact DV a0 (by simp;omega)),zj hu,zq]
    have ha:=KM (p:=acc) (by omega) ⟨x.kind,x.n,x.s,u,x.b⟩
    have ih:=DU hp hm k (i+1) (pre++[(acc.length:Int)]) (acc++[⟨x.kind,x.n,x.s,u,x.b⟩]) (by simp[hpre]) (by omega) (by simp;omega)
    rw[Bg ha,zJ (by rw[lnM];exact zM (by simp;omega)),zj hz2,zO,s2,z6 (by omega)]
    simp only[Ci,hpre,hx,hb,e]
    exact ih
   rw[yp (by simp[h7])]
   ·have e:Aq pre x=x:=by simp[Aq,h5,h6,h7]
    have ha:=KM (p:=acc) (by omega) x
    have ih:=DU hp hm k (i+1) (pre++[(acc.length:Int)]) (acc++[x]) (by simp[hpre]) (by omega) (by simp;omega)
    rw[Bg ha,zJ (by rw[lnM];exact zM (by simp;omega)),zj hz2,zO,s2,z6 (by omega)]
    simp only[Ci,hpre,hx,hb,e]
    exact ih
theorem DZ {q:List Nd}(hp:Ac q=true){m:List Bool}(hm:m.length=q.length):∀(k i:Nat)(pre:List Int)(acc:List Nd),pre.length=i->i+k=q.length->acc.length+k<4294967296 ->
  BZ (m.map D.bool) (i:Int) (q.map eN) ((pre++List.replicate k 0).map eI) (acc.map eN)=some (.os (1,0) ((Ci 0 q m k pre acc).1.map eI),[rP (Ci 0 q m k pre acc).2])
 |0,i,pre,acc,hpre,hi,hc=>by
  rw[Lp,yp (by rw[lnM];exact zI (by omega))]
  simp[Ci]
 |k+1,i,pre,acc,hpre,hi,hc=>by
  have hl:=Ak hp
  obtain⟨x,hx⟩:=yM (l:=q) (i:=i) (by omega)
  obtain⟨b,hb⟩:=yM (l:=m) (i:=i) (by omega)
  have ho:=De hp hx
  have s2:∀v:Int,List.set ((pre++List.replicate (k+1) 0).map eI) i (eI v)=(pre++[v]++List.replicate k 0).map eI:=by
   intro v;rw[<-List.map_set,List.replicate_succ,aae hpre];simp
  have hz2:(pre++List.replicate (k+1) 0)[i]? = some 0:=by rw[List.replicate_succ,ZN hpre]
  rw[Lp,y6 (by rw[lnM];exact zN (by omega)),zJ (by rw[lnM];exact zM (by omega)),bI,zj hb,yZ]
  cases b with
  |false=>
   rw[bO,zy,z6 (by omega)]
   have ih:=DZ hp hm k (i+1) (pre++[0]) acc (by simp[hpre]) (by omega) (by omega)
   simp only[Ci,hpre,hx,hb]
   simpa[List.replicate_succ]using ih
  |true=>
   rw[aO,y0,zJ (by rw[lnM];exact zM (by omega)),zj hx,Nq]
   by_cases h5:x.kind=5
   ·obtain⟨a0,a1,b0,b1⟩:=AH ho h5
    obtain⟨u,hu,hu'⟩:=Ly (l:=(pre++List.replicate (k+1) 0)) (pre:=pre) a0 (by omega) (by intro j hj;exact Jp hj)
    obtain⟨v,hv,hv'⟩:=Ly (l:=(pre++List.replicate (k+1) 0)) (pre:=pre) b0 (by omega) (by intro j hj;exact Jp hj)
    have e:Aq pre x=⟨x.kind,x.n,x.s,u,v⟩:=by simp[Aq,h5,hu',hv']
    rw[y6 (by simp[h5]),zJ (by rw[List.length_map];exact DV a0 (by simp;omega)),zj hu,zq,zJ (by rw[List.length_map];exact DV b0 (by simp;omega)),zj hv,zq]
    have ha:=AV (p:=acc) (by omega) ⟨x.kind,x.n,x.s,u,v⟩
    have ih:=DZ hp hm k (i+1) (pre++[(acc.length:Int)]) (acc++[⟨x.kind,x.n,x.s,u,v⟩]) (by simp[hpre]) (by omega) (by simp;omega)
    rw[Ar ha,zJ (by rw[lnM];exact zM (by simp;omega)),zj hz2,zO,s2,z6 (by omega)]
    simp only[Ci,hpre,hx,hb,e]
    exact ih
   rw[yp (by simp[h5])]
   by_cases h6:x.kind=6
   ·obtain⟨a0,a1⟩:=BM ho (.inl h6)
    obtain⟨u,hu,hu'⟩:=Ly (l:=(pre++List.replicate (k+1) 0)) (pre:=pre) a0 (by omega) (by intro j hj;exact Jp hj)
    have e:Aq pre x=⟨x.kind,x.n,x.s,u,x.b⟩:=by simp[Aq,h6,hu']
    rw[y6 (by simp[h6]),y6 (by simp[h6]),zJ (by rw[List.length_map];exact DV a0 (by simp;omega)),zj hu,zq]
    have ha:=AV (p:=acc) (by omega) ⟨x.kind,x.n,x.s,u,x.b⟩
    have ih:=DZ hp hm k (i+1) (pre++[(acc.length:Int)]) (acc++[⟨x.kind,x.n,x.s,u,x.b⟩]) (by simp[hpre]) (by omega) (by simp;omega)
    rw[Ar ha,zJ (by rw[lnM];exact zM (by simp;omega)),zj hz2,zO,s2,z6 (by omega)]
    simp only[Ci,hpre,hx,hb,e]
    exact ih
   rw[yp (by simp[h6])]
   by_cases h7:x.kind=7
   ·obtain⟨a0,a1⟩:=BM ho (.inr h7)
    obtain⟨u,hu,hu'⟩:=Ly (l:=(pre++List.replicate (k+1) 0)) (pre:=pre) a0 (by omega) (by intro j hj;exact Jp hj)
    have e:Aq pre x=⟨x.kind,x.n,x.s,u,x.b⟩:=by simp[Aq,h7,hu']
    rw[y6 (by simp[h7]),zJ (by rw[List.length_map];exact DV a0 (by simp;omega)),zj hu,zq]
    have ha:=AV (p:=acc) (by omega) ⟨x.kind,x.n,x.s,u,x.b⟩
    have ih:=DZ hp hm k (i+1) (pre++[(acc.length:Int)]) (acc++[⟨x.kind,x.n,x.s,u,x.b⟩]) (by simp[hpre]) (by omega) (by simp;omega)
    rw[Ar ha,zJ (by rw[lnM];exact zM (by simp;omega)),zj hz2,zO,s2,z6 (by omega)]
    simp only[Ci,hpre,hx,hb,e]
    exact ih
   rw[yp (by simp[h7])]
   ·have e:Aq pre x=x:=by simp[Aq,h5,h6,h7]
    have ha:=AV (p:=acc) (by omega) x
    have ih:=DZ hp hm k (i+1) (pre++[(acc.length:Int)]) (acc++[x]) (by simp[hpre]) (by omega) (by simp;omega)
    rw[Ar ha,zJ (by rw[lnM];exact zM (by simp;omega)),zj hz2,zO,s2,z6 (by omega)]
    simp only[Ci,hpre,hx,hb,e]
    exact ih
end Go.Eng
/-! what is kept: both sides keep the same -/
namespace Go.Eng
noncomputable section
open Go.Proofs Go.Proofs.Tryz

theorem CT (p:List Nd)(rs:List Int):(BG p rs).length=p.length:=by
 unfold BG;rw[Pj,LY];simp
def Bc (d:Int)(q:List Nd)(rs:List Int)(acc:List Nd):List Int×List Nd:=Ci d q (BG q rs) q.length [] acc
theorem abH {n:Nat}:List.replicate (Int.toNat (ni n)) (iN 0)=(List.replicate n (0:Int)).map eI:=by simp[ni]
theorem abU {q acc:List Nd}(hp:Ac q=true){rs:List Int}(h2:rs.length<4611686018427387904)(hr:Ap q rs=true)(hc:acc.length+q.length<4294967296) :
  V 137 [rP acc,eP q,.rs (1,0) (rs.map eI)]=some (.os (1,0) ((Bc (-1) q rs acc).1.map eI),[rP (Bc (-1) q rs acc).2]):=by
 have e:(q.map eN).length=q.length:=lnM _
 have h:=DU hp (CT q rs) q.length 0 [] acc rfl (bX _) hc
 rw[dA]at h
 rw[Rz,zJ (UV (by omega)),acH (agr hp h2 hr)]
 have h0:List.replicate (Int.toNat (ni (q.map eN).length)) (iN 0)=(List.replicate q.length (0:Int)).map eI:=by rw[e];exact abH
 rw[h0]
 exact h
theorem abS {q acc:List Nd}(hp:Ac q=true){rs:List Int}(hc:acc.length+q.length<4294967296) :
  V 148 [rP acc,eP q,.rs (1,0) ((BG q rs).map D.bool)]=some (.os (1,0) ((Bc 0 q rs acc).1.map eI),[rP (Bc 0 q rs acc).2]):=by
 have e:(q.map eN).length=q.length:=lnM _
 have h:=DZ hp (CT q rs) q.length 0 [] acc rfl (bX _) hc
 rw[dA]at h
 have h0:List.replicate (Int.toNat (ni (q.map eN).length)) (iN 0)=(List.replicate q.length (0:Int)).map eI:=by rw[e];exact abH
 rw[ZK,zJ (UV (by omega)),h0]
 exact h

theorem D5 (d:Int)(q:List Nd)(m:List Bool):∀(k:Nat)(pre:List Int)(acc:List Nd),(Ci d q m k pre acc).1.length=pre.length+k
 |0,pre,acc=>rfl
 |k+1,pre,acc=>by
  simp only[Ci]
  split
  ·rw[D5 d q m k];simp;omega
  ·rw[D5 d q m k];simp;omega
theorem ML (d:Int)(q:List Nd)(m:List Bool):∀(k:Nat)(pre:List Int)(acc:List Nd),(Ci d q m k pre acc).2.length<=acc.length+k
 |0,pre,acc=>cB _
 |k+1,pre,acc=>by
  simp only[Ci]
  split
  ·have:=ML d q m k (pre++[(acc.length:Int)]) (acc++[Aq pre ‹Nd›]);simp at this;omega
  ·have:=ML d q m k (pre++[d]) acc;omega

def AA (d:Int)(q:List Nd)(rs:List Int):List Nd×List Int:=((Bc d q rs []).2,rs.map fun r=>(Bc d q rs []).1.getD r.toNat 0)
theorem adl {l:List Int}(h:l.length<4294967296)(x:D):decide (ni (l.map eI++[x]).length<=LIM)=true:=
 bE (by rw[qA];simp only[ni,lnA,lnM,lnC,lnN];omega)
theorem OI {n:Nat}{a:List Int}(ha:a.length=n){p:List D}{l:List Int}(h2:l.length<4294967296)(hr:∀r∈l,0<=r/\r<(n:Int)):∀(k i:Nat)(out:List Int),i+k=l.length->out.length=i->JQ (l.map eI) (ni (l.map eI).length) (i:Int) (a.map eI) (out.map eI) p=some (.tup [.agg [.os (5,0) p],.os (1,0) ((out++(l.drop i).map fun r=>a.getD r.toNat 0).map eI)],[])
 |0,i,out,hi,ho=>by
  rw[NQ,yp (by rw[lnM];exact zI (by omega)),cD (by omega)];simp
 |k+1,i,out,hi,ho=>by
  obtain⟨x,hx⟩:=yM (l:=l) (i:=i) (by omega)
  have hx2:=hr x (bT hx)
  obtain⟨u,hu⟩:=FC (l:=a) (n:=x) hx2.1 (by omega)
  have e:out.map eI++[iN u]=(out++[u]).map eI:=by simp
  have eg:a.getD x.toNat 0=u:=by simp[hu]
  rw[NQ,y6 (by rw[lnM];exact zN (by omega)),zJ (by rw[lnM];exact zM (by omega)),bI,zj hx,zq,zJ (by rw[lnM];exact DV hx2.1 (by omega)),zj hu,zq,zJ (adl (by omega) _),zO,z6 (by omega),e,vc hx,bR,eg]
  have ih:=OI ha (p:=p) h2 hr k (i+1) (out++[u]) (by omega) (by simp;omega)
  rw[bD]at ih
  exact ih
theorem Pp {n:Nat}{a:List Int}(ha:a.length=n){p:List D}{l:List Int}(h2:l.length<4294967296)(hr:∀r∈l,0<=r/\r<(n:Int)):∀(k i:Nat)(out:List Int),i+k=l.length->out.length=i->GX (l.map eI) (i:Int) (a.map eI) (out.map eI) p=some (.tup [.agg [.os (5,0) p],.os (1,0) ((out++(l.drop i).map fun r=>a.getD r.toNat 0).map eI)],[])
 |0,i,out,hi,ho=>by
  rw[Lq,yp (by rw[lnM];exact zI (by omega)),cD (by omega)];simp
 |k+1,i,out,hi,ho=>by
  obtain⟨x,hx⟩:=yM (l:=l) (i:=i) (by omega)
  have hx2:=hr x (bT hx)
  obtain⟨u,hu⟩:=FC (l:=a) (n:=x) hx2.1 (by omega)
  have e:out.map eI++[iN u]=(out++[u]).map eI:=by simp
  have eg:a.getD x.toNat 0=u:=by simp[hu]
  rw[Lq,y6 (by rw[lnM];exact zN (by omega)),zJ (by rw[lnM];exact zM (by omega)),bI,zj hx,zq,zJ (by rw[lnM];exact DV hx2.1 (by omega)),zj hu,zq,zJ (adl (by omega) _),zO,z6 (by omega),e,vc hx,bR,eg]
  have ih:=Pp ha (p:=p) h2 hr k (i+1) (out++[u]) (by omega) (by simp;omega)
  rw[bD]at ih
  exact ih
theorem IU {p:List Nd}{rs:List Int}(hr:Ap p rs=true):∀r∈rs,0<=r/\r<(p.length:Int):=by
 intro r h
 have:=wi_iff.1 (cO.1 hr r h)
 omega
theorem ag0 {q:List Nd}(hp:Ac q=true){rs:List Int}(h2:rs.length<4294967296)(hr:Ap q rs=true) :
  V 66 [eP q,.rs (1,0) (rs.map eI)]=some (.tup [oP (AA (-1) q rs).1,.os (1,0) ((AA (-1) q rs).2.map eI)],[]):=by
 have hl:=Ak hp
 have hm:V 137 [.op [.os (5,0) []],eP q,.rs (1,0) (rs.map eI)]=_:=abU (acc:=[]) hp (rs:=rs) (by omega) hr (by simp;omega)
 have h:=OI (D5 (-1) q (BG q rs) q.length [] []) (p:=(Bc (-1) q rs []).2.map eN) h2 (by simpa using IU hr) rs.length 0 [] (Nat.zero_add _) rfl
 rw[acj,Pb hm]
 exact h
theorem afA {q:List Nd}(hp:Ac q=true){rs:List Int}(h2:rs.length<4294967296)(hr:Ap q rs=true) :
  V 86 [eP q,.rs (1,0) (rs.map eI)]=some (.tup [oP (AA 0 q rs).1,.os (1,0) ((AA 0 q rs).2.map eI)],[]):=by
 have hl:=Ak hp
 have hm:V 148 [.op [.os (5,0) []],eP q,.rs (1,0) ((BG q rs).map D.bool)]=_:=abS (acc:=[]) hp (rs:=rs) (by simp;omega)
 have h:=Pp (D5 0 q (BG q rs) q.length [] []) (p:=(Bc 0 q rs []).2.map eN) h2 (by simpa using IU hr) rs.length 0 [] (Nat.zero_add _) rfl
 rw[ZL,Sj (YC hp (by omega) hr),Ui hm]
 exact h

def On (m:List Bool)(n:Int):Prop:=m[n.toNat]? = some true
theorem WE {m:List Bool}{j i:Nat}(h:m[j]? = some true):(m.set i true)[j]? = some true:=by
 by_cases e:i=j
 ·subst e;simp[aQ h]
 ·rw[List.getElem?_set_ne e];exact h
theorem WG {m:List Bool}{i:Nat}(h:i<m.length):(m.set i true)[i]? = some true:=by simp[h]
theorem adV {x:Nd}{m:List Bool}{j:Nat}(h:m[j]? = some true):(Bw x m)[j]? = some true:=by
 unfold Bw
 split
 ·exact WE (WE h)
 ·split
  ·exact WE h
  ·exact h
theorem KH {p:List Nd}:∀(k:Nat){m:List Bool}{j:Nat},m[j]? = some true->(Bv p k m)[j]? = some true
 |0,m,j,h=>h
 |k+1,m,j,h=>by
  simp only[Bv]
  apply KH k
  split
  ·exact adV h
  ·exact h
theorem adU {p:List Nd}(hp:Ac p=true){k:Nat}{x:Nd}(hx:p[k]? = some x){m:List Bool}{j:Nat}(h:k<=j):(Bw x m)[j]? = m[j]?:=by
 have ho:=De hp hx
 unfold Bw
 split
 ·rename_i h5
  have:=AH ho h5
  rw[List.getElem?_set_ne (by omega),List.getElem?_set_ne (by omega)]
 ·split
  ·rename_i h6
   have:=BM ho h6
   rw[List.getElem?_set_ne (by omega)]
  ·rfl
theorem Wz {p:List Nd}(hp:Ac p=true):∀(k:Nat){m:List Bool}{j:Nat},k<=j->(Bv p k m)[j]? = m[j]?
 |0,m,j,h=>rfl
 |k+1,m,j,h=>by
  simp only[Bv]
  rw[Wz hp k (by omega)]
  split
  ·rename_i x hx _;exact adU hp ‹_› (by omega)
  ·rfl
def YJ (p:List Nd)(m:List Bool):Prop:=∀(i:Nat)(x:Nd),p[i]? = some x->m[i]? = some true->(x.kind=5->On m x.a/\On m x.b)/\(x.kind=6\/x.kind=7->On m x.a)
theorem Pi {p:List Nd}(hp:Ac p=true):∀(k:Nat){m:List Bool},m.length=p.length->∀(i:Nat)(x:Nd),i<k->p[i]? = some x->(Bv p k m)[i]? = some true->(x.kind=5->On (Bv p k m) x.a/\On (Bv p k m) x.b)/\(x.kind=6\/x.kind=7->On (Bv p k m) x.a)
 |0,m,hm,i,x,hi,_,_=>by omega
 |k+1,m,hm,i,x,hi,hx,hr=>by
  by_cases e:i=k
  ·subst e
   have ho:=De hp hx
   rw[Bv]at hr⊢
   have hmi:m[i]? = some true:=by
    rw[Wz hp i (cB _)]at hr
    split at hr
    ·assumption
    ·exact hr
   rw[hx,hmi]
   show(_->On (Bv p i (Bw x m)) x.a/\On (Bv p i (Bw x m)) x.b)/\(_->On (Bv p i (Bw x m)) x.a)
   have hlt:=aQ hx
   refine⟨fun h5=>?_,fun h6=>?_⟩
   ·have:=AH ho h5
    have ea:(Bw x m)[x.a.toNat]? = some true:=by
     simp only[Bw,h5,if_true]
     exact WE (WG (by omega))
    have eb:(Bw x m)[x.b.toNat]? = some true:=by
     simp only[Bw,h5,if_true]
     exact WG (by simp;omega)
    exact⟨KH i ea,KH i eb⟩
   ·have:=BM ho h6
    have ea:(Bw x m)[x.a.toNat]? = some true:=by
     have h5:¬x.kind=5:=by omega
     simp only[Bw,h5,h6,if_false,if_true]
     exact WG (by omega)
    exact KH i ea
  ·rw[Bv]at hr⊢
   refine Pi hp k ?_ i x (by omega) hx hr
   split
   ·rw[Qo];exact hm
   ·exact hm
theorem EE {p:List Nd}(hp:Ac p=true)(rs:List Int):YJ p (BG p rs):=by
 intro i x hx hr
 exact Pi hp p.length (by rw[LY];simp) i x (aQ hx) hx hr
theorem aeg {rs:List Int}:∀{m:List Bool}{r:Int},(r∈rs/\r.toNat<m.length)\/m[r.toNat]? = some true->(NG rs m)[r.toNat]? = some true:=by
 induction rs with
 |nil=>intro m r h;rcases h with h|h;exact absurd h.1 (by simp);exact h
 |cons q rs ih=>
  intro m r h
  show(NG rs (m.set q.toNat true))[r.toNat]? = some true
  apply ih
  rcases h with ⟨h,hl⟩|h
  ·rcases bN.1 h with rfl|h
   ·right;simp[hl]
   ·left;exact⟨h,by simpa using hl⟩
  ·right;exact WE h
theorem GB {p:List Nd}{rs:List Int}(hr:Ap p rs=true):∀r∈rs,On (BG p rs) r:=by
 intro r h
 have:=IU hr r h
 exact KH _ (aeg (.inl ⟨h,by simp;omega⟩))

theorem PI {q:List Nd}(hp:Ac q=true){m:List Bool}(hc:YJ q m)(hm:m.length=q.length)(d d':Int):∀(k:Nat)(pre pre':List Int)(acc:List Nd),pre.length=pre'.length->pre.length+k=q.length->(∀j:Nat,m[j]? = some true->pre[j]? = pre'[j]?) ->
  (Ci d q m k pre acc).2=(Ci d' q m k pre' acc).2/\∀j:Nat,m[j]? = some true->(Ci d q m k pre acc).1[j]? = (Ci d' q m k pre' acc).1[j]?
 |0,pre,pre',acc,hl,hk,h=>⟨rfl,h⟩
 |k+1,pre,pre',acc,hl,hk,h=>by
  obtain⟨x,hx⟩:=yM (l:=q) (i:=pre.length) (by omega)
  obtain⟨b,hb⟩:=yM (l:=m) (i:=pre.length) (by omega)
  have step:∀(u u':Int),(b=true->u=u')->∀j:Nat,m[j]? = some true->(pre++[u])[j]? = (pre'++[u'])[j]?:=by
   intro u u' huu j hj
   rcases Nat.lt_trichotomy j pre.length with h1|h1|h1
   ·rw[cC h1,cC (by omega)];exact h j hj
   ·subst h1
    rw[hb]at hj;cases hj
    rw[List.getElem?_append_right (cB _),hl,List.getElem?_append_right (cB _),huu rfl]
   ·rw[eS (by simp;omega),eS (by simp;omega)]
  have hb':=hb
  have hx':=hx
  rw[hl]at hb' hx'
  simp only[Ci,hx,hb,hx',hb']
  cases b with
  |false=>exact PI hp hc hm d d' k _ _ acc (by simp;omega) (by simp;omega) (step d d' (fun h=>by cases h))
  |true=>
   have hcl:=hc _ x hx hb
   have e:Aq pre x=Aq pre' x:=by
    unfold Aq
    split
    ·rename_i h5
     have h1:=h _ (hcl.1 h5).1
     have h2:=h _ (hcl.1 h5).2
     simp only[aN,h1,h2]
    ·split
     ·rename_i h6
      have h1:=h _ (hcl.2 h6)
      simp only[aN,h1]
     ·rfl
   have ih:=PI hp hc hm d d' k (pre++[(acc.length:Int)]) (pre'++[(acc.length:Int)]) (acc++[Aq pre x]) (by simp;omega) (by simp;omega) (step _ _ (fun _=>rfl))
   rw[e]at ih
   simp only[e]
   exact ih
theorem acy {q:List Nd}(hp:Ac q=true){rs:List Int}(hr:Ap q rs=true)(d d':Int):AA d q rs=AA d' q rs:=by
 have h:=PI hp (EE hp rs) (CT q rs) d d' q.length [] [] [] rfl (bX _) (fun _ _=>rfl)
 unfold AA
 refine Prod.ext h.1 ?_
 apply List.map_congr_left
 intro r hm
 have:=h.2 r.toNat (GB hr r hm)
 simp only[aN]
 exact congrArg (fun o=>Option.getD o 0) this
end
end Go.Eng
/-! decimal digits,on both sides -/
namespace Go.Eng
open Go.Proofs Go.Proofs.Tryz

theorem agT (n:Nat):Int.tdiv (n:Int) 10=((n / 10:Nat):Int):=by
 rw[Int.tdiv_eq_ediv_of_nonneg (by omega)];omega
theorem agY (n:Nat):Int.tmod (n:Int) 10=((n % 10:Nat):Int):=by
 rw[Int.tmod_eq_emod_of_nonneg (by omega)];omega
theorem adk {a b:List UInt8}(ha:a.length<=1000)(hb:b.length<=1000):decide (ni ((mk a).size+(mk b).size)<=LIM)=true:=
 bE (by rw[qA,z8,z8];simp only[ni];omega)
theorem Vh {n:Nat}(h:n<1000000000000000000):(Mz n).length<=20:=by
 have:=aaG 18 n (by omega)
 omega
theorem afw {d:Nat}(h:d<10):IntKind.wrap .u8 (w6 (48+(d:Int)))=48+(d:Int):=by
 rw[w64 (by omega) (by omega),SJ (by omega) (by omega)]
theorem aaI:∀(n:Nat)(acc:List UInt8),n<1000000000000000000->acc.length+(if n=0 then [] else Mz n).length<=1000->Fx (n:Int) (mk acc)=some (.str (mk ((if n=0 then [] else Mz n)++acc)),[]):=by
 intro n
 induction n using Nat.strongRecOn with
 |_ n ih=>
  intro acc hn hl
  by_cases h0:n=0
  ·subst h0
   rw[JK,yp (by rfl),aG rfl];rfl
  ·have hd:Mz n=(if n / 10=0 then [] else Mz (n / 10))++[UInt8.ofNat (48+n % 10)]:=by
    by_cases h:n<10
    ·rw[DG h,aG (by omega),show n % 10=n by omega];rfl
    ·rw[Oq h,aD (by omega)]
   rw[aD h0,hd]at hl
   simp only[lnA,lnC,lnN]at hl
   rw[JK,y6 (bE (by omega)),zJ (by decide),agY,afw (by omega),acF]
   have e:UInt8.ofNat (48+((n % 10:Nat):Int)).toNat=UInt8.ofNat (48+n % 10):=by congr 1
   rw[e,zJ (adk (by simp) (by omega)),zJ (by decide),agT,w64 (by omega) (by omega),Yg,ih (n / 10) (by omega) _ (by omega) (by simp only[lnA,lnC,lnN];omega),aD h0,hd]
   simp
theorem RV {n:Nat}(h:n<1000000000000000000):V 202 [iN (n:Int)]=some (.str (mk (Mz n)),[]):=by
 rw[Oz,yp (bK (by omega))]
 by_cases h0:n=0
 ·subst h0
  rw[y6 (by rfl),DG (by omega)];rfl
 ·have:=aaI n [] h (by have:=Vh h;rw[aD h0];simp;omega)
  rw[aD h0,eK]at this
  rw[yp (by simp;omega)]
  exact this
theorem WU {n:Int}(h:n.natAbs<1000000000000000000):V 202 [iN n]=some (.str (mk (Ng n)),[]):=by
 by_cases h0:n<0
 ·have hd:=RV h
  rw[Oz,y6 (bE h0),show(0:Int)-n=(n.natAbs:Int) by omega,w64 (by omega) (by omega),LR hd]
  rw[<-show mk [45]=⟨#[45]⟩ from rfl,zJ (adk (a:=[45]) (by simp) (by have:=Vh h;omega)),Yg,Ng,aG h0]
  rfl
 ·have:=RV h
  rw[show(n.natAbs:Int)=n by omega]at this
  rw[this,Ng,aD h0]
end Go.Eng
/-! what is written of a value: the reference's side -/
namespace Go.Eng
open Go.Proofs Go.Proofs.Tryz

noncomputable def ag8 (x:Nd):List UInt8:=
 if x.kind=1 then [40,41]
 else if x.kind=2 then (if x.n=1 then [35,116] else [35,102])
 else if x.kind=3 then Ng x.n
 else if x.kind=4 then x.s.data.toList
 else if x.kind=6 then [35,102,117,110]++Ng x.n
 else if x.kind=7 then [35,107,111,110,116]++Ng x.n
 else if x.kind=8 then [35,112,114,105,109]++Ng x.n
 else [35,112,105,100]++Ng x.n
noncomputable def wr (p:List Nd):Nat->Bool->Nat->List UInt8->List UInt8
 |0,_,_,out=>out
 |g+1,false,v,out=>if out.length>400 then out else
  match p[v]? with
  |some x=>if x.kind=5 then wr p g true x.b.toNat (wr p g false x.a.toNat (out++[40])) else out++ag8 x
  |none=>out
 |g+1,true,v,out=>
  match p[v]? with
  |some x=>if x.kind=5/\out.length<=400 then wr p g true x.b.toNat (wr p g false x.a.toNat (out++[32]))
   else if x.kind=1 then out++[41] else wr p g false v (out++[32,46,32])++[41]
  |none=>out
theorem afe {s:ByteArray}(h:Oi s=true):s.size<=12:=by
 simp only[Oi,aB,wi,bL]at h;omega
theorem afk {x:Nd}{h:Int}(ho:okN x h=true)(hk:x.kind=4):Oi x.s=true:=by
 simp[okN,hk]at ho;exact ho.2.1
theorem afj {x:Nd}{h:Int}(ho:okN x h=true):1<=x.kind/\x.kind<=9:=by
 unfold okN at ho
 repeat' split at ho
 all_goals (first|omega|(cases ho))
end Go.Eng
/-! what is written of a value: the program's side,as plain lists -/
namespace Go.Eng
open Go.Proofs Go.Proofs.Tryz

end Go.Eng
/-! what is written of a value: the program's side -/
namespace Go.Eng
open Go.Proofs Go.Proofs.Tryz

theorem lit (l:List UInt8):(ByteArray.mk l.toArray)=mk l:=rfl
end Go.Eng
/-! code and machines: when they are right,on both sides -/
namespace Go.Eng
noncomputable section
open Go.Proofs Go.Proofs.Tryz
set_option maxHeartbeats 4000000

structure In where
 op:Int
 n:Int
 i:Int
 s:ByteArray
structure Df where
 name:ByteArray
 at':Int
 args:Int
structure Cd where
 pool:List Nd
 list:List In
 defs:List Df
abbrev eIn (x:In):D:=.agg [iN x.op,iN x.n,iN x.i,.str x.s]
abbrev eDf (x:Df):D:=.agg [.str x.name,iN x.at',iN x.args]
abbrev eCd (c:Cd):D:=.agg [.rs (5,0) (c.pool.map eN),.rs (4,0) (c.list.map eIn),.rs (3,0) (c.defs.map eDf)]
abbrev oCd (c:Cd):D:=.agg [.os (5,0) (c.pool.map eN),.os (4,0) (c.list.map eIn),.os (3,0) (c.defs.map eDf)]
structure FitsC (c:Cd):Prop where
 pool:Cu c.pool
 plen:c.pool.length<4611686018427387904
 list:∀x∈c.list,x.s.size<4611686018427387904
 llen:c.list.length<4611686018427387904
 defs:∀x∈c.defs,x.name.size<4611686018427387904
 dlen:c.defs.length<4611686018427387904
section
variable {R:Type}
theorem ae7 (x:In)(K:Int->Int->Int->ByteArray->Option R):tk3 (eIn x) (fun n4 n7 n10 s13=>(K n4 n7 n10 s13))=K x.op x.n x.i x.s:=rfl
end
def EW (c:Cd)(s:ByteArray):Int:=zm (fun d:Df=>kJ d.name s) c.defs
theorem Ql {l:List Df}(hl:l.length<4611686018427387904)(s:ByteArray):∀(k i:Nat),i+k=l.length->D6 (l.map eDf) s (ni (l.map eDf).length) (i:Int)=some (iN (d9 (fun d:Df=>kJ d.name s) l i),[])
 |0,i,hi=>by
  rw[Iu,ym (by omega)]
  simp (disch:=first|omega|(simp only[lnA,lnC,lnN,lnM,z8,yj];omega)) only[↓y0,zY,lnM,yj]
 |k+1,i,hi=>by
  obtain⟨x,hx⟩:=yM (l:=l) (i:=i) (by omega)
  have ih:=Ql hl s k (i+1) (by omega)
  have hd:V 179 [eDf x,.bp [.str s]]=some (.bool (kJ x.name s),[]):=by rw[aeX]
  have hw:w6 ((i:Int)+1)=((i+1:Nat):Int):=z6 (by omega)
  rw[Iu]
  cases h:kJ x.name s with
  |true=>rw[yn hx h];rw[h]at hd;simp (disch:=first|omega|(simp only[lnA,lnC,lnN,lnM,z8,yj];omega)) only[↓yk,yz,↓zy,↓zd,↓zF,↓zn,↓zq,↓yZ,↓zw,↓yK,↓zk,zZ,bP,lnM,yj,↓zj hx,hd]
  |false=>
   rw[h]at hd
   rw[ya hx h,<-ih,lnM];simp (disch:=first|omega|(simp only[lnA,lnC,lnN,lnM,z8,yj];omega)) only[↓yk,yz,↓zy,↓y0,↓zd,↓zF,↓zn,↓zq,↓yZ,↓zw,↓yK,↓zk,zZ,bP,yj,↓zj hx,hd,hw]
theorem SF {c:Cd}(hf:FitsC c)(s:ByteArray):V 125 [eCd c,.str s]=some (iN (EW c s),[]):=by
 have h:=Ql hf.dlen s c.defs.length 0 (bX _)
 rw[yb,Int.natCast_zero]at h
 have h2:V 178 [.rs (3,0) (c.defs.map eDf),.fn 179 [.bp [.str s]]]=some (iN (EW c s),[]):=by
  rw[Tj];exact h
 rw[aaK]
 simp (disch:=first|omega|(simp only[lnA,lnC,lnN,lnM,z8,yj];omega)) only[↓yk,yz,↓zF,↓zq,h2]
theorem Qx {l:List Df}(hl:l.length<4611686018427387904)(s:ByteArray)(p q:List D):∀(k i:Nat),i+k=l.length->IY s (i:Int) p q (l.map eDf)=some (iN (d9 (fun d:Df=>kJ d.name s) l i),[])
 |0,i,hi=>by
  rw[Mi,ym (by omega)]
  simp (disch:=first|omega|(simp only[lnA,lnC,lnN,lnM,z8,yj];omega)) only[↓y0,zY,lnM,yj]
 |k+1,i,hi=>by
  obtain⟨x,hx⟩:=yM (l:=l) (i:=i) (by omega)
  have ih:=Qx hl s p q k (i+1) (by omega)
  have hw:w6 ((i:Int)+1)=((i+1:Nat):Int):=z6 (by omega)
  rw[Mi]
  cases h:kJ x.name s with
  |true=>rw[yn hx h];simp (disch:=first|omega|(simp only[lnA,lnC,lnN,lnM,z8,yj];omega)) only[↓zy,↓zd,↓zw,↓yK,↓yN,yN,↓zk,zZ,bP,lnM,yj,↓zj hx,h]
  |false=>rw[ya hx h,<-ih];simp (disch:=first|omega|(simp only[lnA,lnC,lnN,lnM,z8,yj];omega)) only[↓zy,↓y0,↓zd,↓zw,↓yK,↓yN,yN,↓zk,zZ,bP,lnM,yj,↓zj hx,h,hw]
theorem J0 {c:Cd}(hf:FitsC c)(s:ByteArray):V 129 [eCd c,.str s]=some (iN (EW c s),[]):=by
 have h:=Qx hf.dlen s (c.pool.map eN) (c.list.map eIn) c.defs.length 0 (bX _)
 rw[yb,Int.natCast_zero]at h
 rw[aaO]
 exact h

def NA (c:Cd)(x:In)(k:Int):Bool:=
 if x.op=1 then wi x.n 0 ((c.pool.length:Int)-1)&&(x.i==0&&nz x.s)
 else if x.op=2 then wi x.n 0 20&&(wi x.i 0 3&&nz x.s)
 else if x.op=3 then x.n==0&&(x.i==0&&Oi x.s)
 else if x.op=4\/x.op=5 then wi x.n (k+1) (c.list.length:Int)&&(x.i==0&&nz x.s)
 else if x.op=6 then wi x.n (k+1) ((c.list.length:Int)-1)&&(wi x.i 0 4&&nz x.s)
 else if x.op=7 then x.n==0&&(wi x.i 0 4&&nz x.s)
 else if x.op=8\/x.op=9 then x.n==0&&(x.i==0&&nz x.s)
 else false
theorem agB (n k h:Int):wi n (k+1) h=(decide (n>k)&&decide (n<=h)):=by
 unfold wi
 congr 1
theorem ag4 (n k h:Int):wi n (k+1) (h-1)=(decide (n>k)&&decide (n<h)):=by
 unfold wi
 congr 1
 exact decide_eq_decide.2 (by omega)
theorem WS {c:Cd}(hf:FitsC c){k:Nat}{x:In}(hx:c.list[k]? = some x):V 123 [eCd c,iN (k:Int)]=some (.bool (NA c x k),[]):=by
 have hk:=aQ hx
 have hl:=hf.llen
 have hp:=hf.plen
 have hs:=hf.list x (bT hx)
 rw[Xd]
 unfold NA
 have hnm:=LZ hs
 have hnode:=Jy hp x.n
 by_cases h1:x.op=1
 ·rw[aG h1];simp (disch:=first|omega|(simp only[lnA,lnC,lnN,lnM,z8,yj];omega)) only[↓yk,yz,↓zy,↓zd,↓zF,↓zn,↓zq,↓yZ,↓zw,↓yK,↓zk,zZ,zU,bP,lnM,yj,↓zj hx,hnode];simp only[AJ];rfl
 rw[aD h1]
 by_cases h2:x.op=2
 ·rw[aG h2];simp (disch:=first|omega|(simp only[lnA,lnC,lnN,lnM,z8,yj];omega)) only[↓yk,yz,↓zy,↓y0,↓zd,↓zF,↓zn,↓zq,↓yZ,↓zw,↓yK,↓zk,zZ,zU,zT,bP,lnM,yj,↓zj hx,AI];simp only[AJ];rfl
 rw[aD h2]
 by_cases h3:x.op=3
 ·rw[aG h3];simp (disch:=first|omega|(simp only[lnA,lnC,lnN,lnM,z8,yj];omega)) only[↓yk,yz,↓zy,↓y0,↓zd,↓zF,↓zn,↓zq,↓yZ,↓zw,↓yK,↓zk,zZ,zU,zT,bP,lnM,yj,↓zj hx,hnm];simp only[AJ]
 rw[aD h3]
 by_cases h4:x.op=4
 ·rw[aG (.inl h4)];simp (disch:=first|omega|(simp only[lnA,lnC,lnN,lnM,z8,yj];omega)) only[↓yk,yz,↓zy,↓y0,↓zd,↓zF,↓zn,↓zq,↓yZ,↓zw,↓yK,↓zk,zZ,zU,zT,bP,lnM,wS,yj,↓zj hx,AI];simp only[AJ];rfl
 by_cases h5:x.op=5
 ·rw[aG (.inr h5)];simp (disch:=first|omega|(simp only[lnA,lnC,lnN,lnM,z8,yj];omega)) only[↓yk,yz,↓zy,↓y0,↓zd,↓zF,↓zn,↓zq,↓yZ,↓zw,↓yK,↓zk,zZ,zU,zT,bP,lnM,wS,yj,↓zj hx,AI];simp only[AJ];rfl
 rw[aD (by omega)]
 by_cases h6:x.op=6
 ·rw[aG h6];simp (disch:=first|omega|(simp only[lnA,lnC,lnN,lnM,z8,yj];omega)) only[↓yk,yz,↓zy,↓y0,↓zd,↓zF,↓zn,↓zq,↓yZ,↓zw,↓yK,↓zk,zZ,zU,zT,bP,lnM,wS,yj,↓zj hx,AI];simp only[AJ];rfl
 rw[aD h6]
 by_cases h7:x.op=7
 ·rw[aG h7];simp (disch:=first|omega|(simp only[lnA,lnC,lnN,lnM,z8,yj];omega)) only[↓yk,yz,↓zy,↓y0,↓zd,↓zF,↓zn,↓zq,↓yZ,↓zw,↓yK,↓zk,zZ,zU,zT,bP,lnM,yj,↓zj hx,AI];simp only[AJ];rfl
 rw[aD h7]
 by_cases h8:x.op=8
 ·rw[aG (.inl h8)];simp (disch:=first|omega|(simp only[lnA,lnC,lnN,lnM,z8,yj];omega)) only[↓zy,↓y0,↓zd,↓zF,↓zn,↓zq,↓zw,↓yK,↓zk,zZ,zU,zT,bP,lnM,yj,↓zj hx];simp only[AJ];rfl
 by_cases h9:x.op=9
 ·rw[aG (.inr h9)];simp (disch:=first|omega|(simp only[lnA,lnC,lnN,lnM,z8,yj];omega)) only[↓zy,↓y0,↓zd,↓zF,↓zn,↓zq,↓zw,↓yK,↓zk,zZ,zU,zT,bP,lnM,yj,↓zj hx];simp only[AJ];rfl
 rw[aD (by omega)]
 simp (disch:=first|omega|(simp only[lnA,lnC,lnN,lnM,z8,yj];omega)) only[↓y0,↓zd,↓zF,↓zn,↓zq,↓zw,↓yK,↓zk,zZ,zT,bP,lnM,yj,↓zj hx]
theorem ael {c:Cd}(hf:FitsC c){k:Nat}{x:In}(hx:c.list[k]? = some x):V 127 [eCd c,iN (k:Int)]=some (.bool (NA c x k),[]):=by
 have hk:=aQ hx
 have hl:=hf.llen
 have hp:=hf.plen
 have hs:=hf.list x (bT hx)
 have hself:kJ x.s x.s=true:=by rw[Dz];simp
 rw[Xm]
 unfold NA
 have hnm:=Jh hs
 have hnode:=JY hp x.n
 by_cases h1:x.op=1
 ·rw[aG h1];simp (disch:=first|omega|(simp only[lnA,lnC,lnN,lnM,z8,yj];omega)) only[↓yk,yz,↓zy,↓zd,↓zF,↓zn,↓zq,↓yZ,↓zw,↓yK,↓zk,zZ,zU,dJ,bP,lnM,yj,↓zj hx,hnode];simp only[AJ]
  show some (D.bool (_&&nz x.s&&_),_)=_
  cases wi x.n 0 ((c.pool.length:Int)-1)<;>cases x.i==0<;>cases nz x.s<;>rfl
 rw[aD h1]
 by_cases h2:x.op=2
 ·rw[aG h2];simp (disch:=first|omega|(simp only[lnA,lnC,lnN,lnM,z8,yj];omega)) only[↓yk,yz,↓zy,↓y0,↓zd,↓zF,↓zn,↓zq,↓yZ,↓zw,↓yK,↓zk,zZ,zU,zT,bP,lnM,yj,↓zj hx,Dg];simp only[AJ]
  show some (D.bool (nz x.s&&_),_)=_
  cases wi x.n 0 20<;>cases wi x.i 0 3<;>cases nz x.s<;>rfl
 rw[aD h2]
 by_cases h3:x.op=3
 ·rw[aG h3];simp (disch:=first|omega|(simp only[lnA,lnC,lnN,lnM,z8,yj];omega)) only[↓yk,yz,↓zy,↓y0,↓zd,↓zF,↓zn,↓zq,↓yZ,↓zw,↓yK,↓zk,zZ,zU,zT,dJ,bP,lnM,yj,↓zj hx,hnm,hself];simp only[AJ]
  cases x.n==0<;>cases x.i==0<;>cases Oi x.s<;>rfl
 rw[aD h3]
 by_cases h4:x.op=4
 ·rw[aG (.inl h4),agB];simp (disch:=first|omega|(simp only[lnA,lnC,lnN,lnM,z8,yj];omega)) only[↓zy,↓y0,↓zd,↓zF,↓zn,↓zq,↓zw,↓yK,↓zk,zZ,zU,zT,dJ,bP,lnM,yj,↓zj hx];simp only[AJ]
  show some (D.bool (_&&nz x.s&&_),_)=_
  cases decide (x.n>(k:Int))<;>cases decide (x.n<=(c.list.length:Int))<;>cases x.i==0<;>cases nz x.s<;>rfl
 by_cases h5:x.op=5
 ·rw[aG (.inr h5),agB];simp (disch:=first|omega|(simp only[lnA,lnC,lnN,lnM,z8,yj];omega)) only[↓zy,↓y0,↓zd,↓zF,↓zn,↓zq,↓zw,↓yK,↓zk,zZ,zU,zT,dJ,bP,lnM,yj,↓zj hx];simp only[AJ]
  show some (D.bool (_&&nz x.s&&_),_)=_
  cases decide (x.n>(k:Int))<;>cases decide (x.n<=(c.list.length:Int))<;>cases x.i==0<;>cases nz x.s<;>rfl
 rw[aD (by omega)]
 by_cases h6:x.op=6
 ·rw[aG h6,ag4];simp (disch:=first|omega|(simp only[lnA,lnC,lnN,lnM,z8,yj];omega)) only[↓yk,yz,↓zy,↓y0,↓zd,↓zF,↓zn,↓zq,↓yZ,↓zw,↓yK,↓zk,zZ,zU,zT,bP,lnM,yj,↓zj hx,Dg];simp only[AJ]
  show some (D.bool (nz x.s&&_),_)=_
  cases decide (x.n>(k:Int))<;>cases decide (x.n<(c.list.length:Int))<;>cases wi x.i 0 4<;>cases nz x.s<;>rfl
 rw[aD h6]
 by_cases h7:x.op=7
 ·rw[aG h7];simp (disch:=first|omega|(simp only[lnA,lnC,lnN,lnM,z8,yj];omega)) only[↓yk,yz,↓zy,↓y0,↓zd,↓zF,↓zn,↓zq,↓yZ,↓zw,↓yK,↓zk,zZ,zU,zT,dJ,bP,lnM,yj,↓zj hx,Dg];simp only[AJ]
  show some (D.bool (_&&nz x.s&&_),_)=_
  cases x.n==0<;>cases wi x.i 0 4<;>cases nz x.s<;>rfl
 rw[aD h7]
 by_cases h8:x.op=8
 ·rw[aG (.inl h8)];simp (disch:=first|omega|(simp only[lnA,lnC,lnN,lnM,z8,yj];omega)) only[↓zy,↓y0,↓zd,↓zF,↓zn,↓zq,↓zw,↓yK,↓zk,zZ,zU,zT,dJ,bP,lnM,yj,↓zj hx];rfl
 by_cases h9:x.op=9
 ·rw[aG (.inr h9)];simp (disch:=first|omega|(simp only[lnA,lnC,lnN,lnM,z8,yj];omega)) only[↓zy,↓y0,↓zd,↓zF,↓zn,↓zq,↓zw,↓yK,↓zk,zZ,zU,zT,dJ,bP,lnM,yj,↓zj hx];rfl
 rw[aD (by omega)]
 simp (disch:=first|omega|(simp only[lnA,lnC,lnN,lnM,z8,yj];omega)) only[↓y0,↓zd,↓zF,↓zn,↓zq,↓zw,↓yK,↓zk,zZ,zT,bP,lnM,yj,↓zj hx]

def Jv (c:Cd):Nat->Nat->Bool
 |_,0=>true
 |i,k+1=>(match c.list[i]? with|some x=>NA c x i|none=>true)&&Jv c (i+1) k
def abw (c:Cd)(d:Df)(i:Int):Bool:=Oi d.name&&(EW c d.name==i&&(wi d.at' 0 ((c.list.length:Int)-1)&&wi d.args 0 4))
def Gf (c:Cd):Nat->Nat->Bool
 |_,0=>true
 |i,k+1=>(match c.defs[i]? with|some d=>abw c d i|none=>true)&&Gf c (i+1) k
def Bu (c:Cd):Bool:=Ac c.pool&&(decide (c.list.length<=400)&&(decide (c.defs.length<=20)&&(Jv c 0 c.list.length&&Gf c 0 c.defs.length)))
theorem OG {c:Cd}(hf:FitsC c):∀(k i:Nat),i+k=c.defs.length->Gj (c.defs.map eDf) (ni (c.defs.map eDf).length) (i:Int) (c.pool.map eN) (c.list.map eIn) (c.defs.map eDf)=some (.bool (Gf c i k),[])
 |0,i,hi=>by
  have hd:=hf.dlen
  rw[J7]
  simp (disch:=first|omega|(simp only[lnA,lnC,lnN,lnM,z8,yj];omega)) only[↓y0,zY,lnM,yj]
  rfl
 |k+1,i,hi=>by
  have hd:=hf.dlen
  have hll:=hf.llen
  obtain⟨x,hx⟩:=yM (l:=c.defs) (i:=i) (by omega)
  have ih:=OG hf k (i+1) (by omega)
  rw[lnM]at ih
  have hw:w6 ((i:Int)+1)=((i+1:Nat):Int):=z6 (by omega)
  have hdf:=SF hf x.name
  have hnm:=LZ (hf.defs x (bT hx))
  rw[J7]
  simp only[Gf,hx,abw]
  cases e1:Oi x.name with
  |false=>rw[e1]at hnm;simp (disch:=first|omega|(simp only[lnA,lnC,lnN,lnM,z8,yj];omega)) only[↓yk,yz,↓zy,↓zd,↓zF,↓zn,↓zq,↓yZ,↓zw,↓yK,↓zk,zZ,bP,dB,bO,lnM,yj,↓zj hx,hnm]
  |true=>
   rw[e1]at hnm
   by_cases e2:EW c x.name=(i:Int)
   ·rw[e2]at hdf
    simp (disch:=first|omega|(simp only[lnA,lnC,lnN,lnM,z8,yj];omega)) only[↓yk,yz,↓zy,↓y0,↓zd,↓zF,↓zn,↓zq,↓yZ,↓zw,↓yK,↓zk,zZ,zU,zW,dJ,bP,aO,lnM,wS,yj,↓zj hx,hnm,hdf,e2,AI,hw,ih]
    cases wi x.at' 0 ((c.list.length:Int)-1)<;>cases wi x.args 0 4<;>rfl
   ·simp (disch:=first|omega|(simp only[lnA,lnC,lnN,lnM,z8,yj];omega)) only[↓yk,yz,↓zy,↓y0,↓zd,↓zF,↓zn,↓zq,↓yZ,↓zw,↓yK,↓zk,zZ,zT,zX,bP,dB,Bool.and_false,aO,lnM,yj,↓zj hx,hnm,hdf]
theorem Pn {c:Cd}(hf:FitsC c):∀(k i:Nat),i+k=c.defs.length->GL (i:Int) (c.pool.map eN) (c.list.map eIn) (c.defs.map eDf)=some (.bool (Gf c i k),[])
 |0,i,hi=>by
  have hd:=hf.dlen
  rw[KZ]
  simp (disch:=first|omega|(simp only[lnA,lnC,lnN,lnM,z8,yj];omega)) only[↓y0,zY,lnM,yj]
  rfl
 |k+1,i,hi=>by
  have hd:=hf.dlen
  have hll:=hf.llen
  obtain⟨x,hx⟩:=yM (l:=c.defs) (i:=i) (by omega)
  have ih:=Pn hf k (i+1) (by omega)
  have hw:w6 ((i:Int)+1)=((i+1:Nat):Int):=z6 (by omega)
  have hdf:=J0 hf x.name
  have hnm:=Jh (hf.defs x (bT hx))
  rw[KZ]
  simp only[Gf,hx,abw]
  cases e1:Oi x.name with
  |false=>rw[e1]at hnm;simp (disch:=first|omega|(simp only[lnA,lnC,lnN,lnM,z8,yj];omega)) only[↓yk,yz,↓zy,↓zd,↓zF,↓zn,↓zq,↓yZ,↓zw,↓yK,↓zk,zZ,bP,dB,bO,lnM,yj,↓zj hx,hnm]
  |true=>
   rw[e1]at hnm
   by_cases e2:EW c x.name=(i:Int)
   ·rw[e2]at hdf
    simp (disch:=first|omega|(simp only[lnA,lnC,lnN,lnM,z8,yj];omega)) only[↓yk,yz,↓zy,↓y0,↓zd,↓zF,↓zn,↓zq,↓yZ,↓zw,↓yK,↓zk,zZ,zU,zW,dJ,bP,aO,lnM,wS,yj,↓zj hx,hnm,hdf,e2,Dg,hw,ih]
    cases wi x.at' 0 ((c.list.length:Int)-1)<;>cases wi x.args 0 4<;>rfl
   ·simp (disch:=first|omega|(simp only[lnA,lnC,lnN,lnM,z8,yj];omega)) only[↓yk,yz,↓zy,↓y0,↓zd,↓zF,↓zn,↓zq,↓yZ,↓zw,↓yK,↓zk,zZ,zT,zX,bP,dB,Bool.and_false,aO,lnM,yj,↓zj hx,hnm,hdf]
theorem Qn {c:Cd}(hf:FitsC c):∀(k i:Nat),i+k=c.list.length->GD (ni (c.list.map eIn).length) (i:Int) (c.pool.map eN) (c.list.map eIn) (c.defs.map eDf)=some (.bool (Jv c i k&&Gf c 0 c.defs.length),[])
 |0,i,hi=>by
  have hll:=hf.llen
  have h:=OG hf c.defs.length 0 (bX _)
  rw[Int.natCast_zero,lnM]at h
  rw[KR]
  simp (disch:=first|omega|(simp only[lnA,lnC,lnN,lnM,z8,yj];omega)) only[↓y0,zY,lnM,yj,h]
  rfl
 |k+1,i,hi=>by
  have hll:=hf.llen
  obtain⟨x,hx⟩:=yM (l:=c.list) (i:=i) (by omega)
  have ih:=Qn hf k (i+1) (by omega)
  rw[lnM]at ih
  have hw:w6 ((i:Int)+1)=((i+1:Nat):Int):=z6 (by omega)
  have hi:=WS hf hx
  rw[KR]
  simp only[Jv,hx]
  cases e1:NA c x i with
  |false=>rw[e1]at hi;simp (disch:=first|omega|(simp only[lnA,lnC,lnN,lnM,z8,yj];omega)) only[↓yk,yz,↓zy,↓zF,↓yZ,zZ,dB,bO,lnM,yj,hi]
  |true=>rw[e1]at hi;simp (disch:=first|omega|(simp only[lnA,lnC,lnN,lnM,z8,yj];omega)) only[↓yk,yz,↓zy,↓y0,↓zF,↓yZ,zZ,dJ,aO,lnM,yj,hi,hw,ih]
theorem Qy {c:Cd}(hf:FitsC c):∀(k i:Nat),i+k=c.list.length->GK (i:Int) (c.pool.map eN) (c.list.map eIn) (c.defs.map eDf)=some (.bool (Jv c i k&&Gf c 0 c.defs.length),[])
 |0,i,hi=>by
  have hll:=hf.llen
  have h:=Pn hf c.defs.length 0 (bX _)
  rw[Int.natCast_zero]at h
  rw[KY]
  simp (disch:=first|omega|(simp only[lnA,lnC,lnN,lnM,z8,yj];omega)) only[↓y0,zY,lnM,yj,h]
  rfl
 |k+1,i,hi=>by
  have hll:=hf.llen
  obtain⟨x,hx⟩:=yM (l:=c.list) (i:=i) (by omega)
  have ih:=Qy hf k (i+1) (by omega)
  have hw:w6 ((i:Int)+1)=((i+1:Nat):Int):=z6 (by omega)
  have hi:=ael hf hx
  rw[KY]
  simp only[Jv,hx]
  cases e1:NA c x i with
  |false=>rw[e1]at hi;simp (disch:=first|omega|(simp only[lnA,lnC,lnN,lnM,z8,yj];omega)) only[↓yk,yz,↓zy,↓zF,↓yZ,zZ,dB,bO,lnM,yj,hi]
  |true=>rw[e1]at hi;simp (disch:=first|omega|(simp only[lnA,lnC,lnN,lnM,z8,yj];omega)) only[↓yk,yz,↓zy,↓y0,↓zF,↓yZ,zZ,dJ,aO,lnM,yj,hi,hw,ih]
theorem XH {c:Cd}(hf:FitsC c):V 54 [eCd c]=some (.bool (Bu c),[]):=by
 have hp:=Jf hf.pool hf.plen
 have h:=Qn hf c.list.length 0 (bX _)
 rw[Int.natCast_zero,lnM]at h
 rw[YQ]
 unfold Bu
 cases e1:Ac c.pool with
 |false=>rw[e1]at hp;simp (disch:=first|omega|(simp only[lnA,lnC,lnN,lnM,z8,yj];omega)) only[↓yk,yz,↓zy,↓zF,↓yZ,dB,bO,hp]
 |true=>
  rw[e1]at hp
  by_cases e2:c.list.length<=400
  ·by_cases e3:c.defs.length<=20
   ·simp (disch:=first|omega|(simp only[lnA,lnC,lnN,lnM,z8,yj];omega)) only[↓yk,yz,↓y0,↓zF,↓yZ,zZ,zY,dJ,aO,lnM,yj,hp,h]
   ·simp (disch:=first|omega|(simp only[lnA,lnC,lnN,lnM,z8,yj];omega)) only[↓yk,yz,↓zy,↓y0,↓zF,↓yZ,zZ,zY,dB,Bool.and_false,aO,lnM,yj,hp]
  ·simp (disch:=first|omega|(simp only[lnA,lnC,lnN,lnM,z8,yj];omega)) only[↓yk,yz,↓zy,↓y0,↓zF,↓yZ,zZ,zY,dB,Bool.and_false,aO,lnM,yj,hp]
theorem Jg {c:Cd}(hf:FitsC c):V 59 [eCd c]=some (.bool (Bu c),[]):=by
 have hp:=CU hf.pool hf.plen
 have h:=Qy hf c.list.length 0 (bX _)
 rw[Int.natCast_zero]at h
 rw[Zd]
 unfold Bu
 cases e1:Ac c.pool with
 |false=>rw[e1]at hp;simp (disch:=first|omega|(simp only[lnA,lnC,lnN,lnM,z8,yj];omega)) only[↓yk,yz,↓zy,↓zF,↓yZ,dB,bO,hp]
 |true=>
  rw[e1]at hp
  by_cases e2:c.list.length<=400
  ·by_cases e3:c.defs.length<=20
   ·simp (disch:=first|omega|(simp only[lnA,lnC,lnN,lnM,z8,yj];omega)) only[↓yk,yz,↓y0,↓zF,↓yZ,zZ,zY,dJ,aO,lnM,yj,hp,h]
   ·simp (disch:=first|omega|(simp only[lnA,lnC,lnN,lnM,z8,yj];omega)) only[↓yk,yz,↓zy,↓y0,↓zF,↓yZ,zZ,zY,dB,Bool.and_false,aO,lnM,yj,hp]
  ·simp (disch:=first|omega|(simp only[lnA,lnC,lnN,lnM,z8,yj];omega)) only[↓yk,yz,↓zy,↓y0,↓zF,↓yZ,zZ,zY,dB,Bool.and_false,aO,lnM,yj,hp]

structure Mc where
 pool:List Nd
 at':Int
 s:Int
 e:Int
 d:Int
 state:Int
 ask:Int
 arg:Int
abbrev eMc (m:Mc):D:=.agg [.rs (5,0) (m.pool.map eN),iN m.at',iN m.s,iN m.e,iN m.d,iN m.state,iN m.ask,iN m.arg]
abbrev oMc (m:Mc):D:=.agg [.os (5,0) (m.pool.map eN),iN m.at',iN m.s,iN m.e,iN m.d,iN m.state,iN m.ask,iN m.arg]
def JS (p:List Nd)(v:Int):Bool:=wi v 0 ((p.length:Int)-1)
def Oj (c:Cd)(m:Mc):Bool:=
 if m.state=0 then wi m.at' 0 ((c.list.length:Int)-1)&&(m.ask==0&&m.arg==0)
 else if m.state=1 then wi m.at' 0 ((c.list.length:Int)-1)&&(wi m.ask 13 19&&((m.ask != 18)&&JS m.pool m.arg))
 else if m.state=2 then m.at'==0&&(m.ask==0&&JS m.pool m.arg)
 else if m.state=3 then m.at'==0&&(wi m.ask 1 7&&m.arg==0)
 else false
def CN (c:Cd)(m:Mc):Bool:=Bu c&&(Ac m.pool&&(JS m.pool m.s&&(JS m.pool m.e&&(JS m.pool m.d&&Oj c m))))
theorem YA {c:Cd}(hl:c.list.length<4611686018427387904)(n:Int):V 57 [eCd c,iN n]=some (.bool (wi n 0 ((c.list.length:Int)-1)),[]):=by
 rw[Xe]
 simp (disch:=first|omega|(simp only[lnA,lnC,lnN,lnM,z8,yj];omega)) only[↓yk,yz,↓zF,↓yZ,lnM,wS,yj,AI]
theorem FJ {c:Cd}(hf:FitsC c){m:Mc}(hm:Cu m.pool)(hl:m.pool.length<4611686018427387904):V 14 [eCd c,eMc m]=some (.bool (CN c m),[]):=by
 have hc:=XH hf
 have hp:=Jf hm hl
 have h1:=Jy hl m.s
 have h2:=Jy hl m.e
 have h3:=Jy hl m.d
 have h4:=Jy hl m.arg
 have h5:=YA hf.llen m.at'
 rw[Ux]
 unfold CN JS
 cases e1:Bu c with
 |false=>rw[e1]at hc;simp (disch:=first|omega|(simp only[lnA,lnC,lnN,lnM,z8,yj];omega)) only[↓yk,yz,↓zy,↓zF,↓yZ,dB,bO,hc]
 |true=>
 rw[e1]at hc
 cases e2:Ac m.pool with
 |false=>rw[e2]at hp;simp (disch:=first|omega|(simp only[lnA,lnC,lnN,lnM,z8,yj];omega)) only[↓yk,yz,↓zy,↓y0,↓zF,↓yZ,dB,Bool.and_false,aO,bO,hc,hp]
 |true=>
 rw[e2]at hp
 cases e3:wi m.s 0 ((m.pool.length:Int)-1) with
 |false=>rw[e3]at h1;simp (disch:=first|omega|(simp only[lnA,lnC,lnN,lnM,z8,yj];omega)) only[↓yk,yz,↓zy,↓y0,↓zF,↓yZ,dB,Bool.and_false,aO,bO,hc,hp,h1]
 |true=>
 rw[e3]at h1
 cases e4:wi m.e 0 ((m.pool.length:Int)-1) with
 |false=>rw[e4]at h2;simp (disch:=first|omega|(simp only[lnA,lnC,lnN,lnM,z8,yj];omega)) only[↓yk,yz,↓zy,↓y0,↓zF,↓yZ,dB,Bool.and_false,aO,bO,hc,hp,h1,h2]
 |true=>
 rw[e4]at h2
 cases e5:wi m.d 0 ((m.pool.length:Int)-1) with
 |false=>rw[e5]at h3;simp (disch:=first|omega|(simp only[lnA,lnC,lnN,lnM,z8,yj];omega)) only[↓yk,yz,↓zy,↓y0,↓zF,↓yZ,dB,Bool.and_false,aO,bO,hc,hp,h1,h2,h3]
 |true=>
 rw[e5]at h3
 unfold Oj JS
 by_cases s0:m.state=0
 ·rw[aG s0];simp (disch:=first|omega|(simp only[lnA,lnC,lnN,lnM,z8,yj];omega)) only[↓yk,yz,↓zy,↓y0,↓zF,↓yZ,zU,dJ,aO,hc,hp,h1,h2,h3,h5];simp only[AJ]
 rw[aD s0]
 by_cases s1:m.state=1
 ·rw[aG s1];simp (disch:=first|omega|(simp only[lnA,lnC,lnN,lnM,z8,yj];omega)) only[↓yk,yz,↓zy,↓y0,↓zF,↓yZ,zU,zT,dJ,aO,hc,hp,h1,h2,h3,h4,h5,AI];simp only[AJ]
 rw[aD s1]
 by_cases s2:m.state=2
 ·rw[aG s2];simp (disch:=first|omega|(simp only[lnA,lnC,lnN,lnM,z8,yj];omega)) only[↓yk,yz,↓zy,↓y0,↓zF,↓yZ,zU,zT,dJ,aO,hc,hp,h1,h2,h3,h4];simp only[AJ]
 rw[aD s2]
 by_cases s3:m.state=3
 ·rw[aG s3];simp (disch:=first|omega|(simp only[lnA,lnC,lnN,lnM,z8,yj];omega)) only[↓yk,yz,↓zy,↓y0,↓zF,↓yZ,zU,zT,dJ,aO,hc,hp,h1,h2,h3,AI];simp only[AJ]
 rw[aD s3]
 simp (disch:=first|omega|(simp only[lnA,lnC,lnN,lnM,z8,yj];omega)) only[↓yk,yz,↓y0,↓zF,↓yZ,zT,Bool.and_false,aO,hc,hp,h1,h2,h3]
theorem IW {c:Cd}(hf:FitsC c){m:Mc}(hm:Cu m.pool)(hl:m.pool.length<4611686018427387904):V 15 [eCd c,eMc m]=some (.bool (CN c m),[]):=by
 have hll:=hf.llen
 have hc:=Jg hf
 have hp:=CU hm hl
 have h1:=JY hl m.s
 have h2:=JY hl m.e
 have h3:=JY hl m.d
 have h4:=JY hl m.arg
 rw[UF]
 unfold CN JS
 cases e1:Bu c with
 |false=>rw[e1]at hc;simp (disch:=first|omega|(simp only[lnA,lnC,lnN,lnM,z8,yj];omega)) only[↓yk,yz,↓zy,↓zF,↓yZ,dB,bO,hc]
 |true=>
 rw[e1]at hc
 cases e2:Ac m.pool with
 |false=>rw[e2]at hp;simp (disch:=first|omega|(simp only[lnA,lnC,lnN,lnM,z8,yj];omega)) only[↓yk,yz,↓zy,↓y0,↓zF,↓yZ,dB,Bool.and_false,aO,bO,hc,hp]
 |true=>
 rw[e2]at hp
 cases e3:wi m.s 0 ((m.pool.length:Int)-1) with
 |false=>rw[e3]at h1;simp (disch:=first|omega|(simp only[lnA,lnC,lnN,lnM,z8,yj];omega)) only[↓yk,yz,↓zy,↓y0,↓zF,↓yZ,dB,Bool.and_false,aO,bO,hc,hp,h1]
 |true=>
 rw[e3]at h1
 cases e4:wi m.e 0 ((m.pool.length:Int)-1) with
 |false=>rw[e4]at h2;simp (disch:=first|omega|(simp only[lnA,lnC,lnN,lnM,z8,yj];omega)) only[↓yk,yz,↓zy,↓y0,↓zF,↓yZ,dB,Bool.and_false,aO,bO,hc,hp,h1,h2]
 |true=>
 rw[e4]at h2
 cases e5:wi m.d 0 ((m.pool.length:Int)-1) with
 |false=>rw[e5]at h3;simp (disch:=first|omega|(simp only[lnA,lnC,lnN,lnM,z8,yj];omega)) only[↓yk,yz,↓zy,↓y0,↓zF,↓yZ,dB,Bool.and_false,aO,bO,hc,hp,h1,h2,h3]
 |true=>
 rw[e5]at h3
 unfold Oj JS
 by_cases s0:m.state=0
 ·rw[aG s0];simp (disch:=first|omega|(simp only[lnA,lnC,lnN,lnM,z8,yj];omega)) only[↓yk,yz,↓zy,↓y0,↓zF,↓yZ,zU,dJ,aO,lnM,wS,yj,hc,hp,h1,h2,h3,Dg];simp only[AJ]
 rw[aD s0]
 by_cases s1:m.state=1
 ·rw[aG s1];simp (disch:=first|omega|(simp only[lnA,lnC,lnN,lnM,z8,yj];omega)) only[↓yk,yz,↓zy,↓y0,↓zF,↓yZ,zU,zT,dJ,aO,lnM,wS,yj,hc,hp,h1,h2,h3,h4,Dg];simp only[AJ]
 rw[aD s1]
 by_cases s2:m.state=2
 ·rw[aG s2];simp (disch:=first|omega|(simp only[lnA,lnC,lnN,lnM,z8,yj];omega)) only[↓yk,yz,↓zy,↓y0,↓zF,↓yZ,zU,zT,dJ,aO,lnM,wS,yj,hc,hp,h1,h2,h3,h4,Dg];simp only[AJ]
 rw[aD s2]
 by_cases s3:m.state=3
 ·rw[aG s3];simp (disch:=first|omega|(simp only[lnA,lnC,lnN,lnM,z8,yj];omega)) only[↓yk,yz,↓zy,↓y0,↓zF,↓yZ,zU,zT,dJ,aO,lnM,wS,yj,hc,hp,h1,h2,h3,Dg];simp only[AJ]
 rw[aD s3]
 simp (disch:=first|omega|(simp only[lnA,lnC,lnN,lnM,z8,yj];omega)) only[↓yk,yz,↓y0,↓zF,↓yZ,zT,Bool.and_false,aO,lnM,wS,yj,hc,hp,h1,h2,h3,Dg]
end
end Go.Eng
/-! numbers and texts as bytes,on both sides -/
namespace Go.Eng
noncomputable section
open Go.Proofs Go.Proofs.Tryz

def AQ (n:Nat):List UInt8:=if n<=127 then [UInt8.ofNat n] else UInt8.ofNat (n % 128+128)::AQ (n / 128)
termination_by n
theorem IQ {n:Nat}(h:n<=127):AQ n=[UInt8.ofNat n]:=by rw[AQ,aG h]
theorem Ph {n:Nat}(h:¬n<=127):AQ n=UInt8.ofNat (n % 128+128)::AQ (n / 128):=by rw[AQ,aD h]
theorem abD:∀(k n:Nat),n<128 ^ (k+1)->(AQ n).length<=k+1
 |0,n,h=>by rw[IQ (by simp at h;omega)];simp
 |k+1,n,h=>by
  by_cases h1:n<=127
  ·rw[IQ h1];simp
  ·rw[Ph h1]
   have:=abD k (n / 128) (by rw[Nat.pow_succ]at h;omega)
   simp;omega
theorem Ay {n:Nat}(h:n<4611686018427387904):(AQ n).length<=9:=abD 8 n (by have:(128:Nat) ^ (8+1)=9223372036854775808:=rfl;omega)
theorem ahe {n:Nat}(h:n<256):eU (UInt8.ofNat n)=D.int .u8 (n:Int):=by
 have:(UInt8.ofNat n).toNat=n:=by simp;omega
 simp only[eU,this]
theorem aag (n:Nat):Int.tmod (n:Int) 128=((n % 128:Nat):Int):=by rw[Int.tmod_eq_emod_of_nonneg (by omega)];omega
theorem adz (n:Nat):Int.tdiv (n:Int) 128=((n / 128:Nat):Int):=by rw[Int.tdiv_eq_ediv_of_nonneg (by omega)];omega
theorem adm {l:List UInt8}(h:l.length<4294967296)(x:D):decide (ni (l.map eU++[x]).length<=LIM)=true:=
 bE (by rw[qA];simp only[ni,lnA,lnM,lnC,lnN];omega)
theorem aaf {l:List UInt8}{n:Nat}(h:n<256):l.map eU++[D.int .u8 (n:Int)]=(l++[UInt8.ofNat n]).map eU:=by
 rw[eA,bR,eL,ahe h]
theorem Xx:∀(n:Nat)(out:List UInt8),n<4611686018427387904->out.length+(AQ n).length<4294967296->GI (n:Int) (out.map eU)=some (.os (1,0) ((out++AQ n).map eU),[]):=by
 intro n
 induction n using Nat.strongRecOn with
 |_ n ih=>
  intro out hn hl
  rw[Q8]
  by_cases h:n<=127
  ·rw[yp (bK (by omega)),SJ (by omega) (by omega),zJ (adm (by omega) _),zO,aaf (by omega),IQ h]
  ·rw[Ph h]at hl⊢
   rw[lnC]at hl
   have e:((n % 128:Nat):Int)+128=((n % 128+128:Nat):Int):=by omega
   rw[y6 (bE (by omega)),zJ (by decide),aag,w64 (by omega) (by omega),SJ (by omega) (by omega),zJ (adm (by omega) _),zO,zJ (by decide),e,aaf (by omega),adz,w64 (by omega) (by omega),ih (n / 128) (by omega) _ (by omega) (by simp;omega)]
   simp
theorem XG:∀(n:Nat)(out:List UInt8),n<4611686018427387904->out.length+(AQ n).length<4294967296->GT (n:Int) (out.map eU)=some (.os (1,0) ((out++AQ n).map eU),[]):=by
 intro n
 induction n using Nat.strongRecOn with
 |_ n ih=>
  intro out hn hl
  rw[Q9]
  by_cases h:n<=127
  ·rw[yp (bK (by omega)),SJ (by omega) (by omega),zJ (adm (by omega) _),zO,aaf (by omega),IQ h]
  ·rw[Ph h]at hl⊢
   rw[lnC]at hl
   have e:((n % 128:Nat):Int)+128=((n % 128+128:Nat):Int):=by omega
   rw[y6 (bE (by omega)),zJ (by decide),aag,w64 (by omega) (by omega),SJ (by omega) (by omega),zJ (adm (by omega) _),zO,zJ (by decide),e,aaf (by omega),adz,w64 (by omega) (by omega),ih (n / 128) (by omega) _ (by omega) (by simp;omega)]
   simp
theorem QB {n:Nat}(h:n<4611686018427387904):V 67 [iN (n:Int)]=some (.os (1,0) ((AQ n).map eU),[]):=by
 rw[YX,yp (bK (by omega))]
 exact Xx n [] h (by have:=Ay h;simp;omega)
theorem QE {n:Nat}(h:n<4611686018427387904):V 69 [iN (n:Int)]=some (.os (1,0) ((AQ n).map eU),[]):=by
 rw[Zi,yp (bK (by omega))]
 exact XG n [] h (by have:=Ay h;simp;omega)
def Sm (s:List UInt8):List UInt8:=AQ s.length++s
theorem WQ {s:List UInt8}(h:s.length<4294967200):V 138 [.str (mk s)]=some (.os (1,0) ((Sm s).map eU),[]):=by
 have hn:=QB (n:=s.length) (by omega)
 have hp:=Ay (n:=s.length) (by omega)
 rw[W8,z8]
 simp (disch:=first|omega|(simp only[lnA,lnC,lnN,lnM,z8,yj];omega)) only[↓yk,yz,↓zd,↓zF,↓zt,↓zO,zZ,lnM,lnA,qA,yj,hn,SQ,zz]
 rfl
theorem WX {s:List UInt8}(h:s.length<4294967200):V 139 [.str (mk s)]=some (.os (1,0) ((Sm s).map eU),[]):=by
 have hn:=QE (n:=s.length) (by omega)
 have hp:=Ay (n:=s.length) (by omega)
 rw[Xi,z8]
 simp (disch:=first|omega|(simp only[lnA,lnC,lnN,lnM,z8,yj];omega)) only[↓yk,yz,↓zd,↓zF,↓zt,↓zO,zZ,lnM,lnA,qA,yj,hn,SQ,zz]
 rfl

def Nn:Nat->List UInt8->Option (Nat×Nat)
 |0,_=>none
 |_+1,[]=>none
 |f+1,d::r=>if d.toNat<128 then (if d.toNat=0/\f<8 then none else some (d.toNat,1)) else
  match Nn f r with
  |some (v,c)=>some (d.toNat % 128+128*v,c+1)
  |none=>none
theorem VL:∀(f:Nat)(l:List UInt8)(v c:Nat),Nn f l=some (v,c)->v<128 ^ f/\1<=c/\c<=l.length
 |0,l,v,c,h=>by cases h
 |f+1,[],v,c,h=>by cases h
 |f+1,d::r,v,c,h=>by
  simp only[Nn]at h
  have hp:0<128 ^ f:=Nat.pow_pos (by omega)
  split at h
  ·split at h
   ·cases h
   ·cases h
    rw[Nat.pow_succ,lnC];omega
  ·split at h
   ·rename_i v' c' e
    cases h
    have:=VL f r v' c' e
    rw[Nat.pow_succ,lnC];omega
   ·cases h
theorem agS {p q k:Nat}(hp:p<2 ^ k)(h:p+q*2 ^ k<9223372036854775808):w6 (ni (BitVec.toNat (BitVec.ofInt (IntKind.bits .i64) (p:Int) ||| BitVec.ofInt (IntKind.bits .i64) ((q*2 ^ k:Nat):Int))))=((p+q*2 ^ k:Nat):Int):=by
 have e1:BitVec.toNat (BitVec.ofInt (IntKind.bits .i64) (p:Int))=p:=by
  show BitVec.toNat (BitVec.ofInt 64 (p:Int))=p
  rw[BitVec.toNat_ofInt];omega
 have e2:BitVec.toNat (BitVec.ofInt (IntKind.bits .i64) ((q*2 ^ k:Nat):Int))=q*2 ^ k:=by
  show BitVec.toNat (BitVec.ofInt 64 ((q*2 ^ k:Nat):Int))=q*2 ^ k
  rw[BitVec.toNat_ofInt];omega
 have e3:p ||| q*2 ^ k=p+q*2 ^ k:=by
  have:=Nat.shiftLeft_add_eq_or_of_lt hp q
  rw[Nat.shiftLeft_eq]at this
  rw[Nat.or_comm,<-this,Nat.add_comm]
 rw[BitVec.toNat_or,e1,e2,e3]
 exact IntWalk.i64_in _ (by simp only[ni];omega)
abbrev noN:D:=.tup [iN 0,iN 0,.bool false]
def VK (b:List UInt8)(at' k acc:Nat):D:=match Nn (9-k) (b.drop (at'+k)) with
 |some (v,c)=>.tup [iN ((acc+v*128 ^ k:Nat):Int),iN ((at'+k+c:Nat):Int),.bool true]
 |none=>noN
theorem afn (k:Nat):128 ^ k=2 ^ (7*k):=by rw[Nat.pow_mul]
theorem agf {k:Nat}(h:k<=9):128 ^ k<=9223372036854775808:=by
 have:128 ^ k<=128 ^ 9:=Nat.pow_le_pow_right (by omega) h
 have e:(128:Nat) ^ 9=9223372036854775808:=rfl
 omega
theorem ae3 {b:List UInt8}{at' k acc:Nat}{d:UInt8}(hd:b[at'+k]? = some d)(hk:k<9)(h128:¬d.toNat<128):VK b at' k acc=VK b at' (k+1) (acc+d.toNat % 128*128 ^ k):=by
 unfold VK
 obtain⟨f,hf⟩:∃f,9-k=f+1:=⟨8-k,by omega⟩
 have hf2:9-(k+1)=f:=by omega
 rw[hf,hf2,vc hd]
 simp only[Nn,aD h128,Nat.add_assoc]
 cases e:Nn f (b.drop (at'+(k+1))) with
 |none=>rfl
 |some p=>
  obtain⟨v,c⟩:=p
  have e1:acc+(d.toNat % 128+128*v)*128 ^ k=acc+(d.toNat % 128*128 ^ k+v*128 ^ (k+1)):=by
   rw[Nat.add_mul,Nat.pow_succ]
   have:128*v*128 ^ k=v*(128 ^ k*128):=by rw[Nat.mul_comm 128 v,Nat.mul_assoc,Nat.mul_comm 128]
   omega
  have e2:k+(c+1)=k+(1+c):=by omega
  simp only[e1,e2]
theorem af3 {b:List UInt8}{at' k acc:Nat}{d:UInt8}(hd:b[at'+k]? = some d)(hk:k<9)(h128:d.toNat<128):VK b at' k acc=if d.toNat=0/\0<k then noN else .tup [iN ((acc+d.toNat*128 ^ k:Nat):Int),iN ((at'+k+1:Nat):Int),.bool true]:=by
 unfold VK
 obtain⟨f,hf⟩:∃f,9-k=f+1:=⟨8-k,by omega⟩
 rw[hf,vc hd]
 simp only[Nn,aG h128]
 by_cases h:d.toNat=0/\0<k
 ·rw[aG ⟨h.1,by omega⟩,aG h]
 ·rw[aD (fun h'=>h ⟨h'.1,by omega⟩),aD h]
theorem VP {b:List UInt8}{at' k acc:Nat}(h:b.length<=at'+k\/9<=k):VK b at' k acc=noN:=by
 unfold VK
 rcases h with h|h
 ·rw[cD h]
  cases 9-k<;>rfl
 ·have:9-k=0:=by omega
  rw[this];rfl
theorem ahl (d:UInt8):d.toNat<256:=d.toNat_lt
theorem aeS {acc k:Nat}{d:UInt8}(_:k<9)(ha:acc<128 ^ k):acc+d.toNat % 128*128 ^ k<128 ^ (k+1):=by
 have h2:d.toNat % 128*128 ^ k<=127*128 ^ k:=Nat.mul_le_mul_right _ (by omega)
 rw[Nat.pow_succ];omega
theorem afJ {n:Int}(h1 : -9223372036854775808<=n)(h2:n<=9223372036854775807):w6 n=n:=IntWalk.i64_in n (by omega)
theorem Qm {b:List UInt8}(hb:b.length<4611686018427387904)(at':Nat)(ha:at'<=b.length):∀(f k acc:Nat),f+k=9->acc<128 ^ k->GE (b.map eU) (at':Int) (acc:Int) (k:Int)=some (VK b at' k acc,[])
 |0,k,acc,hk,hacc=>by
  rw[KT,yp (bK (by omega)),VP (.inr (by omega))]
 |f+1,k,acc,hk,hacc=>by
  have hw:w6 ((at':Int)+(k:Int))=((at'+k:Nat):Int):=by rw[afJ (by omega) (by omega)];omega
  rw[KT,y6 (bE (by omega)),hw]
  by_cases hlt:at'+k<b.length
  ·obtain⟨d,hd⟩:=yM hlt
   have hd2:=ahl d
   have h9:=agf (k:=k+1) (by omega)
   have hdl:=aeS (d:=d) (by omega) hacc
   have e7:w6 (7*(k:Int))=((7*k:Nat):Int):=by rw[w64 (by omega) (by omega)];omega
   have emin:min (7*k) (IntKind.bits .i64)=7*k:=by
    show min (7*k) 64=7*k
    omega
   have epow:((d.toNat % 128:Nat):Int)*2 ^ (7*k)=((d.toNat % 128*2 ^ (7*k):Nat):Int):=by
    rw[Int.natCast_mul,Int.natCast_pow];rfl
   have hq:d.toNat % 128*2 ^ (7*k)<9223372036854775808:=by rw[<-afn];omega
   have hor:=agS (p:=acc) (q:=d.toNat % 128) (k:=7*k) (by rw[<-afn];exact hacc) (by rw[<-afn];omega)
   rw[<-afn]at hor
   rw[y6 (by rw[lnM];exact zN hlt),zJ (by rw[lnM];exact zM hlt),bI,zj hd,zq,zJ (by decide),e7,zJ (by simp;omega),aag,w64 (n:=((d.toNat % 128:Nat):Int)) (by omega) (by omega),bI,emin,epow,afJ (n:=((d.toNat % 128*2 ^ (7*k):Nat):Int)) (by omega) (by omega),<-afn,hor]
   have hn1:w6 (((at'+k:Nat):Int)+1)=((at'+k+1:Nat):Int):=z6 (by omega)
   by_cases h128:d.toNat<128
   ·have em:d.toNat % 128=d.toNat:=Nat.mod_eq_of_lt h128
    rw[y6 (bE (by omega)),af3 hd (by omega) h128,hn1,em]
    by_cases h0:d.toNat=0
    ·rw[y6 (by simp[h0])]
     by_cases hk0:0<k
     ·rw[y6 (bE (by omega)),aG ⟨h0,hk0⟩]
     ·rw[yp (bK (by omega)),aD (fun h=>hk0 h.2)]
    ·rw[yp (by simp only[beq_eq_false_iff_ne,ne_eq];omega),aD (fun h=>h0 h.1)]
   ·rw[yp (bK (by omega)),ae3 hd (by omega) h128,z6 (by omega)]
    exact Qm hb at' ha f (k+1) _ (by omega) hdl
  ·rw[yp (by rw[lnM];exact zI (by omega)),VP (.inl (by omega))]
theorem QA {b:List UInt8}(hb:b.length<4611686018427387904){at':Nat}(ha:at'<=b.length):V 140 [.rs (1,0) (b.map eU),iN (at':Int)]=some (VK b at' 0 0,[]):=by
 have h:=Qm hb at' ha 9 0 0 rfl (by decide)
 rw[YR,lnM,w64 (n:=ni b.length-1) (by simp only[ni];omega) (by simp only[ni];omega)]
 by_cases hlt:at'<b.length
 ·have hwi:wi (at':Int) 0 (ni b.length-1)=true:=wi_iff.2 ⟨by omega,by simp only[ni];omega⟩
  rw[AF (AI _ _ _),hwi,aO,y0]
  exact h
 ·have hwi:wi (at':Int) 0 (ni b.length-1)=false:=by
   cases e:wi (at':Int) 0 (ni b.length-1) with
   |false=>rfl
   |true=>have:=wi_iff.1 e;simp only[ni]at this;omega
  rw[AF (AI _ _ _),hwi,bO,zy,VP (.inl (by omega))]
end
end Go.Eng
/-! how great a value is,the program's side -/
namespace Go.Eng
open Go.Proofs Go.Proofs.Tryz

end Go.Eng
/-! what is moved is as it was: the plain side -/
namespace Go.Eng

noncomputable def Al (p:List Nd):Prop:=∀(j:Nat)(x:Nd),p[j]? = some x->okN x j=true
theorem Ym {p:List Nd}(h:Al p):∀(k i:Nat),LX p i k=true
 |0,i=>rfl
 |k+1,i=>by
  simp only[LX,Ym h k (i+1),bP]
  split
  ·exact h _ _ ‹_›
  ·rfl
theorem okPool_iff {p:List Nd}:Ac p=true↔Al p/\p.length<=3000:=by
 constructor
 ·intro h;exact⟨fun j x hx=>De h hx,Ak h⟩
 ·rintro⟨h,hl⟩
  simp only[Ac,Ym h,dJ,bL];omega
noncomputable def aev (q q':List Nd) (m:List Bool) (to:List Int):Prop:=∀(i:Nat)(x:Nd),q[i]? = some x->m[i]? = some true->∃j:Nat,to[i]? = some (j:Int)/\q'[j]? = some (Aq to x)
theorem We {pre r:List Int}{x:Nd}{i:Nat}(ho:okN x i=true)(hp:i<=pre.length):Aq (pre++r) x=Aq pre x:=by
 have g:∀n:Int,0<=n->n<i->(pre++r).getD n.toNat 0=pre.getD n.toNat 0:=by
  intro n h0 h1
  simp only[aN]
  rw[cC (by omega)]
 unfold Aq
 split
 ·rename_i h5
  have:=AH ho h5
  rw[g _ (by omega) (by omega),g _ (by omega) (by omega)]
 ·split
  ·rename_i h6
   have:=BM ho h6
   rw[g _ (by omega) (by omega)]
  ·rfl
theorem adX {pre:List Int}{x:Nd}{i h:Nat}(ho:okN x i=true)(h5:x.kind=5->∃a b:Nat,pre[x.a.toNat]? = some (a:Int)/\pre[x.b.toNat]? = some (b:Int)/\a<h/\b<h)
  (h6:x.kind=6\/x.kind=7->∃a:Nat,pre[x.a.toNat]? = some (a:Int)/\a<h):okN (Aq pre x) h=true:=by
 by_cases k5:x.kind=5
 ·obtain⟨a,b,ha,hb,h1,h2⟩:=h5 k5
  simp only[Aq,k5,if_true,aN,ha,hb,dX]
  simp[okN,k5]at ho⊢
  exact⟨ho.1,ho.2.1,wi_iff.2 ⟨by omega,by omega⟩,wi_iff.2 ⟨by omega,by omega⟩⟩
 ·by_cases k6:x.kind=6\/x.kind=7
  ·obtain⟨a,ha,h1⟩:=h6 k6
   simp only[Aq,k5,k6,if_true,if_false,aN,ha,dX]
   rcases k6 with k6|k6
   ·simp[okN,k6]at ho⊢;exact⟨ho.1,ho.2.1,wi_iff.2 ⟨by omega,by omega⟩,ho.2.2.2⟩
   ·simp[okN,k6]at ho⊢;exact⟨ho.1,ho.2.1,wi_iff.2 ⟨by omega,by omega⟩,ho.2.2.2⟩
  ·have k6':¬x.kind=6:=fun h=>k6 (.inl h)
   have k7':¬x.kind=7:=fun h=>k6 (.inr h)
   simp only[Aq,k5,k6,if_false]
   simp only[okN,k5,k6',k7',if_false]at ho⊢
   exact ho
theorem Wb {q:List Nd}(hq:Al q){m:List Bool}(hm:m.length=q.length)(hc:YJ q m)(d:Int):∀(k:Nat)(pre:List Int)(acc:List Nd),pre.length+k=q.length->Al acc ->
  (∀(i:Nat)(x:Nd),i<pre.length->q[i]? = some x->m[i]? = some true->∃j:Nat,pre[i]? = some (j:Int)/\acc[j]? = some (Aq pre x)) ->
  Al (Ci d q m k pre acc).2/\aev q (Ci d q m k pre acc).2 m (Ci d q m k pre acc).1
 |0,pre,acc,hk,ha,hi=>by
  simp only[Ci]
  exact⟨ha,fun i x hx hmi=>hi i x (by have:=aQ hx;omega) hx hmi⟩
 |k+1,pre,acc,hk,ha,hi=>by
  obtain⟨x,hx⟩:=yM (l:=q) (i:=pre.length) (by omega)
  obtain⟨b,hb⟩:=yM (l:=m) (i:=pre.length) (by omega)
  simp only[Ci,hx,hb]
  have hox:=hq _ _ hx
  have old:∀(u:Int)(acc':List Nd),(∀(j:Nat)(y:Nd),acc[j]? = some y->acc'[j]? = some y)->∀(i:Nat)(y:Nd),i<pre.length->q[i]? = some y->m[i]? = some true->∃j:Nat,(pre++[u])[i]? = some (j:Int)/\acc'[j]? = some (Aq (pre++[u]) y):=by
   intro u acc' hacc i y hil hy hmi
   obtain⟨j,h1,h2⟩:=hi i y hil hy hmi
   refine⟨j,by rw[cC hil];exact h1,?_⟩
   rw[We (hq _ _ hy) (by omega)]
   exact hacc _ _ h2
  cases b with
  |false=>
   refine Wb hq hm hc d k (pre++[d]) acc (by simp;omega) ha ?_
   intro i y hil hy hmi
   by_cases e:i=pre.length
   ·subst e;rw[hb]at hmi;cases hmi
   ·exact old d acc (fun _ _ h=>h) i y (by simp at hil;omega) hy hmi
  |true=>
   have hcx:=hc _ _ hx hb
   have kid:∀n:Int,On m n->0<=n->n<pre.length->∃a:Nat,pre[n.toNat]? = some (a:Int)/\a<acc.length:=by
    intro n hn h0 h1
    obtain⟨y,hy⟩:=yM (l:=q) (i:=n.toNat) (by omega)
    obtain⟨j,h2,h3⟩:=hi n.toNat y (by omega) hy hn
    exact⟨j,h2,aQ h3⟩
   have hok:okN (Aq pre x) acc.length=true:=adX hox
    (fun h5=>by
     have h:=AH hox h5
     obtain⟨a,ha1,ha2⟩:=kid x.a (hcx.1 h5).1 h.1 h.2.1
     obtain⟨b,hb1,hb2⟩:=kid x.b (hcx.1 h5).2 h.2.2.1 h.2.2.2
     exact⟨a,b,ha1,hb1,ha2,hb2⟩)
    (fun h6=>by
     have h:=BM hox h6
     exact kid x.a (hcx.2 h6) h.1 h.2)
   have ha':Al (acc++[Aq pre x]):=by
    intro j y hy
    by_cases e:j<acc.length
    ·rw[cC e]at hy;exact ha j y hy
    ·have hl:=aQ hy
     have:j=acc.length:=by simp at hl;omega
     subst this
     simp at hy;subst hy;exact hok
   refine Wb hq hm hc d k (pre++[(acc.length:Int)]) (acc++[Aq pre x]) (by simp;omega) ha' ?_
   intro i y hil hy hmi
   by_cases e:i=pre.length
   ·subst e;rw[hx]at hy;cases hy
    refine⟨acc.length,by simp,?_⟩
    rw[We hox (cB _)];simp
   ·exact old _ _ (fun j z h=>by rw[List.getElem?_append_left (aQ h)];exact h) i y (by simp at hil;omega) hy hmi
theorem Wc (d:Int)(q:List Nd)(m:List Bool):∀(k:Nat)(pre:List Int)(acc:List Nd),∃r,(Ci d q m k pre acc).2=acc++r
 |0,pre,acc=>⟨[],by simp[Ci]⟩
 |k+1,pre,acc=>by
  simp only[Ci]
  split
  ·obtain⟨r,h⟩:=Wc d q m k (pre++[(acc.length:Int)]) (acc++[Aq pre ‹Nd›])
   exact⟨_,by rw[h,bD]⟩
  ·exact Wc d q m k _ acc
theorem QU {q acc:List Nd}(hq:Ac q=true)(ha:Al acc)(rs:List Int)(d:Int):Al (Bc d q rs acc).2/\aev q (Bc d q rs acc).2 (BG q rs) (Bc d q rs acc).1:=
 Wb (okPool_iff.1 hq).1 (CT q rs) (EE hq rs) d q.length [] acc (bX _) ha (fun i x h=>absurd h (by simp))

theorem R9 (to:List Int)(x:Nd):(Aq to x).kind=x.kind/\(Aq to x).n=x.n/\(Aq to x).s=x.s:=by
 unfold Aq
 split
 ·exact⟨rfl,rfl,rfl⟩
 ·split<;>exact⟨rfl,rfl,rfl⟩
end Go.Eng
/-! what is kept is all reached,and as great as it was: the plain side -/
namespace Go.Eng

inductive Rch (q:List Nd) (rs:List Int):Nat->Prop
 |root {r:Int}:r∈rs->Rch q rs r.toNat
 |a {i:Nat} {x:Nd}:Rch q rs i->q[i]? = some x->(x.kind=5\/x.kind=6\/x.kind=7)->Rch q rs x.a.toNat
 |b {i:Nat} {x:Nd}:Rch q rs i->q[i]? = some x->x.kind=5->Rch q rs x.b.toNat
theorem SB {m:List Bool}{i j:Nat}(h:(m.set i true)[j]? = some true):j=i\/m[j]? = some true:=by
 by_cases e:i=j
 ·exact .inl e.symm
 ·rw[List.getElem?_set_ne e]at h;exact .inr h
theorem Qt {q:List Nd}{rs:List Int}:∀(k:Nat){m:List Bool},(∀j:Nat,m[j]? = some true->Rch q rs j)->∀j:Nat,(Bv q k m)[j]? = some true->Rch q rs j
 |0,m,h,j,hj=>h j hj
 |k+1,m,h,j,hj=>by
  simp only[Bv]at hj
  refine Qt k ?_ j hj
  intro i hi
  split at hi
  ·rename_i x hx hm
   have hk:=h k hm
   unfold Bw at hi
   split at hi
   ·rename_i h5
    rcases SB hi with e|hi
    ·rw[e];exact .b hk hx h5
    ·rcases SB hi with e|hi
     ·rw[e];exact .a hk hx (.inl h5)
     ·exact h i hi
   ·split at hi
    ·rename_i h6
     rcases SB hi with e|hi
     ·rw[e];exact .a hk hx (.inr h6)
     ·exact h i hi
    ·exact h i hi
  ·exact h i hi
theorem Su:∀{rs:List Int}{m:List Bool}{j:Nat},(NG rs m)[j]? = some true->m[j]? = some true\/∃r∈rs,r.toNat=j
 |[],m,j,h=>.inl h
 |r::rs,m,j,h=>by
  have h':(NG rs (m.set r.toNat true))[j]? = some true:=h
  rcases Su h' with h|⟨s,hs,e⟩
  ·rcases SB h with e|h
   ·exact .inr ⟨r,by simp,e.symm⟩
   ·exact .inl h
  ·exact .inr ⟨s,by simp[hs],e⟩
theorem Pm {q:List Nd}{rs:List Int}{j:Nat}(h:(BG q rs)[j]? = some true):Rch q rs j:=by
 refine Qt _ ?_ j h
 intro i hi
 rcases Su hi with h|⟨r,hr,e⟩
 ·rw[List.getElem?_replicate]at h
  split at h<;>cases h
 ·rw[<-e];exact .root hr
theorem DW {q:List Nd}(hq:Ac q=true){rs:List Int}(hr:Ap q rs=true){j:Nat}(h:Rch q rs j):(BG q rs)[j]? = some true:=by
 induction h with
 |root hm=>exact GB hr _ hm
 |a h hx hk ih=>
  have hc:=EE hq rs _ _ hx ih
  rcases hk with hk|hk
  ·exact(hc.1 hk).1
  ·exact hc.2 hk
 |b h hx hk ih=>exact((EE hq rs _ _ hx ih).1 hk).2

theorem PH (d:Int){q:List Nd}{m:List Bool}(hm:m.length=q.length):∀(k:Nat)(pre:List Int)(acc:List Nd),pre.length+k=q.length ->
  (∀j:Nat,j<acc.length->∃i:Nat,m[i]? = some true/\pre[i]? = some (j:Int))->∀j:Nat,j<(Ci d q m k pre acc).2.length->∃i:Nat,m[i]? = some true/\(Ci d q m k pre acc).1[i]? = some (j:Int)
 |0,pre,acc,hk,h,j,hj=>h j hj
 |k+1,pre,acc,hk,h,j,hj=>by
  obtain⟨x,hx⟩:=yM (l:=q) (i:=pre.length) (by omega)
  obtain⟨b,hb⟩:=yM (l:=m) (i:=pre.length) (by omega)
  simp only[Ci,hx,hb]at hj⊢
  have old:∀(u:Int)(j:Nat),j<acc.length->∃i:Nat,m[i]? = some true/\(pre++[u])[i]? = some (j:Int):=by
   intro u j hj
   obtain⟨i,h1,h2⟩:=h j hj
   exact⟨i,h1,by rw[cC (aQ h2)];exact h2⟩
  cases b with
  |false=>exact PH d hm k (pre++[d]) acc (by simp;omega) (old d) j hj
  |true=>
   refine PH d hm k (pre++[(acc.length:Int)]) (acc++[Aq pre x]) (by simp;omega) ?_ j hj
   intro i hi
   by_cases e:i<acc.length
   ·exact old _ i e
   ·have:i=acc.length:=by simp at hi;omega
    subst this
    exact⟨pre.length,hb,by simp⟩
theorem aea {q q':List Nd}(hq:Ac q=true){rs:List Int}(hr:Ap q rs=true){to now:List Int}(hmv:aev q q' (BG q rs) to)(hn:∀r∈rs,to.getD r.toNat 0∈now){i:Nat}(h:Rch q rs i):∀j:Nat,to[i]? = some (j:Int)->Rch q' now j:=by
 have one:∀{i:Nat}{x:Nd},Rch q rs i->q[i]? = some x->∃j:Nat,to[i]? = some (j:Int)/\q'[j]? = some (Aq to x):=fun h hx=>hmv _ _ hx (DW hq hr h)
 induction h with
 |root hm=>
  rename_i r
  intro j hj
  have e:to.getD r.toNat 0=(j:Int):=by rw[aN,hj];rfl
  have:=Rch.root (q:=q') (hn r hm)
  rw[e]at this
  exact this
 |a h hx hk ih=>
  rename_i i x
  intro j hj
  obtain⟨ji,e1,e2⟩:=one h hx
  have h':=ih ji e1
  have ea:(Aq to x).a.toNat=j:=by
   rcases hk with hk|hk
   ·simp only[Aq,hk,if_true,aN,hj,dX,bI]
   ·have h5:¬x.kind=5:=by omega
    simp only[Aq,h5,hk,if_true,if_false,aN,hj,dX,bI]
  rw[<-ea]
  exact .a h' e2 (by rw[(R9 to x).1];exact hk)
 |b h hx hk ih=>
  rename_i i x
  intro j hj
  obtain⟨ji,e1,e2⟩:=one h hx
  have h':=ih ji e1
  have ea:(Aq to x).b.toNat=j:=by
   simp only[Aq,hk,if_true,aN,hj,dX,bI]
  rw[<-ea]
  exact .b h' e2 (by rw[(R9 to x).1];exact hk)
noncomputable def ids (n:Nat):List Int:=(List.range n).map fun k:Nat=>(k:Int)
theorem Yp {n i:Nat}(h:i<n):(ids (n))[i]? = some (i:Int):=by
 rw[ids,List.getElem?_map,List.getElem?_range h];rfl
theorem adW {x:Nd}{i:Nat}(ho:okN x i=true):Aq (ids (i)) x=x:=by
 have g:∀n:Int,0<=n->n<i->(ids (i)).getD n.toNat 0=n:=by
  intro n h0 h1
  rw[aN,Yp (by omega)]
  simp;omega
 unfold Aq
 split
 ·rename_i h5
  have:=AH ho h5
  rw[g _ (by omega) (by omega),g _ (by omega) (by omega)]
 ·split
  ·rename_i h6
   have:=BM ho h6
   rw[g _ (by omega) (by omega)]
  ·rfl
theorem abb (d:Int){q:List Nd}(hq:Al q){m:List Bool}(hm:∀j:Nat,j<q.length->m[j]? = some true):∀(k i:Nat),i+k=q.length ->
  Ci d q m k (ids (i)) (q.take i)=(ids (q.length),q)
 |0,i,h=>by
  have:i=q.length:=by omega
  subst this
  simp[Ci]
 |k+1,i,h=>by
  obtain⟨x,hx⟩:=yM (l:=q) (i:=i) (by omega)
  have hl:(ids (i)).length=i:=by simp[ids]
  have ht:(q.take i).length=i:=by simp;omega
  have ih:=abb d hq hm k (i+1) (by omega)
  have es:ids (i+1)=ids i++[(i:Int)]:=by simp[ids,List.range_succ]
  rw[es,zD hx]at ih
  simp only[Ci,hl,hx,hm i (by omega),ht,adW (hq _ _ hx)]
  exact ih
theorem VU {q:List Nd}(hq:Ac q=true){rs:List Int}(hr:Ap q rs=true)(d d':Int):Ac (AA d q rs).1=true/\Ap (AA d q rs).1 (AA d q rs).2=true/\AA d' (AA d q rs).1 (AA d q rs).2=AA d q rs:=by
 obtain⟨h1,h2⟩:=QU hq (acc:=[]) (fun j x h=>by simp at h) rs d
 have hlen:=ML d q (BG q rs) q.length [] []
 have hok:Ac (Bc d q rs []).2=true:=okPool_iff.2 ⟨h1,by have:=Ak hq;have:=hlen;simp[Bc]at this⊢;omega⟩
 have hto:∀r∈rs,∃j:Nat,(Bc d q rs []).1[r.toNat]? = some (j:Int)/\j<(Bc d q rs []).2.length:=by
  intro r hm
  have hl:=IU hr r hm
  obtain⟨x,hx⟩:=yM (l:=q) (i:=r.toNat) (by omega)
  obtain⟨j,e1,e2⟩:=h2 _ x hx (GB hr r hm)
  exact⟨j,e1,aQ e2⟩
 have hgd:∀r∈rs,0<=(Bc d q rs []).1.getD r.toNat 0/\(Bc d q rs []).1.getD r.toNat 0<((Bc d q rs []).2.length:Int):=by
  intro r hm
  obtain⟨j,e1,e2⟩:=hto r hm
  rw[aN,e1];simp;omega
 have hri:Ap (AA d q rs).1 (AA d q rs).2=true:=by
  unfold Ap AA
  rw[List.all_map,cO]
  intro r hm
  have:=hgd r hm
  exact wi_iff.2 ⟨this.1,by simp only;omega⟩
 refine⟨hok,hri,?_⟩
 have hall:∀j:Nat,j<(AA d q rs).1.length->(BG (AA d q rs).1 (AA d q rs).2)[j]? = some true:=by
  intro j hj
  obtain⟨i,hi,ht⟩:=PH d (CT q rs) q.length [] [] (Nat.zero_add _) (fun j h=>by simp at h) j hj
  exact DW hok hri (aea hq hr h2 (fun r hm=>bS.2 ⟨r,hm,rfl⟩) (Pm hi) j ht)
 have hm:=abb d' (okPool_iff.1 hok).1 hall (AA d q rs).1.length 0 (bX _)
 have e:Bc d' (AA d q rs).1 (AA d q rs).2 []=(ids ((AA d q rs).1.length),(AA d q rs).1):=hm
 have e2:AA d' (AA d q rs).1 (AA d q rs).2=((AA d q rs).1,(AA d q rs).2.map fun r=>(ids ((AA d q rs).1.length)).getD r.toNat 0):=by
  show(_,_)=_
  rw[e]
 rw[e2]
 refine Prod.ext rfl ?_
 show List.map _ (AA d q rs).2=(AA d q rs).2
 have:∀r∈(AA d q rs).2,(ids ((AA d q rs).1.length)).getD r.toNat 0=r:=by
  intro r hm
  have:=IU hri r hm
  rw[aN,Yp (by omega)]
  simp;omega
 rw[List.map_congr_left this,List.map_id']
end Go.Eng
/-! nodes as bytes,on both sides -/
namespace Go.Eng
noncomputable section
open Go.Proofs Go.Proofs.Tryz
set_option maxHeartbeats 4000000

theorem Bh {z:Int}(h0:0<=z)(h1:z<4611686018427387904):V 67 [iN z]=some (.os (1,0) ((AQ z.toNat).map eU),[]):=by
 obtain⟨n,rfl⟩:=cP h0
 exact QB (by omega)
theorem Bj {z:Int}(h0:0<=z)(h1:z<4611686018427387904):V 69 [iN z]=some (.os (1,0) ((AQ z.toNat).map eU),[]):=by
 obtain⟨n,rfl⟩:=cP h0
 exact QE (by omega)
theorem SU (s:ByteArray):s.data.toList.length=s.size:=by rw[Array.length_toList];rfl
theorem UM {s:ByteArray}(h:s.size<4294967200):V 138 [.str s]=some (.os (1,0) ((Sm s.data.toList).map eU),[]):=by
 have:=WQ (s:=s.data.toList) (by rw[SU];exact h)
 rw[VZ]at this
 exact this
theorem UO {s:ByteArray}(h:s.size<4294967200):V 139 [.str s]=some (.os (1,0) ((Sm s.data.toList).map eU),[]):=by
 have:=WX (s:=s.data.toList) (by rw[SU];exact h)
 rw[VZ]at this
 exact this
def Cr (x:Nd):List UInt8:=AQ x.kind.toNat ++
 (if x.kind=2\/x.kind=8\/x.kind=9 then AQ x.n.toNat
 else if x.kind=3 then AQ (x.n+1000000000).toNat
 else if x.kind=4 then Sm x.s.data.toList
 else if x.kind=5 then AQ x.a.toNat++AQ x.b.toNat
 else if x.kind=6 then AQ x.n.toNat++AQ x.a.toNat
 else if x.kind=7 then AQ x.a.toNat else [])
theorem ZZ {x:Nd}(h:x.kind=1):Cr x=AQ x.kind.toNat:=by simp[Cr,h]
theorem Gl {x:Nd}(h:x.kind=2\/x.kind=8\/x.kind=9):Cr x=AQ x.kind.toNat++AQ x.n.toNat:=by simp[Cr,h]
theorem UW {x:Nd}(h:x.kind=3):Cr x=AQ x.kind.toNat++AQ (x.n+1000000000).toNat:=by simp[Cr,h]
theorem UX {x:Nd}(h:x.kind=4):Cr x=AQ x.kind.toNat++Sm x.s.data.toList:=by simp[Cr,h]
theorem UY {x:Nd}(h:x.kind=5):Cr x=AQ x.kind.toNat++AQ x.a.toNat++AQ x.b.toNat:=by simp[Cr,h]
theorem UZ {x:Nd}(h:x.kind=6):Cr x=AQ x.kind.toNat++AQ x.n.toNat++AQ x.a.toNat:=by simp[Cr,h]
theorem U3 {x:Nd}(h:x.kind=7):Cr x=AQ x.kind.toNat++AQ x.a.toNat:=by simp[Cr,h]
structure NdOk (x:Nd) (i:Nat):Prop where
 k1:1<=x.kind
 k9:x.kind<=9
 n3 : -1000000000<=x.n
 n9:x.n<=1000000000
 n0:x.kind≠3->0<=x.n
 a0:0<=x.a
 a1:x.a<=i
 b0:0<=x.b
 b1:x.b<=i
 s4:x.s.size<=12
theorem NB {x:Nd}{h:Int}(ho:okN x h=true)(h4:¬x.kind=4):x.s.size=0:=by
 have hz:nz x.s=true:=by
  unfold okN at ho
  simp only[h4,if_false]at ho
  repeat' split at ho
  all_goals (first|(simp only[aB]at ho;exact ho.2.1)|(cases ho))
 rw[nz,Dz]at hz
 rw[cV hz];rfl
theorem PP {x:Nd}{i:Nat}(ho:okN x i=true):NdOk x i:=by
 have hk:=afj ho
 have hs:x.s.size<=12:=by
  by_cases h4:x.kind=4
  ·exact afe (afk ho h4)
  ·rw[NB ho h4];omega
 have rest:(-1000000000<=x.n/\x.n<=1000000000)/\(x.kind≠3->0<=x.n)/\(0<=x.a/\x.a<=i)/\(0<=x.b/\x.b<=i):=by
  unfold okN at ho
  repeat' split at ho
  all_goals (try simp only[aB,wi,bL,beq_iff_eq]at ho)
  all_goals (first|(cases ho;done)|(refine⟨⟨?_,?_⟩,fun _=>?_,⟨?_,?_⟩,⟨?_,?_⟩⟩<;>omega))
 exact⟨hk.1,hk.2,rest.1.1,rest.1.2,rest.2.1,rest.2.2.1.1,rest.2.2.1.2,rest.2.2.2.1,rest.2.2.2.2,hs⟩
def Ik (p:List Nd):List UInt8:=AQ p.length++p.flatMap Cr
theorem Wy {s:List UInt8}(h:s.length<4611686018427387904):(Sm s).length<=9+s.length:=by
 have:=Ay h
 simp only[Sm,lnA];omega
theorem TK {x:Nd}{i:Nat}(ho:okN x i=true)(hi:i<=3000):(Cr x).length<=30:=by
 obtain⟨k1,k9,n3,n9,n0,a0,a1,b0,b1,s4⟩:=PP ho
 have l1:=Ay (n:=x.kind.toNat) (by omega)
 have l2:=Ay (n:=x.n.toNat) (by omega)
 have l3:=Ay (n:=(x.n+1000000000).toNat) (by omega)
 have l4:=Ay (n:=x.a.toNat) (by omega)
 have l5:=Ay (n:=x.b.toNat) (by omega)
 have e:x.s.data.toList.length=x.s.size:=by rw[Array.length_toList];rfl
 have l6:=Wy (s:=x.s.data.toList) (by omega)
 unfold Cr
 repeat' split
 all_goals (simp only[lnA,lnN];omega)
theorem OQ {p:List Nd}(hp:Ac p=true):∀(k i:Nat)(out:List UInt8),i+k=p.length->out.length<=9+30*i->Ae (p.map eN) (ni (p.map eN).length) (i:Int) (out.map eU)=some (.os (1,0) ((out++(p.drop i).flatMap Cr).map eU),[])
 |0,i,out,hi,ho=>by
  have hl:=Ak hp
  rw[Jl,cD (by omega)]
  simp (disch:=first|omega|(simp only[lnA,lnC,lnN,lnM,z8,yj];omega)) only[↓y0,zY,lnM,yj,List.flatMap_nil,eK]
 |k+1,i,out,hi,ho=>by
  have hl:=Ak hp
  obtain⟨x,hx⟩:=yM (l:=p) (i:=i) (by omega)
  have hok:=De hp hx
  have hlen:=TK hok (by omega)
  obtain⟨k1,k9,n3,n9,n0,a0,a1,b0,b1,s4⟩:=PP hok
  have l1:=Ay (n:=x.kind.toNat) (by omega)
  have l2:=Ay (n:=x.n.toNat) (by omega)
  have l3:=Ay (n:=(x.n+1000000000).toNat) (by omega)
  have l4:=Ay (n:=x.a.toNat) (by omega)
  have l5:=Ay (n:=x.b.toNat) (by omega)
  have e:x.s.data.toList.length=x.s.size:=by rw[Array.length_toList];rfl
  have l6:=Wy (s:=x.s.data.toList) (by omega)
  have ih:=OQ hp k (i+1) (out++Cr x) (by omega) (by simp only[lnA];omega)
  have hw:w6 ((i:Int)+1)=((i+1:Nat):Int):=z6 (by omega)
  have ed:out++(p.drop i).flatMap Cr=out++Cr x++(p.drop (i+1)).flatMap Cr:=by rw[vc hx,eJ,bD]
  rw[ed,Jl]
  rw[lnM]at ih⊢
  have hk:x.kind=1\/x.kind=2\/x.kind=3\/x.kind=4\/x.kind=5\/x.kind=6\/x.kind=7\/x.kind=8\/x.kind=9:=by omega
  rcases hk with h|h|h|h|h|h|h|h|h
  ·rw[ZZ h]at ih⊢;simp (disch:=first|omega|(simp only[lnA,lnC,lnN,lnM,z8,yj];omega)) only[↓yk,yz,↓zy,↓y0,↓zd,↓zF,↓zn,↓zq,↓zw,↓zt,↓yK,↓zO,↓zk,zZ,zT,bP,lnM,lnA,qA,yj,↓zj hx,Bh,zz,hw];exact ih
  ·rw[Gl (.inl h),<-bD]at ih⊢;simp (disch:=first|omega|(simp only[lnA,lnC,lnN,lnM,z8,yj];omega)) only[↓yk,yz,↓zy,↓zd,↓zF,↓zn,↓zq,↓zw,↓zt,↓yK,↓zO,↓zk,zZ,zU,bP,lnM,lnA,qA,yj,↓zj hx,Bh,zz,hw];exact ih
  ·rw[UW h,<-bD]at ih⊢;simp (disch:=first|omega|(simp only[lnA,lnC,lnN,lnM,z8,yj];omega)) only[↓yk,yz,↓zy,↓y0,↓zd,↓zF,↓zn,↓zq,↓zw,↓zt,↓yK,↓zO,↓zk,zZ,zU,zT,bP,lnM,lnA,qA,wS,yj,↓zj hx,Bh,zz,hw];exact ih
  ·rw[UX h,<-bD]at ih⊢;simp (disch:=first|omega|(simp only[lnA,lnC,lnN,lnM,z8,yj];omega)) only[↓yk,yz,↓zy,↓y0,↓zd,↓zF,↓zn,↓zq,↓zw,↓zt,↓yK,↓zO,↓zk,zZ,zU,zT,bP,lnM,lnA,qA,yj,↓zj hx,Bh,UM,zz,hw];exact ih
  ·rw[UY h,<-bD,<-bD]at ih⊢;simp (disch:=first|omega|(simp only[lnA,lnC,lnN,lnM,z8,yj];omega)) only[↓yk,yz,↓zy,↓y0,↓zd,↓zF,↓zn,↓zq,↓zw,↓zt,↓yK,↓zO,↓zk,zZ,zU,zT,bP,lnM,lnA,qA,yj,↓zj hx,Bh,zz,hw];exact ih
  ·rw[UZ h,<-bD,<-bD]at ih⊢;simp (disch:=first|omega|(simp only[lnA,lnC,lnN,lnM,z8,yj];omega)) only[↓yk,yz,↓zy,↓y0,↓zd,↓zF,↓zn,↓zq,↓zw,↓zt,↓yK,↓zO,↓zk,zZ,zU,zT,bP,lnM,lnA,qA,yj,↓zj hx,Bh,zz,hw];exact ih
  ·rw[U3 h,<-bD]at ih⊢;simp (disch:=first|omega|(simp only[lnA,lnC,lnN,lnM,z8,yj];omega)) only[↓yk,yz,↓zy,↓y0,↓zd,↓zF,↓zn,↓zq,↓zw,↓zt,↓yK,↓zO,↓zk,zZ,zU,zT,bP,lnM,lnA,qA,yj,↓zj hx,Bh,zz,hw];exact ih
  ·rw[Gl (.inr (.inl h)),<-bD]at ih⊢;simp (disch:=first|omega|(simp only[lnA,lnC,lnN,lnM,z8,yj];omega)) only[↓yk,yz,↓zy,↓y0,↓zd,↓zF,↓zn,↓zq,↓zw,↓zt,↓yK,↓zO,↓zk,zZ,zU,zT,bP,lnM,lnA,qA,yj,↓zj hx,Bh,zz,hw];exact ih
  ·rw[Gl (.inr (.inr h)),<-bD]at ih⊢;simp (disch:=first|omega|(simp only[lnA,lnC,lnN,lnM,z8,yj];omega)) only[↓yk,yz,↓zy,↓y0,↓zd,↓zF,↓zn,↓zq,↓zw,↓zt,↓yK,↓zO,↓zk,zZ,zU,zT,bP,lnM,lnA,qA,yj,↓zj hx,Bh,zz,hw];exact ih
theorem Pu {p:List Nd}(hp:Ac p=true):∀(k i:Nat)(out:List UInt8),i+k=p.length->out.length<=9+30*i->Aj (i:Int) (p.map eN) (out.map eU)=some (.os (1,0) ((out++(p.drop i).flatMap Cr).map eU),[])
 |0,i,out,hi,ho=>by
  have hl:=Ak hp
  rw[Ki,cD (by omega)]
  simp (disch:=first|omega|(simp only[lnA,lnC,lnN,lnM,z8,yj];omega)) only[↓y0,zY,lnM,yj,List.flatMap_nil,eK]
 |k+1,i,out,hi,ho=>by
  have hl:=Ak hp
  obtain⟨x,hx⟩:=yM (l:=p) (i:=i) (by omega)
  have hok:=De hp hx
  have hlen:=TK hok (by omega)
  obtain⟨k1,k9,n3,n9,n0,a0,a1,b0,b1,s4⟩:=PP hok
  have l1:=Ay (n:=x.kind.toNat) (by omega)
  have l2:=Ay (n:=x.n.toNat) (by omega)
  have l3:=Ay (n:=(x.n+1000000000).toNat) (by omega)
  have l4:=Ay (n:=x.a.toNat) (by omega)
  have l5:=Ay (n:=x.b.toNat) (by omega)
  have e:x.s.data.toList.length=x.s.size:=by rw[Array.length_toList];rfl
  have l6:=Wy (s:=x.s.data.toList) (by omega)
  have ih:=Pu hp k (i+1) (out++Cr x) (by omega) (by simp only[lnA];omega)
  have hw:w6 ((i:Int)+1)=((i+1:Nat):Int):=z6 (by omega)
  have ed:out++(p.drop i).flatMap Cr=out++Cr x++(p.drop (i+1)).flatMap Cr:=by rw[vc hx,eJ,bD]
  rw[ed,Ki]
  have hk:x.kind=1\/x.kind=2\/x.kind=3\/x.kind=4\/x.kind=5\/x.kind=6\/x.kind=7\/x.kind=8\/x.kind=9:=by omega
  rcases hk with h|h|h|h|h|h|h|h|h
  ·rw[ZZ h]at ih⊢;simp (disch:=first|omega|(simp only[lnA,lnC,lnN,lnM,z8,yj];omega)) only[↓yk,yz,↓zy,↓y0,↓zd,↓zF,↓zn,↓zq,↓zw,↓zt,↓yK,↓zO,↓zk,zZ,zT,bP,lnM,lnA,qA,yj,↓zj hx,Bj,zz,hw];exact ih
  ·rw[Gl (.inl h),<-bD]at ih⊢;simp (disch:=first|omega|(simp only[lnA,lnC,lnN,lnM,z8,yj];omega)) only[↓yk,yz,↓zy,↓zd,↓zF,↓zn,↓zq,↓zw,↓zt,↓yK,↓zO,↓zk,zZ,zU,bP,lnM,lnA,qA,yj,↓zj hx,Bj,zz,hw];exact ih
  ·rw[UW h,<-bD]at ih⊢;simp (disch:=first|omega|(simp only[lnA,lnC,lnN,lnM,z8,yj];omega)) only[↓yk,yz,↓zy,↓y0,↓zd,↓zF,↓zn,↓zq,↓zw,↓zt,↓yK,↓zO,↓zk,zZ,zU,zT,bP,lnM,lnA,qA,wS,yj,↓zj hx,Bj,zz,hw];exact ih
  ·rw[UX h,<-bD]at ih⊢;simp (disch:=first|omega|(simp only[lnA,lnC,lnN,lnM,z8,yj];omega)) only[↓yk,yz,↓zy,↓y0,↓zd,↓zF,↓zn,↓zq,↓zw,↓zt,↓yK,↓zO,↓zk,zZ,zU,zT,bP,lnM,lnA,qA,yj,↓zj hx,Bj,UO,zz,hw];exact ih
  ·rw[UY h,<-bD,<-bD]at ih⊢;simp (disch:=first|omega|(simp only[lnA,lnC,lnN,lnM,z8,yj];omega)) only[↓yk,yz,↓zy,↓y0,↓zd,↓zF,↓zn,↓zq,↓zw,↓zt,↓yK,↓zO,↓zk,zZ,zU,zT,bP,lnM,lnA,qA,yj,↓zj hx,Bj,zz,hw];exact ih
  ·rw[UZ h,<-bD,<-bD]at ih⊢;simp (disch:=first|omega|(simp only[lnA,lnC,lnN,lnM,z8,yj];omega)) only[↓yk,yz,↓zy,↓y0,↓zd,↓zF,↓zn,↓zq,↓zw,↓zt,↓yK,↓zO,↓zk,zZ,zU,zT,bP,lnM,lnA,qA,yj,↓zj hx,Bj,zz,hw];exact ih
  ·rw[U3 h,<-bD]at ih⊢;simp (disch:=first|omega|(simp only[lnA,lnC,lnN,lnM,z8,yj];omega)) only[↓yk,yz,↓zy,↓y0,↓zd,↓zF,↓zn,↓zq,↓zw,↓zt,↓yK,↓zO,↓zk,zZ,zU,zT,bP,lnM,lnA,qA,yj,↓zj hx,Bj,zz,hw];exact ih
  ·rw[Gl (.inr (.inl h)),<-bD]at ih⊢;simp (disch:=first|omega|(simp only[lnA,lnC,lnN,lnM,z8,yj];omega)) only[↓yk,yz,↓zy,↓y0,↓zd,↓zF,↓zn,↓zq,↓zw,↓zt,↓yK,↓zO,↓zk,zZ,zU,zT,bP,lnM,lnA,qA,yj,↓zj hx,Bj,zz,hw];exact ih
  ·rw[Gl (.inr (.inr h)),<-bD]at ih⊢;simp (disch:=first|omega|(simp only[lnA,lnC,lnN,lnM,z8,yj];omega)) only[↓yk,yz,↓zy,↓y0,↓zd,↓zF,↓zn,↓zq,↓zw,↓zt,↓yK,↓zO,↓zk,zZ,zU,zT,bP,lnM,lnA,qA,yj,↓zj hx,Bj,zz,hw];exact ih
theorem VG {p:List Nd}(hp:Ac p=true):(Ik p).length<=100000:=by
 have hl:=Ak hp
 have h1:=Ay (n:=p.length) (by omega)
 have h2:∀l:List Nd,(∀x∈l,(Cr x).length<=30)->(l.flatMap Cr).length<=30*l.length:=by
  intro l
  induction l with
  |nil=>intro _;simp
  |cons x l ih=>
   intro h
   have:=ih (fun y hy=>h y (by simp[hy]))
   have:=h x (by simp)
   simp only[eJ,lnA,lnC];omega
 have h3:=h2 p (fun x hx=>by
  obtain⟨j,hj⟩:=List.getElem?_of_mem hx
  have:=aQ hj
  exact TK (De hp hj) (by omega))
 simp only[Ik,lnA];omega
theorem abV {p:List Nd}(hp:Ac p=true):V 68 [eP p]=some (.os (1,0) ((Ik p).map eU),[]):=by
 have hl:=Ak hp
 have h:=OQ hp p.length 0 (AQ p.length) (bX _) (Ay (by omega))
 rw[lnM,eR,Int.natCast_zero]at h
 rw[UB]
 simp (disch:=first|omega|(simp only[lnA,lnC,lnN,lnM,z8,yj];omega)) only[↓yk,yz,↓zF,↓zt,lnM,yj,Bh,bI]
 exact h
theorem aen {p:List Nd}(hp:Ac p=true):V 70 [eP p]=some (.os (1,0) ((Ik p).map eU),[]):=by
 have hl:=Ak hp
 have h:=Pu hp p.length 0 (AQ p.length) (bX _) (Ay (by omega))
 rw[eR,Int.natCast_zero]at h
 rw[Xw]
 simp (disch:=first|omega|(simp only[lnA,lnC,lnN,lnM,z8,yj];omega)) only[↓yk,yz,↓zF,↓zt,lnM,yj,Bj,bI]
 exact h
def Qr (r:Option (List UInt8)):D:=match r with|some l=>.tup [.str (mk l),.bool true] | none=>.tup [.str ⟨#[]⟩,.bool false]
end
end Go.Eng
/-! tidying,and machines as bytes,on both sides -/
namespace Go.Eng
noncomputable section
open Go.Proofs Go.Proofs.Tryz
set_option maxHeartbeats 4000000

theorem acV {p:List Nd}(hl:p.length<=4294967296):V 131 [eP p]=some (oP p,[]):=by
 have h:V 181 [.rs (5,0) (p.map eN)]=some (.os (5,0) (p.map eN),[]):=by
  rw[GC,dA,zJ (bE (by rw[qA,lnM];simp only[ni];omega)),zO]
  exact yw _ _
 rw[Vq]
 simp (disch:=first|omega|(simp only[lnA,lnC,lnN,lnM,z8,yj];omega)) only[↓yk,yz,↓zF,↓zt,h]
theorem WT {p:List Nd}(hl:p.length<=4294967296):V 147 [eP p]=some (oP p,[]):=by
 rw[RJ,dA]
 simp (disch:=first|omega|(simp only[lnA,lnC,lnN,lnM,z8,yj];omega)) only[↓zd,↓zO,zZ,lnM,qA,yj]
theorem Gi {m:Mc}(hl:m.pool.length<=4294967296):V 63 [eMc m]=some (oMc m,[]):=by
 rw[RC]
 simp (disch:=first|omega|(simp only[lnA,lnC,lnN,lnM,z8,yj];omega)) only[↓yk,yz,↓zF,↓zn,↓zt,↓yK,acV hl]
theorem PD {m:Mc}(hl:m.pool.length<=4294967296):V 85 [eMc m]=some (oMc m,[]):=by
 rw[ZD]
 simp (disch:=first|omega|(simp only[lnA,lnC,lnN,lnM,z8,yj];omega)) only[↓yk,yz,↓zF,↓zn,↓zt,↓yK,WT hl]
def holds (m:Mc):Bool:=decide (m.state=1\/m.state=2)
def Ah (m:Mc):List Int:=if holds m=true then [m.s,m.e,m.d,m.arg] else [m.s,m.e,m.d]
def tf (m:Mc)(r:Int):Int:=(Bc (-1) m.pool (Ah m) []).1.getD r.toNat 0
def Ai (m:Mc):Mc:=if Ac m.pool=true/\Ap m.pool (Ah m)=true then
  ⟨(AA (-1) m.pool (Ah m)).1,m.at',tf m m.s,tf m m.e,tf m m.d,m.state,m.ask,if holds m=true then tf m m.arg else m.arg⟩ else m
theorem NH (m:Mc):(Ah m).length<=4:=by unfold Ah;split<;>simp
theorem Uo {m:Mc}(hf:Cu m.pool)(hl:m.pool.length<=4294967296):V 18 [eMc m]=some (oMc (Ai m),[]):=by
 have hr:=aeq hf (by omega) (l:=Ah m) (by have:=NH m;omega)
 have hc:=Gi hl
 have hk:∀h1:Ac m.pool=true,∀h2:Ap m.pool (Ah m)=true,_:=fun h1 h2=>ag0 h1 (rs:=Ah m) (by have:=NH m;omega) h2
 rw[aci]
 unfold Ai
 by_cases h:Ac m.pool=true/\Ap m.pool (Ah m)=true
 ·rw[aG h]
  have hk:=hk h.1 h.2
  rw[h.1,h.2]at hr
  unfold Ah holds at hr hk
  by_cases s1:m.state=1
  ·rw[if_pos (by simp[s1])]at hr hk
   have e:holds m=true:=by simp[holds,s1]
   rw[aG e]
   have e2:Ah m=[m.s,m.e,m.d,m.arg]:=by rw[Ah,aG e]
   unfold tf
   rw[e2]
   simp only[AA,bR,eL]at hr hk⊢
   simp (disch:=first|omega|(simp only[lnA,lnC,lnN,lnM,z8,yj];omega)) only[↓yk,yz,↓zy,↓y0,↓zd,↓zF,↓zn,↓zq,↓yZ,↓zt,↓yK,↓yL,↓yN,↓yO,↓yP,↓yQ,yN,yO,yP,yQ,zZ,zU,bP,aO,lnC,lnN,qA,yj,hr,hk]
  by_cases s2:m.state=2
  ·rw[if_pos (by simp[s2])]at hr hk
   have e:holds m=true:=by simp[holds,s2]
   rw[aG e]
   have e2:Ah m=[m.s,m.e,m.d,m.arg]:=by rw[Ah,aG e]
   unfold tf
   rw[e2]
   simp only[AA,bR,eL]at hr hk⊢
   simp (disch:=first|omega|(simp only[lnA,lnC,lnN,lnM,z8,yj];omega)) only[↓yk,yz,↓zy,↓y0,↓zd,↓zF,↓zn,↓zq,↓yZ,↓zt,↓yK,↓yL,↓yN,↓yO,↓yP,↓yQ,yN,yO,yP,yQ,zZ,zU,zT,bP,aO,lnC,lnN,qA,yj,hr,hk]
  ·rw[if_neg (by simp[s1,s2])]at hr hk
   have e:¬holds m=true:=by simp[holds,s1,s2]
   rw[aD e]
   have e2:Ah m=[m.s,m.e,m.d]:=by rw[Ah,aD e]
   unfold tf
   rw[e2]
   simp only[AA,bR,eL]at hr hk⊢
   simp (disch:=first|omega|(simp only[lnA,lnC,lnN,lnM,z8,yj];omega)) only[↓yk,yz,↓y0,↓zd,↓zF,↓zn,↓zq,↓yZ,↓zt,↓yK,↓yL,↓yN,↓yO,↓yP,yN,yO,yP,zZ,zT,bP,aO,lnC,lnN,yj,hr,hk]
 ·rw[aD h]
  have e:(Ac m.pool&&Ap m.pool (Ah m))=false:=by
   cases h1:Ac m.pool<;>cases h2:Ap m.pool (Ah m)<;>first|rfl|exact absurd ⟨h1,h2⟩ h
  rw[e]at hr
  unfold Ah holds at hr
  by_cases s1:m.state=1
  ·rw[if_pos (by simp[s1])]at hr
   simp only[bR,eL]at hr
   simp (disch:=first|omega|(simp only[lnA,lnC,lnN,lnM,z8,yj];omega)) only[↓yk,yz,↓zy,↓zd,↓zF,↓zn,↓zq,↓yZ,↓zt,↓yK,zZ,zU,bO,qA,yj,hr,hc]
  by_cases s2:m.state=2
  ·rw[if_pos (by simp[s2])]at hr
   simp only[bR,eL]at hr
   simp (disch:=first|omega|(simp only[lnA,lnC,lnN,lnM,z8,yj];omega)) only[↓yk,yz,↓zy,↓y0,↓zd,↓zF,↓zn,↓zq,↓yZ,↓zt,↓yK,zZ,zU,zT,bO,qA,yj,hr,hc]
  ·rw[if_neg (by simp[s1,s2])]at hr
   simp only[bR,eL]at hr
   simp (disch:=first|omega|(simp only[lnA,lnC,lnN,lnM,z8,yj];omega)) only[↓yk,yz,↓zy,↓y0,↓zF,↓zn,↓zq,↓yZ,↓zt,↓yK,zT,bO,hr,hc]
theorem abZ {m:Mc}(hf:Cu m.pool)(hl:m.pool.length<=4294967296):V 28 [eMc m]=some (oMc (Ai m),[]):=by
 have hr:=aem hf (by omega) (l:=Ah m) (by have:=NH m;omega)
 have hc:=PD hl
 have hk:∀h1:Ac m.pool=true,∀h2:Ap m.pool (Ah m)=true,_:=fun h1 h2=>afA h1 (rs:=Ah m) (by have:=NH m;omega) h2
 rw[aco]
 unfold Ai
 by_cases h:Ac m.pool=true/\Ap m.pool (Ah m)=true
 ·rw[aG h]
  have hk:=hk h.1 h.2
  rw[acy h.1 h.2 0 (-1)]at hk
  rw[h.1,h.2]at hr
  unfold Ah holds at hr hk
  by_cases s1:m.state=1
  ·rw[if_pos (by simp[s1])]at hr hk
   have e:holds m=true:=by simp[holds,s1]
   rw[aG e]
   have e2:Ah m=[m.s,m.e,m.d,m.arg]:=by rw[Ah,aG e]
   unfold tf
   rw[e2]
   simp only[AA,bR,eL]at hr hk⊢
   simp (disch:=first|omega|(simp only[lnA,lnC,lnN,lnM,z8,yj];omega)) only[↓yk,yz,↓zy,↓y0,↓zd,↓zF,↓zn,↓zq,↓yZ,↓zt,↓yK,↓yL,↓yN,↓yO,↓yP,↓yQ,yN,yO,yP,yQ,zZ,zU,bP,aO,lnC,lnN,qA,yj,hr,hk]
  by_cases s2:m.state=2
  ·rw[if_pos (by simp[s2])]at hr hk
   have e:holds m=true:=by simp[holds,s2]
   rw[aG e]
   have e2:Ah m=[m.s,m.e,m.d,m.arg]:=by rw[Ah,aG e]
   unfold tf
   rw[e2]
   simp only[AA,bR,eL]at hr hk⊢
   simp (disch:=first|omega|(simp only[lnA,lnC,lnN,lnM,z8,yj];omega)) only[↓yk,yz,↓zy,↓y0,↓zd,↓zF,↓zn,↓zq,↓yZ,↓zt,↓yK,↓yL,↓yN,↓yO,↓yP,↓yQ,yN,yO,yP,yQ,zZ,zU,zT,bP,aO,lnC,lnN,qA,yj,hr,hk]
  ·rw[if_neg (by simp[s1,s2])]at hr hk
   have e:¬holds m=true:=by simp[holds,s1,s2]
   rw[aD e]
   have e2:Ah m=[m.s,m.e,m.d]:=by rw[Ah,aD e]
   unfold tf
   rw[e2]
   simp only[AA,bR,eL]at hr hk⊢
   simp (disch:=first|omega|(simp only[lnA,lnC,lnN,lnM,z8,yj];omega)) only[↓yk,yz,↓y0,↓zd,↓zF,↓zn,↓zq,↓yZ,↓zt,↓yK,↓yL,↓yN,↓yO,↓yP,yN,yO,yP,zZ,zT,bP,aO,lnC,lnN,yj,hr,hk]
 ·rw[aD h]
  have e:(Ac m.pool&&Ap m.pool (Ah m))=false:=by
   cases h1:Ac m.pool<;>cases h2:Ap m.pool (Ah m)<;>first|rfl|exact absurd ⟨h1,h2⟩ h
  rw[e]at hr
  unfold Ah holds at hr
  by_cases s1:m.state=1
  ·rw[if_pos (by simp[s1])]at hr
   simp only[bR,eL]at hr
   simp (disch:=first|omega|(simp only[lnA,lnC,lnN,lnM,z8,yj];omega)) only[↓yk,yz,↓zy,↓zd,↓zF,↓zn,↓zq,↓yZ,↓zt,↓yK,zZ,zU,bO,qA,yj,hr,hc]
  by_cases s2:m.state=2
  ·rw[if_pos (by simp[s2])]at hr
   simp only[bR,eL]at hr
   simp (disch:=first|omega|(simp only[lnA,lnC,lnN,lnM,z8,yj];omega)) only[↓yk,yz,↓zy,↓y0,↓zd,↓zF,↓zn,↓zq,↓yZ,↓zt,↓yK,zZ,zU,zT,bO,qA,yj,hr,hc]
  ·rw[if_neg (by simp[s1,s2])]at hr
   simp only[bR,eL]at hr
   simp (disch:=first|omega|(simp only[lnA,lnC,lnN,lnM,z8,yj];omega)) only[↓yk,yz,↓zy,↓y0,↓zF,↓zn,↓zq,↓yZ,↓zt,↓yK,zT,bO,hr,hc]
theorem Dd {c:Cd}{m:Mc}(h:CN c m=true):Ac m.pool=true/\Ap m.pool (Ah m)=true/\0<=m.at'/\m.at'<=400/\0<=m.state/\m.state<=3/\0<=m.ask/\m.ask<=19/\0<=m.arg/\m.arg<=3000:=by
 unfold CN Bu JS at h
 simp only[aB,bL]at h
 obtain⟨⟨_,hlist,_⟩,hp,hs,he,hd,hst⟩:=h
 have hlen:=Ak hp
 refine⟨hp,?_,?_⟩
 ·unfold Ah holds Ap
  unfold Oj JS at hst
  split
  ·rename_i hh
   have hh:=cV hh
   have ha:wi m.arg 0 ((m.pool.length:Int)-1)=true:=by
    rcases hh with h1|h1
    ·simp[h1]at hst;exact hst.2.2.2
    ·simp[h1]at hst;exact hst.2.2
   simp[hs,he,hd,ha]
  ·simp[hs,he,hd]
 ·unfold Oj JS at hst
  repeat' split at hst
  all_goals (try simp only[aB,wi,bL,beq_iff_eq]at hst)
  all_goals (first|(cases hst;done)|omega)
theorem Je {c:Cd}{m:Mc}(h:CN c m=true):CN c (Ai m)=true:=by
 obtain⟨hp,hr,_⟩:=Dd h
 obtain⟨a1,a2,_⟩:=VU hp hr (-1) (-1)
 have hroot:∀r∈Ah m,wi (tf m r) 0 (((AA (-1) m.pool (Ah m)).1.length:Int)-1)=true:=by
  intro r hm
  have:=cO.1 a2 (tf m r) (bS.2 ⟨r,hm,rfl⟩)
  exact this
 have h3:m.s∈Ah m/\m.e∈Ah m/\m.d∈Ah m:=by unfold Ah;split<;>simp
 have h4:holds m=true->m.arg∈Ah m:=by intro hh;unfold Ah;rw[aG hh];simp
 unfold Ai
 rw[aG ⟨hp,hr⟩]
 unfold CN Oj JS at h⊢
 simp only[aB]at h⊢
 refine⟨h.1,a1,hroot _ h3.1,hroot _ h3.2.1,hroot _ h3.2.2,?_⟩
 have hst:=h.2.2.2.2.2
 by_cases s0:m.state=0
 ·have e:¬holds m=true:=by simp[holds,s0]
  rw[aG s0]at hst⊢
  rw[aD e];exact hst
 rw[aD s0]at hst⊢
 by_cases s1:m.state=1
 ·have e:holds m=true:=by simp[holds,s1]
  rw[aG s1]at hst⊢
  rw[aG e]
  simp only[aB]at hst⊢
  exact⟨hst.1,hst.2.1,hst.2.2.1,hroot _ (h4 e)⟩
 rw[aD s1]at hst⊢
 by_cases s2:m.state=2
 ·have e:holds m=true:=by simp[holds,s2]
  rw[aG s2]at hst⊢
  rw[aG e]
  simp only[aB]at hst⊢
  exact⟨hst.1,hst.2.1,hroot _ (h4 e)⟩
 rw[aD s2]at hst⊢
 have e:¬holds m=true:=by simp[holds,s1,s2]
 rw[aD e]
 exact hst
end
end Go.Eng
/-! words of a text,on both sides -/
namespace Go.Eng
noncomputable section
open Go.Proofs Go.Proofs.Tryz
set_option maxHeartbeats 4000000

def dU (x:UInt8):Bool:=decide (48<=x.toNat)&&decide (x.toNat<=57)
def Oc (x:UInt8):Bool:=nmB (x.toNat:Int)||(dU x||(x.toNat:Int)==35)
theorem dU_iff {x:UInt8}:dU x=true↔48<=x.toNat/\x.toNat<=57:=by simp[dU]
theorem agN (x:UInt8):br (decide ((x.toNat:Int)>=48)) (some (D.bool (decide ((x.toNat:Int)<=57)),([]:List D))) (some (D.bool false,[]))=some (.bool (dU x),[]):=by
 unfold dU
 by_cases h1:48<=x.toNat
 ·by_cases h2:x.toNat<=57
  ·rw[y6 (bE (by omega)),bE (by omega),bE h1,bE h2];rfl
  ·rw[y6 (bE (by omega)),bK (by omega),bE h1,bK h2];rfl
 ·rw[yp (bK (by omega)),bK h1];rfl
theorem YB (x:UInt8):V 226 [.int .u8 (x.toNat:Int)]=some (.bool (dU x),[]):=(Xl _).trans (agN x)
theorem NJ (x:UInt8):V 211 [.int .u8 (x.toNat:Int)]=some (.bool (Oc x),[]):=by
 rw[Tz,NU (SG _),Sg (YB x),aeE,aeE];rfl

def DE (acc:Nat)(l:List UInt8):Nat:=l.foldl (fun n x=>10*n+(x.toNat-48)) acc
theorem adE:∀(l:List UInt8)(acc k:Nat),l.all dU=true->acc<10 ^ k->DE acc l<10 ^ (k+l.length)
 |[],acc,k,_,h=>h
 |x::l,acc,k,hl,h=>by
  rw[List.all_cons,aB]at hl
  have hx:=dU_iff.1 hl.1
  have:=adE l (10*acc+(x.toNat-48)) (k+1) hl.2 (by rw[Nat.pow_succ];omega)
  rw[lnC]
  have e:k+(l.length+1)=k+1+l.length:=by omega
  rw[e];exact this
abbrev noW:D:=.tup [iN 0,.bool false]
theorem Ww {k:Nat}(h:k<=10):10 ^ k<=10000000000:=by
 have:10 ^ k<=10 ^ 10:=Nat.pow_le_pow_right (by omega) h
 simpa using this
def FQ (l:List UInt8):Option Nat:=if l.length=0\/10<l.length\/(l[0]? = some 48/\1<l.length)\/l.all dU=false then none else some (DE 0 l)
theorem aes (l:List UInt8)(x:UInt8)(acc:Nat):DE acc (l++[x])=10*DE acc l+(x.toNat-48):=by simp[DE]
theorem ab2:∀(l:List UInt8)(acc:Nat),0<acc->0<DE acc l
 |[],acc,h=>h
 |x::l,acc,h=>ab2 l (10*acc+(x.toNat-48)) (by omega)
theorem aaH:∀(n:Nat)(l:List UInt8),l.length=n+1->l.all dU=true->(l[0]?≠some 48\/l.length=1)->Mz (DE 0 l)=l
 |0,l,hn,ha,h0=>by
  match l,hn with
  |[x],_=>
   have hx:=dU_iff.1 (by simpa using ha)
   have e:DE 0 [x]=x.toNat-48:=by simp[DE]
   rw[e,DG (by omega)]
   congr 1
   apply UInt8.toNat_inj.1
   simp;omega
 |n+1,l,hn,ha,h0=>by
  have hne:l≠[]:=by intro h;rw[h]at hn;simp at hn
  obtain⟨l',x,rfl⟩:∃l' x,l=l'++[x]:=⟨l.dropLast,l.getLast hne,(List.dropLast_concat_getLast hne).symm⟩
  have hl':l'.length=n+1:=by simp at hn;omega
  have ha':l'.all dU=true/\dU x=true:=by simpa using ha
  have hx:=dU_iff.1 ha'.2
  have h48:l'[0]?≠some 48:=by
   rcases h0 with h|h
   ·rwa[cC (by omega)]at h
   ·exfalso;rw[lnA,List.length_singleton]at h;omega
  have ih:=aaH n l' hl' ha'.1 (.inl h48)
  rw[aes]
  have hpos:0<DE 0 l':=by
   match l',hl' with
   |y::r,_=>
    have hy:=dU_iff.1 (by simpa using (show(y::r).all dU=true from ha'.1):dU y=true/\_).1
    have hy48:y.toNat≠48:=by
     intro h;apply h48;simp;exact UInt8.toNat_inj.1 h
    exact ab2 r (10*0+(y.toNat-48)) (by omega)
  rw[Oq (by omega)]
  have e1:(10*DE 0 l'+(x.toNat-48)) / 10=DE 0 l':=by omega
  have e2:(10*DE 0 l'+(x.toNat-48)) % 10=x.toNat-48:=by omega
  rw[e1,e2,ih]
  congr 2
  apply UInt8.toNat_inj.1
  simp;omega
theorem adK:∀(n:Nat),(Mz n)[0]?≠some 48\/n=0:=by
 intro n
 induction n using Nat.strongRecOn with
 |_ n ih=>
  by_cases h:n<10
  ·by_cases h0:n=0
   ·exact .inr h0
   ·left
    rw[DG h]
    intro e
    simp at e
    have:=congrArg UInt8.toNat e
    simp at this
    omega
  ·left
   rw[Oq h,cC (aeR _)]
   rcases ih (n / 10) (by omega) with h1|h1
   ·exact h1
   ·omega
theorem aaF {l:List UInt8}(h0:l.length≠0)(h10:¬10<l.length)(ha:l.all dU=true):Mz (DE 0 l)=l↔¬(l[0]? = some 48/\1<l.length):=by
 constructor
 ·rintro h ⟨h1,h2⟩
  rcases adK (DE 0 l) with h3|h3
  ·rw[h]at h3;exact h3 h1
  ·rw[h3,DG (by omega)]at h
   have:=congrArg List.length h
   simp at this;omega
 ·intro h
  refine aaH (l.length-1) l (by omega) ha ?_
  by_cases h1:l[0]? = some 48
  ·exact .inr (by
           have:¬1<l.length:=fun h2=>h ⟨h1,h2⟩
           omega)
  ·exact .inl h1
end
end Go.Eng
