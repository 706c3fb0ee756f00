/- the program and the reference on plain data, part 3 -/
import Derived.Test.YtkndfhaehnfnmaaGreatEngC
import Derived.Test.YtkndfhaehnfnmaaGreatPart1
import Derived.Test.YtkndfhaehnfnmaaGreatPart2
/-! a call and its results,taken in one step -/
namespace Go.Eng
open Go.Proofs
theorem zk {ds:List D} {v2:Int} {v8 v11 v14:List D} {v17:Int} (h:V 237 ds = some (iN v2,[.op [.os (5,0) v8,.os (4,0) v11,.os (3,0) v14,iN v17]])) (K:Int->List D->List D->List D->Int->Option Ret):ck1 237 ds (fun v2 v8 v11 v14 v17=>(((K v2 v8 v11 v14 v17)))) = K v2 v8 v11 v14 v17:=(xh h _).trans rfl
theorem BC {ds v8 v11 v14:List D} {v17:Int} (h:V 244 ds = some (.tup [],[.op [.os (5,0) v8,.os (4,0) v11,.os (3,0) v14,iN v17]])) (K:List D->List D->List D->Int->Option Ret):ck2 244 ds (fun v8 v11 v14 v17=>((((K v8 v11 v14 v17))))) = K v8 v11 v14 v17:=(xh h _).trans rfl
theorem KC {ds v8 v11 v14:List D} {v17:Int} (h:V 253 ds = some (.tup [],[.op [.os (5,0) v8,.os (4,0) v11,.os (3,0) v14,iN v17]])) (K:List D->List D->List D->Int->Option Ret):ck2 253 ds (fun v8 v11 v14 v17=>((((K v8 v11 v14 v17))))) = K v8 v11 v14 v17:=(xh h _).trans rfl
theorem GP {ds v8 v11 v14:List D} {v17:Int} (h:V 236 ds = some (.tup [],[.op [.os (5,0) v8,.os (4,0) v11,.os (3,0) v14,iN v17]])) (K:List D->List D->List D->Int->Option Ret):ck2 236 ds (fun v8 v11 v14 v17=>((((K v8 v11 v14 v17))))) = K v8 v11 v14 v17:=(xh h _).trans rfl
theorem Cu {ds v5:List D} {v8:Bool} (h:V 228 ds = some (.tup [.os (1,0) v5,.bool v8],[])) (K:List D->Bool->Option Ret):ck3 228 ds (fun v5 v8=>(((K v5 v8)))) = K v5 v8:=(xh h _).trans rfl
theorem Jo {ds v2 v8 v11 v14:List D} {v17:Int} (h:V 231 ds = some (.os (1,0) v2,[.op [.os (5,0) v8,.os (4,0) v11,.os (3,0) v14,iN v17]])) (K:List D->List D->List D->List D->Int->Option Ret):ck4 231 ds (fun v2 v8 v11 v14 v17=>(((K v2 v8 v11 v14 v17)))) = K v2 v8 v11 v14 v17:=(xh h _).trans rfl
theorem Qh {ds v8 v11 v14:List D} {v17:Int} (h:V 254 ds = some (.tup [],[.op [.os (5,0) v8,.os (4,0) v11,.os (3,0) v14,iN v17]])) (K:List D->List D->List D->Int->Option Ret):ck2 254 ds (fun v8 v11 v14 v17=>((((K v8 v11 v14 v17))))) = K v8 v11 v14 v17:=(xh h _).trans rfl
theorem YW {ds v5:List D} {v8 v11 v14 v17 v20 v23 v26:Int} (h:V 18 ds = some (.agg [.os (5,0) v5,iN v8,iN v11,iN v14,iN v17,iN v20,iN v23,iN v26],[])) (K:List D->Int->Int->Int->Int->Int->Int->Int->Option Ret):ck5 18 ds (fun v5 v8 v11 v14 v17 v20 v23 v26=>(((K v5 v8 v11 v14 v17 v20 v23 v26)))) = K v5 v8 v11 v14 v17 v20 v23 v26:=(xh h _).trans rfl
theorem Bz {ds:List D} {v2:Bool} (h:V 60 ds = some (.bool v2,[])) (K:Bool->Option Ret):ck6 60 ds (fun v2=>((K v2))) = K v2:=(xh h _).trans rfl
theorem Jn {ds:List D} {v2:Bool} (h:V 61 ds = some (.bool v2,[])) (K:Bool->Option Ret):ck6 61 ds (fun v2=>((K v2))) = K v2:=(xh h _).trans rfl
theorem JB {ds:List D} {v2:Bool} (h:V 180 ds = some (.bool v2,[])) (K:Bool->Option Ret):ck6 180 ds (fun v2=>((K v2))) = K v2:=(xh h _).trans rfl
theorem zM {ds:List D} {v2:Bool} (h:V 62 ds = some (.bool v2,[])) (K:Bool->Option Ret):ck6 62 ds (fun v2=>((K v2))) = K v2:=(xh h _).trans rfl
theorem MH {ds:List D} {v2:Int} {v8:List D} {v11 v14:Int} (h:V 76 ds = some (iN v2,[.op [.rs (1,0) v8,iN v11,iN v14]])) (K:Int->List D->Int->Int->Option Ret):ck7 76 ds (fun v2 v8 v11 v14=>(((K v2 v8 v11 v14)))) = K v2 v8 v11 v14:=(xh h _).trans rfl
theorem zj {ds v5:List D} (h:V 147 ds = some (.agg [.os (5,0) v5],[])) (K:List D->Option Ret):ck8 147 ds (fun v5=>(((K v5)))) = K v5:=(xh h _).trans rfl
theorem C9 {ds:List D} {v2:Int} {v8:List D} (h:V 210 ds = some (iN v2,[.op [.os (5,0) v8]])) (K:Int->List D->Option Ret):ck9 210 ds (fun v2 v8=>(((K v2 v8)))) = K v2 v8:=(xh h _).trans rfl
theorem Al {ds:List D} {v2:Bool} (h:V 211 ds = some (.bool v2,[])) (K:Bool->Option Ret):ck6 211 ds (fun v2=>((K v2))) = K v2:=(xh h _).trans rfl
theorem J9 {ds:List D} {v2:Bool} (h:V 56 ds = some (.bool v2,[])) (K:Bool->Option Ret):ck6 56 ds (fun v2=>((K v2))) = K v2:=(xh h _).trans rfl
theorem zf {ds:List D} {v2:Bool} (h:V 58 ds = some (.bool v2,[])) (K:Bool->Option Ret):ck6 58 ds (fun v2=>((K v2))) = K v2:=(xh h _).trans rfl
theorem VE {ds:List D} {v2:Bool} (h:V 124 ds = some (.bool v2,[])) (K:Bool->Option Ret):ck6 124 ds (fun v2=>((K v2))) = K v2:=(xh h _).trans rfl
theorem Oh {ds:List D} {v2:Bool} (h:V 128 ds = some (.bool v2,[])) (K:Bool->Option Ret):ck6 128 ds (fun v2=>((K v2))) = K v2:=(xh h _).trans rfl
theorem z7 {ds:List D} {v5:Int} {v8:Bool} {v14:List D} {v17 v20 v23 v26 v29 v32 v35:Int} (h:V 218 ds = some (.tup [iN v5,.bool v8],[.op [.os (5,0) v14,iN v17,iN v20,iN v23,iN v26,iN v29,iN v32,iN v35]])) (K:Int->Bool->List D->Int->Int->Int->Int->Int->Int->Int->Option Ret):UE 218 ds (fun v5 v8 v14 v17 v20 v23 v26 v29 v32 v35=>((((K v5 v8 v14 v17 v20 v23 v26 v29 v32 v35))))) = K v5 v8 v14 v17 v20 v23 v26 v29 v32 v35:=(xh h _).trans rfl
theorem MJ {ds:List D} {v2:Int} {v8:List D} {v11 v14 v17 v20 v23 v26 v29:Int} (h:V 233 ds = some (iN v2,[.op [.os (5,0) v8,iN v11,iN v14,iN v17,iN v20,iN v23,iN v26,iN v29]])) (K:Int->List D->Int->Int->Int->Int->Int->Int->Int->Option Ret):Lv 233 ds (fun v2 v8 v11 v14 v17 v20 v23 v26 v29=>(((K v2 v8 v11 v14 v17 v20 v23 v26 v29)))) = K v2 v8 v11 v14 v17 v20 v23 v26 v29:=(xh h _).trans rfl
theorem Am {ds:List D} {v5:Int} {v8:Bool} {v14:List D} {v17 v20 v23 v26 v29 v32 v35:Int} {v38 v41 v44:List D} (h:V 182 ds = some (.tup [iN v5,.bool v8],[.op [.os (5,0) v14,iN v17,iN v20,iN v23,iN v26,iN v29,iN v32,iN v35,.rs (5,0) v38,.rs (4,0) v41,.rs (3,0) v44]])) (K:Int->Bool->List D->Int->Int->Int->Int->Int->Int->Int->List D->List D->List D->Option Ret):Sp 182 ds (fun v5 v8 v14 v17 v20 v23 v26 v29 v32 v35 v38 v41 v44=>((((K v5 v8 v14 v17 v20 v23 v26 v29 v32 v35 v38 v41 v44))))) = K v5 v8 v14 v17 v20 v23 v26 v29 v32 v35 v38 v41 v44:=(xh h _).trans rfl
theorem Gr {ds v5:List D} (h:V 183 ds = some (.tup [],[.os (1,0) v5])) (K:List D->Option Ret):aaj 183 ds (fun v5=>(((K v5)))) = K v5:=(xh h _).trans rfl
theorem CM {ds:List D} {v2:Int} {v8:List D} {v11 v14 v17 v20 v23 v26 v29:Int} {v32 v35 v38:List D} (h:V 184 ds = some (iN v2,[.op [.os (5,0) v8,iN v11,iN v14,iN v17,iN v20,iN v23,iN v26,iN v29,.rs (5,0) v32,.rs (4,0) v35,.rs (3,0) v38]])) (K:Int->List D->Int->Int->Int->Int->Int->Int->Int->List D->List D->List D->Option Ret):GX 184 ds (fun v2 v8 v11 v14 v17 v20 v23 v26 v29 v32 v35 v38=>(((K v2 v8 v11 v14 v17 v20 v23 v26 v29 v32 v35 v38)))) = K v2 v8 v11 v14 v17 v20 v23 v26 v29 v32 v35 v38:=(xh h _).trans rfl
theorem Ay {ds:List D} {v5 v8:Int} {v11:ByteArray} {v14 v17:Int} (h:V 241 ds = some (.agg [iN v5,iN v8,.str v11,iN v14,iN v17],[])) (K:Int->Int->ByteArray->Int->Int->Option Ret):FP 241 ds (fun v5 v8 v11 v14 v17=>(((K v5 v8 v11 v14 v17)))) = K v5 v8 v11 v14 v17:=(xh h _).trans rfl
theorem YX {ds v5:List D} {v8 v11 v14 v17 v20 v23 v26:Int} (h:V 28 ds = some (.agg [.os (5,0) v5,iN v8,iN v11,iN v14,iN v17,iN v20,iN v23,iN v26],[])) (K:List D->Int->Int->Int->Int->Int->Int->Int->Option Ret):ck5 28 ds (fun v5 v8 v11 v14 v17 v20 v23 v26=>(((K v5 v8 v11 v14 v17 v20 v23 v26)))) = K v5 v8 v11 v14 v17 v20 v23 v26:=(xh h _).trans rfl
theorem Od {ds:List D} {v2:Bool} (h:V 55 ds = some (.bool v2,[])) (K:Bool->Option Ret):ck6 55 ds (fun v2=>((K v2))) = K v2:=(xh h _).trans rfl
theorem Fm {ds:List D} {v2:Int} (h:V 188 ds = some (iN v2,[])) (K:Int->Option Ret):Ct 188 ds (fun v2=>((K v2))) = K v2:=(xh h _).trans rfl
theorem VK {ds v8:List D} {v11 v14 v17 v20 v23 v26 v29 v32:Int} (h:V 35 ds = some (.tup [.agg [.os (5,0) v8,iN v11,iN v14,iN v17,iN v20,iN v23,iN v26,iN v29],iN v32],[])) (K:List D->Int->Int->Int->Int->Int->Int->Int->Int->Option Ret):QH 35 ds (fun v8 v11 v14 v17 v20 v23 v26 v29 v32=>((((K v8 v11 v14 v17 v20 v23 v26 v29 v32))))) = K v8 v11 v14 v17 v20 v23 v26 v29 v32:=(xh h _).trans rfl
theorem J8 {ds v8:List D} {v11 v14 v17 v20 v23 v26 v29 v32:Int} (h:V 22 ds = some (.tup [.agg [.os (5,0) v8,iN v11,iN v14,iN v17,iN v20,iN v23,iN v26,iN v29],iN v32],[])) (K:List D->Int->Int->Int->Int->Int->Int->Int->Int->Option Ret):QH 22 ds (fun v8 v11 v14 v17 v20 v23 v26 v29 v32=>((((K v8 v11 v14 v17 v20 v23 v26 v29 v32))))) = K v8 v11 v14 v17 v20 v23 v26 v29 v32:=(xh h _).trans rfl
theorem Re {ds:List D} {v8 v11:Int} {v14:ByteArray} {v17 v20 v23:Int} (h:V 250 ds = some (.tup [.agg [iN v8,iN v11,.str v14,iN v17,iN v20],iN v23],[])) (K:Int->Int->ByteArray->Int->Int->Int->Option Ret):aak 250 ds (fun v8 v11 v14 v17 v20 v23=>((((K v8 v11 v14 v17 v20 v23))))) = K v8 v11 v14 v17 v20 v23:=(xh h _).trans rfl
theorem yV {ds:List D} {v2:Int} {v8:List D} (h:V 158 ds = some (iN v2,[.op [.os (5,0) v8]])) (K:Int->List D->Option Ret):ck9 158 ds (fun v2 v8=>(((K v2 v8)))) = K v2 v8:=(xh h _).trans rfl
theorem Da {ds:List D} {v5 v8:Int} {v11:ByteArray} {v14 v17:Int} (h:V 251 ds = some (.agg [iN v5,iN v8,.str v11,iN v14,iN v17],[])) (K:Int->Int->ByteArray->Int->Int->Option Ret):FP 251 ds (fun v5 v8 v11 v14 v17=>(((K v5 v8 v11 v14 v17)))) = K v5 v8 v11 v14 v17:=(xh h _).trans rfl
theorem Qg {ds v2:List D} (h:V 252 ds = some (.os (1,0) v2,[])) (K:List D->Option Ret):KM 252 ds (fun v2=>((K v2))) = K v2:=(xh h _).trans rfl
theorem J5 {ds v5:List D} {v8:Bool} {v14:List D} (h:V 119 ds = some (.tup [.os (1,0) v5,.bool v8],[.op [.os (5,0) v14]])) (K:List D->Bool->List D->Option Ret):Zr 119 ds (fun v5 v8 v14=>((((K v5 v8 v14))))) = K v5 v8 v14:=(xh h _).trans rfl
theorem zt {ds:List D} {v2:Bool} (h:V 57 ds = some (.bool v2,[])) (K:Bool->Option Ret):ck6 57 ds (fun v2=>((K v2))) = K v2:=(xh h _).trans rfl
theorem zQ {ds v8:List D} {v11 v14 v17 v20 v23 v26 v29:Int} {v32 v35 v38:List D} (h:V 185 ds = some (.tup [],[.op [.os (5,0) v8,iN v11,iN v14,iN v17,iN v20,iN v23,iN v26,iN v29,.rs (5,0) v32,.rs (4,0) v35,.rs (3,0) v38]])) (K:List D->Int->Int->Int->Int->Int->Int->Int->List D->List D->List D->Option Ret):Ph 185 ds (fun v8 v11 v14 v17 v20 v23 v26 v29 v32 v35 v38=>((((K v8 v11 v14 v17 v20 v23 v26 v29 v32 v35 v38))))) = K v8 v11 v14 v17 v20 v23 v26 v29 v32 v35 v38:=(xh h _).trans rfl
theorem IL {ds:List D} {v2:Int} {v8:List D} {v11 v14 v17 v20 v23 v26 v29:Int} {v32 v35 v38:List D} (h:V 204 ds = some (iN v2,[.op [.os (5,0) v8,iN v11,iN v14,iN v17,iN v20,iN v23,iN v26,iN v29,.rs (5,0) v32,.rs (4,0) v35,.rs (3,0) v38]])) (K:Int->List D->Int->Int->Int->Int->Int->Int->Int->List D->List D->List D->Option Ret):GX 204 ds (fun v2 v8 v11 v14 v17 v20 v23 v26 v29 v32 v35 v38=>(((K v2 v8 v11 v14 v17 v20 v23 v26 v29 v32 v35 v38)))) = K v2 v8 v11 v14 v17 v20 v23 v26 v29 v32 v35 v38:=(xh h _).trans rfl
theorem Eh {ds:List D} {v2:Int} {v8:List D} {v11 v14 v17 v20 v23 v26 v29:Int} {v32 v35 v38:List D} (h:V 205 ds = some (iN v2,[.op [.os (5,0) v8,iN v11,iN v14,iN v17,iN v20,iN v23,iN v26,iN v29,.rs (5,0) v32,.rs (4,0) v35,.rs (3,0) v38]])) (K:Int->List D->Int->Int->Int->Int->Int->Int->Int->List D->List D->List D->Option Ret):GX 205 ds (fun v2 v8 v11 v14 v17 v20 v23 v26 v29 v32 v35 v38=>(((K v2 v8 v11 v14 v17 v20 v23 v26 v29 v32 v35 v38)))) = K v2 v8 v11 v14 v17 v20 v23 v26 v29 v32 v35 v38:=(xh h _).trans rfl
theorem GR {ds:List D} {v2:Int} {v8:List D} {v11 v14 v17 v20 v23 v26 v29:Int} {v32 v35 v38:List D} (h:V 206 ds = some (iN v2,[.op [.os (5,0) v8,iN v11,iN v14,iN v17,iN v20,iN v23,iN v26,iN v29,.rs (5,0) v32,.rs (4,0) v35,.rs (3,0) v38]])) (K:Int->List D->Int->Int->Int->Int->Int->Int->Int->List D->List D->List D->Option Ret):GX 206 ds (fun v2 v8 v11 v14 v17 v20 v23 v26 v29 v32 v35 v38=>(((K v2 v8 v11 v14 v17 v20 v23 v26 v29 v32 v35 v38)))) = K v2 v8 v11 v14 v17 v20 v23 v26 v29 v32 v35 v38:=(xh h _).trans rfl
theorem zp {ds:List D} {v2:Int} {v8:List D} (h:V 157 ds = some (iN v2,[.op [.os (5,0) v8]])) (K:Int->List D->Option Ret):ck9 157 ds (fun v2 v8=>(((K v2 v8)))) = K v2 v8:=(xh h _).trans rfl
theorem Fj {ds:List D} {v2:Int} {v8:List D} (h:V 222 ds = some (iN v2,[.op [.os (5,0) v8]])) (K:Int->List D->Option Ret):ck9 222 ds (fun v2 v8=>(((K v2 v8)))) = K v2 v8:=(xh h _).trans rfl
theorem Fk {ds:List D} {v2:Int} {v8:List D} (h:V 94 ds = some (iN v2,[.op [.os (5,0) v8]])) (K:Int->List D->Option Ret):ck9 94 ds (fun v2 v8=>(((K v2 v8)))) = K v2 v8:=(xh h _).trans rfl
theorem Qf {ds:List D} {v2:Int} (h:V 116 ds = some (iN v2,[])) (K:Int->Option Ret):Ct 116 ds (fun v2=>((K v2))) = K v2:=(xh h _).trans rfl
theorem Dv {ds:List D} {v2:Bool} (h:V 15 ds = some (.bool v2,[])) (K:Bool->Option Ret):ck6 15 ds (fun v2=>((K v2))) = K v2:=(xh h _).trans rfl
theorem ML {ds v2:List D} (h:V 149 ds = some (.os (1,0) v2,[])) (K:List D->Option Ret):KM 149 ds (fun v2=>((K v2))) = K v2:=(xh h _).trans rfl
theorem Oq {ds v2 v8:List D} (h:V 148 ds = some (.os (1,0) v2,[.op [.os (5,0) v8]])) (K:List D->List D->Option Ret):UF 148 ds (fun v2 v8=>(((K v2 v8)))) = K v2 v8:=(xh h _).trans rfl
theorem MI {ds:List D} {v2:Bool} (h:V 226 ds = some (.bool v2,[])) (K:Bool->Option Ret):ck6 226 ds (fun v2=>((K v2))) = K v2:=(xh h _).trans rfl
theorem Gq {ds:List D} {v2:Int} (h:V 221 ds = some (iN v2,[])) (K:Int->Option Ret):Ct 221 ds (fun v2=>((K v2))) = K v2:=(xh h _).trans rfl
theorem Ue {ds v2:List D} (h:V 239 ds = some (.os (1,0) v2,[])) (K:List D->Option Ret):KM 239 ds (fun v2=>((K v2))) = K v2:=(xh h _).trans rfl
theorem Qe {ds:List D} {v2:Int} (h:V 129 ds = some (iN v2,[])) (K:Int->Option Ret):Ct 129 ds (fun v2=>((K v2))) = K v2:=(xh h _).trans rfl
theorem Ak {ds v8:List D} {v11 v14 v17 v20 v23 v26 v29:Int} {v32:Bool} (h:V 78 ds = some (.tup [.agg [.os (5,0) v8,iN v11,iN v14,iN v17,iN v20,iN v23,iN v26,iN v29],.bool v32],[])) (K:List D->Int->Int->Int->Int->Int->Int->Int->Bool->Option Ret):QI 78 ds (fun v8 v11 v14 v17 v20 v23 v26 v29 v32=>((((K v8 v11 v14 v17 v20 v23 v26 v29 v32))))) = K v8 v11 v14 v17 v20 v23 v26 v29 v32:=(xh h _).trans rfl
theorem Gf {ds v8:List D} {v11 v14 v17 v20 v23 v26 v29:Int} {v32:Bool} (h:V 171 ds = some (.tup [.agg [.os (5,0) v8,iN v11,iN v14,iN v17,iN v20,iN v23,iN v26,iN v29],.bool v32],[])) (K:List D->Int->Int->Int->Int->Int->Int->Int->Bool->Option Ret):QI 171 ds (fun v8 v11 v14 v17 v20 v23 v26 v29 v32=>((((K v8 v11 v14 v17 v20 v23 v26 v29 v32))))) = K v8 v11 v14 v17 v20 v23 v26 v29 v32:=(xh h _).trans rfl
theorem AQ {ds v5:List D} {v8 v11 v14 v17 v20 v23 v26:Int} (h:V 85 ds = some (.agg [.os (5,0) v5,iN v8,iN v11,iN v14,iN v17,iN v20,iN v23,iN v26],[])) (K:List D->Int->Int->Int->Int->Int->Int->Int->Option Ret):ck5 85 ds (fun v5 v8 v11 v14 v17 v20 v23 v26=>(((K v5 v8 v11 v14 v17 v20 v23 v26)))) = K v5 v8 v11 v14 v17 v20 v23 v26:=(xh h _).trans rfl
theorem Ol {ds:List D} {v2:Int} {v8:List D} (h:V 96 ds = some (iN v2,[.op [.os (5,0) v8]])) (K:Int->List D->Option Ret):ck9 96 ds (fun v2 v8=>(((K v2 v8)))) = K v2 v8:=(xh h _).trans rfl
theorem Ac {ds v8:List D} {v11 v14 v17 v20 v23 v26 v29:Int} (h:V 95 ds = some (.tup [],[.op [.os (5,0) v8,iN v11,iN v14,iN v17,iN v20,iN v23,iN v26,iN v29]])) (K:List D->Int->Int->Int->Int->Int->Int->Int->Option Ret):OI 95 ds (fun v8 v11 v14 v17 v20 v23 v26 v29=>((((K v8 v11 v14 v17 v20 v23 v26 v29))))) = K v8 v11 v14 v17 v20 v23 v26 v29:=(xh h _).trans rfl
theorem Ee {ds v5:List D} {v8 v11 v14 v17 v20 v23 v26:Int} (h:V 97 ds = some (.agg [.os (5,0) v5,iN v8,iN v11,iN v14,iN v17,iN v20,iN v23,iN v26],[])) (K:List D->Int->Int->Int->Int->Int->Int->Int->Option Ret):ck5 97 ds (fun v5 v8 v11 v14 v17 v20 v23 v26=>(((K v5 v8 v11 v14 v17 v20 v23 v26)))) = K v5 v8 v11 v14 v17 v20 v23 v26:=(xh h _).trans rfl
theorem GN {ds:List D} {v8 v11:Int} {v14:ByteArray} {v17 v20:Int} {v23:Bool} (h:V 212 ds = some (.tup [.agg [iN v8,iN v11,.str v14,iN v17,iN v20],.bool v23],[])) (K:Int->Int->ByteArray->Int->Int->Bool->Option Ret):Pi 212 ds (fun v8 v11 v14 v17 v20 v23=>((((K v8 v11 v14 v17 v20 v23))))) = K v8 v11 v14 v17 v20 v23:=(xh h _).trans rfl
theorem aay {ds:List D} {v2:Int} (h:V 16 ds = some (iN v2,[])) (K:Int->Option Ret):Ct 16 ds (fun v2=>((K v2))) = K v2:=(xh h _).trans rfl
theorem YV {ds v5:List D} {v8 v11 v14 v17 v20 v23 v26:Int} (h:V 17 ds = some (.agg [.os (5,0) v5,iN v8,iN v11,iN v14,iN v17,iN v20,iN v23,iN v26],[])) (K:List D->Int->Int->Int->Int->Int->Int->Int->Option Ret):ck5 17 ds (fun v5 v8 v11 v14 v17 v20 v23 v26=>(((K v5 v8 v11 v14 v17 v20 v23 v26)))) = K v5 v8 v11 v14 v17 v20 v23 v26:=(xh h _).trans rfl
theorem J7 {ds:List D} {v2:Bool} (h:V 14 ds = some (.bool v2,[])) (K:Bool->Option Ret):ck6 14 ds (fun v2=>((K v2))) = K v2:=(xh h _).trans rfl
theorem BW {ds v5:List D} {v8 v11 v14 v17 v20 v23 v26:Int} (h:V 63 ds = some (.agg [.os (5,0) v5,iN v8,iN v11,iN v14,iN v17,iN v20,iN v23,iN v26],[])) (K:List D->Int->Int->Int->Int->Int->Int->Int->Option Ret):ck5 63 ds (fun v5 v8 v11 v14 v17 v20 v23 v26=>(((K v5 v8 v11 v14 v17 v20 v23 v26)))) = K v5 v8 v11 v14 v17 v20 v23 v26:=(xh h _).trans rfl
theorem RK {ds v5:List D} {v8 v11 v14 v17 v20 v23 v26:Int} (h:V 64 ds = some (.agg [.os (5,0) v5,iN v8,iN v11,iN v14,iN v17,iN v20,iN v23,iN v26],[])) (K:List D->Int->Int->Int->Int->Int->Int->Int->Option Ret):ck5 64 ds (fun v5 v8 v11 v14 v17 v20 v23 v26=>(((K v5 v8 v11 v14 v17 v20 v23 v26)))) = K v5 v8 v11 v14 v17 v20 v23 v26:=(xh h _).trans rfl
theorem VH {ds v5:List D} {v8 v11 v14 v17 v20 v23 v26:Int} (h:V 73 ds = some (.agg [.os (5,0) v5,iN v8,iN v11,iN v14,iN v17,iN v20,iN v23,iN v26],[])) (K:List D->Int->Int->Int->Int->Int->Int->Int->Option Ret):ck5 73 ds (fun v5 v8 v11 v14 v17 v20 v23 v26=>(((K v5 v8 v11 v14 v17 v20 v23 v26)))) = K v5 v8 v11 v14 v17 v20 v23 v26:=(xh h _).trans rfl
theorem GY {ds:List D} {v2:ByteArray} (h:V 202 ds = some (.str v2,[])) (K:ByteArray->Option Ret):UG 202 ds (fun v2=>((K v2))) = K v2:=(xh h _).trans rfl
theorem Cw {ds v8 v11 v14:List D} {v17:Int} (h:V 229 ds = some (.tup [],[.op [.os (5,0) v8,.os (4,0) v11,.os (3,0) v14,iN v17]])) (K:List D->List D->List D->Int->Option Ret):ck2 229 ds (fun v8 v11 v14 v17=>((((K v8 v11 v14 v17))))) = K v8 v11 v14 v17:=(xh h _).trans rfl
theorem Oi {ds:List D} {v5:ByteArray} {v8:Bool} {v14 v17 v20:List D} {v23:Int} (h:V 230 ds = some (.tup [.str v5,.bool v8],[.op [.os (5,0) v14,.os (4,0) v17,.os (3,0) v20,iN v23]])) (K:ByteArray->Bool->List D->List D->List D->Int->Option Ret):Zt 230 ds (fun v5 v8 v14 v17 v20 v23=>((((K v5 v8 v14 v17 v20 v23))))) = K v5 v8 v14 v17 v20 v23:=(xh h _).trans rfl
theorem ZR {ds:List D} {v2:Bool} (h:V 12 ds = some (.bool v2,[])) (K:Bool->Option Ret):ck6 12 ds (fun v2=>((K v2))) = K v2:=(xh h _).trans rfl
theorem BZ {ds:List D} {v5:Int} {v8:Bool} {v14:List D} {v17 v20 v23 v26 v29 v32 v35:Int} {v38 v41 v44:List D} (h:V 207 ds = some (.tup [iN v5,.bool v8],[.op [.os (5,0) v14,iN v17,iN v20,iN v23,iN v26,iN v29,iN v32,iN v35,.rs (5,0) v38,.rs (4,0) v41,.rs (3,0) v44]])) (K:Int->Bool->List D->Int->Int->Int->Int->Int->Int->Int->List D->List D->List D->Option Ret):Sp 207 ds (fun v5 v8 v14 v17 v20 v23 v26 v29 v32 v35 v38 v41 v44=>((((K v5 v8 v14 v17 v20 v23 v26 v29 v32 v35 v38 v41 v44))))) = K v5 v8 v14 v17 v20 v23 v26 v29 v32 v35 v38 v41 v44:=(xh h _).trans rfl
theorem Og {ds:List D} {v2:Bool} (h:V 59 ds = some (.bool v2,[])) (K:Bool->Option Ret):ck6 59 ds (fun v2=>((K v2))) = K v2:=(xh h _).trans rfl
theorem Oj {ds v5:List D} {v8 v11 v14 v17 v20 v23 v26:Int} (h:V 153 ds = some (.agg [.os (5,0) v5,iN v8,iN v11,iN v14,iN v17,iN v20,iN v23,iN v26],[])) (K:List D->Int->Int->Int->Int->Int->Int->Int->Option Ret):ck5 153 ds (fun v5 v8 v11 v14 v17 v20 v23 v26=>(((K v5 v8 v11 v14 v17 v20 v23 v26)))) = K v5 v8 v11 v14 v17 v20 v23 v26:=(xh h _).trans rfl
theorem VT {ds v5:List D} {v8 v11 v14 v17 v20 v23 v26:Int} (h:V 162 ds = some (.agg [.os (5,0) v5,iN v8,iN v11,iN v14,iN v17,iN v20,iN v23,iN v26],[])) (K:List D->Int->Int->Int->Int->Int->Int->Int->Option Ret):ck5 162 ds (fun v5 v8 v11 v14 v17 v20 v23 v26=>(((K v5 v8 v11 v14 v17 v20 v23 v26)))) = K v5 v8 v11 v14 v17 v20 v23 v26:=(xh h _).trans rfl
theorem Xw {ds v8 v11 v14:List D} {v17:Int} (h:V 215 ds = some (.tup [],[.op [.os (5,0) v8,.os (4,0) v11,.os (3,0) v14,iN v17]])) (K:List D->List D->List D->Int->Option Ret):ck2 215 ds (fun v8 v11 v14 v17=>((((K v8 v11 v14 v17))))) = K v8 v11 v14 v17:=(xh h _).trans rfl
theorem Qc {ds v2:List D} (h:V 176 ds = some (.os (1,0) v2,[])) (K:List D->Option Ret):KM 176 ds (fun v2=>((K v2))) = K v2:=(xh h _).trans rfl
theorem Qd {ds:List D} {v2:Bool} (h:V 136 ds = some (.bool v2,[])) (K:Bool->Option Ret):ck6 136 ds (fun v2=>((K v2))) = K v2:=(xh h _).trans rfl
theorem Ef {ds:List D} {v2:Int} (h:V 225 ds = some (iN v2,[])) (K:Int->Option Ret):Ct 225 ds (fun v2=>((K v2))) = K v2:=(xh h _).trans rfl
theorem EO {ds:List D} {v2:Bool} (h:V 238 ds = some (.bool v2,[])) (K:Bool->Option Ret):ck6 238 ds (fun v2=>((K v2))) = K v2:=(xh h _).trans rfl
theorem Qi {ds:List D} {v5 v8:Int} (h:V 248 ds = some (.tup [iN v5,iN v8],[])) (K:Int->Int->Option Ret):YC 248 ds (fun v5 v8=>(((K v5 v8)))) = K v5 v8:=(xh h _).trans rfl
theorem VN {ds v8 v11 v14:List D} {v17:Int} (h:V 249 ds = some (.tup [],[.op [.os (5,0) v8,.os (4,0) v11,.os (3,0) v14,iN v17]])) (K:List D->List D->List D->Int->Option Ret):ck2 249 ds (fun v8 v11 v14 v17=>((((K v8 v11 v14 v17))))) = K v8 v11 v14 v17:=(xh h _).trans rfl
theorem VQ {ds:List D} {v2:Int} {v8:List D} {v11 v14 v17 v20 v23 v26 v29:Int} (h:V 240 ds = some (iN v2,[.op [.os (5,0) v8,iN v11,iN v14,iN v17,iN v20,iN v23,iN v26,iN v29]])) (K:Int->List D->Int->Int->Int->Int->Int->Int->Int->Option Ret):Lv 240 ds (fun v2 v8 v11 v14 v17 v20 v23 v26 v29=>(((K v2 v8 v11 v14 v17 v20 v23 v26 v29)))) = K v2 v8 v11 v14 v17 v20 v23 v26 v29:=(xh h _).trans rfl
theorem BX {ds:List D} {v5:Int} {v8:List D} {v11:Bool} (h:V 234 ds = some (.tup [iN v5,.os (1,0) v8,.bool v11],[])) (K:Int->List D->Bool->Option Ret):Zu 234 ds (fun v5 v8 v11=>(((K v5 v8 v11)))) = K v5 v8 v11:=(xh h _).trans rfl
theorem Ra {ds:List D} {v2:Int} (h:V 223 ds = some (iN v2,[])) (K:Int->Option Ret):Ct 223 ds (fun v2=>((K v2))) = K v2:=(xh h _).trans rfl
theorem MF {ds:List D} {v5 v8:Int} {v14:List D} (h:V 224 ds = some (.tup [iN v5,iN v8],[.op [.os (5,0) v14]])) (K:Int->Int->List D->Option Ret):YD 224 ds (fun v5 v8 v14=>((((K v5 v8 v14))))) = K v5 v8 v14:=(xh h _).trans rfl
theorem Xr {ds:List D} {v2:Int} (h:V 125 ds = some (iN v2,[])) (K:Int->Option Ret):Ct 125 ds (fun v2=>((K v2))) = K v2:=(xh h _).trans rfl
theorem VF {ds:List D} {v2:Int} (h:V 208 ds = some (iN v2,[])) (K:Int->Option Ret):Ct 208 ds (fun v2=>((K v2))) = K v2:=(xh h _).trans rfl
theorem RM {ds v5:List D} {v8 v11 v14 v17 v20 v23 v26:Int} (h:V 89 ds = some (.agg [.os (5,0) v5,iN v8,iN v11,iN v14,iN v17,iN v20,iN v23,iN v26],[])) (K:List D->Int->Int->Int->Int->Int->Int->Int->Option Ret):ck5 89 ds (fun v5 v8 v11 v14 v17 v20 v23 v26=>(((K v5 v8 v11 v14 v17 v20 v23 v26)))) = K v5 v8 v11 v14 v17 v20 v23 v26:=(xh h _).trans rfl
theorem Xt {ds v2:List D} (h:V 189 ds = some (.os (1,0) v2,[])) (K:List D->Option Ret):KM 189 ds (fun v2=>((K v2))) = K v2:=(xh h _).trans rfl
theorem DE {ds:List D} {v2:Bool} (h:V 135 ds = some (.bool v2,[])) (K:Bool->Option Ret):ck6 135 ds (fun v2=>((K v2))) = K v2:=(xh h _).trans rfl
theorem Gg {ds:List D} {v2:Int} {v8:List D} {v11 v14 v17 v20 v23 v26 v29:Int} {v32 v35 v38:List D} (h:V 132 ds = some (iN v2,[.op [.os (5,0) v8,iN v11,iN v14,iN v17,iN v20,iN v23,iN v26,iN v29,.rs (5,0) v32,.rs (4,0) v35,.rs (3,0) v38]])) (K:Int->List D->Int->Int->Int->Int->Int->Int->Int->List D->List D->List D->Option Ret):GX 132 ds (fun v2 v8 v11 v14 v17 v20 v23 v26 v29 v32 v35 v38=>(((K v2 v8 v11 v14 v17 v20 v23 v26 v29 v32 v35 v38)))) = K v2 v8 v11 v14 v17 v20 v23 v26 v29 v32 v35 v38:=(xh h _).trans rfl
theorem CZ {ds v5:List D} {v8 v11 v14 v17 v20 v23 v26:Int} (h:V 92 ds = some (.agg [.os (5,0) v5,iN v8,iN v11,iN v14,iN v17,iN v20,iN v23,iN v26],[])) (K:List D->Int->Int->Int->Int->Int->Int->Int->Option Ret):ck5 92 ds (fun v5 v8 v11 v14 v17 v20 v23 v26=>(((K v5 v8 v11 v14 v17 v20 v23 v26)))) = K v5 v8 v11 v14 v17 v20 v23 v26:=(xh h _).trans rfl
theorem JD {ds:List D} {v2:Int} {v8:List D} {v11 v14 v17 v20 v23 v26 v29:Int} {v32 v35 v38:List D} (h:V 133 ds = some (iN v2,[.op [.os (5,0) v8,iN v11,iN v14,iN v17,iN v20,iN v23,iN v26,iN v29,.rs (5,0) v32,.rs (4,0) v35,.rs (3,0) v38]])) (K:Int->List D->Int->Int->Int->Int->Int->Int->Int->List D->List D->List D->Option Ret):GX 133 ds (fun v2 v8 v11 v14 v17 v20 v23 v26 v29 v32 v35 v38=>(((K v2 v8 v11 v14 v17 v20 v23 v26 v29 v32 v35 v38)))) = K v2 v8 v11 v14 v17 v20 v23 v26 v29 v32 v35 v38:=(xh h _).trans rfl
theorem IP {ds:List D} {v2:Int} {v8:List D} {v11 v14 v17 v20 v23 v26 v29:Int} {v32 v35 v38:List D} (h:V 134 ds = some (iN v2,[.op [.os (5,0) v8,iN v11,iN v14,iN v17,iN v20,iN v23,iN v26,iN v29,.rs (5,0) v32,.rs (4,0) v35,.rs (3,0) v38]])) (K:Int->List D->Int->Int->Int->Int->Int->Int->Int->List D->List D->List D->Option Ret):GX 134 ds (fun v2 v8 v11 v14 v17 v20 v23 v26 v29 v32 v35 v38=>(((K v2 v8 v11 v14 v17 v20 v23 v26 v29 v32 v35 v38)))) = K v2 v8 v11 v14 v17 v20 v23 v26 v29 v32 v35 v38:=(xh h _).trans rfl
theorem VI {ds v5:List D} {v8 v11 v14 v17 v20 v23 v26:Int} (h:V 32 ds = some (.agg [.os (5,0) v5,iN v8,iN v11,iN v14,iN v17,iN v20,iN v23,iN v26],[])) (K:List D->Int->Int->Int->Int->Int->Int->Int->Option Ret):ck5 32 ds (fun v5 v8 v11 v14 v17 v20 v23 v26=>(((K v5 v8 v11 v14 v17 v20 v23 v26)))) = K v5 v8 v11 v14 v17 v20 v23 v26:=(xh h _).trans rfl
theorem YU {ds:List D} {v2:Bool} (h:V 242 ds = some (.bool v2,[])) (K:Bool->Option Ret):ck6 242 ds (fun v2=>((K v2))) = K v2:=(xh h _).trans rfl
theorem Uc {ds:List D} {v5 v8:Int} {v11:ByteArray} {v14 v17:Int} (h:V 243 ds = some (.agg [iN v5,iN v8,.str v11,iN v14,iN v17],[])) (K:Int->Int->ByteArray->Int->Int->Option Ret):FP 243 ds (fun v5 v8 v11 v14 v17=>(((K v5 v8 v11 v14 v17)))) = K v5 v8 v11 v14 v17:=(xh h _).trans rfl
theorem Rb {ds:List D} {v5 v8:Int} {v11:ByteArray} {v14 v17:Int} (h:V 235 ds = some (.agg [iN v5,iN v8,.str v11,iN v14,iN v17],[])) (K:Int->Int->ByteArray->Int->Int->Option Ret):FP 235 ds (fun v5 v8 v11 v14 v17=>(((K v5 v8 v11 v14 v17)))) = K v5 v8 v11 v14 v17:=(xh h _).trans rfl
theorem Xx {ds v8:List D} {v11 v14 v17 v20 v23 v26 v29 v32:Int} (h:V 101 ds = some (.tup [.agg [.os (5,0) v8,iN v11,iN v14,iN v17,iN v20,iN v23,iN v26,iN v29],iN v32],[])) (K:List D->Int->Int->Int->Int->Int->Int->Int->Int->Option Ret):QH 101 ds (fun v8 v11 v14 v17 v20 v23 v26 v29 v32=>((((K v8 v11 v14 v17 v20 v23 v26 v29 v32))))) = K v8 v11 v14 v17 v20 v23 v26 v29 v32:=(xh h _).trans rfl
theorem NK {ds:List D} {v2:Int} {v8:List D} (h:V 93 ds = some (iN v2,[.op [.os (5,0) v8]])) (K:Int->List D->Option Ret):ck9 93 ds (fun v2 v8=>(((K v2 v8)))) = K v2 v8:=(xh h _).trans rfl
theorem Fe {ds:List D} {v2:Int} {v8:List D} {v11 v14 v17 v20 v23 v26 v29:Int} {v32 v35 v38:List D} (h:V 186 ds = some (iN v2,[.op [.os (5,0) v8,iN v11,iN v14,iN v17,iN v20,iN v23,iN v26,iN v29,.rs (5,0) v32,.rs (4,0) v35,.rs (3,0) v38]])) (K:Int->List D->Int->Int->Int->Int->Int->Int->Int->List D->List D->List D->Option Ret):GX 186 ds (fun v2 v8 v11 v14 v17 v20 v23 v26 v29 v32 v35 v38=>(((K v2 v8 v11 v14 v17 v20 v23 v26 v29 v32 v35 v38)))) = K v2 v8 v11 v14 v17 v20 v23 v26 v29 v32 v35 v38:=(xh h _).trans rfl
theorem GQ {ds:List D} {v2:Int} {v8:List D} {v11 v14 v17 v20 v23 v26 v29:Int} {v32 v35 v38:List D} (h:V 187 ds = some (iN v2,[.op [.os (5,0) v8,iN v11,iN v14,iN v17,iN v20,iN v23,iN v26,iN v29,.rs (5,0) v32,.rs (4,0) v35,.rs (3,0) v38]])) (K:Int->List D->Int->Int->Int->Int->Int->Int->Int->List D->List D->List D->Option Ret):GX 187 ds (fun v2 v8 v11 v14 v17 v20 v23 v26 v29 v32 v35 v38=>(((K v2 v8 v11 v14 v17 v20 v23 v26 v29 v32 v35 v38)))) = K v2 v8 v11 v14 v17 v20 v23 v26 v29 v32 v35 v38:=(xh h _).trans rfl
theorem NN {ds:List D} {v2:Int} {v8:List D} {v11 v14 v17 v20 v23 v26 v29:Int} (h:V 196 ds = some (iN v2,[.op [.os (5,0) v8,iN v11,iN v14,iN v17,iN v20,iN v23,iN v26,iN v29]])) (K:Int->List D->Int->Int->Int->Int->Int->Int->Int->Option Ret):Lv 196 ds (fun v2 v8 v11 v14 v17 v20 v23 v26 v29=>(((K v2 v8 v11 v14 v17 v20 v23 v26 v29)))) = K v2 v8 v11 v14 v17 v20 v23 v26 v29:=(xh h _).trans rfl
theorem RL {ds v8 v11:List D} {v14 v17:Int} (h:V 191 ds = some (.tup [.agg [.os (5,0) v8],.os (1,0) v11,iN v14,iN v17],[])) (K:List D->List D->Int->Int->Option Ret):Zw 191 ds (fun v8 v11 v14 v17=>((((K v8 v11 v14 v17))))) = K v8 v11 v14 v17:=(xh h _).trans rfl
theorem MG {ds v8 v11 v14:List D} {v17 v20:Int} (h:V 193 ds = some (.tup [.agg [.os (5,0) v8,.os (4,0) v11,.os (3,0) v14],iN v17,iN v20],[])) (K:List D->List D->List D->Int->Int->Option Ret):Zx 193 ds (fun v8 v11 v14 v17 v20=>((((K v8 v11 v14 v17 v20))))) = K v8 v11 v14 v17 v20:=(xh h _).trans rfl
theorem Ub {ds v2:List D} (h:V 247 ds = some (.os (1,0) v2,[])) (K:List D->Option Ret):KM 247 ds (fun v2=>((K v2))) = K v2:=(xh h _).trans rfl
theorem VG {ds:List D} {v2:Bool} (h:V 126 ds = some (.bool v2,[])) (K:Bool->Option Ret):ck6 126 ds (fun v2=>((K v2))) = K v2:=(xh h _).trans rfl
theorem EU {ds:List D} {v2:Bool} (h:V 203 ds = some (.bool v2,[])) (K:Bool->Option Ret):ck6 203 ds (fun v2=>((K v2))) = K v2:=(xh h _).trans rfl
theorem J6 {ds v2 v8:List D} (h:V 137 ds = some (.os (1,0) v2,[.op [.os (5,0) v8]])) (K:List D->List D->Option Ret):UF 137 ds (fun v2 v8=>(((K v2 v8)))) = K v2 v8:=(xh h _).trans rfl
theorem Jp {ds:List D} {v5:Int} {v8:Bool} (h:V 216 ds = some (.tup [iN v5,.bool v8],[])) (K:Int->Bool->Option Ret):WT 216 ds (fun v5 v8=>(((K v5 v8)))) = K v5 v8:=(xh h _).trans rfl
theorem Li {ds:List D} {v2:Int} {v8:List D} {v11 v14 v17 v20 v23 v26 v29:Int} (h:V 217 ds = some (iN v2,[.op [.os (5,0) v8,iN v11,iN v14,iN v17,iN v20,iN v23,iN v26,iN v29]])) (K:Int->List D->Int->Int->Int->Int->Int->Int->Int->Option Ret):Lv 217 ds (fun v2 v8 v11 v14 v17 v20 v23 v26 v29=>(((K v2 v8 v11 v14 v17 v20 v23 v26 v29)))) = K v2 v8 v11 v14 v17 v20 v23 v26 v29:=(xh h _).trans rfl
theorem VP {ds:List D} {v2:Int} {v8:List D} {v11 v14 v17 v20 v23 v26 v29:Int} (h:V 219 ds = some (iN v2,[.op [.os (5,0) v8,iN v11,iN v14,iN v17,iN v20,iN v23,iN v26,iN v29]])) (K:Int->List D->Int->Int->Int->Int->Int->Int->Int->Option Ret):Lv 219 ds (fun v2 v8 v11 v14 v17 v20 v23 v26 v29=>(((K v2 v8 v11 v14 v17 v20 v23 v26 v29)))) = K v2 v8 v11 v14 v17 v20 v23 v26 v29:=(xh h _).trans rfl
theorem VO {ds:List D} {v2:Int} {v8:List D} {v11 v14 v17 v20 v23 v26 v29:Int} (h:V 220 ds = some (iN v2,[.op [.os (5,0) v8,iN v11,iN v14,iN v17,iN v20,iN v23,iN v26,iN v29]])) (K:Int->List D->Int->Int->Int->Int->Int->Int->Int->Option Ret):Lv 220 ds (fun v2 v8 v11 v14 v17 v20 v23 v26 v29=>(((K v2 v8 v11 v14 v17 v20 v23 v26 v29)))) = K v2 v8 v11 v14 v17 v20 v23 v26 v29:=(xh h _).trans rfl
theorem Rc {ds:List D} {v2:Int} (h:V 245 ds = some (iN v2,[])) (K:Int->Option Ret):Ct 245 ds (fun v2=>((K v2))) = K v2:=(xh h _).trans rfl
theorem RN {ds:List D} {v5 v8:Int} {v14:List D} (h:V 246 ds = some (.tup [iN v5,iN v8],[.op [.os (5,0) v14]])) (K:Int->Int->List D->Option Ret):YD 246 ds (fun v5 v8 v14=>((((K v5 v8 v14))))) = K v5 v8 v14:=(xh h _).trans rfl
theorem VJ {ds:List D} {v2:Int} (h:V 232 ds = some (iN v2,[])) (K:Int->Option Ret):Ct 232 ds (fun v2=>((K v2))) = K v2:=(xh h _).trans rfl
theorem D9 {ds:List D} {v2:Int} {v8:List D} {v11 v14:Int} (h:V 143 ds = some (iN v2,[.op [.rs (1,0) v8,iN v11,iN v14]])) (K:Int->List D->Int->Int->Option Ret):ck7 143 ds (fun v2 v8 v11 v14=>(((K v2 v8 v11 v14)))) = K v2 v8 v11 v14:=(xh h _).trans rfl
theorem Xu {ds:List D} {v5:Int} {v8:Bool} (h:V 227 ds = some (.tup [iN v5,.bool v8],[])) (K:Int->Bool->Option Ret):WT 227 ds (fun v5 v8=>(((K v5 v8)))) = K v5 v8:=(xh h _).trans rfl
theorem VL {ds:List D} {v2:Bool} (h:V 130 ds = some (.bool v2,[])) (K:Bool->Option Ret):ck6 130 ds (fun v2=>((K v2))) = K v2:=(xh h _).trans rfl
theorem O8 {ds:List D} {v2:Bool} (h:V 177 ds = some (.bool v2,[])) (K:Bool->Option Ret):ck6 177 ds (fun v2=>((K v2))) = K v2:=(xh h _).trans rfl
end Go.Eng
/-! nodes and pools: when they are right,on both sides -/
namespace Go.Eng
noncomputable section
open Go.Proofs Go.Proofs.Tryz

theorem y8 (b c : Bool) (l : List D) : br b (some (D.bool c,l)) (some (D.bool false,l)) = some (D.bool (b && c),l) := by cases b <;> rfl
theorem Zq (b c : Bool) (l : List D) : br b (some (D.bool true,l)) (some (D.bool c,l)) = some (D.bool (b || c),l) := by cases b <;> rfl
theorem Kx (b c : Bool) (l : List D) : br b (some (D.bool false,l)) (some (D.bool c,l)) = some (D.bool (!b && c),l) := by cases b <;> rfl

structure Nd where
 kind : Int
 n : Int
 s : ByteArray
 a : Int
 b : Int
abbrev eN (x : Nd) : D := .agg [iN x.kind,iN x.n,.str x.s,iN x.a,iN x.b]
section
variable {R : Type}
theorem Jk (x : Nd) (K : Int -> Int -> ByteArray -> Int -> Int -> Option R) : tk2 (eN x) (fun n4 n7 s10 n13 n16 => (K n4 n7 s10 n13 n16)) = K x.kind x.n x.s x.a x.b := rfl
theorem ab3 (x : Nd) (K : Int -> Option R) : asAgg (eN x) (fun l => cT l 0 fun y => asI .i64 y fun n => K n) = K x.kind := rfl
theorem ab4 (x : Nd) (K : Int -> Option R) : asAgg (eN x) (fun l => cT l 1 fun y => asI .i64 y fun n => K n) = K x.n := rfl
theorem ab5 (x : Nd) (K : ByteArray -> Option R) : asAgg (eN x) (fun l => cT l 2 fun y => asS y fun n => K n) = K x.s := rfl
theorem ab6 (x : Nd) (K : Int -> Option R) : asAgg (eN x) (fun l => cT l 3 fun y => asI .i64 y fun n => K n) = K x.a := rfl
theorem ab7 (x : Nd) (K : Int -> Option R) : asAgg (eN x) (fun l => cT l 4 fun y => asI .i64 y fun n => K n) = K x.b := rfl
end

theorem zg (n lo hi : Int) : V 58 [iN n,iN lo,iN hi] = some (.bool (wi n lo hi),[]) := (SM n lo hi).trans xG
theorem Ae (n lo hi : Int) : V 62 [iN n,iN lo,iN hi] = some (.bool (wi n lo hi),[]) := (Xe n lo hi).trans xG
theorem M9 (a b : Int) : V 116 [iN a,iN b] = some (iN (mnI a b),[]) := by
 rw [U3]
 unfold mnI
 by_cases h : a < b
 ·rw [xK (decide_eq_true h),if_neg (by omega)]
 ·rw [xb (decide_eq_false h)]
  by_cases h2 : b < a
  ·rw [if_pos h2]
  ·rw [if_neg h2,show b = a by omega]

def nmB (c : Int) : Bool := (decide (c >= 97) && decide (c <= 122)) || [43,45,42,60,61,63,33,47].any fun x => c == x
theorem PN {l : List Int} (hl : l.length < 4611686018427387904) (c : Int) : ∀ (k i : Nat),i + k = l.length -> zJ (l.map (D.int .u8)) c (ni (l.map (D.int .u8)).length) (i : Int) = some (iN (dQ (fun x => c == x) l i),[])
 | 0,i,hi => by
  rw [Ba,xb (by rw [lnM]; exact yr (by omega)),w8 (by omega)]
 | k + 1,i,hi => by
  obtain ⟨x,hx⟩ := xx (l := l) (i := i) (by omega)
  have ih := PN hl c k (i + 1) (by omega)
  rw [Ba,xK (by rw [lnM]; exact yz (by omega)),yu (by rw [lnM]; exact yx (by omega)),Int.toNat_natCast,xW hx,ye]
  cases h : c == x with
  | true => rw [yk,w9 hx h]
  | false => rw [xJ,yM (by omega),ih,wJ hx h]
theorem ZU {l : List Int} {c : Int} : decide (ya (fun x => c == x) l >= 0) = l.any fun x => c == x := by
 unfold ya
 cases h : l.findIdx? fun x => c == x with
 | none =>
  have := List.findIdx?_eq_none_iff.1 h
  symm
  simpa [List.any_eq_false] using this
 | some k =>
  have h2 : (l.any fun x => c == x) = true := by
   rw [List.findIdx?_eq_some_iff_getElem] at h
   obtain ⟨hk,h3,_⟩ := h
   exact List.any_eq_true.2 ⟨l[k],List.getElem_mem hk,h3⟩
  rw [h2]
  simp
theorem XF {l : List Int} (hl : l.length < 4611686018427387904) (c : Int) : V 203 [.rs (1,0) (l.map (D.int .u8)),.int .u8 c] = some (.bool (l.any fun x => c == x),[]) := by
 have h : V 221 [.rs (1,0) (l.map (D.int .u8)),.int .u8 c] = some (iN (ya (fun x => c == x) l),[]) := by
  rw [IB,<- wK]
  exact PN hl c l.length 0 (Nat.zero_add _)
 rw [FW,Gq h,ZU]
theorem Uw (c : Int) : V 177 [.int .u8 c] = some (.bool (nmB c),[]) := by
 have h := XF (l := [43,45,42,60,61,63,33,47]) (by simp) c
 simp only [List.map_cons,List.map_nil] at h
 rw [Nu,yu (by decide),EU h]
 unfold nmB
 cases decide (c >= 97) <;> cases decide (c <= 122) <;> rfl
theorem Na (c : Int) : V 180 [.int .u8 c] = some (.bool (nmB c),[]) := by
 rw [NB]
 simp only [Zq,nmB,List.any_cons,List.any_nil,Bool.or_false]
 cases decide (c >= 97) <;> cases decide (c <= 122) <;> rfl

def Ua (s : ByteArray) : Nat -> Nat -> Bool
 | _,0 => true
 | i,k + 1 => nmB (bt s i) && Ua s (i + 1) k
def LH (s : ByteArray) : Bool := wi s.size 1 12 && Ua s 0 s.size
theorem JZ {s : ByteArray} (hl : s.size < 4611686018427387904) : ∀ (k i : Nat),i + k = s.size -> Bu s (ni s.size) (i : Int) = some (.bool (Ua s i k),[])
 | 0,i,hi => by rw [Gu,xb (yr (by omega))]; rfl
 | k + 1,i,hi => by
  rw [Gu,xK (yz (by omega)),yu (yx (by omega)),O8 (Uw _),yM (by omega),JZ hl k (i + 1) (by omega),Kx,Bool.not_not]
  rfl
theorem Kq {s : ByteArray} (hl : s.size < 4611686018427387904) : ∀ (k i : Nat),i + k = s.size -> Bw s (i : Int) = some (.bool (Ua s i k && wi s.size 1 12),[])
 | 0,i,hi => by rw [Gz,xb (yr (by omega)),zM (Ae _ _ _)]; rfl
 | k + 1,i,hi => by
  rw [Gz,xK (yz (by omega)),yu (yx (by omega)),JB (Na _),yM (by omega),Kq hl k (i + 1) (by omega),Kx,Bool.not_not,<- Bool.and_assoc]
  rfl
theorem Ib {s : ByteArray} (hl : s.size < 4611686018427387904) : V 124 [.str s] = some (.bool (LH s),[]) := by
 have h : Bu s (ni s.size) 0 = _ := JZ hl s.size 0 (Nat.zero_add _)
 rw [SB,zf (zg _ _ _),h,Kx,Bool.not_not]
 rfl
theorem DW {s : ByteArray} (hl : s.size < 4611686018427387904) : V 128 [.str s] = some (.bool (LH s),[]) := by
 have h : Bw s 0 = _ := Kq hl s.size 0 (Nat.zero_add _)
 rw [SQ,h,Bool.and_comm]
 rfl

def nz (s : ByteArray) : Bool := kc s ⟨#[]⟩
def okN (x : Nd) (h : Int) : Bool :=
 if x.kind = 1 then wi x.n 0 0 && (nz x.s && (x.a == 0 && x.b == 0))
 else if x.kind = 2 then wi x.n 0 1 && (nz x.s && (x.a == 0 && x.b == 0))
 else if x.kind = 3 then wi x.n (-1000000000) 1000000000 && (nz x.s && (x.a == 0 && x.b == 0))
 else if x.kind = 4 then wi x.n 0 0 && (LH x.s && (x.a == 0 && x.b == 0))
 else if x.kind = 5 then wi x.n 0 0 && (nz x.s && (wi x.a 0 (h - 1) && wi x.b 0 (h - 1)))
 else if x.kind = 6 then wi x.n 0 1000000000 && (nz x.s && (wi x.a 0 (h - 1) && x.b == 0))
 else if x.kind = 7 then wi x.n 0 0 && (nz x.s && (wi x.a 0 (h - 1) && x.b == 0))
 else if x.kind = 8 then wi x.n 0 99 && (nz x.s && (x.a == 0 && x.b == 0))
 else if x.kind = 9 then wi x.n 0 1000000000 && (nz x.s && (x.a == 0 && x.b == 0))
 else false
theorem aaJ (n : Int) : wi n 0 0 = (n == 0) := by
 unfold wi
 by_cases h : n = 0
 ·subst h; rfl
 ·have : (n == 0) = false := by simp [h]
  rw [this]
  simp; omega

theorem Ri {x : Nd} (hs : x.s.size < 4611686018427387904) {h : Int} (h0 : -4611686018427387904 < h) (h1 : h < 4611686018427387904) : V 126 [eN x,iN h] = some (.bool (okN x h),[]) := by
 rw [SJ,w64 (n := h - 1) (by omega) (by omega)]
 unfold okN
 by_cases e1 : x.kind = 1
 ·rw [xK (by simp [e1]),if_pos e1,zf (zg _ _ _)]; simp only [y8]; rfl
 rw [xb (by simp [e1]),if_neg e1]
 by_cases e2 : x.kind = 2
 ·rw [xK (by simp [e2]),if_pos e2,zf (zg _ _ _)]; simp only [y8]; rfl
 rw [xb (by simp [e2]),if_neg e2]
 by_cases e3 : x.kind = 3
 ·rw [xK (by simp [e3]),if_pos e3,zf (zg _ _ _)]; simp only [y8]; rfl
 rw [xb (by simp [e3]),if_neg e3]
 by_cases e4 : x.kind = 4
 ·rw [xK (by simp [e4]),if_pos e4,VE (Ib hs),zf (zg _ _ _)]; simp only [y8]
 rw [xb (by simp [e4]),if_neg e4]
 by_cases e5 : x.kind = 5
 ·rw [xK (by simp [e5]),if_pos e5,zf (zg _ _ _),zf (zg _ _ _),zf (zg _ _ _)]; simp only [y8]; rfl
 rw [xb (by simp [e5]),if_neg e5]
 by_cases e6 : x.kind = 6
 ·rw [xK (by simp [e6]),if_pos e6,zf (zg _ _ _),zf (zg _ _ _)]; simp only [y8]; rfl
 rw [xb (by simp [e6]),if_neg e6]
 by_cases e7 : x.kind = 7
 ·rw [xK (by simp [e7]),if_pos e7,zf (zg _ _ _),zf (zg _ _ _)]; simp only [y8]; rfl
 rw [xb (by simp [e7]),if_neg e7]
 by_cases e8 : x.kind = 8
 ·rw [xK (by simp [e8]),if_pos e8,zf (zg _ _ _)]; simp only [y8]; rfl
 rw [xb (by simp [e8]),if_neg e8]
 by_cases e9 : x.kind = 9
 ·rw [xK (by simp [e9]),if_pos e9,zf (zg _ _ _)]; simp only [y8]; rfl
 rw [xb (by simp [e9]),if_neg e9]

theorem Z6 {x : Nd} (hs : x.s.size < 4611686018427387904) {h : Int} (h0 : -4611686018427387904 < h) (h1 : h < 4611686018427387904) : V 130 [eN x,iN h] = some (.bool (okN x h),[]) := by
 rw [Th,w64 (n := h - 1) (by omega) (by omega),zM (Ae _ _ _),zM (Ae _ _ _)]
 unfold okN
 have hss : kc x.s x.s = true := by rw [BH]; simp
 by_cases e1 : x.kind = 1
 ·rw [xK (by simp [e1]),if_pos e1,e1,aaJ]; simp [nz]
 rw [xb (by simp [e1]),if_neg e1]
 by_cases e2 : x.kind = 2
 ·rw [xK (by simp [e2]),if_pos e2,e2,zM (Ae _ _ _)]; simp only [y8]; simp [nz]
 rw [xb (by simp [e2]),if_neg e2]
 by_cases e3 : x.kind = 3
 ·rw [xK (by simp [e3]),if_pos e3,e3,zM (Ae _ _ _)]; simp only [y8]; simp [nz]
 rw [xb (by simp [e3]),if_neg e3]
 by_cases e4 : x.kind = 4
 ·rw [xK (by simp [e4]),if_pos e4,e4,Oh (DW hs),aaJ,hss]; simp only [y8]
  cases LH x.s <;> cases x.n == 0 <;> simp
 rw [xb (by simp [e4]),if_neg e4]
 by_cases e5 : x.kind = 5
 ·rw [xK (by simp [e5]),if_pos e5,aaJ]; simp only [y8]
  show some (D.bool (_ && (_ && (_ && nz x.s))),_) = _
  cases wi x.a 0 (h - 1) <;> cases wi x.b 0 (h - 1) <;> cases x.n == 0 <;> cases nz x.s <;> rfl
 rw [xb (by simp [e5]),if_neg e5]
 by_cases e6 : x.kind = 6
 ·rw [xK (by simp [e6]),if_pos e6,zM (Ae _ _ _)]; simp only [y8]
  show some (D.bool (_ && (_ && (_ && nz x.s))),_) = _
  cases wi x.a 0 (h - 1) <;> cases wi x.n 0 1000000000 <;> cases x.b == 0 <;> cases nz x.s <;> rfl
 rw [xb (by simp [e6]),if_neg e6]
 by_cases e7 : x.kind = 7
 ·rw [xK (by simp [e7]),if_pos e7,aaJ]; simp only [y8]
  show some (D.bool (_ && (_ && (_ && nz x.s))),_) = _
  cases wi x.a 0 (h - 1) <;> cases x.n == 0 <;> cases x.b == 0 <;> cases nz x.s <;> rfl
 rw [xb (by simp [e7]),if_neg e7]
 by_cases e8 : x.kind = 8
 ·rw [xK (by simp [e8]),if_pos e8,e8,zM (Ae _ _ _)]; simp only [y8]; simp [nz]
 rw [xb (by simp [e8]),if_neg e8]
 by_cases e9 : x.kind = 9
 ·rw [xK (by simp [e9]),if_pos e9,e9,zM (Ae _ _ _)]; simp only [y8]; simp [nz]
 rw [xb (by simp [e9]),if_neg e9]

abbrev eP (p : List Nd) : D := .agg [.rs (5,0) (p.map eN)]
abbrev oP (p : List Nd) : D := .agg [.os (5,0) (p.map eN)]
abbrev rP (p : List Nd) : D := .op [.os (5,0) (p.map eN)]
def z9 (p : List Nd) : Prop := ∀ x ∈ p,x.s.size < 4611686018427387904
def GZ (p : List Nd) : Nat -> Nat -> Bool
 | _,0 => true
 | i,k + 1 => (match p[i]? with | some x => okN x i | none => true) && GZ p (i + 1) k
def yU (p : List Nd) : Bool := GZ p 0 p.length && decide ((p.length : Int) <= 3000)
theorem J0 {p : List Nd} (hf : z9 p) (hl : p.length < 4611686018427387904) : ∀ (k i : Nat),i + k = p.length -> Dd (p.map eN) (ni (p.map eN).length) (i : Int) (p.map eN) = some (.bool (GZ p i k && decide ((p.length : Int) <= 3000)),[])
 | 0,i,hi => by
  rw [Gv,xb (by rw [lnM]; exact yr (by omega)),lnM]; rfl
 | k + 1,i,hi => by
  obtain ⟨x,hx⟩ := xx (l := p) (i := i) (by omega)
  rw [Gv,xK (by rw [lnM]; exact yz (by omega)),yu (by rw [lnM]; exact yx (by omega)),Int.toNat_natCast,xW hx,Jk,VG (Ri (hf x (List.mem_of_getElem? hx)) (by omega) (by omega)),yM (by omega),J0 hf hl k (i + 1) (by omega),Kx,Bool.not_not,<- Bool.and_assoc]
  simp only [GZ,hx]
theorem Kr {p : List Nd} (hf : z9 p) (hl : p.length < 4611686018427387904) : ∀ (k i : Nat),i + k = p.length -> Dk (i : Int) (p.map eN) = some (.bool (GZ p i k && decide ((p.length : Int) <= 3000)),[])
 | 0,i,hi => by
  rw [GA,xb (by rw [lnM]; exact yr (by omega)),lnM]; rfl
 | k + 1,i,hi => by
  obtain ⟨x,hx⟩ := xx (l := p) (i := i) (by omega)
  rw [GA,xK (by rw [lnM]; exact yz (by omega)),yu (by rw [lnM]; exact yx (by omega)),Int.toNat_natCast,xW hx,Jk,VL (Z6 (hf x (List.mem_of_getElem? hx)) (by omega) (by omega)),yM (by omega),Kr hf hl k (i + 1) (by omega),Kx,Bool.not_not,<- Bool.and_assoc]
  simp only [GZ,hx]
theorem DU {p : List Nd} (hf : z9 p) (hl : p.length < 4611686018427387904) : V 55 [eP p] = some (.bool (yU p),[]) := by
 rw [SC]; exact J0 hf hl p.length 0 (Nat.zero_add _)
theorem z8 {p : List Nd} (hf : z9 p) (hl : p.length < 4611686018427387904) : V 60 [eP p] = some (.bool (yU p),[]) := by
 rw [SU]; exact Kr hf hl p.length 0 (Nat.zero_add _)
end
end Go.Eng
/-! what is reached,on both sides -/
namespace Go.Eng
noncomputable section
open Go.Proofs Go.Proofs.Tryz

theorem YZ {α : Type} {l : List α} {p : α -> Bool} : decide (ya p l >= 0) = l.any p := by
 unfold ya
 cases h : l.findIdx? p with
 | none =>
  have := List.findIdx?_eq_none_iff.1 h
  symm
  simpa [List.any_eq_false] using this
 | some k =>
  have h2 : l.any p = true := by
   rw [List.findIdx?_eq_some_iff_getElem] at h
   obtain ⟨hk,h3,_⟩ := h
   exact List.any_eq_true.2 ⟨l[k],List.getElem_mem hk,h3⟩
  rw [h2]
  simp

abbrev eI : Int -> D := D.int .i64
theorem wi_iff {n lo hi : Int} : wi n lo hi = true ↔ lo <= n /\ n <= hi := by simp [wi]

theorem Qj {p : List Nd} : ∀ {k i j : Nat} {x : Nd},GZ p i k = true -> i <= j -> j < i + k -> p[j]? = some x -> okN x j = true
 | 0,i,j,x,_,h1,h2,_ => by omega
 | k + 1,i,j,x,h,h1,h2,hx => by
  simp only [GZ,Bool.and_eq_true] at h
  by_cases e : i = j
  ·subst e; rw [hx] at h; exact h.1
  ·exact Qj h.2 (by omega) (by omega) hx
theorem CQ {p : List Nd} (h : yU p = true) {j : Nat} {x : Nd} (hx : p[j]? = some x) : okN x j = true := by
 simp only [yU,Bool.and_eq_true] at h
 exact Qj h.1 (Nat.zero_le _) (by have := aQ hx; omega) hx
theorem y5 {p : List Nd} (h : yU p = true) : p.length <= 3000 := by
 simp only [yU,Bool.and_eq_true,decide_eq_true_eq] at h; omega
theorem z5 {x : Nd} {h : Int} (ho : okN x h = true) (hk : x.kind = 5) : 0 <= x.a /\ x.a < h /\ 0 <= x.b /\ x.b < h := by
 simp [okN,hk,wi] at ho; omega
theorem Ai {x : Nd} {h : Int} (ho : okN x h = true) (hk : x.kind = 6 \/ x.kind = 7) : 0 <= x.a /\ x.a < h := by
 rcases hk with hk | hk <;> simp [okN,hk,wi] at ho <;> omega

def y4 (p : List Nd) (rs : List Int) : Bool := rs.all fun r => wi r 0 ((p.length : Int) - 1)
theorem Eu {p : List Nd} (hl : p.length < 4611686018427387904) (r : Int) : V 56 [eP p,iN r] = some (.bool (wi r 0 ((p.length : Int) - 1)),[]) := by
 rw [SI,zf (zg _ _ _),lnM,w64 (by simp only [ni]; omega) (by simp only [ni]; omega)]
theorem Fq {p : List Nd} (hl : p.length < 4611686018427387904) (r : Int) : V 61 [eP p,iN r] = some (.bool (wi r 0 ((p.length : Int) - 1)),[]) := by
 rw [U6,zM (Ae _ _ _),lnM,w64 (by simp only [ni]; omega) (by simp only [ni]; omega)]
theorem Qt {p : List Nd} (hl : p.length < 4611686018427387904) {l : List Int} (h2 : l.length < 4611686018427387904) : ∀ (k i : Nat),i + k = l.length -> Aq (l.map eI) (p.map eN) (ni (l.map eI).length) (i : Int) = some (iN (dQ (fun r => !wi r 0 ((p.length : Int) - 1)) l i),[])
 | 0,i,hi => by
  rw [CT,xb (by rw [lnM]; exact yr (by omega)),w8 (by omega)]
 | k + 1,i,hi => by
  obtain ⟨x,hx⟩ := xx (l := l) (i := i) (by omega)
  have ih := Qt hl h2 k (i + 1) (by omega)
  have hr : V 136 [iN x,.bp [.rs (5,0) (p.map eN)]] = some (.bool (!wi x 0 ((p.length : Int) - 1)),[]) := by
   rw [Xa,J9 (Eu hl x)]
  rw [CT,xK (by rw [lnM]; exact yz (by omega)),yu (by rw [lnM]; exact yx (by omega)),Int.toNat_natCast,xW hx,ye,Qd hr]
  cases h : (!wi x 0 ((p.length : Int) - 1)) with
  | true => rw [yk,w9 hx h]
  | false => rw [xJ,yM (by omega),ih,wJ hx h]
theorem Zg {p : List Nd} (hf : z9 p) (hl : p.length < 4611686018427387904) {l : List Int} (h2 : l.length < 4611686018427387904) : V 65 [eP p,.rs (1,0) (l.map eI)] = some (.bool (yU p && y4 p l),[]) := by
 have h : V 188 [.rs (1,0) (l.map eI),.fn 136 [.bp [.rs (5,0) (p.map eN)]]] = some (iN (ya (fun r => !wi r 0 ((p.length : Int) - 1)) l),[]) := by
  rw [Ly,<- wK]
  exact Qt hl h2 l.length 0 (Nat.zero_add _)
 have h3 : V 135 [.rs (1,0) (l.map eI),.fn 136 [.bp [.rs (5,0) (p.map eN)]]] = some (.bool (l.any fun r => !wi r 0 ((p.length : Int) - 1)),[]) := by
  rw [JK,Fm h,YZ]
 rw [QN,Od (DU hf hl),DE h3,y8]
 congr 3
 unfold y4
 rw [List.any_eq_not_all_not,Bool.not_not]
 simp
theorem JF {p : List Nd} (hf : z9 p) (hl : p.length < 4611686018427387904) {l : List Int} (h2 : l.length < 4611686018427387904) : ∀ (k i : Nat),i + k = l.length -> Bg (l.map eI) (i : Int) (p.map eN) = some (.bool ((l.drop i).all (fun r => wi r 0 ((p.length : Int) - 1)) && yU p),[])
 | 0,i,hi => by
  rw [FJ,xb (by rw [lnM]; exact yr (by omega)),List.drop_of_length_le (by omega),Bz (z8 hf hl)]; rfl
 | k + 1,i,hi => by
  obtain ⟨x,hx⟩ := xx (l := l) (i := i) (by omega)
  rw [FJ,xK (by rw [lnM]; exact yz (by omega)),yu (by rw [lnM]; exact yx (by omega)),Int.toNat_natCast,xW hx,ye,Jn (Fq hl x),yM (by omega),JF hf hl h2 k (i + 1) (by omega),Kx,Bool.not_not,tU hx,List.all_cons,Bool.and_assoc]
theorem Zb {p : List Nd} (hf : z9 p) (hl : p.length < 4611686018427387904) {l : List Int} (h2 : l.length < 4611686018427387904) : V 84 [eP p,.rs (1,0) (l.map eI)] = some (.bool (yU p && y4 p l),[]) := by
 have h : Bg (l.map eI) 0 (p.map eN) = _ := JF hf hl h2 l.length 0 (Nat.zero_add _)
 rw [Q9,h,Bool.and_comm]; rfl

def zx (x : Nd) (m : List Bool) : List Bool := if x.kind = 5 then (m.set x.a.toNat true).set x.b.toNat true else if x.kind = 6 \/ x.kind = 7 then m.set x.a.toNat true else m
def zw (p : List Nd) : Nat -> List Bool -> List Bool
 | 0,m => m
 | k + 1,m => zw p k (match p[k]?,m[k]? with | some x,some true => zx x m | _,_ => m)
def Jt (rs : List Int) (m : List Bool) : List Bool := rs.foldl (fun m r => m.set r.toNat true) m
def AZ (p : List Nd) (rs : List Int) : List Bool := zw p p.length (Jt rs (List.replicate p.length false))
theorem Lg (x : Nd) (m : List Bool) : (zx x m).length = m.length := by
 unfold zx
 split
 ·simp
 ·split <;> simp
theorem Kh {p : List Nd} : ∀ (k : Nat) (m : List Bool),(zw p k m).length = m.length
 | 0,m => rfl
 | k + 1,m => by
  simp only [zw]
  rw [Kh k]
  split
  ·exact Lg _ _
  ·rfl
theorem Ia : ∀ (rs : List Int) (m : List Bool),(Jt rs m).length = m.length
 | [],m => rfl
 | r :: rs,m => by
  have := Ia rs (m.set r.toNat true)
  simpa [Jt] using this
theorem AJ {n : Int} {l : Nat} (h0 : 0 <= n) (h1 : n < l) : (decide (0 <= n) && decide (n < ni l)) = true := by
 simp only [ni,Bool.and_eq_true,decide_eq_true_eq]; omega
theorem BQ {α : Type} {l : List α} {n : Int} (h0 : 0 <= n) (h1 : n < l.length) : ∃ x,l[n.toNat]? = some x := xx (by omega)
theorem DT {m : List Bool} {j : Nat} : List.set (m.map D.bool) j (D.bool true) = (m.set j true).map D.bool := by rw [List.map_set]

theorem Aj {p : List Nd} (hp : yU p = true) : ∀ (k : Nat) (m : List Bool) (i : Int),i = (k : Int) - 1 -> k <= p.length -> m.length = p.length -> zN i (p.map eN) (m.map D.bool) = some (.os (1,0) ((zw p k m).map D.bool),[])
 | 0,m,i,hi,hk,hm => by
  rw [Ig,xb (decide_eq_false (by omega))]; rfl
 | k + 1,m,i,hi,hk,hm => by
  have hl := y5 hp
  have ei : i = (k : Int) := by omega
  subst ei
  obtain ⟨x,hx⟩ := xx (l := p) (i := k) (by omega)
  obtain ⟨b,hb⟩ := xx (l := m) (i := k) (by omega)
  have ho := CQ hp hx
  have hw : w6 ((k : Int) - 1) = (k : Int) - 1 := w64 (by omega) (by omega)
  rw [Ig,xK (decide_eq_true (by omega)),yu (by rw [lnM]; exact yx (by omega)),Int.toNat_natCast,xW hb,xI,hw]
  simp only [zw,hx,hb]
  cases b with
  | false => rw [Bool.not_false,yk]; exact Aj hp k m _ rfl (by omega) hm
  | true =>
   show _ = some (D.os (1,0) ((zw p k (zx x m)).map D.bool),[])
   rw [Bool.not_true,xJ,yu (by rw [lnM]; exact yx (by omega)),xW hx,Jk]
   by_cases h5 : x.kind = 5
   ·obtain ⟨a0,a1,b0,b1⟩ := z5 ho h5
    obtain ⟨u,hu⟩ := BQ (l := m) (n := x.a) a0 (by omega)
    obtain ⟨v,hv⟩ := BQ (l := m.set x.a.toNat true) (n := x.b) b0 (by simp; omega)
    rw [xK (by simp [h5]),yu (by rw [List.length_map]; exact AJ a0 (by omega)),xW hu,yA,DT,yu (by rw [List.length_map]; exact AJ b0 (by simp; omega)),xW hv,yA,DT]
    simp only [zx,h5,if_true]
    exact Aj hp k _ _ rfl (by omega) (by simp; omega)
   rw [xb (by simp [h5])]
   by_cases h6 : x.kind = 6
   ·obtain ⟨a0,a1⟩ := Ai ho (.inl h6)
    obtain ⟨u,hu⟩ := BQ (l := m) (n := x.a) a0 (by omega)
    rw [xK (by simp [h6]),xK (by simp [h6]),yu (by rw [List.length_map]; exact AJ a0 (by omega)),xW hu,yA,DT]
    have e : zx x m = m.set x.a.toNat true := by simp [zx,h6]
    rw [e]
    exact Aj hp k _ _ rfl (by omega) (by simp; omega)
   rw [xb (by simp [h6])]
   by_cases h7 : x.kind = 7
   ·obtain ⟨a0,a1⟩ := Ai ho (.inr h7)
    obtain ⟨u,hu⟩ := BQ (l := m) (n := x.a) a0 (by omega)
    rw [xK (by simp [h7]),yu (by rw [List.length_map]; exact AJ a0 (by omega)),xW hu,yA,DT]
    have e : zx x m = m.set x.a.toNat true := by simp [zx,h7]
    rw [e]
    exact Aj hp k _ _ rfl (by omega) (by simp; omega)
   rw [xb (by simp [h7])]
   have e : zx x m = m := by simp [zx,h5,h6,h7]
   rw [e]
   exact Aj hp k _ _ rfl (by omega) hm
theorem Ap {p : List Nd} (hp : yU p = true) : ∀ (k : Nat) (m : List Bool) (i : Int),i = (k : Int) - 1 -> k <= p.length -> m.length = p.length -> zD i (p.map eN) (m.map D.bool) = some (.os (1,0) ((zw p k m).map D.bool),[])
 | 0,m,i,hi,hk,hm => by
  rw [FI,xb (decide_eq_false (by omega))]; rfl
 | k + 1,m,i,hi,hk,hm => by
  have hl := y5 hp
  have ei : i = (k : Int) := by omega
  subst ei
  obtain ⟨x,hx⟩ := xx (l := p) (i := k) (by omega)
  obtain ⟨b,hb⟩ := xx (l := m) (i := k) (by omega)
  have ho := CQ hp hx
  have hw : w6 ((k : Int) - 1) = (k : Int) - 1 := w64 (by omega) (by omega)
  rw [FI,xK (decide_eq_true (by omega)),yu (by rw [lnM]; exact yx (by omega)),Int.toNat_natCast,xW hx,Jk,yu (by rw [lnM]; exact yx (by omega)),xW hb,xI,hw]
  simp only [zw,hx,hb]
  cases b with
  | false => rw [Bool.not_false,yk]; exact Ap hp k m _ rfl (by omega) hm
  | true =>
   show _ = some (D.os (1,0) ((zw p k (zx x m)).map D.bool),[])
   rw [Bool.not_true,xJ]
   by_cases h5 : x.kind = 5
   ·obtain ⟨a0,a1,b0,b1⟩ := z5 ho h5
    obtain ⟨u,hu⟩ := BQ (l := m) (n := x.a) a0 (by omega)
    obtain ⟨v,hv⟩ := BQ (l := m.set x.a.toNat true) (n := x.b) b0 (by simp; omega)
    rw [xK (by simp [h5]),yu (by rw [List.length_map]; exact AJ a0 (by omega)),xW hu,yA,DT,yu (by rw [List.length_map]; exact AJ b0 (by simp; omega)),xW hv,yA,DT]
    simp only [zx,h5,if_true]
    exact Ap hp k _ _ rfl (by omega) (by simp; omega)
   rw [xb (by simp [h5])]
   by_cases h6 : x.kind = 6
   ·obtain ⟨a0,a1⟩ := Ai ho (.inl h6)
    obtain ⟨u,hu⟩ := BQ (l := m) (n := x.a) a0 (by omega)
    rw [xK (by simp [h6]),xK (by simp [h6]),yu (by rw [List.length_map]; exact AJ a0 (by omega)),xW hu,yA,DT]
    have e : zx x m = m.set x.a.toNat true := by simp [zx,h6]
    rw [e]
    exact Ap hp k _ _ rfl (by omega) (by simp; omega)
   rw [xb (by simp [h6])]
   by_cases h7 : x.kind = 7
   ·obtain ⟨a0,a1⟩ := Ai ho (.inr h7)
    obtain ⟨u,hu⟩ := BQ (l := m) (n := x.a) a0 (by omega)
    rw [xK (by simp [h7]),yu (by rw [List.length_map]; exact AJ a0 (by omega)),xW hu,yA,DT]
    have e : zx x m = m.set x.a.toNat true := by simp [zx,h7]
    rw [e]
    exact Ap hp k _ _ rfl (by omega) (by simp; omega)
   rw [xb (by simp [h7])]
   have e : zx x m = m := by simp [zx,h5,h6,h7]
   rw [e]
   exact Ap hp k _ _ rfl (by omega) hm

theorem JY {p : List Nd} (hp : yU p = true) {l : List Int} (h2 : l.length < 4611686018427387904) (hr : y4 p l = true) : ∀ (k i : Nat) (m : List Bool),i + k = l.length -> m.length = p.length -> Ck (l.map eI) (ni (l.map eI).length) (i : Int) (p.map eN) (m.map D.bool) = some (.os (1,0) ((zw p p.length (Jt (l.drop i) m)).map D.bool),[])
 | 0,i,m,hi,hm => by
  have hl := y5 hp
  rw [Ie,xb (by rw [lnM]; exact yr (by omega)),List.drop_of_length_le (by omega),lnM,w64 (by simp only [ni]; omega) (by simp only [ni]; omega)]
  exact Aj hp p.length m _ rfl (Nat.le_refl _) hm
 | k + 1,i,m,hi,hm => by
  obtain ⟨x,hx⟩ := xx (l := l) (i := i) (by omega)
  have hx2 := wi_iff.1 (List.all_eq_true.1 hr x (List.mem_of_getElem? hx))
  obtain ⟨u,hu⟩ := BQ (l := m) (n := x) hx2.1 (by omega)
  rw [Ie,xK (by rw [lnM]; exact yz (by omega)),yu (by rw [lnM]; exact yx (by omega)),Int.toNat_natCast,xW hx,ye,yu (by rw [lnM]; exact AJ hx2.1 (by omega)),xW hu,yA,DT,yM (by omega),tU hx]
  exact JY hp h2 hr k (i + 1) _ (by omega) (by simp; omega)
theorem Ko {p : List Nd} (hp : yU p = true) {l : List Int} (h2 : l.length < 4611686018427387904) (hr : y4 p l = true) : ∀ (k i : Nat) (m : List Bool),i + k = l.length -> m.length = p.length -> Bc (l.map eI) (i : Int) (p.map eN) (m.map D.bool) = some (.os (1,0) ((zw p p.length (Jt (l.drop i) m)).map D.bool),[])
 | 0,i,m,hi,hm => by
  have hl := y5 hp
  rw [FH,xb (by rw [lnM]; exact yr (by omega)),List.drop_of_length_le (by omega),lnM,w64 (by simp only [ni]; omega) (by simp only [ni]; omega)]
  exact Ap hp p.length m _ rfl (Nat.le_refl _) hm
 | k + 1,i,m,hi,hm => by
  obtain ⟨x,hx⟩ := xx (l := l) (i := i) (by omega)
  have hx2 := wi_iff.1 (List.all_eq_true.1 hr x (List.mem_of_getElem? hx))
  obtain ⟨u,hu⟩ := BQ (l := m) (n := x) hx2.1 (by omega)
  rw [FH,xK (by rw [lnM]; exact yz (by omega)),yu (by rw [lnM]; exact yx (by omega)),Int.toNat_natCast,xW hx,ye,yu (by rw [lnM]; exact AJ hx2.1 (by omega)),xW hu,yA,DT,yM (by omega),tU hx]
  exact Ko hp h2 hr k (i + 1) _ (by omega) (by simp; omega)
theorem Pc {α : Type} {f : α -> D} {l : List α} (h : l.length <= 4294967296) : (decide (0 <= ni (l.map f).length) && decide (ni (l.map f).length <= LIM)) = true := by
 rw [Bool.and_eq_true]
 exact ⟨decide_eq_true (by simp only [ni]; omega),decide_eq_true (by rw [pE,lnM]; simp only [ni]; omega)⟩
theorem RY {n : Nat} : List.replicate (Int.toNat (ni n)) (D.bool false) = (List.replicate n false).map D.bool := by simp [ni]
theorem aaG {p : List Nd} (hp : yU p = true) {l : List Int} (h2 : l.length < 4611686018427387904) (hr : y4 p l = true) : V 189 [eP p,.rs (1,0) (l.map eI)] = some (.os (1,0) ((AZ p l).map D.bool),[]) := by
 have hl := y5 hp
 have h : Ck (l.map eI) (ni (l.map eI).length) 0 (p.map eN) ((List.replicate p.length false).map D.bool) = _ := JY hp h2 hr l.length 0 _ (Nat.zero_add _) (by simp)
 have e : (p.map eN).length = p.length := lnM _
 rw [UX,yu (Pc (by omega)),RY,e,h]; rfl
theorem Se {p : List Nd} (hp : yU p = true) {l : List Int} (h2 : l.length < 4611686018427387904) (hr : y4 p l = true) : V 149 [eP p,.rs (1,0) (l.map eI)] = some (.os (1,0) ((AZ p l).map D.bool),[]) := by
 have hl := y5 hp
 have h : Bc (l.map eI) 0 (p.map eN) ((List.replicate p.length false).map D.bool) = _ := Ko hp h2 hr l.length 0 _ (Nat.zero_add _) (by simp)
 have e : (p.map eN).length = p.length := lnM _
 rw [Q8,yu (Pc (by omega)),RY,e,h]; rfl
end
end Go.Eng
/-! what is moved into another pool,on both sides -/
namespace Go.Eng
open Go.Proofs Go.Proofs.Tryz

theorem Yd {p : List Nd} (h : p.length < 4294967296) (x : D) : decide (ni (p.map eN ++ [x]).length <= LIM) = true :=
 decide_eq_true (by rw [pE]; simp only [ni,lnA,lnM,lnC,lnN]; omega)
theorem Gn {p : List Nd} (h : p.length < 4294967296) (x : Nd) : V 157 [rP p,eN x] = some (iN p.length,[rP (p ++ [x])]) := by
 rw [Pp,yu (Yd h _),yA]
 have : w6 (ni (p.map eN ++ [eN x]).length - 1) = p.length := by
  rw [w64 (by simp only [ni]; omega) (by simp only [ni,lnA,lnM,lnC,lnN]; omega)]
  simp [ni]
 rw [this]; simp
theorem zi {p : List Nd} (h : p.length < 4294967296) (x : Nd) : V 158 [rP p,eN x] = some (iN p.length,[rP (p ++ [x])]) := by
 rw [U5,yu (Yd h _),yA]
 have : w6 (ni (p.map eN ++ [eN x]).length - 1) = p.length := by
  rw [w64 (by simp only [ni]; omega) (by simp only [ni,lnA,lnM,lnC,lnN]; omega)]
  simp [ni]
 rw [this]; simp

noncomputable def y3 (pre : List Int) (x : Nd) : Nd :=
 if x.kind = 5 then ⟨x.kind,x.n,x.s,pre.getD x.a.toNat 0,pre.getD x.b.toNat 0⟩
 else if x.kind = 6 \/ x.kind = 7 then ⟨x.kind,x.n,x.s,pre.getD x.a.toNat 0,x.b⟩ else x
noncomputable def AA (d : Int) (q : List Nd) (m : List Bool) : Nat -> List Int -> List Nd -> List Int × List Nd
 | 0,pre,acc => (pre,acc)
 | k + 1,pre,acc => match q[pre.length]?,m[pre.length]? with
  | some x,some true => AA d q m k (pre ++ [(acc.length : Int)]) (acc ++ [y3 pre x])
  | _,_ => AA d q m k (pre ++ [d]) acc
theorem Uo {pre r : List Int} {v u : Int} {i : Nat} (h : pre.length = i) : (pre ++ u :: r).set i v = pre ++ v :: r := by
 subst h; simp
theorem TT {pre r : List Int} {u : Int} {i : Nat} (h : pre.length = i) : (pre ++ u :: r)[i]? = some u := by
 subst h; simp
theorem D7 {pre r : List Int} {j : Nat} (h : j < pre.length) : (pre ++ r)[j]? = pre[j]? := List.getElem?_append_left h
theorem GK {l pre : List Int} {n : Int} (h0 : 0 <= n) (h1 : n < pre.length) (h : ∀ j,j < pre.length -> l[j]? = pre[j]?) : ∃ u,l[n.toNat]? = some u /\ pre[n.toNat]? = some u := by
 obtain ⟨u,hu⟩ := xx (l := pre) (i := n.toNat) (by omega)
 exact ⟨u,by rw [h _ (by omega),hu],hu⟩
theorem AI {q : List Nd} (hp : yU q = true) {m : List Bool} (hm : m.length = q.length) : ∀ (k i : Nat) (pre : List Int) (acc : List Nd),pre.length = i -> i + k = q.length -> acc.length + k < 4294967296 ->
  y9 (q.map eN) (ni (q.map eN).length) (i : Int) ((pre ++ List.replicate k 0).map eI) (m.map D.bool) (acc.map eN) = some (.os (1,0) ((AA (-1) q m k pre acc).1.map eI),[rP (AA (-1) q m k pre acc).2])
 | 0,i,pre,acc,hpre,hi,hc => by
  rw [De,xb (by rw [lnM]; exact yr (by omega))]
  simp [AA]
 | k + 1,i,pre,acc,hpre,hi,hc => by
  have hl := y5 hp
  obtain ⟨x,hx⟩ := xx (l := q) (i := i) (by omega)
  obtain ⟨b,hb⟩ := xx (l := m) (i := i) (by omega)
  have ho := CQ hp hx
  have s1 : List.set ((pre ++ List.replicate (k + 1) 0).map eI) i (eI (-1)) = (pre ++ (-1) :: List.replicate k 0).map eI := by
   rw [<- List.map_set,List.replicate_succ,Uo hpre]
  have s2 : ∀ v : Int,List.set ((pre ++ (-1) :: List.replicate k 0).map eI) i (eI v) = (pre ++ [v] ++ List.replicate k 0).map eI := by
   intro v; rw [<- List.map_set,Uo hpre]; simp
  have hz : (pre ++ List.replicate (k + 1) 0)[i]? = some 0 := by rw [List.replicate_succ,TT hpre]
  have hz2 : (pre ++ (-1) :: List.replicate k 0)[i]? = some (-1) := TT hpre
  rw [De,xK (by rw [lnM]; exact yz (by omega)),yu (by rw [lnM]; exact yx (by omega)),Int.toNat_natCast,xW hx,Jk,yu (by rw [lnM]; exact yx (by simp; omega)),xW hz,yA,s1,yu (by rw [lnM]; exact yx (by omega)),xW hb,xI]
  cases b with
  | false =>
   rw [Bool.not_false,yk,yM (by omega)]
   have ih := AI hp hm k (i + 1) (pre ++ [-1]) acc (by simp [hpre]) (by omega) (by omega)
   simp only [AA,hpre,hx,hb]
   simpa using ih
  | true =>
   rw [Bool.not_true,xJ]
   by_cases h5 : x.kind = 5
   ·obtain ⟨a0,a1,b0,b1⟩ := z5 ho h5
    obtain ⟨u,hu,hu'⟩ := GK (l := (pre ++ (-1) :: List.replicate k 0)) (pre := pre) a0 (by omega) (by intro j hj; exact D7 hj)
    obtain ⟨v,hv,hv'⟩ := GK (l := (pre ++ (-1) :: List.replicate k 0)) (pre := pre) b0 (by omega) (by intro j hj; exact D7 hj)
    have e : y3 pre x = ⟨x.kind,x.n,x.s,u,v⟩ := by simp [y3,h5,hu',hv']
    rw [xK (by simp [h5]),yu (by rw [List.length_map]; exact AJ a0 (by simp; omega)),xW hu,ye,yu (by rw [List.length_map]; exact AJ b0 (by simp; omega)),xW hv,ye]
    have ha := Gn (p := acc) (by omega) ⟨x.kind,x.n,x.s,u,v⟩
    have ih := AI hp hm k (i + 1) (pre ++ [(acc.length : Int)]) (acc ++ [⟨x.kind,x.n,x.s,u,v⟩]) (by simp [hpre]) (by omega) (by simp; omega)
    rw [zp ha,yu (by rw [lnM]; exact yx (by simp; omega)),xW hz2,yA,s2,yM (by omega)]
    simp only [AA,hpre,hx,hb,e]
    exact ih
   rw [xb (by simp [h5])]
   by_cases h6 : x.kind = 6
   ·obtain ⟨a0,a1⟩ := Ai ho (.inl h6)
    obtain ⟨u,hu,hu'⟩ := GK (l := (pre ++ (-1) :: List.replicate k 0)) (pre := pre) a0 (by omega) (by intro j hj; exact D7 hj)
    have e : y3 pre x = ⟨x.kind,x.n,x.s,u,x.b⟩ := by simp [y3,h6,hu']
    rw [xK (by simp [h6]),xK (by simp [h6]),yu (by rw [List.length_map]; exact AJ a0 (by simp; omega)),xW hu,ye]
    have ha := Gn (p := acc) (by omega) ⟨x.kind,x.n,x.s,u,x.b⟩
    have ih := AI hp hm k (i + 1) (pre ++ [(acc.length : Int)]) (acc ++ [⟨x.kind,x.n,x.s,u,x.b⟩]) (by simp [hpre]) (by omega) (by simp; omega)
    rw [zp ha,yu (by rw [lnM]; exact yx (by simp; omega)),xW hz2,yA,s2,yM (by omega)]
    simp only [AA,hpre,hx,hb,e]
    exact ih
   rw [xb (by simp [h6])]
   by_cases h7 : x.kind = 7
   ·obtain ⟨a0,a1⟩ := Ai ho (.inr h7)
    obtain ⟨u,hu,hu'⟩ := GK (l := (pre ++ (-1) :: List.replicate k 0)) (pre := pre) a0 (by omega) (by intro j hj; exact D7 hj)
    have e : y3 pre x = ⟨x.kind,x.n,x.s,u,x.b⟩ := by simp [y3,h7,hu']
    rw [xK (by simp [h7]),yu (by rw [List.length_map]; exact AJ a0 (by simp; omega)),xW hu,ye]
    have ha := Gn (p := acc) (by omega) ⟨x.kind,x.n,x.s,u,x.b⟩
    have ih := AI hp hm k (i + 1) (pre ++ [(acc.length : Int)]) (acc ++ [⟨x.kind,x.n,x.s,u,x.b⟩]) (by simp [hpre]) (by omega) (by simp; omega)
    rw [zp ha,yu (by rw [lnM]; exact yx (by simp; omega)),xW hz2,yA,s2,yM (by omega)]
    simp only [AA,hpre,hx,hb,e]
    exact ih
   rw [xb (by simp [h7])]
   ·have e : y3 pre x = x := by simp [y3,h5,h6,h7]
    have ha := Gn (p := acc) (by omega) x
    have ih := AI hp hm k (i + 1) (pre ++ [(acc.length : Int)]) (acc ++ [x]) (by simp [hpre]) (by omega) (by simp; omega)
    rw [zp ha,yu (by rw [lnM]; exact yx (by simp; omega)),xW hz2,yA,s2,yM (by omega)]
    simp only [AA,hpre,hx,hb,e]
    exact ih
theorem AL {q : List Nd} (hp : yU q = true) {m : List Bool} (hm : m.length = q.length) : ∀ (k i : Nat) (pre : List Int) (acc : List Nd),pre.length = i -> i + k = q.length -> acc.length + k < 4294967296 ->
  zI (m.map D.bool) (i : Int) (q.map eN) ((pre ++ List.replicate k 0).map eI) (acc.map eN) = some (.os (1,0) ((AA 0 q m k pre acc).1.map eI),[rP (AA 0 q m k pre acc).2])
 | 0,i,pre,acc,hpre,hi,hc => by
  rw [GG,xb (by rw [lnM]; exact yr (by omega))]
  simp [AA]
 | k + 1,i,pre,acc,hpre,hi,hc => by
  have hl := y5 hp
  obtain ⟨x,hx⟩ := xx (l := q) (i := i) (by omega)
  obtain ⟨b,hb⟩ := xx (l := m) (i := i) (by omega)
  have ho := CQ hp hx
  have s2 : ∀ v : Int,List.set ((pre ++ List.replicate (k + 1) 0).map eI) i (eI v) = (pre ++ [v] ++ List.replicate k 0).map eI := by
   intro v; rw [<- List.map_set,List.replicate_succ,Uo hpre]; simp
  have hz2 : (pre ++ List.replicate (k + 1) 0)[i]? = some 0 := by rw [List.replicate_succ,TT hpre]
  rw [GG,xK (by rw [lnM]; exact yz (by omega)),yu (by rw [lnM]; exact yx (by omega)),Int.toNat_natCast,xW hb,xI]
  cases b with
  | false =>
   rw [Bool.not_false,yk,yM (by omega)]
   have ih := AL hp hm k (i + 1) (pre ++ [0]) acc (by simp [hpre]) (by omega) (by omega)
   simp only [AA,hpre,hx,hb]
   simpa [List.replicate_succ] using ih
  | true =>
   rw [Bool.not_true,xJ,yu (by rw [lnM]; exact yx (by omega)),xW hx,Jk]
   by_cases h5 : x.kind = 5
   ·obtain ⟨a0,a1,b0,b1⟩ := z5 ho h5
    obtain ⟨u,hu,hu'⟩ := GK (l := (pre ++ List.replicate (k + 1) 0)) (pre := pre) a0 (by omega) (by intro j hj; exact D7 hj)
    obtain ⟨v,hv,hv'⟩ := GK (l := (pre ++ List.replicate (k + 1) 0)) (pre := pre) b0 (by omega) (by intro j hj; exact D7 hj)
    have e : y3 pre x = ⟨x.kind,x.n,x.s,u,v⟩ := by simp [y3,h5,hu',hv']
    rw [xK (by simp [h5]),yu (by rw [List.length_map]; exact AJ a0 (by simp; omega)),xW hu,ye,yu (by rw [List.length_map]; exact AJ b0 (by simp; omega)),xW hv,ye]
    have ha := zi (p := acc) (by omega) ⟨x.kind,x.n,x.s,u,v⟩
    have ih := AL hp hm k (i + 1) (pre ++ [(acc.length : Int)]) (acc ++ [⟨x.kind,x.n,x.s,u,v⟩]) (by simp [hpre]) (by omega) (by simp; omega)
    rw [yV ha,yu (by rw [lnM]; exact yx (by simp; omega)),xW hz2,yA,s2,yM (by omega)]
    simp only [AA,hpre,hx,hb,e]
    exact ih
   rw [xb (by simp [h5])]
   by_cases h6 : x.kind = 6
   ·obtain ⟨a0,a1⟩ := Ai ho (.inl h6)
    obtain ⟨u,hu,hu'⟩ := GK (l := (pre ++ List.replicate (k + 1) 0)) (pre := pre) a0 (by omega) (by intro j hj; exact D7 hj)
    have e : y3 pre x = ⟨x.kind,x.n,x.s,u,x.b⟩ := by simp [y3,h6,hu']
    rw [xK (by simp [h6]),xK (by simp [h6]),yu (by rw [List.length_map]; exact AJ a0 (by simp; omega)),xW hu,ye]
    have ha := zi (p := acc) (by omega) ⟨x.kind,x.n,x.s,u,x.b⟩
    have ih := AL hp hm k (i + 1) (pre ++ [(acc.length : Int)]) (acc ++ [⟨x.kind,x.n,x.s,u,x.b⟩]) (by simp [hpre]) (by omega) (by simp; omega)
    rw [yV ha,yu (by rw [lnM]; exact yx (by simp; omega)),xW hz2,yA,s2,yM (by omega)]
    simp only [AA,hpre,hx,hb,e]
    exact ih
   rw [xb (by simp [h6])]
   by_cases h7 : x.kind = 7
   ·obtain ⟨a0,a1⟩ := Ai ho (.inr h7)
    obtain ⟨u,hu,hu'⟩ := GK (l := (pre ++ List.replicate (k + 1) 0)) (pre := pre) a0 (by omega) (by intro j hj; exact D7 hj)
    have e : y3 pre x = ⟨x.kind,x.n,x.s,u,x.b⟩ := by simp [y3,h7,hu']
    rw [xK (by simp [h7]),yu (by rw [List.length_map]; exact AJ a0 (by simp; omega)),xW hu,ye]
    have ha := zi (p := acc) (by omega) ⟨x.kind,x.n,x.s,u,x.b⟩
    have ih := AL hp hm k (i + 1) (pre ++ [(acc.length : Int)]) (acc ++ [⟨x.kind,x.n,x.s,u,x.b⟩]) (by simp [hpre]) (by omega) (by simp; omega)
    rw [yV ha,yu (by rw [lnM]; exact yx (by simp; omega)),xW hz2,yA,s2,yM (by omega)]
    simp only [AA,hpre,hx,hb,e]
    exact ih
   rw [xb (by simp [h7])]
   ·have e : y3 pre x = x := by simp [y3,h5,h6,h7]
    have ha := zi (p := acc) (by omega) x
    have ih := AL hp hm k (i + 1) (pre ++ [(acc.length : Int)]) (acc ++ [x]) (by simp [hpre]) (by omega) (by simp; omega)
    rw [yV ha,yu (by rw [lnM]; exact yx (by simp; omega)),xW hz2,yA,s2,yM (by omega)]
    simp only [AA,hpre,hx,hb,e]
    exact ih
end Go.Eng
/-! what is kept: both sides keep the same -/
namespace Go.Eng
noncomputable section
open Go.Proofs Go.Proofs.Tryz

theorem Bi (p : List Nd) (rs : List Int) : (AZ p rs).length = p.length := by
 unfold AZ; rw [Kh,Ia]; simp
def AP (d : Int) (q : List Nd) (rs : List Int) (acc : List Nd) : List Int × List Nd := AA d q (AZ q rs) q.length [] acc
theorem Wb {n : Nat} : List.replicate (Int.toNat (ni n)) (iN 0) = (List.replicate n (0 : Int)).map eI := by simp [ni]
theorem Wv {q acc : List Nd} (hp : yU q = true) {rs : List Int} (h2 : rs.length < 4611686018427387904) (hr : y4 q rs = true) (hc : acc.length + q.length < 4294967296) :
  V 137 [rP acc,eP q,.rs (1,0) (rs.map eI)] = some (.os (1,0) ((AP (-1) q rs acc).1.map eI),[rP (AP (-1) q rs acc).2]) := by
 have e : (q.map eN).length = q.length := lnM _
 have h := AI hp (Bi q rs) q.length 0 [] acc rfl (Nat.zero_add _) hc
 rw [List.nil_append] at h
 rw [LZ,yu (Pc (by omega)),Xt (aaG hp h2 hr)]
 have h0 : List.replicate (Int.toNat (ni (q.map eN).length)) (iN 0) = (List.replicate q.length (0 : Int)).map eI := by rw [e]; exact Wb
 rw [h0]
 exact h
theorem Wt {q acc : List Nd} (hp : yU q = true) {rs : List Int} (hc : acc.length + q.length < 4294967296) :
  V 148 [rP acc,eP q,.rs (1,0) ((AZ q rs).map D.bool)] = some (.os (1,0) ((AP 0 q rs acc).1.map eI),[rP (AP 0 q rs acc).2]) := by
 have e : (q.map eN).length = q.length := lnM _
 have h := AL hp (Bi q rs) q.length 0 [] acc rfl (Nat.zero_add _) hc
 rw [List.nil_append] at h
 have h0 : List.replicate (Int.toNat (ni (q.map eN).length)) (iN 0) = (List.replicate q.length (0 : Int)).map eI := by rw [e]; exact Wb
 rw [TM,yu (Pc (by omega)),h0]
 exact h

theorem CY (d : Int) (q : List Nd) (m : List Bool) : ∀ (k : Nat) (pre : List Int) (acc : List Nd),(AA d q m k pre acc).1.length = pre.length + k
 | 0,pre,acc => rfl
 | k + 1,pre,acc => by
  simp only [AA]
  split
  ·rw [CY d q m k]; simp; omega
  ·rw [CY d q m k]; simp; omega
theorem My (d : Int) (q : List Nd) (m : List Bool) : ∀ (k : Nat) (pre : List Int) (acc : List Nd),(AA d q m k pre acc).2.length <= acc.length + k
 | 0,pre,acc => Nat.le_refl _
 | k + 1,pre,acc => by
  simp only [AA]
  split
  ·have := My d q m k (pre ++ [(acc.length : Int)]) (acc ++ [y3 pre ‹Nd›]); simp at this; omega
  ·have := My d q m k (pre ++ [d]) acc; omega

def zA (d : Int) (q : List Nd) (rs : List Int) : List Nd × List Int := ((AP d q rs []).2,rs.map fun r => (AP d q rs []).1.getD r.toNat 0)
theorem Yf {l : List Int} (h : l.length < 4294967296) (x : D) : decide (ni (l.map eI ++ [x]).length <= LIM) = true :=
 decide_eq_true (by rw [pE]; simp only [ni,lnA,lnM,lnC,lnN]; omega)
theorem JX {n : Nat} {a : List Int} (ha : a.length = n) {p : List D} {l : List Int} (h2 : l.length < 4294967296) (hr : ∀ r ∈ l,0 <= r /\ r < (n : Int)) : ∀ (k i : Nat) (out : List Int),i + k = l.length -> out.length = i -> Fh (l.map eI) (ni (l.map eI).length) (i : Int) (a.map eI) (out.map eI) p = some (.tup [.agg [.os (5,0) p],.os (1,0) ((out ++ (l.drop i).map fun r => a.getD r.toNat 0).map eI)],[])
 | 0,i,out,hi,ho => by
  rw [Jy,xb (by rw [lnM]; exact yr (by omega)),List.drop_of_length_le (by omega)]; simp
 | k + 1,i,out,hi,ho => by
  obtain ⟨x,hx⟩ := xx (l := l) (i := i) (by omega)
  have hx2 := hr x (List.mem_of_getElem? hx)
  obtain ⟨u,hu⟩ := BQ (l := a) (n := x) hx2.1 (by omega)
  have e : out.map eI ++ [iN u] = (out ++ [u]).map eI := by simp
  have eg : a.getD x.toNat 0 = u := by simp [hu]
  rw [Jy,xK (by rw [lnM]; exact yz (by omega)),yu (by rw [lnM]; exact yx (by omega)),Int.toNat_natCast,xW hx,ye,yu (by rw [lnM]; exact AJ hx2.1 (by omega)),xW hu,ye,yu (Yf (by omega) _),yA,yM (by omega),e,tU hx,List.map_cons,eg]
  have ih := JX ha (p := p) h2 hr k (i + 1) (out ++ [u]) (by omega) (by simp; omega)
  rw [List.append_assoc] at ih
  exact ih
theorem Kn {n : Nat} {a : List Int} (ha : a.length = n) {p : List D} {l : List Int} (h2 : l.length < 4294967296) (hr : ∀ r ∈ l,0 <= r /\ r < (n : Int)) : ∀ (k i : Nat) (out : List Int),i + k = l.length -> out.length = i -> Dr (l.map eI) (i : Int) (a.map eI) (out.map eI) p = some (.tup [.agg [.os (5,0) p],.os (1,0) ((out ++ (l.drop i).map fun r => a.getD r.toNat 0).map eI)],[])
 | 0,i,out,hi,ho => by
  rw [GH,xb (by rw [lnM]; exact yr (by omega)),List.drop_of_length_le (by omega)]; simp
 | k + 1,i,out,hi,ho => by
  obtain ⟨x,hx⟩ := xx (l := l) (i := i) (by omega)
  have hx2 := hr x (List.mem_of_getElem? hx)
  obtain ⟨u,hu⟩ := BQ (l := a) (n := x) hx2.1 (by omega)
  have e : out.map eI ++ [iN u] = (out ++ [u]).map eI := by simp
  have eg : a.getD x.toNat 0 = u := by simp [hu]
  rw [GH,xK (by rw [lnM]; exact yz (by omega)),yu (by rw [lnM]; exact yx (by omega)),Int.toNat_natCast,xW hx,ye,yu (by rw [lnM]; exact AJ hx2.1 (by omega)),xW hu,ye,yu (Yf (by omega) _),yA,yM (by omega),e,tU hx,List.map_cons,eg]
  have ih := Kn ha (p := p) h2 hr k (i + 1) (out ++ [u]) (by omega) (by simp; omega)
  rw [List.append_assoc] at ih
  exact ih
theorem Gl {p : List Nd} {rs : List Int} (hr : y4 p rs = true) : ∀ r ∈ rs,0 <= r /\ r < (p.length : Int) := by
 intro r h
 have := wi_iff.1 (List.all_eq_true.1 hr r h)
 omega
theorem aa5 {q : List Nd} (hp : yU q = true) {rs : List Int} (h2 : rs.length < 4294967296) (hr : y4 q rs = true) :
  V 66 [eP q,.rs (1,0) (rs.map eI)] = some (.tup [oP (zA (-1) q rs).1,.os (1,0) ((zA (-1) q rs).2.map eI)],[]) := by
 have hl := y5 hp
 have hm : V 137 [.op [.os (5,0) []],eP q,.rs (1,0) (rs.map eI)] = _ := Wv (acc := []) hp (rs := rs) (by omega) hr (by simp; omega)
 have h := JX (CY (-1) q (AZ q rs) q.length [] []) (p := (AP (-1) q rs []).2.map eN) h2 (by simpa using Gl hr) rs.length 0 [] (Nat.zero_add _) rfl
 rw [W8,J6 hm]
 exact h
theorem Z7 {q : List Nd} (hp : yU q = true) {rs : List Int} (h2 : rs.length < 4294967296) (hr : y4 q rs = true) :
  V 86 [eP q,.rs (1,0) (rs.map eI)] = some (.tup [oP (zA 0 q rs).1,.os (1,0) ((zA 0 q rs).2.map eI)],[]) := by
 have hl := y5 hp
 have hm : V 148 [.op [.os (5,0) []],eP q,.rs (1,0) ((AZ q rs).map D.bool)] = _ := Wt (acc := []) hp (rs := rs) (by simp; omega)
 have h := Kn (CY 0 q (AZ q rs) q.length [] []) (p := (AP 0 q rs []).2.map eN) h2 (by simpa using Gl hr) rs.length 0 [] (Nat.zero_add _) rfl
 rw [TN,ML (Se hp (by omega) hr),Oq hm]
 exact h

def On (m : List Bool) (n : Int) : Prop := m[n.toNat]? = some true
theorem Qw {m : List Bool} {j i : Nat} (h : m[j]? = some true) : (m.set i true)[j]? = some true := by
 by_cases e : i = j
 ·subst e; simp [aQ h]
 ·rw [List.getElem?_set_ne e]; exact h
theorem Qx {m : List Bool} {i : Nat} (h : i < m.length) : (m.set i true)[i]? = some true := by simp [h]
theorem YN {x : Nd} {m : List Bool} {j : Nat} (h : m[j]? = some true) : (zx x m)[j]? = some true := by
 unfold zx
 split
 ·exact Qw (Qw h)
 ·split
  ·exact Qw h
  ·exact h
theorem Gi {p : List Nd} : ∀ (k : Nat) {m : List Bool} {j : Nat},m[j]? = some true -> (zw p k m)[j]? = some true
 | 0,m,j,h => h
 | k + 1,m,j,h => by
  simp only [zw]
  apply Gi k
  split
  ·exact YN h
  ·exact h
theorem YM {p : List Nd} (hp : yU p = true) {k : Nat} {x : Nd} (hx : p[k]? = some x) {m : List Bool} {j : Nat} (h : k <= j) : (zx x m)[j]? = m[j]? := by
 have ho := CQ hp hx
 unfold zx
 split
 ·rename_i h5
  have := z5 ho h5
  rw [List.getElem?_set_ne (by omega),List.getElem?_set_ne (by omega)]
 ·split
  ·rename_i h6
   have := Ai ho h6
   rw [List.getElem?_set_ne (by omega)]
  ·rfl
theorem Qq {p : List Nd} (hp : yU p = true) : ∀ (k : Nat) {m : List Bool} {j : Nat},k <= j -> (zw p k m)[j]? = m[j]?
 | 0,m,j,h => rfl
 | k + 1,m,j,h => by
  simp only [zw]
  rw [Qq hp k (by omega)]
  split
  ·rename_i x hx _; exact YM hp ‹_› (by omega)
  ·rfl
def WK (p : List Nd) (m : List Bool) : Prop := ∀ (i : Nat) (x : Nd),p[i]? = some x -> m[i]? = some true -> (x.kind = 5 -> On m x.a /\ On m x.b) /\ (x.kind = 6 \/ x.kind = 7 -> On m x.a)
theorem Kg {p : List Nd} (hp : yU p = true) : ∀ (k : Nat) {m : List Bool},m.length = p.length -> ∀ (i : Nat) (x : Nd),i < k -> p[i]? = some x -> (zw p k m)[i]? = some true -> (x.kind = 5 -> On (zw p k m) x.a /\ On (zw p k m) x.b) /\ (x.kind = 6 \/ x.kind = 7 -> On (zw p k m) x.a)
 | 0,m,hm,i,x,hi,_,_ => by omega
 | k + 1,m,hm,i,x,hi,hx,hr => by
  by_cases e : i = k
  ·subst e
   have ho := CQ hp hx
   rw [zw] at hr ⊢
   have hmi : m[i]? = some true := by
    rw [Qq hp i (Nat.le_refl _)] at hr
    split at hr
    ·assumption
    ·exact hr
   rw [hx,hmi]
   show (_ -> On (zw p i (zx x m)) x.a /\ On (zw p i (zx x m)) x.b) /\ (_ -> On (zw p i (zx x m)) x.a)
   have hlt := aQ hx
   refine ⟨fun h5 => ?_,fun h6 => ?_⟩
   ·have := z5 ho h5
    have ea : (zx x m)[x.a.toNat]? = some true := by
     simp only [zx,h5,if_true]
     exact Qw (Qx (by omega))
    have eb : (zx x m)[x.b.toNat]? = some true := by
     simp only [zx,h5,if_true]
     exact Qx (by simp; omega)
    exact ⟨Gi i ea,Gi i eb⟩
   ·have := Ai ho h6
    have ea : (zx x m)[x.a.toNat]? = some true := by
     have h5 : ¬ x.kind = 5 := by omega
     simp only [zx,h5,h6,if_false,if_true]
     exact Qx (by omega)
    exact Gi i ea
  ·rw [zw] at hr ⊢
   refine Kg hp k ?_ i x (by omega) hx hr
   split
   ·rw [Lg]; exact hm
   ·exact hm
theorem Cz {p : List Nd} (hp : yU p = true) (rs : List Int) : WK p (AZ p rs) := by
 intro i x hx hr
 exact Kg hp p.length (by rw [Ia]; simp) i x (aQ hx) hx hr
theorem Y6 {rs : List Int} : ∀ {m : List Bool} {r : Int},(r ∈ rs /\ r.toNat < m.length) \/ m[r.toNat]? = some true -> (Jt rs m)[r.toNat]? = some true := by
 induction rs with
 | nil => intro m r h; rcases h with h | h; exact absurd h.1 (by simp); exact h
 | cons q rs ih =>
  intro m r h
  show (Jt rs (m.set q.toNat true))[r.toNat]? = some true
  apply ih
  rcases h with ⟨h,hl⟩ | h
  ·rcases List.mem_cons.1 h with rfl | h
   ·right; simp [hl]
   ·left; exact ⟨h,by simpa using hl⟩
  ·right; exact Qw h
theorem Eo {p : List Nd} {rs : List Int} (hr : y4 p rs = true) : ∀ r ∈ rs,On (AZ p rs) r := by
 intro r h
 have := Gl hr r h
 exact Gi _ (Y6 (.inl ⟨h,by simp; omega⟩))

theorem Ky {q : List Nd} (hp : yU q = true) {m : List Bool} (hc : WK q m) (hm : m.length = q.length) (d d' : Int) : ∀ (k : Nat) (pre pre' : List Int) (acc : List Nd),pre.length = pre'.length -> pre.length + k = q.length -> (∀ j : Nat,m[j]? = some true -> pre[j]? = pre'[j]?) ->
  (AA d q m k pre acc).2 = (AA d' q m k pre' acc).2 /\ ∀ j : Nat,m[j]? = some true -> (AA d q m k pre acc).1[j]? = (AA d' q m k pre' acc).1[j]?
 | 0,pre,pre',acc,hl,hk,h => ⟨rfl,h⟩
 | k + 1,pre,pre',acc,hl,hk,h => by
  obtain ⟨x,hx⟩ := xx (l := q) (i := pre.length) (by omega)
  obtain ⟨b,hb⟩ := xx (l := m) (i := pre.length) (by omega)
  have step : ∀ (u u' : Int),(b = true -> u = u') -> ∀ j : Nat,m[j]? = some true -> (pre ++ [u])[j]? = (pre' ++ [u'])[j]? := by
   intro u u' huu j hj
   rcases Nat.lt_trichotomy j pre.length with h1 | h1 | h1
   ·rw [List.getElem?_append_left h1,List.getElem?_append_left (by omega)]; exact h j hj
   ·subst h1
    rw [hb] at hj; cases hj
    rw [List.getElem?_append_right (Nat.le_refl _),hl,List.getElem?_append_right (Nat.le_refl _),huu rfl]
   ·rw [List.getElem?_eq_none (by simp; omega),List.getElem?_eq_none (by simp; omega)]
  have hb' := hb
  have hx' := hx
  rw [hl] at hb' hx'
  simp only [AA,hx,hb,hx',hb']
  cases b with
  | false => exact Ky hp hc hm d d' k _ _ acc (by simp; omega) (by simp; omega) (step d d' (fun h => by cases h))
  | true =>
   have hcl := hc _ x hx hb
   have e : y3 pre x = y3 pre' x := by
    unfold y3
    split
    ·rename_i h5
     have h1 := h _ (hcl.1 h5).1
     have h2 := h _ (hcl.1 h5).2
     simp only [List.getD_eq_getElem?_getD,h1,h2]
    ·split
     ·rename_i h6
      have h1 := h _ (hcl.2 h6)
      simp only [List.getD_eq_getElem?_getD,h1]
     ·rfl
   have ih := Ky hp hc hm d d' k (pre ++ [(acc.length : Int)]) (pre' ++ [(acc.length : Int)]) (acc ++ [y3 pre x]) (by simp; omega) (by simp; omega) (step _ _ (fun _ => rfl))
   rw [e] at ih
   simp only [e]
   exact ih
theorem Xn {q : List Nd} (hp : yU q = true) {rs : List Int} (hr : y4 q rs = true) (d d' : Int) : zA d q rs = zA d' q rs := by
 have h := Ky hp (Cz hp rs) (Bi q rs) d d' q.length [] [] [] rfl (Nat.zero_add _) (fun _ _ => rfl)
 unfold zA
 refine Prod.ext h.1 ?_
 apply List.map_congr_left
 intro r hm
 have := h.2 r.toNat (Eo hr r hm)
 simp only [List.getD_eq_getElem?_getD]
 exact congrArg (fun o => Option.getD o 0) this
end
end Go.Eng
/-! decimal digits,on both sides -/
namespace Go.Eng
open Go.Proofs Go.Proofs.Tryz

theorem aa1 (n : Nat) : Int.tdiv (n : Int) 10 = ((n / 10 : Nat) : Int) := by
 rw [Int.tdiv_eq_ediv_of_nonneg (by omega)]; omega
theorem aa3 (n : Nat) : Int.tmod (n : Int) 10 = ((n % 10 : Nat) : Int) := by
 rw [Int.tmod_eq_emod_of_nonneg (by omega)]; omega
theorem Ye {a b : List UInt8} (ha : a.length <= 1000) (hb : b.length <= 1000) : decide (ni ((mk a).size + (mk b).size) <= LIM) = true :=
 decide_eq_true (by rw [pE,yO,yO]; simp only [ni]; omega)
theorem Pj {n : Nat} (h : n < 1000000000000000000) : (Iy n).length <= 20 := by
 have := UO 18 n (by omega)
 omega
theorem Z3 {d : Nat} (h : d < 10) : IntKind.wrap .u8 (w6 (48 + (d : Int))) = 48 + (d : Int) := by
 rw [w64 (by omega) (by omega),aaK (by omega) (by omega)]
theorem UT : ∀ (n : Nat) (acc : List UInt8),n < 1000000000000000000 -> acc.length + (if n = 0 then [] else Iy n).length <= 1000 -> BM (n : Int) (mk acc) = some (.str (mk ((if n = 0 then [] else Iy n) ++ acc)),[]) := by
 intro n
 induction n using Nat.strongRecOn with
 | _ n ih =>
  intro acc hn hl
  by_cases h0 : n = 0
  ·subst h0
   rw [EZ,xb (by rfl),if_pos rfl]; rfl
  ·have hd : Iy n = (if n / 10 = 0 then [] else Iy (n / 10)) ++ [UInt8.ofNat (48 + n % 10)] := by
    by_cases h : n < 10
    ·rw [Aw h,if_pos (by omega),show n % 10 = n by omega]; rfl
    ·rw [JP h,if_neg (by omega)]
   rw [if_neg h0,hd] at hl
   simp only [lnA,lnC,lnN] at hl
   rw [EZ,xK (decide_eq_true (by omega)),yu (by decide),aa3,Z3 (by omega),Xq]
   have e : UInt8.ofNat (48 + ((n % 10 : Nat) : Int)).toNat = UInt8.ofNat (48 + n % 10) := by congr 1
   rw [e,yu (Ye (by simp) (by omega)),yu (by decide),aa1,w64 (by omega) (by omega),RH,ih (n / 10) (by omega) _ (by omega) (by simp only [lnA,lnC,lnN]; omega),if_neg h0,hd]
   simp
theorem Mr {n : Nat} (h : n < 1000000000000000000) : V 202 [iN (n : Int)] = some (.str (mk (Iy n)),[]) := by
 rw [JS,xb (decide_eq_false (by omega))]
 by_cases h0 : n = 0
 ·subst h0
  rw [xK (by rfl),Aw (by omega)]; rfl
 ·have := UT n [] h (by have := Pj h; rw [if_neg h0]; simp; omega)
  rw [if_neg h0,List.append_nil] at this
  rw [xb (by simp; omega)]
  exact this
theorem QD {n : Int} (h : n.natAbs < 1000000000000000000) : V 202 [iN n] = some (.str (mk (Jd n)),[]) := by
 by_cases h0 : n < 0
 ·have hd := Mr h
  rw [JS,xK (decide_eq_true h0),show (0 : Int) - n = (n.natAbs : Int) by omega,w64 (by omega) (by omega),GY hd]
  rw [<- show mk [45] = ⟨#[45]⟩ from rfl,yu (Ye (a := [45]) (by simp) (by have := Pj h; omega)),RH,Jd,if_pos h0]
  rfl
 ·have := Mr h
  rw [show (n.natAbs : Int) = n by omega] at this
  rw [this,Jd,if_neg h0]
end Go.Eng
/-! what is written of a value: the reference's side -/
namespace Go.Eng
open Go.Proofs Go.Proofs.Tryz

noncomputable def abd (x : Nd) : List UInt8 :=
 if x.kind = 1 then [40,41]
 else if x.kind = 2 then (if x.n = 1 then [35,116] else [35,102])
 else if x.kind = 3 then Jd x.n
 else if x.kind = 4 then x.s.data.toList
 else if x.kind = 6 then [35,102,117,110] ++ Jd x.n
 else if x.kind = 7 then [35,107,111,110,116] ++ Jd x.n
 else if x.kind = 8 then [35,112,114,105,109] ++ Jd x.n
 else [35,112,105,100] ++ Jd x.n
noncomputable def wr (p : List Nd) : Nat -> Bool -> Nat -> List UInt8 -> List UInt8
 | 0,_,_,out => out
 | g + 1,false,v,out => if out.length > 400 then out else
  match p[v]? with
  | some x => if x.kind = 5 then wr p g true x.b.toNat (wr p g false x.a.toNat (out ++ [40])) else out ++ abd x
  | none => out
 | g + 1,true,v,out =>
  match p[v]? with
  | some x => if x.kind = 5 /\ out.length <= 400 then wr p g true x.b.toNat (wr p g false x.a.toNat (out ++ [32]))
   else if x.kind = 1 then out ++ [41] else wr p g false v (out ++ [32,46,32]) ++ [41]
  | none => out
end Go.Eng
/-! what is written of a value: the program's side,as plain lists -/
namespace Go.Eng
open Go.Proofs Go.Proofs.Tryz

end Go.Eng
/-! what is written of a value: the program's side -/
namespace Go.Eng
open Go.Proofs Go.Proofs.Tryz

theorem lit (l : List UInt8) : (ByteArray.mk l.toArray) = mk l := rfl
end Go.Eng
/-! code and machines: when they are right,on both sides -/
namespace Go.Eng
noncomputable section
open Go.Proofs Go.Proofs.Tryz
set_option maxHeartbeats 4000000

structure In where
 op : Int
 n : Int
 i : Int
 s : ByteArray
structure Df where
 name : ByteArray
 at' : Int
 args : Int
structure Cd where
 pool : List Nd
 list : List In
 defs : List Df
abbrev eIn (x : In) : D := .agg [iN x.op,iN x.n,iN x.i,.str x.s]
abbrev eDf (x : Df) : D := .agg [.str x.name,iN x.at',iN x.args]
abbrev eCd (c : Cd) : D := .agg [.rs (5,0) (c.pool.map eN),.rs (4,0) (c.list.map eIn),.rs (3,0) (c.defs.map eDf)]
abbrev oCd (c : Cd) : D := .agg [.os (5,0) (c.pool.map eN),.os (4,0) (c.list.map eIn),.os (3,0) (c.defs.map eDf)]
structure FitsC (c : Cd) : Prop where
 pool : z9 c.pool
 plen : c.pool.length < 4611686018427387904
 list : ∀ x ∈ c.list,x.s.size < 4611686018427387904
 llen : c.list.length < 4611686018427387904
 defs : ∀ x ∈ c.defs,x.name.size < 4611686018427387904
 dlen : c.defs.length < 4611686018427387904
section
variable {R : Type}
theorem ZM (x : In) (K : Int -> Int -> Int -> ByteArray -> Option R) : tk1 (eIn x) (fun n4 n7 n10 s13 => (K n4 n7 n10 s13)) = K x.op x.n x.i x.s := rfl
end
def CW (c : Cd) (s : ByteArray) : Int := ya (fun d : Df => kc d.name s) c.defs
theorem Ld {l : List Df} (hl : l.length < 4611686018427387904) (s : ByteArray) : ∀ (k i : Nat),i + k = l.length -> AR (l.map eDf) s (ni (l.map eDf).length) (i : Int) = some (iN (dQ (fun d : Df => kc d.name s) l i),[])
 | 0,i,hi => by
  rw [DB,w8 (by omega)]
  simp (disch := first | omega | (simp only [lnA,lnC,lnN,lnM,yO,wY]; omega)) only [↓xJ,yI,lnM,wY]
 | k + 1,i,hi => by
  obtain ⟨x,hx⟩ := xx (l := l) (i := i) (by omega)
  have ih := Ld hl s k (i + 1) (by omega)
  have hd : V 179 [eDf x,.bp [.str s]] = some (.bool (kc x.name s),[]) := by rw [ZH]
  have hw : w6 ((i : Int) + 1) = ((i + 1 : Nat) : Int) := yM (by omega)
  rw [DB]
  cases h : kc x.name s with
  | true => rw [w9 hx h]; rw [h] at hd; simp (disch := first | omega | (simp only [lnA,lnC,lnN,lnM,yO,wY]; omega)) only [↓wZ,xi,↓yk,↓xP,↓yo,↓yb,↓ye,↓xI,↓yi,↓xu,↓xX,yJ,Bool.and_true,lnM,wY,↓xW hx,hd]
  | false =>
   rw [h] at hd
   rw [wJ hx h,<- ih,lnM]; simp (disch := first | omega | (simp only [lnA,lnC,lnN,lnM,yO,wY]; omega)) only [↓wZ,xi,↓yk,↓xJ,↓xP,↓yo,↓yb,↓ye,↓xI,↓yi,↓xu,↓xX,yJ,Bool.and_true,wY,↓xW hx,hd,hw]
theorem M8 {c : Cd} (hf : FitsC c) (s : ByteArray) : V 125 [eCd c,.str s] = some (iN (CW c s),[]) := by
 have h := Ld hf.dlen s c.defs.length 0 (Nat.zero_add _)
 rw [wK,Int.natCast_zero] at h
 have h2 : V 178 [.rs (3,0) (c.defs.map eDf),.fn 179 [.bp [.str s]]] = some (iN (CW c s),[]) := by
  rw [Nt]; exact h
 rw [UW]
 simp (disch := first | omega | (simp only [lnA,lnC,lnN,lnM,yO,wY]; omega)) only [↓wZ,xi,↓yo,↓ye,h2]
theorem Ln {l : List Df} (hl : l.length < 4611686018427387904) (s : ByteArray) (p q : List D) : ∀ (k i : Nat),i + k = l.length -> DI s (i : Int) p q (l.map eDf) = some (iN (dQ (fun d : Df => kc d.name s) l i),[])
 | 0,i,hi => by
  rw [Ij,w8 (by omega)]
  simp (disch := first | omega | (simp only [lnA,lnC,lnN,lnM,yO,wY]; omega)) only [↓xJ,yI,lnM,wY]
 | k + 1,i,hi => by
  obtain ⟨x,hx⟩ := xx (l := l) (i := i) (by omega)
  have ih := Ln hl s p q k (i + 1) (by omega)
  have hw : w6 ((i : Int) + 1) = ((i + 1 : Nat) : Int) := yM (by omega)
  rw [Ij]
  cases h : kc x.name s with
  | true => rw [w9 hx h]; simp (disch := first | omega | (simp only [lnA,lnC,lnN,lnM,yO,wY]; omega)) only [↓yk,↓xP,↓yi,↓xu,↓xz,xz,↓xX,yJ,Bool.and_true,lnM,wY,↓xW hx,h]
  | false => rw [wJ hx h,<- ih]; simp (disch := first | omega | (simp only [lnA,lnC,lnN,lnM,yO,wY]; omega)) only [↓yk,↓xJ,↓xP,↓yi,↓xu,↓xz,xz,↓xX,yJ,Bool.and_true,lnM,wY,↓xW hx,h,hw]
theorem Fu {c : Cd} (hf : FitsC c) (s : ByteArray) : V 129 [eCd c,.str s] = some (iN (CW c s),[]) := by
 have h := Ln hf.dlen s (c.pool.map eN) (c.list.map eIn) c.defs.length 0 (Nat.zero_add _)
 rw [wK,Int.natCast_zero] at h
 rw [UZ]
 exact h

def Jq (c : Cd) (x : In) (k : Int) : Bool :=
 if x.op = 1 then wi x.n 0 ((c.pool.length : Int) - 1) && (x.i == 0 && nz x.s)
 else if x.op = 2 then wi x.n 0 20 && (wi x.i 0 3 && nz x.s)
 else if x.op = 3 then x.n == 0 && (x.i == 0 && LH x.s)
 else if x.op = 4 \/ x.op = 5 then wi x.n (k + 1) (c.list.length : Int) && (x.i == 0 && nz x.s)
 else if x.op = 6 then wi x.n (k + 1) ((c.list.length : Int) - 1) && (wi x.i 0 4 && nz x.s)
 else if x.op = 7 then x.n == 0 && (wi x.i 0 4 && nz x.s)
 else if x.op = 8 \/ x.op = 9 then x.n == 0 && (x.i == 0 && nz x.s)
 else false
theorem aaQ (n k h : Int) : wi n (k + 1) h = (decide (n > k) && decide (n <= h)) := by
 unfold wi
 congr 1
theorem aa9 (n k h : Int) : wi n (k + 1) (h - 1) = (decide (n > k) && decide (n < h)) := by
 unfold wi
 congr 1
 exact decide_eq_decide.2 (by omega)
theorem QB {c : Cd} (hf : FitsC c) {k : Nat} {x : In} (hx : c.list[k]? = some x) : V 123 [eCd c,iN (k : Int)] = some (.bool (Jq c x k),[]) := by
 have hk := aQ hx
 have hl := hf.llen
 have hp := hf.plen
 have hs := hf.list x (List.mem_of_getElem? hx)
 rw [QK]
 unfold Jq
 have hnm := Ib hs
 have hnode := Eu hp x.n
 by_cases h1 : x.op = 1
 ·rw [if_pos h1]; simp (disch := first | omega | (simp only [lnA,lnC,lnN,lnM,yO,wY]; omega)) only [↓wZ,xi,↓yk,↓xP,↓yo,↓yb,↓ye,↓xI,↓yi,↓xu,↓xX,yJ,yF,Bool.and_true,lnM,wY,↓xW hx,hnode]; simp only [y8]; rfl
 rw [if_neg h1]
 by_cases h2 : x.op = 2
 ·rw [if_pos h2]; simp (disch := first | omega | (simp only [lnA,lnC,lnN,lnM,yO,wY]; omega)) only [↓wZ,xi,↓yk,↓xJ,↓xP,↓yo,↓yb,↓ye,↓xI,↓yi,↓xu,↓xX,yJ,yF,yE,Bool.and_true,lnM,wY,↓xW hx,zg]; simp only [y8]; rfl
 rw [if_neg h2]
 by_cases h3 : x.op = 3
 ·rw [if_pos h3]; simp (disch := first | omega | (simp only [lnA,lnC,lnN,lnM,yO,wY]; omega)) only [↓wZ,xi,↓yk,↓xJ,↓xP,↓yo,↓yb,↓ye,↓xI,↓yi,↓xu,↓xX,yJ,yF,yE,Bool.and_true,lnM,wY,↓xW hx,hnm]; simp only [y8]
 rw [if_neg h3]
 by_cases h4 : x.op = 4
 ·rw [if_pos (.inl h4)]; simp (disch := first | omega | (simp only [lnA,lnC,lnN,lnM,yO,wY]; omega)) only [↓wZ,xi,↓yk,↓xJ,↓xP,↓yo,↓yb,↓ye,↓xI,↓yi,↓xu,↓xX,yJ,yF,yE,Bool.and_true,lnM,wS,wY,↓xW hx,zg]; simp only [y8]; rfl
 by_cases h5 : x.op = 5
 ·rw [if_pos (.inr h5)]; simp (disch := first | omega | (simp only [lnA,lnC,lnN,lnM,yO,wY]; omega)) only [↓wZ,xi,↓yk,↓xJ,↓xP,↓yo,↓yb,↓ye,↓xI,↓yi,↓xu,↓xX,yJ,yF,yE,Bool.and_true,lnM,wS,wY,↓xW hx,zg]; simp only [y8]; rfl
 rw [if_neg (by omega)]
 by_cases h6 : x.op = 6
 ·rw [if_pos h6]; simp (disch := first | omega | (simp only [lnA,lnC,lnN,lnM,yO,wY]; omega)) only [↓wZ,xi,↓yk,↓xJ,↓xP,↓yo,↓yb,↓ye,↓xI,↓yi,↓xu,↓xX,yJ,yF,yE,Bool.and_true,lnM,wS,wY,↓xW hx,zg]; simp only [y8]; rfl
 rw [if_neg h6]
 by_cases h7 : x.op = 7
 ·rw [if_pos h7]; simp (disch := first | omega | (simp only [lnA,lnC,lnN,lnM,yO,wY]; omega)) only [↓wZ,xi,↓yk,↓xJ,↓xP,↓yo,↓yb,↓ye,↓xI,↓yi,↓xu,↓xX,yJ,yF,yE,Bool.and_true,lnM,wY,↓xW hx,zg]; simp only [y8]; rfl
 rw [if_neg h7]
 by_cases h8 : x.op = 8
 ·rw [if_pos (.inl h8)]; simp (disch := first | omega | (simp only [lnA,lnC,lnN,lnM,yO,wY]; omega)) only [↓yk,↓xJ,↓xP,↓yo,↓yb,↓ye,↓yi,↓xu,↓xX,yJ,yF,yE,Bool.and_true,lnM,wY,↓xW hx]; simp only [y8]; rfl
 by_cases h9 : x.op = 9
 ·rw [if_pos (.inr h9)]; simp (disch := first | omega | (simp only [lnA,lnC,lnN,lnM,yO,wY]; omega)) only [↓yk,↓xJ,↓xP,↓yo,↓yb,↓ye,↓yi,↓xu,↓xX,yJ,yF,yE,Bool.and_true,lnM,wY,↓xW hx]; simp only [y8]; rfl
 rw [if_neg (by omega)]
 simp (disch := first | omega | (simp only [lnA,lnC,lnN,lnM,yO,wY]; omega)) only [↓xJ,↓xP,↓yo,↓yb,↓ye,↓yi,↓xu,↓xX,yJ,yE,Bool.and_true,lnM,wY,↓xW hx]
theorem Za {c : Cd} (hf : FitsC c) {k : Nat} {x : In} (hx : c.list[k]? = some x) : V 127 [eCd c,iN (k : Int)] = some (.bool (Jq c x k),[]) := by
 have hk := aQ hx
 have hl := hf.llen
 have hp := hf.plen
 have hs := hf.list x (List.mem_of_getElem? hx)
 have hself : kc x.s x.s = true := by rw [BH]; simp
 rw [QU]
 unfold Jq
 have hnm := DW hs
 have hnode := Fq hp x.n
 by_cases h1 : x.op = 1
 ·rw [if_pos h1]; simp (disch := first | omega | (simp only [lnA,lnC,lnN,lnM,yO,wY]; omega)) only [↓wZ,xi,↓yk,↓xP,↓yo,↓yb,↓ye,↓xI,↓yi,↓xu,↓xX,yJ,yF,Bool.true_and,Bool.and_true,lnM,wY,↓xW hx,hnode]; simp only [y8]
  show some (D.bool (_ && nz x.s && _),_) = _
  cases wi x.n 0 ((c.pool.length : Int) - 1) <;> cases x.i == 0 <;> cases nz x.s <;> rfl
 rw [if_neg h1]
 by_cases h2 : x.op = 2
 ·rw [if_pos h2]; simp (disch := first | omega | (simp only [lnA,lnC,lnN,lnM,yO,wY]; omega)) only [↓wZ,xi,↓yk,↓xJ,↓xP,↓yo,↓yb,↓ye,↓xI,↓yi,↓xu,↓xX,yJ,yF,yE,Bool.and_true,lnM,wY,↓xW hx,Ae]; simp only [y8]
  show some (D.bool (nz x.s && _),_) = _
  cases wi x.n 0 20 <;> cases wi x.i 0 3 <;> cases nz x.s <;> rfl
 rw [if_neg h2]
 by_cases h3 : x.op = 3
 ·rw [if_pos h3]; simp (disch := first | omega | (simp only [lnA,lnC,lnN,lnM,yO,wY]; omega)) only [↓wZ,xi,↓yk,↓xJ,↓xP,↓yo,↓yb,↓ye,↓xI,↓yi,↓xu,↓xX,yJ,yF,yE,Bool.true_and,Bool.and_true,lnM,wY,↓xW hx,hnm,hself]; simp only [y8]
  cases x.n == 0 <;> cases x.i == 0 <;> cases LH x.s <;> rfl
 rw [if_neg h3]
 by_cases h4 : x.op = 4
 ·rw [if_pos (.inl h4),aaQ]; simp (disch := first | omega | (simp only [lnA,lnC,lnN,lnM,yO,wY]; omega)) only [↓yk,↓xJ,↓xP,↓yo,↓yb,↓ye,↓yi,↓xu,↓xX,yJ,yF,yE,Bool.true_and,Bool.and_true,lnM,wY,↓xW hx]; simp only [y8]
  show some (D.bool (_ && nz x.s && _),_) = _
  cases decide (x.n > (k : Int)) <;> cases decide (x.n <= (c.list.length : Int)) <;> cases x.i == 0 <;> cases nz x.s <;> rfl
 by_cases h5 : x.op = 5
 ·rw [if_pos (.inr h5),aaQ]; simp (disch := first | omega | (simp only [lnA,lnC,lnN,lnM,yO,wY]; omega)) only [↓yk,↓xJ,↓xP,↓yo,↓yb,↓ye,↓yi,↓xu,↓xX,yJ,yF,yE,Bool.true_and,Bool.and_true,lnM,wY,↓xW hx]; simp only [y8]
  show some (D.bool (_ && nz x.s && _),_) = _
  cases decide (x.n > (k : Int)) <;> cases decide (x.n <= (c.list.length : Int)) <;> cases x.i == 0 <;> cases nz x.s <;> rfl
 rw [if_neg (by omega)]
 by_cases h6 : x.op = 6
 ·rw [if_pos h6,aa9]; simp (disch := first | omega | (simp only [lnA,lnC,lnN,lnM,yO,wY]; omega)) only [↓wZ,xi,↓yk,↓xJ,↓xP,↓yo,↓yb,↓ye,↓xI,↓yi,↓xu,↓xX,yJ,yF,yE,Bool.and_true,lnM,wY,↓xW hx,Ae]; simp only [y8]
  show some (D.bool (nz x.s && _),_) = _
  cases decide (x.n > (k : Int)) <;> cases decide (x.n < (c.list.length : Int)) <;> cases wi x.i 0 4 <;> cases nz x.s <;> rfl
 rw [if_neg h6]
 by_cases h7 : x.op = 7
 ·rw [if_pos h7]; simp (disch := first | omega | (simp only [lnA,lnC,lnN,lnM,yO,wY]; omega)) only [↓wZ,xi,↓yk,↓xJ,↓xP,↓yo,↓yb,↓ye,↓xI,↓yi,↓xu,↓xX,yJ,yF,yE,Bool.true_and,Bool.and_true,lnM,wY,↓xW hx,Ae]; simp only [y8]
  show some (D.bool (_ && nz x.s && _),_) = _
  cases x.n == 0 <;> cases wi x.i 0 4 <;> cases nz x.s <;> rfl
 rw [if_neg h7]
 by_cases h8 : x.op = 8
 ·rw [if_pos (.inl h8)]; simp (disch := first | omega | (simp only [lnA,lnC,lnN,lnM,yO,wY]; omega)) only [↓yk,↓xJ,↓xP,↓yo,↓yb,↓ye,↓yi,↓xu,↓xX,yJ,yF,yE,Bool.true_and,Bool.and_true,lnM,wY,↓xW hx]; rfl
 by_cases h9 : x.op = 9
 ·rw [if_pos (.inr h9)]; simp (disch := first | omega | (simp only [lnA,lnC,lnN,lnM,yO,wY]; omega)) only [↓yk,↓xJ,↓xP,↓yo,↓yb,↓ye,↓yi,↓xu,↓xX,yJ,yF,yE,Bool.true_and,Bool.and_true,lnM,wY,↓xW hx]; rfl
 rw [if_neg (by omega)]
 simp (disch := first | omega | (simp only [lnA,lnC,lnN,lnM,yO,wY]; omega)) only [↓xJ,↓xP,↓yo,↓yb,↓ye,↓yi,↓xu,↓xX,yJ,yE,Bool.and_true,lnM,wY,↓xW hx]

def Ej (c : Cd) : Nat -> Nat -> Bool
 | _,0 => true
 | i,k + 1 => (match c.list[i]? with | some x => Jq c x i | none => true) && Ej c (i + 1) k
def VU (c : Cd) (d : Df) (i : Int) : Bool := LH d.name && (CW c d.name == i && (wi d.at' 0 ((c.list.length : Int) - 1) && wi d.args 0 4))
def Cx (c : Cd) : Nat -> Nat -> Bool
 | _,0 => true
 | i,k + 1 => (match c.defs[i]? with | some d => VU c d i | none => true) && Cx c (i + 1) k
def zy (c : Cd) : Bool := yU c.pool && (decide (c.list.length <= 400) && (decide (c.defs.length <= 20) && (Ej c 0 c.list.length && Cx c 0 c.defs.length)))
theorem JW {c : Cd} (hf : FitsC c) : ∀ (k i : Nat),i + k = c.defs.length -> CJ (c.defs.map eDf) (ni (c.defs.map eDf).length) (i : Int) (c.pool.map eN) (c.list.map eIn) (c.defs.map eDf) = some (.bool (Cx c i k),[])
 | 0,i,hi => by
  have hd := hf.dlen
  rw [FA]
  simp (disch := first | omega | (simp only [lnA,lnC,lnN,lnM,yO,wY]; omega)) only [↓xJ,yI,lnM,wY]
  rfl
 | k + 1,i,hi => by
  have hd := hf.dlen
  have hll := hf.llen
  obtain ⟨x,hx⟩ := xx (l := c.defs) (i := i) (by omega)
  have ih := JW hf k (i + 1) (by omega)
  rw [lnM] at ih
  have hw : w6 ((i : Int) + 1) = ((i + 1 : Nat) : Int) := yM (by omega)
  have hdf := M8 hf x.name
  have hnm := Ib (hf.defs x (List.mem_of_getElem? hx))
  rw [FA]
  simp only [Cx,hx,VU]
  cases e1 : LH x.name with
  | false => rw [e1] at hnm; simp (disch := first | omega | (simp only [lnA,lnC,lnN,lnM,yO,wY]; omega)) only [↓wZ,xi,↓yk,↓xP,↓yo,↓yb,↓ye,↓xI,↓yi,↓xu,↓xX,yJ,Bool.and_true,Bool.false_and,Bool.not_false,lnM,wY,↓xW hx,hnm]
  | true =>
   rw [e1] at hnm
   by_cases e2 : CW c x.name = (i : Int)
   ·rw [e2] at hdf
    simp (disch := first | omega | (simp only [lnA,lnC,lnN,lnM,yO,wY]; omega)) only [↓wZ,xi,↓yk,↓xJ,↓xP,↓yo,↓yb,↓ye,↓xI,↓yi,↓xu,↓xX,yJ,yF,yG,Bool.true_and,Bool.and_true,Bool.not_true,lnM,wS,wY,↓xW hx,hnm,hdf,e2,zg,hw,ih]
    cases wi x.at' 0 ((c.list.length : Int) - 1) <;> cases wi x.args 0 4 <;> rfl
   ·simp (disch := first | omega | (simp only [lnA,lnC,lnN,lnM,yO,wY]; omega)) only [↓wZ,xi,↓yk,↓xJ,↓xP,↓yo,↓yb,↓ye,↓xI,↓yi,↓xu,↓xX,yJ,yE,yH,Bool.and_true,Bool.false_and,Bool.and_false,Bool.not_true,lnM,wY,↓xW hx,hnm,hdf]
theorem Kj {c : Cd} (hf : FitsC c) : ∀ (k i : Nat),i + k = c.defs.length -> Di (i : Int) (c.pool.map eN) (c.list.map eIn) (c.defs.map eDf) = some (.bool (Cx c i k),[])
 | 0,i,hi => by
  have hd := hf.dlen
  rw [Gy]
  simp (disch := first | omega | (simp only [lnA,lnC,lnN,lnM,yO,wY]; omega)) only [↓xJ,yI,lnM,wY]
  rfl
 | k + 1,i,hi => by
  have hd := hf.dlen
  have hll := hf.llen
  obtain ⟨x,hx⟩ := xx (l := c.defs) (i := i) (by omega)
  have ih := Kj hf k (i + 1) (by omega)
  have hw : w6 ((i : Int) + 1) = ((i + 1 : Nat) : Int) := yM (by omega)
  have hdf := Fu hf x.name
  have hnm := DW (hf.defs x (List.mem_of_getElem? hx))
  rw [Gy]
  simp only [Cx,hx,VU]
  cases e1 : LH x.name with
  | false => rw [e1] at hnm; simp (disch := first | omega | (simp only [lnA,lnC,lnN,lnM,yO,wY]; omega)) only [↓wZ,xi,↓yk,↓xP,↓yo,↓yb,↓ye,↓xI,↓yi,↓xu,↓xX,yJ,Bool.and_true,Bool.false_and,Bool.not_false,lnM,wY,↓xW hx,hnm]
  | true =>
   rw [e1] at hnm
   by_cases e2 : CW c x.name = (i : Int)
   ·rw [e2] at hdf
    simp (disch := first | omega | (simp only [lnA,lnC,lnN,lnM,yO,wY]; omega)) only [↓wZ,xi,↓yk,↓xJ,↓xP,↓yo,↓yb,↓ye,↓xI,↓yi,↓xu,↓xX,yJ,yF,yG,Bool.true_and,Bool.and_true,Bool.not_true,lnM,wS,wY,↓xW hx,hnm,hdf,e2,Ae,hw,ih]
    cases wi x.at' 0 ((c.list.length : Int) - 1) <;> cases wi x.args 0 4 <;> rfl
   ·simp (disch := first | omega | (simp only [lnA,lnC,lnN,lnM,yO,wY]; omega)) only [↓wZ,xi,↓yk,↓xJ,↓xP,↓yo,↓yb,↓ye,↓xI,↓yi,↓xu,↓xX,yJ,yE,yH,Bool.and_true,Bool.false_and,Bool.and_false,Bool.not_true,lnM,wY,↓xW hx,hnm,hdf]
theorem Lf {c : Cd} (hf : FitsC c) : ∀ (k i : Nat),i + k = c.list.length -> Dc (ni (c.list.map eIn).length) (i : Int) (c.pool.map eN) (c.list.map eIn) (c.defs.map eDf) = some (.bool (Ej c i k && Cx c 0 c.defs.length),[])
 | 0,i,hi => by
  have hll := hf.llen
  have h := JW hf c.defs.length 0 (Nat.zero_add _)
  rw [Int.natCast_zero,lnM] at h
  rw [Gt]
  simp (disch := first | omega | (simp only [lnA,lnC,lnN,lnM,yO,wY]; omega)) only [↓xJ,yI,lnM,wY,h]
  rfl
 | k + 1,i,hi => by
  have hll := hf.llen
  obtain ⟨x,hx⟩ := xx (l := c.list) (i := i) (by omega)
  have ih := Lf hf k (i + 1) (by omega)
  rw [lnM] at ih
  have hw : w6 ((i : Int) + 1) = ((i + 1 : Nat) : Int) := yM (by omega)
  have hi := QB hf hx
  rw [Gt]
  simp only [Ej,hx]
  cases e1 : Jq c x i with
  | false => rw [e1] at hi; simp (disch := first | omega | (simp only [lnA,lnC,lnN,lnM,yO,wY]; omega)) only [↓wZ,xi,↓yk,↓yo,↓xI,yJ,Bool.false_and,Bool.not_false,lnM,wY,hi]
  | true => rw [e1] at hi; simp (disch := first | omega | (simp only [lnA,lnC,lnN,lnM,yO,wY]; omega)) only [↓wZ,xi,↓yk,↓xJ,↓yo,↓xI,yJ,Bool.true_and,Bool.not_true,lnM,wY,hi,hw,ih]
theorem Lp {c : Cd} (hf : FitsC c) : ∀ (k i : Nat),i + k = c.list.length -> Dh (i : Int) (c.pool.map eN) (c.list.map eIn) (c.defs.map eDf) = some (.bool (Ej c i k && Cx c 0 c.defs.length),[])
 | 0,i,hi => by
  have hll := hf.llen
  have h := Kj hf c.defs.length 0 (Nat.zero_add _)
  rw [Int.natCast_zero] at h
  rw [Gx]
  simp (disch := first | omega | (simp only [lnA,lnC,lnN,lnM,yO,wY]; omega)) only [↓xJ,yI,lnM,wY,h]
  rfl
 | k + 1,i,hi => by
  have hll := hf.llen
  obtain ⟨x,hx⟩ := xx (l := c.list) (i := i) (by omega)
  have ih := Lp hf k (i + 1) (by omega)
  have hw : w6 ((i : Int) + 1) = ((i + 1 : Nat) : Int) := yM (by omega)
  have hi := Za hf hx
  rw [Gx]
  simp only [Ej,hx]
  cases e1 : Jq c x i with
  | false => rw [e1] at hi; simp (disch := first | omega | (simp only [lnA,lnC,lnN,lnM,yO,wY]; omega)) only [↓wZ,xi,↓yk,↓yo,↓xI,yJ,Bool.false_and,Bool.not_false,lnM,wY,hi]
  | true => rw [e1] at hi; simp (disch := first | omega | (simp only [lnA,lnC,lnN,lnM,yO,wY]; omega)) only [↓wZ,xi,↓yk,↓xJ,↓yo,↓xI,yJ,Bool.true_and,Bool.not_true,lnM,wY,hi,hw,ih]
theorem Rf {c : Cd} (hf : FitsC c) : V 54 [eCd c] = some (.bool (zy c),[]) := by
 have hp := DU hf.pool hf.plen
 have h := Lf hf c.list.length 0 (Nat.zero_add _)
 rw [Int.natCast_zero,lnM] at h
 rw [SA]
 unfold zy
 cases e1 : yU c.pool with
 | false => rw [e1] at hp; simp (disch := first | omega | (simp only [lnA,lnC,lnN,lnM,yO,wY]; omega)) only [↓wZ,xi,↓yk,↓yo,↓xI,Bool.false_and,Bool.not_false,hp]
 | true =>
  rw [e1] at hp
  by_cases e2 : c.list.length <= 400
  ·by_cases e3 : c.defs.length <= 20
   ·simp (disch := first | omega | (simp only [lnA,lnC,lnN,lnM,yO,wY]; omega)) only [↓wZ,xi,↓xJ,↓yo,↓xI,yJ,yI,Bool.true_and,Bool.not_true,lnM,wY,hp,h]
   ·simp (disch := first | omega | (simp only [lnA,lnC,lnN,lnM,yO,wY]; omega)) only [↓wZ,xi,↓yk,↓xJ,↓yo,↓xI,yJ,yI,Bool.false_and,Bool.and_false,Bool.not_true,lnM,wY,hp]
  ·simp (disch := first | omega | (simp only [lnA,lnC,lnN,lnM,yO,wY]; omega)) only [↓wZ,xi,↓yk,↓xJ,↓yo,↓xI,yJ,yI,Bool.false_and,Bool.and_false,Bool.not_true,lnM,wY,hp]
theorem DV {c : Cd} (hf : FitsC c) : V 59 [eCd c] = some (.bool (zy c),[]) := by
 have hp := z8 hf.pool hf.plen
 have h := Lp hf c.list.length 0 (Nat.zero_add _)
 rw [Int.natCast_zero] at h
 rw [SP]
 unfold zy
 cases e1 : yU c.pool with
 | false => rw [e1] at hp; simp (disch := first | omega | (simp only [lnA,lnC,lnN,lnM,yO,wY]; omega)) only [↓wZ,xi,↓yk,↓yo,↓xI,Bool.false_and,Bool.not_false,hp]
 | true =>
  rw [e1] at hp
  by_cases e2 : c.list.length <= 400
  ·by_cases e3 : c.defs.length <= 20
   ·simp (disch := first | omega | (simp only [lnA,lnC,lnN,lnM,yO,wY]; omega)) only [↓wZ,xi,↓xJ,↓yo,↓xI,yJ,yI,Bool.true_and,Bool.not_true,lnM,wY,hp,h]
   ·simp (disch := first | omega | (simp only [lnA,lnC,lnN,lnM,yO,wY]; omega)) only [↓wZ,xi,↓yk,↓xJ,↓yo,↓xI,yJ,yI,Bool.false_and,Bool.and_false,Bool.not_true,lnM,wY,hp]
  ·simp (disch := first | omega | (simp only [lnA,lnC,lnN,lnM,yO,wY]; omega)) only [↓wZ,xi,↓yk,↓xJ,↓yo,↓xI,yJ,yI,Bool.false_and,Bool.and_false,Bool.not_true,lnM,wY,hp]

structure Mc where
 pool : List Nd
 at' : Int
 s : Int
 e : Int
 d : Int
 state : Int
 ask : Int
 arg : Int
abbrev eMc (m : Mc) : D := .agg [.rs (5,0) (m.pool.map eN),iN m.at',iN m.s,iN m.e,iN m.d,iN m.state,iN m.ask,iN m.arg]
abbrev oMc (m : Mc) : D := .agg [.os (5,0) (m.pool.map eN),iN m.at',iN m.s,iN m.e,iN m.d,iN m.state,iN m.ask,iN m.arg]
def Gb (p : List Nd) (v : Int) : Bool := wi v 0 ((p.length : Int) - 1)
def JN (c : Cd) (m : Mc) : Bool :=
 if m.state = 0 then wi m.at' 0 ((c.list.length : Int) - 1) && (m.ask == 0 && m.arg == 0)
 else if m.state = 1 then wi m.at' 0 ((c.list.length : Int) - 1) && (wi m.ask 13 19 && ((m.ask != 18) && Gb m.pool m.arg))
 else if m.state = 2 then m.at' == 0 && (m.ask == 0 && Gb m.pool m.arg)
 else if m.state = 3 then m.at' == 0 && (wi m.ask 1 7 && m.arg == 0)
 else false
def Bm (c : Cd) (m : Mc) : Bool := zy c && (yU m.pool && (Gb m.pool m.s && (Gb m.pool m.e && (Gb m.pool m.d && JN c m))))
theorem Sb {c : Cd} (hl : c.list.length < 4611686018427387904) (n : Int) : V 57 [eCd c,iN n] = some (.bool (wi n 0 ((c.list.length : Int) - 1)),[]) := by
 rw [QL]
 simp (disch := first | omega | (simp only [lnA,lnC,lnN,lnM,yO,wY]; omega)) only [↓wZ,xi,↓yo,↓xI,lnM,wS,wY,zg]
theorem IY {c : Cd} (hf : FitsC c) {m : Mc} (hm : z9 m.pool) (hl : m.pool.length < 4611686018427387904) : V 14 [eCd c,eMc m] = some (.bool (Bm c m),[]) := by
 have hc := Rf hf
 have hp := DU hm hl
 have h1 := Eu hl m.s
 have h2 := Eu hl m.e
 have h3 := Eu hl m.d
 have h4 := Eu hl m.arg
 have h5 := Sb hf.llen m.at'
 rw [OJ]
 unfold Bm Gb
 cases e1 : zy c with
 | false => rw [e1] at hc; simp (disch := first | omega | (simp only [lnA,lnC,lnN,lnM,yO,wY]; omega)) only [↓wZ,xi,↓yk,↓yo,↓xI,Bool.false_and,Bool.not_false,hc]
 | true =>
 rw [e1] at hc
 cases e2 : yU m.pool with
 | false => rw [e2] at hp; simp (disch := first | omega | (simp only [lnA,lnC,lnN,lnM,yO,wY]; omega)) only [↓wZ,xi,↓yk,↓xJ,↓yo,↓xI,Bool.false_and,Bool.and_false,Bool.not_true,Bool.not_false,hc,hp]
 | true =>
 rw [e2] at hp
 cases e3 : wi m.s 0 ((m.pool.length : Int) - 1) with
 | false => rw [e3] at h1; simp (disch := first | omega | (simp only [lnA,lnC,lnN,lnM,yO,wY]; omega)) only [↓wZ,xi,↓yk,↓xJ,↓yo,↓xI,Bool.false_and,Bool.and_false,Bool.not_true,Bool.not_false,hc,hp,h1]
 | true =>
 rw [e3] at h1
 cases e4 : wi m.e 0 ((m.pool.length : Int) - 1) with
 | false => rw [e4] at h2; simp (disch := first | omega | (simp only [lnA,lnC,lnN,lnM,yO,wY]; omega)) only [↓wZ,xi,↓yk,↓xJ,↓yo,↓xI,Bool.false_and,Bool.and_false,Bool.not_true,Bool.not_false,hc,hp,h1,h2]
 | true =>
 rw [e4] at h2
 cases e5 : wi m.d 0 ((m.pool.length : Int) - 1) with
 | false => rw [e5] at h3; simp (disch := first | omega | (simp only [lnA,lnC,lnN,lnM,yO,wY]; omega)) only [↓wZ,xi,↓yk,↓xJ,↓yo,↓xI,Bool.false_and,Bool.and_false,Bool.not_true,Bool.not_false,hc,hp,h1,h2,h3]
 | true =>
 rw [e5] at h3
 unfold JN Gb
 by_cases s0 : m.state = 0
 ·rw [if_pos s0]; simp (disch := first | omega | (simp only [lnA,lnC,lnN,lnM,yO,wY]; omega)) only [↓wZ,xi,↓yk,↓xJ,↓yo,↓xI,yF,Bool.true_and,Bool.not_true,hc,hp,h1,h2,h3,h5]; simp only [y8]
 rw [if_neg s0]
 by_cases s1 : m.state = 1
 ·rw [if_pos s1]; simp (disch := first | omega | (simp only [lnA,lnC,lnN,lnM,yO,wY]; omega)) only [↓wZ,xi,↓yk,↓xJ,↓yo,↓xI,yF,yE,Bool.true_and,Bool.not_true,hc,hp,h1,h2,h3,h4,h5,zg]; simp only [y8]
 rw [if_neg s1]
 by_cases s2 : m.state = 2
 ·rw [if_pos s2]; simp (disch := first | omega | (simp only [lnA,lnC,lnN,lnM,yO,wY]; omega)) only [↓wZ,xi,↓yk,↓xJ,↓yo,↓xI,yF,yE,Bool.true_and,Bool.not_true,hc,hp,h1,h2,h3,h4]; simp only [y8]
 rw [if_neg s2]
 by_cases s3 : m.state = 3
 ·rw [if_pos s3]; simp (disch := first | omega | (simp only [lnA,lnC,lnN,lnM,yO,wY]; omega)) only [↓wZ,xi,↓yk,↓xJ,↓yo,↓xI,yF,yE,Bool.true_and,Bool.not_true,hc,hp,h1,h2,h3,zg]; simp only [y8]
 rw [if_neg s3]
 simp (disch := first | omega | (simp only [lnA,lnC,lnN,lnM,yO,wY]; omega)) only [↓wZ,xi,↓xJ,↓yo,↓xI,yE,Bool.and_false,Bool.not_true,hc,hp,h1,h2,h3]
theorem B9 {c : Cd} (hf : FitsC c) {m : Mc} (hm : z9 m.pool) (hl : m.pool.length < 4611686018427387904) : V 15 [eCd c,eMc m] = some (.bool (Bm c m),[]) := by
 have hll := hf.llen
 have hc := DV hf
 have hp := z8 hm hl
 have h1 := Fq hl m.s
 have h2 := Fq hl m.e
 have h3 := Fq hl m.d
 have h4 := Fq hl m.arg
 rw [OZ]
 unfold Bm Gb
 cases e1 : zy c with
 | false => rw [e1] at hc; simp (disch := first | omega | (simp only [lnA,lnC,lnN,lnM,yO,wY]; omega)) only [↓wZ,xi,↓yk,↓yo,↓xI,Bool.false_and,Bool.not_false,hc]
 | true =>
 rw [e1] at hc
 cases e2 : yU m.pool with
 | false => rw [e2] at hp; simp (disch := first | omega | (simp only [lnA,lnC,lnN,lnM,yO,wY]; omega)) only [↓wZ,xi,↓yk,↓xJ,↓yo,↓xI,Bool.false_and,Bool.and_false,Bool.not_true,Bool.not_false,hc,hp]
 | true =>
 rw [e2] at hp
 cases e3 : wi m.s 0 ((m.pool.length : Int) - 1) with
 | false => rw [e3] at h1; simp (disch := first | omega | (simp only [lnA,lnC,lnN,lnM,yO,wY]; omega)) only [↓wZ,xi,↓yk,↓xJ,↓yo,↓xI,Bool.false_and,Bool.and_false,Bool.not_true,Bool.not_false,hc,hp,h1]
 | true =>
 rw [e3] at h1
 cases e4 : wi m.e 0 ((m.pool.length : Int) - 1) with
 | false => rw [e4] at h2; simp (disch := first | omega | (simp only [lnA,lnC,lnN,lnM,yO,wY]; omega)) only [↓wZ,xi,↓yk,↓xJ,↓yo,↓xI,Bool.false_and,Bool.and_false,Bool.not_true,Bool.not_false,hc,hp,h1,h2]
 | true =>
 rw [e4] at h2
 cases e5 : wi m.d 0 ((m.pool.length : Int) - 1) with
 | false => rw [e5] at h3; simp (disch := first | omega | (simp only [lnA,lnC,lnN,lnM,yO,wY]; omega)) only [↓wZ,xi,↓yk,↓xJ,↓yo,↓xI,Bool.false_and,Bool.and_false,Bool.not_true,Bool.not_false,hc,hp,h1,h2,h3]
 | true =>
 rw [e5] at h3
 unfold JN Gb
 by_cases s0 : m.state = 0
 ·rw [if_pos s0]; simp (disch := first | omega | (simp only [lnA,lnC,lnN,lnM,yO,wY]; omega)) only [↓wZ,xi,↓yk,↓xJ,↓yo,↓xI,yF,Bool.true_and,Bool.not_true,lnM,wS,wY,hc,hp,h1,h2,h3,Ae]; simp only [y8]
 rw [if_neg s0]
 by_cases s1 : m.state = 1
 ·rw [if_pos s1]; simp (disch := first | omega | (simp only [lnA,lnC,lnN,lnM,yO,wY]; omega)) only [↓wZ,xi,↓yk,↓xJ,↓yo,↓xI,yF,yE,Bool.true_and,Bool.not_true,lnM,wS,wY,hc,hp,h1,h2,h3,h4,Ae]; simp only [y8]
 rw [if_neg s1]
 by_cases s2 : m.state = 2
 ·rw [if_pos s2]; simp (disch := first | omega | (simp only [lnA,lnC,lnN,lnM,yO,wY]; omega)) only [↓wZ,xi,↓yk,↓xJ,↓yo,↓xI,yF,yE,Bool.true_and,Bool.not_true,lnM,wS,wY,hc,hp,h1,h2,h3,h4,Ae]; simp only [y8]
 rw [if_neg s2]
 by_cases s3 : m.state = 3
 ·rw [if_pos s3]; simp (disch := first | omega | (simp only [lnA,lnC,lnN,lnM,yO,wY]; omega)) only [↓wZ,xi,↓yk,↓xJ,↓yo,↓xI,yF,yE,Bool.true_and,Bool.not_true,lnM,wS,wY,hc,hp,h1,h2,h3,Ae]; simp only [y8]
 rw [if_neg s3]
 simp (disch := first | omega | (simp only [lnA,lnC,lnN,lnM,yO,wY]; omega)) only [↓wZ,xi,↓xJ,↓yo,↓xI,yE,Bool.and_false,Bool.not_true,lnM,wS,wY,hc,hp,h1,h2,h3,Ae]
end
end Go.Eng
/-! numbers and texts as bytes,on both sides -/
namespace Go.Eng
open Go.Proofs Go.Proofs.Tryz

end Go.Eng
/-! how great a value is,the program's side -/
namespace Go.Eng
open Go.Proofs Go.Proofs.Tryz

end Go.Eng
/-! what is moved is as it was: the plain side -/
namespace Go.Eng

noncomputable def y2 (p : List Nd) : Prop := ∀ (j : Nat) (x : Nd),p[j]? = some x -> okN x j = true
theorem RQ {p : List Nd} (h : y2 p) : ∀ (k i : Nat),GZ p i k = true
 | 0,i => rfl
 | k + 1,i => by
  simp only [GZ,RQ h k (i + 1),Bool.and_true]
  split
  ·exact h _ _ ‹_›
  ·rfl
theorem okPool_iff {p : List Nd} : yU p = true ↔ y2 p /\ p.length <= 3000 := by
 constructor
 ·intro h; exact ⟨fun j x hx => CQ h hx,y5 h⟩
 ·rintro ⟨h,hl⟩
  simp only [yU,RQ h,Bool.true_and,decide_eq_true_eq]; omega
noncomputable def Zl (q q' : List Nd) (m : List Bool) (to : List Int) : Prop := ∀ (i : Nat) (x : Nd),q[i]? = some x -> m[i]? = some true -> ∃ j : Nat,to[i]? = some (j : Int) /\ q'[j]? = some (y3 to x)
theorem PZ {pre r : List Int} {x : Nd} {i : Nat} (ho : okN x i = true) (hp : i <= pre.length) : y3 (pre ++ r) x = y3 pre x := by
 have g : ∀ n : Int,0 <= n -> n < i -> (pre ++ r).getD n.toNat 0 = pre.getD n.toNat 0 := by
  intro n h0 h1
  simp only [List.getD_eq_getElem?_getD]
  rw [List.getElem?_append_left (by omega)]
 unfold y3
 split
 ·rename_i h5
  have := z5 ho h5
  rw [g _ (by omega) (by omega),g _ (by omega) (by omega)]
 ·split
  ·rename_i h6
   have := Ai ho h6
   rw [g _ (by omega) (by omega)]
  ·rfl
theorem YP {pre : List Int} {x : Nd} {i h : Nat} (ho : okN x i = true) (h5 : x.kind = 5 -> ∃ a b : Nat,pre[x.a.toNat]? = some (a : Int) /\ pre[x.b.toNat]? = some (b : Int) /\ a < h /\ b < h)
  (h6 : x.kind = 6 \/ x.kind = 7 -> ∃ a : Nat,pre[x.a.toNat]? = some (a : Int) /\ a < h) : okN (y3 pre x) h = true := by
 by_cases k5 : x.kind = 5
 ·obtain ⟨a,b,ha,hb,h1,h2⟩ := h5 k5
  simp only [y3,k5,if_true,List.getD_eq_getElem?_getD,ha,hb,Option.getD_some]
  simp [okN,k5] at ho ⊢
  exact ⟨ho.1,ho.2.1,wi_iff.2 ⟨by omega,by omega⟩,wi_iff.2 ⟨by omega,by omega⟩⟩
 ·by_cases k6 : x.kind = 6 \/ x.kind = 7
  ·obtain ⟨a,ha,h1⟩ := h6 k6
   simp only [y3,k5,k6,if_true,if_false,List.getD_eq_getElem?_getD,ha,Option.getD_some]
   rcases k6 with k6 | k6
   ·simp [okN,k6] at ho ⊢; exact ⟨ho.1,ho.2.1,wi_iff.2 ⟨by omega,by omega⟩,ho.2.2.2⟩
   ·simp [okN,k6] at ho ⊢; exact ⟨ho.1,ho.2.1,wi_iff.2 ⟨by omega,by omega⟩,ho.2.2.2⟩
  ·have k6' : ¬ x.kind = 6 := fun h => k6 (.inl h)
   have k7' : ¬ x.kind = 7 := fun h => k6 (.inr h)
   simp only [y3,k5,k6,if_false]
   simp only [okN,k5,k6',k7',if_false] at ho ⊢
   exact ho
theorem PW {q : List Nd} (hq : y2 q) {m : List Bool} (hm : m.length = q.length) (hc : WK q m) (d : Int) : ∀ (k : Nat) (pre : List Int) (acc : List Nd),pre.length + k = q.length -> y2 acc ->
  (∀ (i : Nat) (x : Nd),i < pre.length -> q[i]? = some x -> m[i]? = some true -> ∃ j : Nat,pre[i]? = some (j : Int) /\ acc[j]? = some (y3 pre x)) ->
  y2 (AA d q m k pre acc).2 /\ Zl q (AA d q m k pre acc).2 m (AA d q m k pre acc).1
 | 0,pre,acc,hk,ha,hi => by
  simp only [AA]
  exact ⟨ha,fun i x hx hmi => hi i x (by have := aQ hx; omega) hx hmi⟩
 | k + 1,pre,acc,hk,ha,hi => by
  obtain ⟨x,hx⟩ := xx (l := q) (i := pre.length) (by omega)
  obtain ⟨b,hb⟩ := xx (l := m) (i := pre.length) (by omega)
  simp only [AA,hx,hb]
  have hox := hq _ _ hx
  have old : ∀ (u : Int) (acc' : List Nd),(∀ (j : Nat) (y : Nd),acc[j]? = some y -> acc'[j]? = some y) -> ∀ (i : Nat) (y : Nd),i < pre.length -> q[i]? = some y -> m[i]? = some true -> ∃ j : Nat,(pre ++ [u])[i]? = some (j : Int) /\ acc'[j]? = some (y3 (pre ++ [u]) y) := by
   intro u acc' hacc i y hil hy hmi
   obtain ⟨j,h1,h2⟩ := hi i y hil hy hmi
   refine ⟨j,by rw [List.getElem?_append_left hil]; exact h1,?_⟩
   rw [PZ (hq _ _ hy) (by omega)]
   exact hacc _ _ h2
  cases b with
  | false =>
   refine PW hq hm hc d k (pre ++ [d]) acc (by simp; omega) ha ?_
   intro i y hil hy hmi
   by_cases e : i = pre.length
   ·subst e; rw [hb] at hmi; cases hmi
   ·exact old d acc (fun _ _ h => h) i y (by simp at hil; omega) hy hmi
  | true =>
   have hcx := hc _ _ hx hb
   have kid : ∀ n : Int,On m n -> 0 <= n -> n < pre.length -> ∃ a : Nat,pre[n.toNat]? = some (a : Int) /\ a < acc.length := by
    intro n hn h0 h1
    obtain ⟨y,hy⟩ := xx (l := q) (i := n.toNat) (by omega)
    obtain ⟨j,h2,h3⟩ := hi n.toNat y (by omega) hy hn
    exact ⟨j,h2,aQ h3⟩
   have hok : okN (y3 pre x) acc.length = true := YP hox
    (fun h5 => by
     have h := z5 hox h5
     obtain ⟨a,ha1,ha2⟩ := kid x.a (hcx.1 h5).1 h.1 h.2.1
     obtain ⟨b,hb1,hb2⟩ := kid x.b (hcx.1 h5).2 h.2.2.1 h.2.2.2
     exact ⟨a,b,ha1,hb1,ha2,hb2⟩)
    (fun h6 => by
     have h := Ai hox h6
     exact kid x.a (hcx.2 h6) h.1 h.2)
   have ha' : y2 (acc ++ [y3 pre x]) := by
    intro j y hy
    by_cases e : j < acc.length
    ·rw [List.getElem?_append_left e] at hy; exact ha j y hy
    ·have hl := aQ hy
     have : j = acc.length := by simp at hl; omega
     subst this
     simp at hy; subst hy; exact hok
   refine PW hq hm hc d k (pre ++ [(acc.length : Int)]) (acc ++ [y3 pre x]) (by simp; omega) ha' ?_
   intro i y hil hy hmi
   by_cases e : i = pre.length
   ·subst e; rw [hx] at hy; cases hy
    refine ⟨acc.length,by simp,?_⟩
    rw [PZ hox (Nat.le_refl _)]; simp
   ·exact old _ _ (fun j z h => by rw [List.getElem?_append_left (aQ h)]; exact h) i y (by simp at hil; omega) hy hmi
theorem PX (d : Int) (q : List Nd) (m : List Bool) : ∀ (k : Nat) (pre : List Int) (acc : List Nd),∃ r,(AA d q m k pre acc).2 = acc ++ r
 | 0,pre,acc => ⟨[],by simp [AA]⟩
 | k + 1,pre,acc => by
  simp only [AA]
  split
  ·obtain ⟨r,h⟩ := PX d q m k (pre ++ [(acc.length : Int)]) (acc ++ [y3 pre ‹Nd›])
   exact ⟨_,by rw [h,List.append_assoc]⟩
  ·exact PX d q m k _ acc
theorem PT {q acc : List Nd} (hq : yU q = true) (ha : y2 acc) (rs : List Int) (d : Int) : y2 (AP d q rs acc).2 /\ Zl q (AP d q rs acc).2 (AZ q rs) (AP d q rs acc).1 :=
 PW (okPool_iff.1 hq).1 (Bi q rs) (Cz hq rs) d q.length [] acc (Nat.zero_add _) ha (fun i x h => absurd h (by simp))

theorem Yk (to : List Int) (x : Nd) : (y3 to x).kind = x.kind /\ (y3 to x).n = x.n /\ (y3 to x).s = x.s := by
 unfold y3
 split
 ·exact ⟨rfl,rfl,rfl⟩
 ·split <;> exact ⟨rfl,rfl,rfl⟩
end Go.Eng
/-! what is kept is all reached,and as great as it was: the plain side -/
namespace Go.Eng

inductive Rch (q : List Nd) (rs : List Int) : Nat -> Prop
 | root {r : Int} : r ∈ rs -> Rch q rs r.toNat
 | a {i : Nat} {x : Nd} : Rch q rs i -> q[i]? = some x -> (x.kind = 5 \/ x.kind = 6 \/ x.kind = 7) -> Rch q rs x.a.toNat
 | b {i : Nat} {x : Nd} : Rch q rs i -> q[i]? = some x -> x.kind = 5 -> Rch q rs x.b.toNat
theorem MR {m : List Bool} {i j : Nat} (h : (m.set i true)[j]? = some true) : j = i \/ m[j]? = some true := by
 by_cases e : i = j
 ·exact .inl e.symm
 ·rw [List.getElem?_set_ne e] at h; exact .inr h
theorem Lj {q : List Nd} {rs : List Int} : ∀ (k : Nat) {m : List Bool},(∀ j : Nat,m[j]? = some true -> Rch q rs j) -> ∀ j : Nat,(zw q k m)[j]? = some true -> Rch q rs j
 | 0,m,h,j,hj => h j hj
 | k + 1,m,h,j,hj => by
  simp only [zw] at hj
  refine Lj k ?_ j hj
  intro i hi
  split at hi
  ·rename_i x hx hm
   have hk := h k hm
   unfold zx at hi
   split at hi
   ·rename_i h5
    rcases MR hi with e | hi
    ·rw [e]; exact .b hk hx h5
    ·rcases MR hi with e | hi
     ·rw [e]; exact .a hk hx (.inl h5)
     ·exact h i hi
   ·split at hi
    ·rename_i h6
     rcases MR hi with e | hi
     ·rw [e]; exact .a hk hx (.inr h6)
     ·exact h i hi
    ·exact h i hi
  ·exact h i hi
theorem MQ : ∀ {rs : List Int} {m : List Bool} {j : Nat},(Jt rs m)[j]? = some true -> m[j]? = some true \/ ∃ r ∈ rs,r.toNat = j
 | [],m,j,h => .inl h
 | r :: rs,m,j,h => by
  have h' : (Jt rs (m.set r.toNat true))[j]? = some true := h
  rcases MQ h' with h | ⟨s,hs,e⟩
  ·rcases MR h with e | h
   ·exact .inr ⟨r,by simp,e.symm⟩
   ·exact .inl h
  ·exact .inr ⟨s,by simp [hs],e⟩
theorem VZ {q : List Nd} {rs : List Int} {j : Nat} (h : (AZ q rs)[j]? = some true) : Rch q rs j := by
 refine Lj _ ?_ j h
 intro i hi
 rcases MQ hi with h | ⟨r,hr,e⟩
 ·rw [List.getElem?_replicate] at h
  split at h <;> cases h
 ·rw [<- e]; exact .root hr
theorem Ki {q : List Nd} (hq : yU q = true) {rs : List Int} (hr : y4 q rs = true) {j : Nat} (h : Rch q rs j) : (AZ q rs)[j]? = some true := by
 induction h with
 | root hm => exact Eo hr _ hm
 | a h hx hk ih =>
  have hc := Cz hq rs _ _ hx ih
  rcases hk with hk | hk
  ·exact (hc.1 hk).1
  ·exact hc.2 hk
 | b h hx hk ih => exact ((Cz hq rs _ _ hx ih).1 hk).2

theorem NJ (d : Int) {q : List Nd} {m : List Bool} (hm : m.length = q.length) : ∀ (k : Nat) (pre : List Int) (acc : List Nd),pre.length + k = q.length ->
  (∀ j : Nat,j < acc.length -> ∃ i : Nat,m[i]? = some true /\ pre[i]? = some (j : Int)) -> ∀ j : Nat,j < (AA d q m k pre acc).2.length -> ∃ i : Nat,m[i]? = some true /\ (AA d q m k pre acc).1[i]? = some (j : Int)
 | 0,pre,acc,hk,h,j,hj => h j hj
 | k + 1,pre,acc,hk,h,j,hj => by
  obtain ⟨x,hx⟩ := xx (l := q) (i := pre.length) (by omega)
  obtain ⟨b,hb⟩ := xx (l := m) (i := pre.length) (by omega)
  simp only [AA,hx,hb] at hj ⊢
  have old : ∀ (u : Int) (j : Nat),j < acc.length -> ∃ i : Nat,m[i]? = some true /\ (pre ++ [u])[i]? = some (j : Int) := by
   intro u j hj
   obtain ⟨i,h1,h2⟩ := h j hj
   exact ⟨i,h1,by rw [List.getElem?_append_left (aQ h2)]; exact h2⟩
  cases b with
  | false => exact NJ d hm k (pre ++ [d]) acc (by simp; omega) (old d) j hj
  | true =>
   refine NJ d hm k (pre ++ [(acc.length : Int)]) (acc ++ [y3 pre x]) (by simp; omega) ?_ j hj
   intro i hi
   by_cases e : i < acc.length
   ·exact old _ i e
   ·have : i = acc.length := by simp at hi; omega
    subst this
    exact ⟨pre.length,hb,by simp⟩
theorem Y1 {q q' : List Nd} (hq : yU q = true) {rs : List Int} (hr : y4 q rs = true) {to now : List Int} (hmv : Zl q q' (AZ q rs) to) (hn : ∀ r ∈ rs,to.getD r.toNat 0 ∈ now) {i : Nat} (h : Rch q rs i) : ∀ j : Nat,to[i]? = some (j : Int) -> Rch q' now j := by
 have one : ∀ {i : Nat} {x : Nd},Rch q rs i -> q[i]? = some x -> ∃ j : Nat,to[i]? = some (j : Int) /\ q'[j]? = some (y3 to x) := fun h hx => hmv _ _ hx (Ki hq hr h)
 induction h with
 | root hm =>
  rename_i r
  intro j hj
  have e : to.getD r.toNat 0 = (j : Int) := by rw [List.getD_eq_getElem?_getD,hj]; rfl
  have := Rch.root (q := q') (hn r hm)
  rw [e] at this
  exact this
 | a h hx hk ih =>
  rename_i i x
  intro j hj
  obtain ⟨ji,e1,e2⟩ := one h hx
  have h' := ih ji e1
  have ea : (y3 to x).a.toNat = j := by
   rcases hk with hk | hk
   ·simp only [y3,hk,if_true,List.getD_eq_getElem?_getD,hj,Option.getD_some,Int.toNat_natCast]
   ·have h5 : ¬ x.kind = 5 := by omega
    simp only [y3,h5,hk,if_true,if_false,List.getD_eq_getElem?_getD,hj,Option.getD_some,Int.toNat_natCast]
  rw [<- ea]
  exact .a h' e2 (by rw [(Yk to x).1]; exact hk)
 | b h hx hk ih =>
  rename_i i x
  intro j hj
  obtain ⟨ji,e1,e2⟩ := one h hx
  have h' := ih ji e1
  have ea : (y3 to x).b.toNat = j := by
   simp only [y3,hk,if_true,List.getD_eq_getElem?_getD,hj,Option.getD_some,Int.toNat_natCast]
  rw [<- ea]
  exact .b h' e2 (by rw [(Yk to x).1]; exact hk)
noncomputable def ids (n : Nat) : List Int := (List.range n).map fun k : Nat => (k : Int)
theorem RV {n i : Nat} (h : i < n) : (ids (n))[i]? = some (i : Int) := by
 rw [ids,List.getElem?_map,List.getElem?_range h]; rfl
theorem YO {x : Nd} {i : Nat} (ho : okN x i = true) : y3 (ids (i)) x = x := by
 have g : ∀ n : Int,0 <= n -> n < i -> (ids (i)).getD n.toNat 0 = n := by
  intro n h0 h1
  rw [List.getD_eq_getElem?_getD,RV (by omega)]
  simp; omega
 unfold y3
 split
 ·rename_i h5
  have := z5 ho h5
  rw [g _ (by omega) (by omega),g _ (by omega) (by omega)]
 ·split
  ·rename_i h6
   have := Ai ho h6
   rw [g _ (by omega) (by omega)]
  ·rfl
theorem Vw (d : Int) {q : List Nd} (hq : y2 q) {m : List Bool} (hm : ∀ j : Nat,j < q.length -> m[j]? = some true) : ∀ (k i : Nat),i + k = q.length ->
  AA d q m k (ids (i)) (q.take i) = (ids (q.length),q)
 | 0,i,h => by
  have : i = q.length := by omega
  subst this
  simp [AA]
 | k + 1,i,h => by
  obtain ⟨x,hx⟩ := xx (l := q) (i := i) (by omega)
  have hl : (ids (i)).length = i := by simp [ids]
  have ht : (q.take i).length = i := by simp; omega
  have ih := Vw d hq hm k (i + 1) (by omega)
  have es : ids (i + 1) = ids i ++ [(i : Int)] := by simp [ids,List.range_succ]
  rw [es,yn hx] at ih
  simp only [AA,hl,hx,hm i (by omega),ht,YO (hq _ _ hx)]
  exact ih
theorem Xo {q : List Nd} (hq : yU q = true) {rs : List Int} (hr : y4 q rs = true) (d d' : Int) : yU (zA d q rs).1 = true /\ y4 (zA d q rs).1 (zA d q rs).2 = true /\ zA d' (zA d q rs).1 (zA d q rs).2 = zA d q rs := by
 obtain ⟨h1,h2⟩ := PT hq (acc := []) (fun j x h => by simp at h) rs d
 have hlen := My d q (AZ q rs) q.length [] []
 have hok : yU (AP d q rs []).2 = true := okPool_iff.2 ⟨h1,by have := y5 hq; have := hlen; simp [AP] at this ⊢; omega⟩
 have hto : ∀ r ∈ rs,∃ j : Nat,(AP d q rs []).1[r.toNat]? = some (j : Int) /\ j < (AP d q rs []).2.length := by
  intro r hm
  have hl := Gl hr r hm
  obtain ⟨x,hx⟩ := xx (l := q) (i := r.toNat) (by omega)
  obtain ⟨j,e1,e2⟩ := h2 _ x hx (Eo hr r hm)
  exact ⟨j,e1,aQ e2⟩
 have hgd : ∀ r ∈ rs,0 <= (AP d q rs []).1.getD r.toNat 0 /\ (AP d q rs []).1.getD r.toNat 0 < ((AP d q rs []).2.length : Int) := by
  intro r hm
  obtain ⟨j,e1,e2⟩ := hto r hm
  rw [List.getD_eq_getElem?_getD,e1]; simp; omega
 have hri : y4 (zA d q rs).1 (zA d q rs).2 = true := by
  unfold y4 zA
  rw [List.all_map,List.all_eq_true]
  intro r hm
  have := hgd r hm
  exact wi_iff.2 ⟨this.1,by simp only; omega⟩
 refine ⟨hok,hri,?_⟩
 have hall : ∀ j : Nat,j < (zA d q rs).1.length -> (AZ (zA d q rs).1 (zA d q rs).2)[j]? = some true := by
  intro j hj
  obtain ⟨i,hi,ht⟩ := NJ d (Bi q rs) q.length [] [] (Nat.zero_add _) (fun j h => by simp at h) j hj
  exact Ki hok hri (Y1 hq hr h2 (fun r hm => List.mem_map.2 ⟨r,hm,rfl⟩) (VZ hi) j ht)
 have hm := Vw d' (okPool_iff.1 hok).1 hall (zA d q rs).1.length 0 (Nat.zero_add _)
 have e : AP d' (zA d q rs).1 (zA d q rs).2 [] = (ids ((zA d q rs).1.length),(zA d q rs).1) := hm
 have e2 : zA d' (zA d q rs).1 (zA d q rs).2 = ((zA d q rs).1,(zA d q rs).2.map fun r => (ids ((zA d q rs).1.length)).getD r.toNat 0) := by
  show (_,_) = _
  rw [e]
 rw [e2]
 refine Prod.ext rfl ?_
 show List.map _ (zA d q rs).2 = (zA d q rs).2
 have : ∀ r ∈ (zA d q rs).2,(ids ((zA d q rs).1.length)).getD r.toNat 0 = r := by
  intro r hm
  have := Gl hri r hm
  rw [List.getD_eq_getElem?_getD,RV (by omega)]
  simp; omega
 rw [List.map_congr_left this,List.map_id']
end Go.Eng
/-! nodes as bytes,on both sides -/
namespace Go.Eng
open Go.Proofs Go.Proofs.Tryz
set_option maxHeartbeats 4000000

structure NdOk (x : Nd) (i : Nat) : Prop where
 k1 : 1 <= x.kind
 k9 : x.kind <= 9
 n3 : -1000000000 <= x.n
 n9 : x.n <= 1000000000
 n0 : x.kind ≠ 3 -> 0 <= x.n
 a0 : 0 <= x.a
 a1 : x.a <= i
 b0 : 0 <= x.b
 b1 : x.b <= i
 s4 : x.s.size <= 12
end Go.Eng
/-! tidying,and machines as bytes,on both sides -/
namespace Go.Eng
noncomputable section
open Go.Proofs Go.Proofs.Tryz
set_option maxHeartbeats 4000000

theorem XH {p : List Nd} (hl : p.length <= 4294967296) : V 131 [eP p] = some (oP p,[]) := by
 have h : V 181 [.rs (5,0) (p.map eN)] = some (.os (5,0) (p.map eN),[]) := by
  rw [Db,List.nil_append,yu (decide_eq_true (by rw [pE,lnM]; simp only [ni]; omega)),yA]
  exact xg _ _
 rw [Pu]
 simp (disch := first | omega | (simp only [lnA,lnC,lnN,lnM,yO,wY]; omega)) only [↓wZ,xi,↓yo,↓yg,h]
theorem QC {p : List Nd} (hl : p.length <= 4294967296) : V 147 [eP p] = some (oP p,[]) := by
 rw [Mh,List.nil_append]
 simp (disch := first | omega | (simp only [lnA,lnC,lnN,lnM,yO,wY]; omega)) only [↓xP,↓yA,yJ,lnM,pE,wY]
theorem CI {m : Mc} (hl : m.pool.length <= 4294967296) : V 63 [eMc m] = some (oMc m,[]) := by
 rw [Mf]
 simp (disch := first | omega | (simp only [lnA,lnC,lnN,lnM,yO,wY]; omega)) only [↓wZ,xi,↓yo,↓yb,↓yg,↓xu,XH hl]
theorem I8 {m : Mc} (hl : m.pool.length <= 4294967296) : V 85 [eMc m] = some (oMc m,[]) := by
 rw [TC]
 simp (disch := first | omega | (simp only [lnA,lnC,lnN,lnM,yO,wY]; omega)) only [↓wZ,xi,↓yo,↓yb,↓yg,↓xu,QC hl]
def holds (m : Mc) : Bool := decide (m.state = 1 \/ m.state = 2)
def y7 (m : Mc) : List Int := if holds m = true then [m.s,m.e,m.d,m.arg] else [m.s,m.e,m.d]
def tf (m : Mc) (r : Int) : Int := (AP (-1) m.pool (y7 m) []).1.getD r.toNat 0
def Qz (m : Mc) : Mc := if yU m.pool = true /\ y4 m.pool (y7 m) = true then
  ⟨(zA (-1) m.pool (y7 m)).1,m.at',tf m m.s,tf m m.e,tf m m.d,m.state,m.ask,if holds m = true then tf m m.arg else m.arg⟩ else m
theorem Ju (m : Mc) : (y7 m).length <= 4 := by unfold y7; split <;> simp
theorem Wl {m : Mc} (hf : z9 m.pool) (hl : m.pool.length <= 4294967296) : V 18 [eMc m] = some (oMc (Qz m),[]) := by
 have hr := Zg hf (by omega) (l := y7 m) (by have := Ju m; omega)
 have hc := CI hl
 have hk : ∀ h1 : yU m.pool = true,∀ h2 : y4 m.pool (y7 m) = true,_ := fun h1 h2 => aa5 h1 (rs := y7 m) (by have := Ju m; omega) h2
 rw [W7]
 unfold Qz
 by_cases h : yU m.pool = true /\ y4 m.pool (y7 m) = true
 ·rw [if_pos h]
  have hk := hk h.1 h.2
  rw [h.1,h.2] at hr
  unfold y7 holds at hr hk
  by_cases s1 : m.state = 1
  ·rw [if_pos (by simp [s1])] at hr hk
   have e : holds m = true := by simp [holds,s1]
   rw [if_pos e]
   have e2 : y7 m = [m.s,m.e,m.d,m.arg] := by rw [y7,if_pos e]
   unfold tf
   rw [e2]
   simp only [zA,List.map_cons,List.map_nil] at hr hk ⊢
   simp (disch := first | omega | (simp only [lnA,lnC,lnN,lnM,yO,wY]; omega)) only [↓wZ,xi,↓yk,↓xJ,↓xP,↓yo,↓yb,↓ye,↓xI,↓yg,↓xu,↓xw,↓xz,↓xA,↓xB,↓xC,xz,xA,xB,xC,yJ,yF,Bool.and_true,Bool.not_true,lnC,lnN,pE,wY,hr,hk]
  by_cases s2 : m.state = 2
  ·rw [if_pos (by simp [s2])] at hr hk
   have e : holds m = true := by simp [holds,s2]
   rw [if_pos e]
   have e2 : y7 m = [m.s,m.e,m.d,m.arg] := by rw [y7,if_pos e]
   unfold tf
   rw [e2]
   simp only [zA,List.map_cons,List.map_nil] at hr hk ⊢
   simp (disch := first | omega | (simp only [lnA,lnC,lnN,lnM,yO,wY]; omega)) only [↓wZ,xi,↓yk,↓xJ,↓xP,↓yo,↓yb,↓ye,↓xI,↓yg,↓xu,↓xw,↓xz,↓xA,↓xB,↓xC,xz,xA,xB,xC,yJ,yF,yE,Bool.and_true,Bool.not_true,lnC,lnN,pE,wY,hr,hk]
  ·rw [if_neg (by simp [s1,s2])] at hr hk
   have e : ¬ holds m = true := by simp [holds,s1,s2]
   rw [if_neg e]
   have e2 : y7 m = [m.s,m.e,m.d] := by rw [y7,if_neg e]
   unfold tf
   rw [e2]
   simp only [zA,List.map_cons,List.map_nil] at hr hk ⊢
   simp (disch := first | omega | (simp only [lnA,lnC,lnN,lnM,yO,wY]; omega)) only [↓wZ,xi,↓xJ,↓xP,↓yo,↓yb,↓ye,↓xI,↓yg,↓xu,↓xw,↓xz,↓xA,↓xB,xz,xA,xB,yJ,yE,Bool.and_true,Bool.not_true,lnC,lnN,wY,hr,hk]
 ·rw [if_neg h]
  have e : (yU m.pool && y4 m.pool (y7 m)) = false := by
   cases h1 : yU m.pool <;> cases h2 : y4 m.pool (y7 m) <;> first | rfl | exact absurd ⟨h1,h2⟩ h
  rw [e] at hr
  unfold y7 holds at hr
  by_cases s1 : m.state = 1
  ·rw [if_pos (by simp [s1])] at hr
   simp only [List.map_cons,List.map_nil] at hr
   simp (disch := first | omega | (simp only [lnA,lnC,lnN,lnM,yO,wY]; omega)) only [↓wZ,xi,↓yk,↓xP,↓yo,↓yb,↓ye,↓xI,↓yg,↓xu,yJ,yF,Bool.not_false,pE,wY,hr,hc]
  by_cases s2 : m.state = 2
  ·rw [if_pos (by simp [s2])] at hr
   simp only [List.map_cons,List.map_nil] at hr
   simp (disch := first | omega | (simp only [lnA,lnC,lnN,lnM,yO,wY]; omega)) only [↓wZ,xi,↓yk,↓xJ,↓xP,↓yo,↓yb,↓ye,↓xI,↓yg,↓xu,yJ,yF,yE,Bool.not_false,pE,wY,hr,hc]
  ·rw [if_neg (by simp [s1,s2])] at hr
   simp only [List.map_cons,List.map_nil] at hr
   simp (disch := first | omega | (simp only [lnA,lnC,lnN,lnM,yO,wY]; omega)) only [↓wZ,xi,↓yk,↓xJ,↓yo,↓yb,↓ye,↓xI,↓yg,↓xu,yE,Bool.not_false,hr,hc]
theorem Wz {m : Mc} (hf : z9 m.pool) (hl : m.pool.length <= 4294967296) : V 28 [eMc m] = some (oMc (Qz m),[]) := by
 have hr := Zb hf (by omega) (l := y7 m) (by have := Ju m; omega)
 have hc := I8 hl
 have hk : ∀ h1 : yU m.pool = true,∀ h2 : y4 m.pool (y7 m) = true,_ := fun h1 h2 => Z7 h1 (rs := y7 m) (by have := Ju m; omega) h2
 rw [Xd]
 unfold Qz
 by_cases h : yU m.pool = true /\ y4 m.pool (y7 m) = true
 ·rw [if_pos h]
  have hk := hk h.1 h.2
  rw [Xn h.1 h.2 0 (-1)] at hk
  rw [h.1,h.2] at hr
  unfold y7 holds at hr hk
  by_cases s1 : m.state = 1
  ·rw [if_pos (by simp [s1])] at hr hk
   have e : holds m = true := by simp [holds,s1]
   rw [if_pos e]
   have e2 : y7 m = [m.s,m.e,m.d,m.arg] := by rw [y7,if_pos e]
   unfold tf
   rw [e2]
   simp only [zA,List.map_cons,List.map_nil] at hr hk ⊢
   simp (disch := first | omega | (simp only [lnA,lnC,lnN,lnM,yO,wY]; omega)) only [↓wZ,xi,↓yk,↓xJ,↓xP,↓yo,↓yb,↓ye,↓xI,↓yg,↓xu,↓xw,↓xz,↓xA,↓xB,↓xC,xz,xA,xB,xC,yJ,yF,Bool.and_true,Bool.not_true,lnC,lnN,pE,wY,hr,hk]
  by_cases s2 : m.state = 2
  ·rw [if_pos (by simp [s2])] at hr hk
   have e : holds m = true := by simp [holds,s2]
   rw [if_pos e]
   have e2 : y7 m = [m.s,m.e,m.d,m.arg] := by rw [y7,if_pos e]
   unfold tf
   rw [e2]
   simp only [zA,List.map_cons,List.map_nil] at hr hk ⊢
   simp (disch := first | omega | (simp only [lnA,lnC,lnN,lnM,yO,wY]; omega)) only [↓wZ,xi,↓yk,↓xJ,↓xP,↓yo,↓yb,↓ye,↓xI,↓yg,↓xu,↓xw,↓xz,↓xA,↓xB,↓xC,xz,xA,xB,xC,yJ,yF,yE,Bool.and_true,Bool.not_true,lnC,lnN,pE,wY,hr,hk]
  ·rw [if_neg (by simp [s1,s2])] at hr hk
   have e : ¬ holds m = true := by simp [holds,s1,s2]
   rw [if_neg e]
   have e2 : y7 m = [m.s,m.e,m.d] := by rw [y7,if_neg e]
   unfold tf
   rw [e2]
   simp only [zA,List.map_cons,List.map_nil] at hr hk ⊢
   simp (disch := first | omega | (simp only [lnA,lnC,lnN,lnM,yO,wY]; omega)) only [↓wZ,xi,↓xJ,↓xP,↓yo,↓yb,↓ye,↓xI,↓yg,↓xu,↓xw,↓xz,↓xA,↓xB,xz,xA,xB,yJ,yE,Bool.and_true,Bool.not_true,lnC,lnN,wY,hr,hk]
 ·rw [if_neg h]
  have e : (yU m.pool && y4 m.pool (y7 m)) = false := by
   cases h1 : yU m.pool <;> cases h2 : y4 m.pool (y7 m) <;> first | rfl | exact absurd ⟨h1,h2⟩ h
  rw [e] at hr
  unfold y7 holds at hr
  by_cases s1 : m.state = 1
  ·rw [if_pos (by simp [s1])] at hr
   simp only [List.map_cons,List.map_nil] at hr
   simp (disch := first | omega | (simp only [lnA,lnC,lnN,lnM,yO,wY]; omega)) only [↓wZ,xi,↓yk,↓xP,↓yo,↓yb,↓ye,↓xI,↓yg,↓xu,yJ,yF,Bool.not_false,pE,wY,hr,hc]
  by_cases s2 : m.state = 2
  ·rw [if_pos (by simp [s2])] at hr
   simp only [List.map_cons,List.map_nil] at hr
   simp (disch := first | omega | (simp only [lnA,lnC,lnN,lnM,yO,wY]; omega)) only [↓wZ,xi,↓yk,↓xJ,↓xP,↓yo,↓yb,↓ye,↓xI,↓yg,↓xu,yJ,yF,yE,Bool.not_false,pE,wY,hr,hc]
  ·rw [if_neg (by simp [s1,s2])] at hr
   simp only [List.map_cons,List.map_nil] at hr
   simp (disch := first | omega | (simp only [lnA,lnC,lnN,lnM,yO,wY]; omega)) only [↓wZ,xi,↓yk,↓xJ,↓yo,↓yb,↓ye,↓xI,↓yg,↓xu,yE,Bool.not_false,hr,hc]
theorem Xz {c : Cd} {m : Mc} (h : Bm c m = true) : yU m.pool = true /\ y4 m.pool (y7 m) = true /\ 0 <= m.at' /\ m.at' <= 400 /\ 0 <= m.state /\ m.state <= 3 /\ 0 <= m.ask /\ m.ask <= 19 /\ 0 <= m.arg /\ m.arg <= 3000 := by
 unfold Bm zy Gb at h
 simp only [Bool.and_eq_true,decide_eq_true_eq] at h
 obtain ⟨⟨_,hlist,_⟩,hp,hs,he,hd,hst⟩ := h
 have hlen := y5 hp
 refine ⟨hp,?_,?_⟩
 ·unfold y7 holds y4
  unfold JN Gb at hst
  split
  ·rename_i hh
   have hh := of_decide_eq_true hh
   have ha : wi m.arg 0 ((m.pool.length : Int) - 1) = true := by
    rcases hh with h1 | h1
    ·simp [h1] at hst; exact hst.2.2.2
    ·simp [h1] at hst; exact hst.2.2
   simp [hs,he,hd,ha]
  ·simp [hs,he,hd]
 ·unfold JN Gb at hst
  repeat' split at hst
  all_goals (try simp only [Bool.and_eq_true,wi,decide_eq_true_eq,beq_iff_eq] at hst)
  all_goals (first | (cases hst; done) | omega)
theorem Uq {c : Cd} {m : Mc} (h : Bm c m = true) : Bm c (Qz m) = true := by
 obtain ⟨hp,hr,_⟩ := Xz h
 obtain ⟨a1,a2,_⟩ := Xo hp hr (-1) (-1)
 have hroot : ∀ r ∈ y7 m,wi (tf m r) 0 (((zA (-1) m.pool (y7 m)).1.length : Int) - 1) = true := by
  intro r hm
  have := List.all_eq_true.1 a2 (tf m r) (List.mem_map.2 ⟨r,hm,rfl⟩)
  exact this
 have h3 : m.s ∈ y7 m /\ m.e ∈ y7 m /\ m.d ∈ y7 m := by unfold y7; split <;> simp
 have h4 : holds m = true -> m.arg ∈ y7 m := by intro hh; unfold y7; rw [if_pos hh]; simp
 unfold Qz
 rw [if_pos ⟨hp,hr⟩]
 unfold Bm JN Gb at h ⊢
 simp only [Bool.and_eq_true] at h ⊢
 refine ⟨h.1,a1,hroot _ h3.1,hroot _ h3.2.1,hroot _ h3.2.2,?_⟩
 have hst := h.2.2.2.2.2
 by_cases s0 : m.state = 0
 ·have e : ¬ holds m = true := by simp [holds,s0]
  rw [if_pos s0] at hst ⊢
  rw [if_neg e]; exact hst
 rw [if_neg s0] at hst ⊢
 by_cases s1 : m.state = 1
 ·have e : holds m = true := by simp [holds,s1]
  rw [if_pos s1] at hst ⊢
  rw [if_pos e]
  simp only [Bool.and_eq_true] at hst ⊢
  exact ⟨hst.1,hst.2.1,hst.2.2.1,hroot _ (h4 e)⟩
 rw [if_neg s1] at hst ⊢
 by_cases s2 : m.state = 2
 ·have e : holds m = true := by simp [holds,s2]
  rw [if_pos s2] at hst ⊢
  rw [if_pos e]
  simp only [Bool.and_eq_true] at hst ⊢
  exact ⟨hst.1,hst.2.1,hroot _ (h4 e)⟩
 rw [if_neg s2] at hst ⊢
 have e : ¬ holds m = true := by simp [holds,s1,s2]
 rw [if_neg e]
 exact hst
end
end Go.Eng
/-! words of a text,on both sides -/
namespace Go.Eng
noncomputable section
open Go.Proofs Go.Proofs.Tryz
set_option maxHeartbeats 4000000

def dU (x : UInt8) : Bool := decide (48 <= x.toNat) && decide (x.toNat <= 57)
def JH (x : UInt8) : Bool := nmB (x.toNat : Int) || (dU x || (x.toNat : Int) == 35)
theorem dU_iff {x : UInt8} : dU x = true ↔ 48 <= x.toNat /\ x.toNat <= 57 := by simp [dU]
theorem aaY (x : UInt8) : br (decide ((x.toNat : Int) >= 48)) (some (D.bool (decide ((x.toNat : Int) <= 57)),([] : List D))) (some (D.bool false,[])) = some (.bool (dU x),[]) := by
 unfold dU
 by_cases h1 : 48 <= x.toNat
 ·by_cases h2 : x.toNat <= 57
  ·rw [xK (decide_eq_true (by omega)),decide_eq_true (by omega),decide_eq_true h1,decide_eq_true h2]; rfl
  ·rw [xK (decide_eq_true (by omega)),decide_eq_false (by omega),decide_eq_true h1,decide_eq_false h2]; rfl
 ·rw [xb (decide_eq_false (by omega)),decide_eq_false h1]; rfl
theorem Sc (x : UInt8) : V 226 [.int .u8 (x.toNat : Int)] = some (.bool (dU x),[]) := (QT _).trans (aaY x)
theorem Jv (x : UInt8) : V 211 [.int .u8 (x.toNat : Int)] = some (.bool (JH x),[]) := by
 rw [NC,JB (Na _),MI (Sc x),Zq,Zq]; rfl

def Au (acc : Nat) (l : List UInt8) : Nat := l.foldl (fun n x => 10 * n + (x.toNat - 48)) acc
theorem Yx : ∀ (l : List UInt8) (acc k : Nat),l.all dU = true -> acc < 10 ^ k -> Au acc l < 10 ^ (k + l.length)
 | [],acc,k,_,h => h
 | x :: l,acc,k,hl,h => by
  rw [List.all_cons,Bool.and_eq_true] at hl
  have hx := dU_iff.1 hl.1
  have := Yx l (10 * acc + (x.toNat - 48)) (k + 1) hl.2 (by rw [Nat.pow_succ]; omega)
  rw [lnC]
  have e : k + (l.length + 1) = k + 1 + l.length := by omega
  rw [e]; exact this
abbrev noW : D := .tup [iN 0,.bool false]
theorem Qo {k : Nat} (h : k <= 10) : 10 ^ k <= 10000000000 := by
 have : 10 ^ k <= 10 ^ 10 := Nat.pow_le_pow_right (by omega) h
 simpa using this
def Cg (l : List UInt8) : Option Nat := if l.length = 0 \/ 10 < l.length \/ (l[0]? = some 48 /\ 1 < l.length) \/ l.all dU = false then none else some (Au 0 l)
theorem Zi (l : List UInt8) (x : UInt8) (acc : Nat) : Au acc (l ++ [x]) = 10 * Au acc l + (x.toNat - 48) := by simp [Au]
theorem WC : ∀ (l : List UInt8) (acc : Nat),0 < acc -> 0 < Au acc l
 | [],acc,h => h
 | x :: l,acc,h => WC l (10 * acc + (x.toNat - 48)) (by omega)
theorem UQ : ∀ (n : Nat) (l : List UInt8),l.length = n + 1 -> l.all dU = true -> (l[0]? ≠ some 48 \/ l.length = 1) -> Iy (Au 0 l) = l
 | 0,l,hn,ha,h0 => by
  match l,hn with
  | [x],_ =>
   have hx := dU_iff.1 (by simpa using ha)
   have e : Au 0 [x] = x.toNat - 48 := by simp [Au]
   rw [e,Aw (by omega)]
   congr 1
   apply UInt8.toNat_inj.1
   simp; omega
 | n + 1,l,hn,ha,h0 => by
  have hne : l ≠ [] := by intro h; rw [h] at hn; simp at hn
  obtain ⟨l',x,rfl⟩ : ∃ l' x,l = l' ++ [x] := ⟨l.dropLast,l.getLast hne,(List.dropLast_concat_getLast hne).symm⟩
  have hl' : l'.length = n + 1 := by simp at hn; omega
  have ha' : l'.all dU = true /\ dU x = true := by simpa using ha
  have hx := dU_iff.1 ha'.2
  have h48 : l'[0]? ≠ some 48 := by
   rcases h0 with h | h
   ·rwa [List.getElem?_append_left (by omega)] at h
   ·exfalso; rw [lnA,List.length_singleton] at h; omega
  have ih := UQ n l' hl' ha'.1 (.inl h48)
  rw [Zi]
  have hpos : 0 < Au 0 l' := by
   match l',hl' with
   | y :: r,_ =>
    have hy := dU_iff.1 (by simpa using (show (y :: r).all dU = true from ha'.1) : dU y = true /\ _).1
    have hy48 : y.toNat ≠ 48 := by
     intro h; apply h48; simp; exact UInt8.toNat_inj.1 h
    exact WC r (10 * 0 + (y.toNat - 48)) (by omega)
  rw [JP (by omega)]
  have e1 : (10 * Au 0 l' + (x.toNat - 48)) / 10 = Au 0 l' := by omega
  have e2 : (10 * Au 0 l' + (x.toNat - 48)) % 10 = x.toNat - 48 := by omega
  rw [e1,e2,ih]
  congr 2
  apply UInt8.toNat_inj.1
  simp; omega
theorem YF : ∀ (n : Nat),(Iy n)[0]? ≠ some 48 \/ n = 0 := by
 intro n
 induction n using Nat.strongRecOn with
 | _ n ih =>
  by_cases h : n < 10
  ·by_cases h0 : n = 0
   ·exact .inr h0
   ·left
    rw [Aw h]
    intro e
    simp at e
    have := congrArg UInt8.toNat e
    simp at this
    omega
  ·left
   rw [JP h,List.getElem?_append_left (ZB _)]
   rcases ih (n / 10) (by omega) with h1 | h1
   ·exact h1
   ·omega
theorem UN {l : List UInt8} (h0 : l.length ≠ 0) (h10 : ¬ 10 < l.length) (ha : l.all dU = true) : Iy (Au 0 l) = l ↔ ¬ (l[0]? = some 48 /\ 1 < l.length) := by
 constructor
 ·rintro h ⟨h1,h2⟩
  rcases YF (Au 0 l) with h3 | h3
  ·rw [h] at h3; exact h3 h1
  ·rw [h3,Aw (by omega)] at h
   have := congrArg List.length h
   simp at this; omega
 ·intro h
  refine UQ (l.length - 1) l (by omega) ha ?_
  by_cases h1 : l[0]? = some 48
  ·exact .inr (by
           have : ¬ 1 < l.length := fun h2 => h ⟨h1,h2⟩
           omega)
  ·exact .inl h1
end
end Go.Eng
