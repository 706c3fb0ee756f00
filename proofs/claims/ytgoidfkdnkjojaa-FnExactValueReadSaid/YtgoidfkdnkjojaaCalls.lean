/- a call and its results, taken in one step -/
import Derived.Test.YtgoidfkdnkjojaaEngC
import Derived.Test.YtgoidfkdnkjojaaFn0
import Derived.Test.YtgoidfkdnkjojaaFn1
import Derived.Test.YtgoidfkdnkjojaaFn2
import Derived.Test.YtgoidfkdnkjojaaFn3
import Derived.Test.YtgoidfkdnkjojaaFn4
import Derived.Test.YtgoidfkdnkjojaaFn5
import Derived.Test.YtgoidfkdnkjojaaFn6
namespace Go.Eng
open Go.Proofs
theorem oc_s_PoolOk {ds : List D} {v2 : Bool} (h : V 67 ds = some (.bool v2, [])) (K : Bool → Option Ret) : ocall V 67 ds (fun v0 v1 => asB v0 fun v2 => unn v1 ((K v2))) = K v2 := (ocall_some h _).trans rfl
theorem oc_Pool_add {ds : List D} {v2 : Int} {v8 : List D} (h : V 138 ds = some (.int .i64 v2, [.op [.os (5, 0) v8]])) (K : Int → List D → Option Ret) : ocall V 138 ds (fun v0 v1 => asI .i64 v0 fun v2 => unc v1 fun v3 v4 => asOp v3 fun v5 => unc v5 fun v6 v7 => asOs (5, 0) v6 fun v8 => unn v7 (unn v4 ((K v2 v8)))) = K v2 v8 := (ocall_some h _).trans rfl
theorem oc_i_PoolOk {ds : List D} {v2 : Bool} (h : V 18 ds = some (.bool v2, [])) (K : Bool → Option Ret) : ocall V 18 ds (fun v0 v1 => asB v0 fun v2 => unn v1 ((K v2))) = K v2 := (ocall_some h _).trans rfl
theorem oc_i_decimal {ds : List D} {v2 : ByteArray} (h : V 120 ds = some (.str v2, [])) (K : ByteArray → Option Ret) : ocall V 120 ds (fun v0 v1 => asS v0 fun v2 => unn v1 ((K v2))) = K v2 := (ocall_some h _).trans rfl
theorem oc_s_l2Add {ds : List D} {v2 : Int} {v8 : List D} (h : V 75 ds = some (.int .i64 v2, [.op [.os (5, 0) v8]])) (K : Int → List D → Option Ret) : ocall V 75 ds (fun v0 v1 => asI .i64 v0 fun v2 => unc v1 fun v3 v4 => asOp v3 fun v5 => unc v5 fun v6 v7 => asOs (5, 0) v6 fun v8 => unn v7 (unn v4 ((K v2 v8)))) = K v2 v8 := (ocall_some h _).trans rfl
theorem oc_i_rootsOk_1 {ds : List D} {v2 : Bool} (h : V 114 ds = some (.bool v2, [])) (K : Bool → Option Ret) : ocall V 114 ds (fun v0 v1 => asB v0 fun v2 => unn v1 ((K v2))) = K v2 := (ocall_some h _).trans rfl
theorem oc_i_reach {ds : List D} {v2 : List D} (h : V 162 ds = some (.os (1, 0) v2, [])) (K : List D → Option Ret) : ocall V 162 ds (fun v0 v1 => asOs (1, 0) v0 fun v2 => unn v1 ((K v2))) = K v2 := (ocall_some h _).trans rfl
theorem oc_Pool_moveIn {ds : List D} {v2 : List D} {v8 : List D} (h : V 115 ds = some (.os (1, 0) v2, [.op [.os (5, 0) v8]])) (K : List D → List D → Option Ret) : ocall V 115 ds (fun v0 v1 => asOs (1, 0) v0 fun v2 => unc v1 fun v3 v4 => asOp v3 fun v5 => unc v5 fun v6 v7 => asOs (5, 0) v6 fun v8 => unn v7 (unn v4 ((K v2 v8)))) = K v2 v8 := (ocall_some h _).trans rfl
theorem oc_slices_IndexFunc_int_int {ds : List D} {v2 : Int} (h : V 161 ds = some (.int .i64 v2, [])) (K : Int → Option Ret) : ocall V 161 ds (fun v0 v1 => asI .i64 v0 fun v2 => unn v1 ((K v2))) = K v2 := (ocall_some h _).trans rfl
theorem oc_i_isNode {ds : List D} {v2 : Bool} (h : V 59 ds = some (.bool v2, [])) (K : Bool → Option Ret) : ocall V 59 ds (fun v0 v1 => asB v0 fun v2 => unn v1 ((K v2))) = K v2 := (ocall_some h _).trans rfl
theorem oc_i_within {ds : List D} {v2 : Bool} (h : V 106 ds = some (.bool v2, [])) (K : Bool → Option Ret) : ocall V 106 ds (fun v0 v1 => asB v0 fun v2 => unn v1 ((K v2))) = K v2 := (ocall_some h _).trans rfl
theorem oc_i_NameOk {ds : List D} {v2 : Bool} (h : V 121 ds = some (.bool v2, [])) (K : Bool → Option Ret) : ocall V 121 ds (fun v0 v1 => asB v0 fun v2 => unn v1 ((K v2))) = K v2 := (ocall_some h _).trans rfl
theorem oc_s_l2Has {ds : List D} {v2 : Bool} (h : V 68 ds = some (.bool v2, [])) (K : Bool → Option Ret) : ocall V 68 ds (fun v0 v1 => asB v0 fun v2 => unn v1 ((K v2))) = K v2 := (ocall_some h _).trans rfl
theorem oc_s_l1In {ds : List D} {v2 : Bool} (h : V 104 ds = some (.bool v2, [])) (K : Bool → Option Ret) : ocall V 104 ds (fun v0 v1 => asB v0 fun v2 => unn v1 ((K v2))) = K v2 := (ocall_some h _).trans rfl
theorem oc_s_l3Write {ds : List D} {v2 : ByteArray} (h : V 69 ds = some (.str v2, [])) (K : ByteArray → Option Ret) : ocall V 69 ds (fun v0 v1 => asS v0 fun v2 => unn v1 ((K v2))) = K v2 := (ocall_some h _).trans rfl
theorem oc_s_NameOk {ds : List D} {v2 : Bool} (h : V 131 ds = some (.bool v2, [])) (K : Bool → Option Ret) : ocall V 131 ds (fun v0 v1 => asB v0 fun v2 => unn v1 ((K v2))) = K v2 := (ocall_some h _).trans rfl
theorem oc_i_nodeOk {ds : List D} {v2 : Bool} (h : V 62 ds = some (.bool v2, [])) (K : Bool → Option Ret) : ocall V 62 ds (fun v0 v1 => asB v0 fun v2 => unn v1 ((K v2))) = K v2 := (ocall_some h _).trans rfl
theorem oc_slices_ContainsFunc_int_int {ds : List D} {v2 : Bool} (h : V 113 ds = some (.bool v2, [])) (K : Bool → Option Ret) : ocall V 113 ds (fun v0 v1 => asB v0 fun v2 => unn v1 ((K v2))) = K v2 := (ocall_some h _).trans rfl
theorem oc_s_l2NameByte {ds : List D} {v2 : Bool} (h : V 128 ds = some (.bool v2, [])) (K : Bool → Option Ret) : ocall V 128 ds (fun v0 v1 => asB v0 fun v2 => unn v1 ((K v2))) = K v2 := (ocall_some h _).trans rfl
theorem oc_s_l3Digits {ds : List D} {v2 : ByteArray} (h : V 126 ds = some (.str v2, [])) (K : ByteArray → Option Ret) : ocall V 126 ds (fun v0 v1 => asS v0 fun v2 => unn v1 ((K v2))) = K v2 := (ocall_some h _).trans rfl
theorem oc_i_isNameByte {ds : List D} {v2 : Bool} (h : V 163 ds = some (.bool v2, [])) (K : Bool → Option Ret) : ocall V 163 ds (fun v0 v1 => asB v0 fun v2 => unn v1 ((K v2))) = K v2 := (ocall_some h _).trans rfl
theorem oc_slices_Index_byte_byte {ds : List D} {v2 : Int} (h : V 180 ds = some (.int .i64 v2, [])) (K : Int → Option Ret) : ocall V 180 ds (fun v0 v1 => asI .i64 v0 fun v2 => unn v1 ((K v2))) = K v2 := (ocall_some h _).trans rfl
theorem oc_s_l2Node {ds : List D} {v2 : Bool} (h : V 125 ds = some (.bool v2, [])) (K : Bool → Option Ret) : ocall V 125 ds (fun v0 v1 => asB v0 fun v2 => unn v1 ((K v2))) = K v2 := (ocall_some h _).trans rfl
theorem oc_slices_Contains_byte_byte {ds : List D} {v2 : Bool} (h : V 175 ds = some (.bool v2, [])) (K : Bool → Option Ret) : ocall V 175 ds (fun v0 v1 => asB v0 fun v2 => unn v1 ((K v2))) = K v2 := (ocall_some h _).trans rfl
theorem oc_s_l7Reach {ds : List D} {v2 : List D} (h : V 117 ds = some (.os (1, 0) v2, [])) (K : List D → Option Ret) : ocall V 117 ds (fun v0 v1 => asOs (1, 0) v0 fun v2 => unn v1 ((K v2))) = K v2 := (ocall_some h _).trans rfl
theorem oc_s_l7Into {ds : List D} {v2 : List D} {v8 : List D} (h : V 116 ds = some (.os (1, 0) v2, [.op [.os (5, 0) v8]])) (K : List D → List D → Option Ret) : ocall V 116 ds (fun v0 v1 => asOs (1, 0) v0 fun v2 => unc v1 fun v3 v4 => asOp v3 fun v5 => unc v5 fun v6 v7 => asOs (5, 0) v6 fun v8 => unn v7 (unn v4 ((K v2 v8)))) = K v2 v8 := (ocall_some h _).trans rfl
end Go.Eng
