/- The statement is proved: for every input the law answers true. No condition. -/
import Derived.Test.YtccahnafehfjlaaGreatPartC
import Derived.Test.YtccahnafehfjlaaGreatPartF
open Go Go.E
namespace Go.Proofs.YtccahnafehfjlaaGreat
set_option maxRecDepth 100000
theorem law6_big (call : CallF) (n : Nat) (A B : List AV) (o7 : List Slot) (h7 : call 7 [.v (.sl 4 A), .v (.sl 4 B)] = some (.bool false, o7)) (h8 : call 8 [] = some (.bool true, [])) :
    stepF Cf n call 6 [.v (.sl 4 A), .v (.sl 4 B)] = some (.bool true, [.v (.sl 4 A), .v (.sl 4 B)]) :=
  runO_ok (ans := [.go, .go, .go, .ret (.bool false) o7, .go, .ret (.bool true) [], .go]) (ps := [call 7 [.v (.sl 4 A), .v (.sl 4 B)] = some (.bool false, o7), call 8 [] = some (.bool true, [])]) (by kernel_rfl) ⟨h7, h8⟩
theorem law6_nt (call : CallF) (n : Nat) (A B : List AV) (x y z : Int) (o7 oA oB oC o1 o3 : List Slot) (o2 : List Slot) (h7 : call 7 [.v (.sl 4 A), .v (.sl 4 B)] = some (.bool true, o7)) (ha : call 11 [.v (.sl 4 A)] = some (.int .i64 x, oA)) (hb : call 11 [.v (.sl 4 B)] = some (.int .i64 y, oB)) (ls : (0 + A.length) * byT Cf 44 ≤ 140737488355328) (lt : (A.length + B.length) * byT Cf 44 ≤ 140737488355328) (hc : call 11 [.v (.sl 4 (A ++ B))] = some (.int .i64 z, oC)) (c1 : decide (x < 0) = false) (c2 : decide (y < 0) = false) (c3 : decide (x > 4611686018427387904) = false) (c4 : decide (y > 4611686018427387904) = false) (c5 : decide (z < x) = false) (c6 : decide (z < y) = false) (c7 : decide (x ≤ 2305843009213693952) = false) (h8 : call 8 [] = some (.bool true, [])) (w1 : call 13 [.v (.sl 4 A), .v (.sl 4 B)] = some (.bool true, o1)) (c10 : decide (y > x) = true) (w2 : call 13 [.v (.sl 4 B), .v (.sl 4 A)] = some (.bool false, o2)) (w3 : call 13 [.v (.sl 4 A), .v (.sl 4 A)] = some (.bool false, o3)) :
    stepF Cf n call 6 [.v (.sl 4 A), .v (.sl 4 B)] = some (.bool true, [.v (.sl 4 A), .v (.sl 4 B)]) :=
  runO_ok (ans := [.go, .go, .go, .ret (.bool true) o7, .go, .go, .ret (.int .i64 x) oA, .go, .ret (.int .i64 y) oB, .go, .go, .app, .go, .app, .ret (.int .i64 z) oC, .go, .go, .go, .go, .bit false, .go, .go, .bit false, .go, .go, .go, .bit false, .go, .go, .go, .bit false, .go, .go, .go, .go, .bit false, .go, .go, .go, .go, .bit false, .go, .go, .go, .bit false, .go, .go, .go, .go, .go, .ret (.bool true) [], .go, .go, .go, .ret (.bool true) o1, .go, .go, .bit true, .go, .go, .go, .go, .go, .ret (.bool true) o1, .go, .go, .go, .ret (.bool false) o2, .go, .go, .go, .go, .go, .go, .ret (.bool false) o3, .go, .go, .go]) (ps := [call 7 [.v (.sl 4 A), .v (.sl 4 B)] = some (.bool true, o7), call 11 [.v (.sl 4 A)] = some (.int .i64 x, oA), call 11 [.v (.sl 4 B)] = some (.int .i64 y, oB), (0 + A.length) * byT Cf 44 ≤ 140737488355328, (A.length + B.length) * byT Cf 44 ≤ 140737488355328, call 11 [.v (.sl 4 (A ++ B))] = some (.int .i64 z, oC), decide (x < 0) = false, decide (y < 0) = false, decide (x > 4611686018427387904) = false, decide (y > 4611686018427387904) = false, decide (z < x) = false, decide (z < y) = false, decide (x ≤ 2305843009213693952) = false, call 8 [] = some (.bool true, []), call 13 [.v (.sl 4 A), .v (.sl 4 B)] = some (.bool true, o1), decide (y > x) = true, call 13 [.v (.sl 4 A), .v (.sl 4 B)] = some (.bool true, o1), call 13 [.v (.sl 4 B), .v (.sl 4 A)] = some (.bool false, o2), call 13 [.v (.sl 4 A), .v (.sl 4 A)] = some (.bool false, o3)]) (by kernel_rfl) ⟨h7, ha, hb, ls, lt, hc, c1, c2, c3, c4, c5, c6, c7, h8, w1, c10, w1, w2, w3⟩
theorem law6_nf (call : CallF) (n : Nat) (A B : List AV) (x y z : Int) (o7 oA oB oC o1 o3 : List Slot) (h7 : call 7 [.v (.sl 4 A), .v (.sl 4 B)] = some (.bool true, o7)) (ha : call 11 [.v (.sl 4 A)] = some (.int .i64 x, oA)) (hb : call 11 [.v (.sl 4 B)] = some (.int .i64 y, oB)) (ls : (0 + A.length) * byT Cf 44 ≤ 140737488355328) (lt : (A.length + B.length) * byT Cf 44 ≤ 140737488355328) (hc : call 11 [.v (.sl 4 (A ++ B))] = some (.int .i64 z, oC)) (c1 : decide (x < 0) = false) (c2 : decide (y < 0) = false) (c3 : decide (x > 4611686018427387904) = false) (c4 : decide (y > 4611686018427387904) = false) (c5 : decide (z < x) = false) (c6 : decide (z < y) = false) (c7 : decide (x ≤ 2305843009213693952) = false) (h8 : call 8 [] = some (.bool true, [])) (w1 : call 13 [.v (.sl 4 A), .v (.sl 4 B)] = some (.bool false, o1)) (c10 : decide (y > x) = false) (w3 : call 13 [.v (.sl 4 A), .v (.sl 4 A)] = some (.bool false, o3)) :
    stepF Cf n call 6 [.v (.sl 4 A), .v (.sl 4 B)] = some (.bool true, [.v (.sl 4 A), .v (.sl 4 B)]) :=
  runO_ok (ans := [.go, .go, .go, .ret (.bool true) o7, .go, .go, .ret (.int .i64 x) oA, .go, .ret (.int .i64 y) oB, .go, .go, .app, .go, .app, .ret (.int .i64 z) oC, .go, .go, .go, .go, .bit false, .go, .go, .bit false, .go, .go, .go, .bit false, .go, .go, .go, .bit false, .go, .go, .go, .go, .bit false, .go, .go, .go, .go, .bit false, .go, .go, .go, .bit false, .go, .go, .go, .go, .go, .ret (.bool true) [], .go, .go, .go, .ret (.bool false) o1, .go, .go, .bit false, .go, .go, .go, .go, .go, .ret (.bool false) o1, .go, .go, .go, .go, .go, .go, .go, .ret (.bool false) o3, .go, .go, .go]) (ps := [call 7 [.v (.sl 4 A), .v (.sl 4 B)] = some (.bool true, o7), call 11 [.v (.sl 4 A)] = some (.int .i64 x, oA), call 11 [.v (.sl 4 B)] = some (.int .i64 y, oB), (0 + A.length) * byT Cf 44 ≤ 140737488355328, (A.length + B.length) * byT Cf 44 ≤ 140737488355328, call 11 [.v (.sl 4 (A ++ B))] = some (.int .i64 z, oC), decide (x < 0) = false, decide (y < 0) = false, decide (x > 4611686018427387904) = false, decide (y > 4611686018427387904) = false, decide (z < x) = false, decide (z < y) = false, decide (x ≤ 2305843009213693952) = false, call 8 [] = some (.bool true, []), call 13 [.v (.sl 4 A), .v (.sl 4 B)] = some (.bool false, o1), decide (y > x) = false, call 13 [.v (.sl 4 A), .v (.sl 4 B)] = some (.bool false, o1), call 13 [.v (.sl 4 A), .v (.sl 4 A)] = some (.bool false, o3)]) (by kernel_rfl) ⟨h7, ha, hb, ls, lt, hc, c1, c2, c3, c4, c5, c6, c7, h8, w1, c10, w1, w3⟩
theorem law6_mt (call : CallF) (n : Nat) (A B : List AV) (x y z : Int) (o7 oA oB oC o1 o3 : List Slot) (o2 : List Slot) (h7 : call 7 [.v (.sl 4 A), .v (.sl 4 B)] = some (.bool true, o7)) (ha : call 11 [.v (.sl 4 A)] = some (.int .i64 x, oA)) (hb : call 11 [.v (.sl 4 B)] = some (.int .i64 y, oB)) (ls : (0 + A.length) * byT Cf 44 ≤ 140737488355328) (lt : (A.length + B.length) * byT Cf 44 ≤ 140737488355328) (hc : call 11 [.v (.sl 4 (A ++ B))] = some (.int .i64 z, oC)) (c1 : decide (x < 0) = false) (c2 : decide (y < 0) = false) (c3 : decide (x > 4611686018427387904) = false) (c4 : decide (y > 4611686018427387904) = false) (c5 : decide (z < x) = false) (c6 : decide (z < y) = false) (c7 : decide (x ≤ 2305843009213693952) = true) (c8 : decide (y ≤ 2305843009213693952) = false) (h8 : call 8 [] = some (.bool true, [])) (w1 : call 13 [.v (.sl 4 A), .v (.sl 4 B)] = some (.bool true, o1)) (c10 : decide (y > x) = true) (w2 : call 13 [.v (.sl 4 B), .v (.sl 4 A)] = some (.bool false, o2)) (w3 : call 13 [.v (.sl 4 A), .v (.sl 4 A)] = some (.bool false, o3)) :
    stepF Cf n call 6 [.v (.sl 4 A), .v (.sl 4 B)] = some (.bool true, [.v (.sl 4 A), .v (.sl 4 B)]) :=
  runO_ok (ans := [.go, .go, .go, .ret (.bool true) o7, .go, .go, .ret (.int .i64 x) oA, .go, .ret (.int .i64 y) oB, .go, .go, .app, .go, .app, .ret (.int .i64 z) oC, .go, .go, .go, .go, .bit false, .go, .go, .bit false, .go, .go, .go, .bit false, .go, .go, .go, .bit false, .go, .go, .go, .go, .bit false, .go, .go, .go, .go, .bit false, .go, .go, .go, .bit true, .go, .go, .bit false, .go, .go, .go, .go, .ret (.bool true) [], .go, .go, .go, .ret (.bool true) o1, .go, .go, .bit true, .go, .go, .go, .go, .go, .ret (.bool true) o1, .go, .go, .go, .ret (.bool false) o2, .go, .go, .go, .go, .go, .go, .ret (.bool false) o3, .go, .go, .go]) (ps := [call 7 [.v (.sl 4 A), .v (.sl 4 B)] = some (.bool true, o7), call 11 [.v (.sl 4 A)] = some (.int .i64 x, oA), call 11 [.v (.sl 4 B)] = some (.int .i64 y, oB), (0 + A.length) * byT Cf 44 ≤ 140737488355328, (A.length + B.length) * byT Cf 44 ≤ 140737488355328, call 11 [.v (.sl 4 (A ++ B))] = some (.int .i64 z, oC), decide (x < 0) = false, decide (y < 0) = false, decide (x > 4611686018427387904) = false, decide (y > 4611686018427387904) = false, decide (z < x) = false, decide (z < y) = false, decide (x ≤ 2305843009213693952) = true, decide (y ≤ 2305843009213693952) = false, call 8 [] = some (.bool true, []), call 13 [.v (.sl 4 A), .v (.sl 4 B)] = some (.bool true, o1), decide (y > x) = true, call 13 [.v (.sl 4 A), .v (.sl 4 B)] = some (.bool true, o1), call 13 [.v (.sl 4 B), .v (.sl 4 A)] = some (.bool false, o2), call 13 [.v (.sl 4 A), .v (.sl 4 A)] = some (.bool false, o3)]) (by kernel_rfl) ⟨h7, ha, hb, ls, lt, hc, c1, c2, c3, c4, c5, c6, c7, c8, h8, w1, c10, w1, w2, w3⟩
theorem law6_mf (call : CallF) (n : Nat) (A B : List AV) (x y z : Int) (o7 oA oB oC o1 o3 : List Slot) (h7 : call 7 [.v (.sl 4 A), .v (.sl 4 B)] = some (.bool true, o7)) (ha : call 11 [.v (.sl 4 A)] = some (.int .i64 x, oA)) (hb : call 11 [.v (.sl 4 B)] = some (.int .i64 y, oB)) (ls : (0 + A.length) * byT Cf 44 ≤ 140737488355328) (lt : (A.length + B.length) * byT Cf 44 ≤ 140737488355328) (hc : call 11 [.v (.sl 4 (A ++ B))] = some (.int .i64 z, oC)) (c1 : decide (x < 0) = false) (c2 : decide (y < 0) = false) (c3 : decide (x > 4611686018427387904) = false) (c4 : decide (y > 4611686018427387904) = false) (c5 : decide (z < x) = false) (c6 : decide (z < y) = false) (c7 : decide (x ≤ 2305843009213693952) = true) (c8 : decide (y ≤ 2305843009213693952) = false) (h8 : call 8 [] = some (.bool true, [])) (w1 : call 13 [.v (.sl 4 A), .v (.sl 4 B)] = some (.bool false, o1)) (c10 : decide (y > x) = false) (w3 : call 13 [.v (.sl 4 A), .v (.sl 4 A)] = some (.bool false, o3)) :
    stepF Cf n call 6 [.v (.sl 4 A), .v (.sl 4 B)] = some (.bool true, [.v (.sl 4 A), .v (.sl 4 B)]) :=
  runO_ok (ans := [.go, .go, .go, .ret (.bool true) o7, .go, .go, .ret (.int .i64 x) oA, .go, .ret (.int .i64 y) oB, .go, .go, .app, .go, .app, .ret (.int .i64 z) oC, .go, .go, .go, .go, .bit false, .go, .go, .bit false, .go, .go, .go, .bit false, .go, .go, .go, .bit false, .go, .go, .go, .go, .bit false, .go, .go, .go, .go, .bit false, .go, .go, .go, .bit true, .go, .go, .bit false, .go, .go, .go, .go, .ret (.bool true) [], .go, .go, .go, .ret (.bool false) o1, .go, .go, .bit false, .go, .go, .go, .go, .go, .ret (.bool false) o1, .go, .go, .go, .go, .go, .go, .go, .ret (.bool false) o3, .go, .go, .go]) (ps := [call 7 [.v (.sl 4 A), .v (.sl 4 B)] = some (.bool true, o7), call 11 [.v (.sl 4 A)] = some (.int .i64 x, oA), call 11 [.v (.sl 4 B)] = some (.int .i64 y, oB), (0 + A.length) * byT Cf 44 ≤ 140737488355328, (A.length + B.length) * byT Cf 44 ≤ 140737488355328, call 11 [.v (.sl 4 (A ++ B))] = some (.int .i64 z, oC), decide (x < 0) = false, decide (y < 0) = false, decide (x > 4611686018427387904) = false, decide (y > 4611686018427387904) = false, decide (z < x) = false, decide (z < y) = false, decide (x ≤ 2305843009213693952) = true, decide (y ≤ 2305843009213693952) = false, call 8 [] = some (.bool true, []), call 13 [.v (.sl 4 A), .v (.sl 4 B)] = some (.bool false, o1), decide (y > x) = false, call 13 [.v (.sl 4 A), .v (.sl 4 B)] = some (.bool false, o1), call 13 [.v (.sl 4 A), .v (.sl 4 A)] = some (.bool false, o3)]) (by kernel_rfl) ⟨h7, ha, hb, ls, lt, hc, c1, c2, c3, c4, c5, c6, c7, c8, h8, w1, c10, w1, w3⟩
theorem law6_pt (call : CallF) (n : Nat) (A B : List AV) (x y z : Int) (o7 oA oB oC o1 o3 : List Slot) (o2 : List Slot) (h7 : call 7 [.v (.sl 4 A), .v (.sl 4 B)] = some (.bool true, o7)) (ha : call 11 [.v (.sl 4 A)] = some (.int .i64 x, oA)) (hb : call 11 [.v (.sl 4 B)] = some (.int .i64 y, oB)) (ls : (0 + A.length) * byT Cf 44 ≤ 140737488355328) (lt : (A.length + B.length) * byT Cf 44 ≤ 140737488355328) (hc : call 11 [.v (.sl 4 (A ++ B))] = some (.int .i64 z, oC)) (c1 : decide (x < 0) = false) (c2 : decide (y < 0) = false) (c3 : decide (x > 4611686018427387904) = false) (c4 : decide (y > 4611686018427387904) = false) (c5 : decide (z < x) = false) (c6 : decide (z < y) = false) (c7 : decide (x ≤ 2305843009213693952) = true) (c8 : decide (y ≤ 2305843009213693952) = true) (c9 : (z != IntKind.wrap .i64 (x + y)) = false) (h8 : call 8 [] = some (.bool true, [])) (w1 : call 13 [.v (.sl 4 A), .v (.sl 4 B)] = some (.bool true, o1)) (c10 : decide (y > x) = true) (w2 : call 13 [.v (.sl 4 B), .v (.sl 4 A)] = some (.bool false, o2)) (w3 : call 13 [.v (.sl 4 A), .v (.sl 4 A)] = some (.bool false, o3)) :
    stepF Cf n call 6 [.v (.sl 4 A), .v (.sl 4 B)] = some (.bool true, [.v (.sl 4 A), .v (.sl 4 B)]) :=
  runO_ok (ans := [.go, .go, .go, .ret (.bool true) o7, .go, .go, .ret (.int .i64 x) oA, .go, .ret (.int .i64 y) oB, .go, .go, .app, .go, .app, .ret (.int .i64 z) oC, .go, .go, .go, .go, .bit false, .go, .go, .bit false, .go, .go, .go, .bit false, .go, .go, .go, .bit false, .go, .go, .go, .go, .bit false, .go, .go, .go, .go, .bit false, .go, .go, .go, .bit true, .go, .go, .bit true, .go, .go, .go, .go, .go, .go, .bit false, .go, .go, .ret (.bool true) [], .go, .go, .go, .ret (.bool true) o1, .go, .go, .bit true, .go, .go, .go, .go, .go, .ret (.bool true) o1, .go, .go, .go, .ret (.bool false) o2, .go, .go, .go, .go, .go, .go, .ret (.bool false) o3, .go, .go, .go]) (ps := [call 7 [.v (.sl 4 A), .v (.sl 4 B)] = some (.bool true, o7), call 11 [.v (.sl 4 A)] = some (.int .i64 x, oA), call 11 [.v (.sl 4 B)] = some (.int .i64 y, oB), (0 + A.length) * byT Cf 44 ≤ 140737488355328, (A.length + B.length) * byT Cf 44 ≤ 140737488355328, call 11 [.v (.sl 4 (A ++ B))] = some (.int .i64 z, oC), decide (x < 0) = false, decide (y < 0) = false, decide (x > 4611686018427387904) = false, decide (y > 4611686018427387904) = false, decide (z < x) = false, decide (z < y) = false, decide (x ≤ 2305843009213693952) = true, decide (y ≤ 2305843009213693952) = true, (z != IntKind.wrap .i64 (x + y)) = false, call 8 [] = some (.bool true, []), call 13 [.v (.sl 4 A), .v (.sl 4 B)] = some (.bool true, o1), decide (y > x) = true, call 13 [.v (.sl 4 A), .v (.sl 4 B)] = some (.bool true, o1), call 13 [.v (.sl 4 B), .v (.sl 4 A)] = some (.bool false, o2), call 13 [.v (.sl 4 A), .v (.sl 4 A)] = some (.bool false, o3)]) (by kernel_rfl) ⟨h7, ha, hb, ls, lt, hc, c1, c2, c3, c4, c5, c6, c7, c8, c9, h8, w1, c10, w1, w2, w3⟩
theorem law6_pf (call : CallF) (n : Nat) (A B : List AV) (x y z : Int) (o7 oA oB oC o1 o3 : List Slot) (h7 : call 7 [.v (.sl 4 A), .v (.sl 4 B)] = some (.bool true, o7)) (ha : call 11 [.v (.sl 4 A)] = some (.int .i64 x, oA)) (hb : call 11 [.v (.sl 4 B)] = some (.int .i64 y, oB)) (ls : (0 + A.length) * byT Cf 44 ≤ 140737488355328) (lt : (A.length + B.length) * byT Cf 44 ≤ 140737488355328) (hc : call 11 [.v (.sl 4 (A ++ B))] = some (.int .i64 z, oC)) (c1 : decide (x < 0) = false) (c2 : decide (y < 0) = false) (c3 : decide (x > 4611686018427387904) = false) (c4 : decide (y > 4611686018427387904) = false) (c5 : decide (z < x) = false) (c6 : decide (z < y) = false) (c7 : decide (x ≤ 2305843009213693952) = true) (c8 : decide (y ≤ 2305843009213693952) = true) (c9 : (z != IntKind.wrap .i64 (x + y)) = false) (h8 : call 8 [] = some (.bool true, [])) (w1 : call 13 [.v (.sl 4 A), .v (.sl 4 B)] = some (.bool false, o1)) (c10 : decide (y > x) = false) (w3 : call 13 [.v (.sl 4 A), .v (.sl 4 A)] = some (.bool false, o3)) :
    stepF Cf n call 6 [.v (.sl 4 A), .v (.sl 4 B)] = some (.bool true, [.v (.sl 4 A), .v (.sl 4 B)]) :=
  runO_ok (ans := [.go, .go, .go, .ret (.bool true) o7, .go, .go, .ret (.int .i64 x) oA, .go, .ret (.int .i64 y) oB, .go, .go, .app, .go, .app, .ret (.int .i64 z) oC, .go, .go, .go, .go, .bit false, .go, .go, .bit false, .go, .go, .go, .bit false, .go, .go, .go, .bit false, .go, .go, .go, .go, .bit false, .go, .go, .go, .go, .bit false, .go, .go, .go, .bit true, .go, .go, .bit true, .go, .go, .go, .go, .go, .go, .bit false, .go, .go, .ret (.bool true) [], .go, .go, .go, .ret (.bool false) o1, .go, .go, .bit false, .go, .go, .go, .go, .go, .ret (.bool false) o1, .go, .go, .go, .go, .go, .go, .go, .ret (.bool false) o3, .go, .go, .go]) (ps := [call 7 [.v (.sl 4 A), .v (.sl 4 B)] = some (.bool true, o7), call 11 [.v (.sl 4 A)] = some (.int .i64 x, oA), call 11 [.v (.sl 4 B)] = some (.int .i64 y, oB), (0 + A.length) * byT Cf 44 ≤ 140737488355328, (A.length + B.length) * byT Cf 44 ≤ 140737488355328, call 11 [.v (.sl 4 (A ++ B))] = some (.int .i64 z, oC), decide (x < 0) = false, decide (y < 0) = false, decide (x > 4611686018427387904) = false, decide (y > 4611686018427387904) = false, decide (z < x) = false, decide (z < y) = false, decide (x ≤ 2305843009213693952) = true, decide (y ≤ 2305843009213693952) = true, (z != IntKind.wrap .i64 (x + y)) = false, call 8 [] = some (.bool true, []), call 13 [.v (.sl 4 A), .v (.sl 4 B)] = some (.bool false, o1), decide (y > x) = false, call 13 [.v (.sl 4 A), .v (.sl 4 B)] = some (.bool false, o1), call 13 [.v (.sl 4 A), .v (.sl 4 A)] = some (.bool false, o3)]) (by kernel_rfl) ⟨h7, ha, hb, ls, lt, hc, c1, c2, c3, c4, c5, c6, c7, c8, c9, h8, w1, c10, w1, w3⟩
end Go.Proofs.YtccahnafehfjlaaGreat

open Go Go.E
namespace Go.Proofs.YtccahnafehfjlaaGreat
set_option maxRecDepth 100000
theorem by44 : byT Cf 44 = 32 := by kernel_rfl
/-- What is known of calls: the law's callees, from below. -/
noncomputable def L1 : CallF := stepF Cf 1000001 tab2
noncomputable def L2 : CallF := fun k args => if k = 8 then tab2 k args else if k = 7 ∨ k = 11 then L1 k args else if k = 13 then stepF Cf 1000001 L1 k args else none
theorem L1_ok : CallOK Cf L1 := stepF_ok (code_ok prim_collect) tab2_ok 1000001
theorem L2_ok : CallOK Cf L2 := by
  refine callOK_of fun {k args r} h => ?_
  unfold L2 at h
  split at h
  · exact ⟨_, tab2_ok, h⟩
  · split at h
    · exact ⟨_, L1_ok, h⟩
    · split at h
      · exact ⟨_, stepF_ok (code_ok prim_collect) L1_ok 1000001, h⟩
      · cases h
theorem L2_awake : L2 8 [] = some (.bool true, []) := by
  unfold L2
  rw [if_pos rfl]
  exact (by kernel_rfl : tab2 8 [] = some (.bool true, []))
theorem L2_few (A B : List AV) : L2 7 [.v (.sl 4 A), .v (.sl 4 B)] = some (.bool (decide ((A.length : Int) ≤ 300) && decide ((B.length : Int) ≤ 300)), [.v (.sl 4 A), .v (.sl 4 B)]) := by
  unfold L2
  rw [if_neg (by decide), if_pos (by decide)]
  exact few_ok tab2 1000001 A B
theorem L1_score (vs : List V4) (h : vs.length ≤ 1000000) : L1 11 [.v (.sl 4 (vs.map V4.av))] = some (.int .i64 (scoreL 0 (vs.map V4.s)), [.v (.sl 4 (vs.map V4.av))]) := score_ok tab2 vs h
theorem L2_score (vs : List V4) (h : vs.length ≤ 1000000) : L2 11 [.v (.sl 4 (vs.map V4.av))] = some (.int .i64 (scoreL 0 (vs.map V4.s)), [.v (.sl 4 (vs.map V4.av))]) := by
  unfold L2
  rw [if_neg (by decide), if_pos (by decide)]
  exact L1_score vs h
theorem L2_worse (vs ws : List V4) (h : vs.length ≤ 1000000) (h2 : ws.length ≤ 1000000) :
    L2 13 [.v (.sl 4 (vs.map V4.av)), .v (.sl 4 (ws.map V4.av))] = some (.bool (decide (scoreL 0 (ws.map V4.s) > scoreL 0 (vs.map V4.s))), [.v (.sl 4 (vs.map V4.av)), .v (.sl 4 (ws.map V4.av))]) := by
  unfold L2
  rw [if_neg (by decide), if_neg (by decide), if_pos rfl]
  exact worse_ok L1 1000001 _ _ _ _ _ _ (L1_score vs h) (L1_score ws h2)
/-- The law of scores. -/
theorem law6_true (n : Nat) (vs ws : List V4) : stepF Cf n L2 6 [.v (.sl 4 (vs.map V4.av)), .v (.sl 4 (ws.map V4.av))] = some (.bool true, [.v (.sl 4 (vs.map V4.av)), .v (.sl 4 (ws.map V4.av))]) := by
  have hf := L2_few (vs.map V4.av) (ws.map V4.av)
  by_cases hfew : vs.length ≤ 300 ∧ ws.length ≤ 300
  · obtain ⟨k1, k2⟩ := hfew
    rw [show (decide (((vs.map V4.av).length : Int) ≤ 300) && decide (((ws.map V4.av).length : Int) ≤ 300)) = true by simp; omega] at hf
    have hA := L2_score vs (by omega)
    have hB := L2_score ws (by omega)
    have hC := L2_score (vs ++ ws) (by simp; omega)
    rw [List.map_append, List.map_append] at hC
    have hw := L2_worse vs ws (by omega) (by omega)
    have hw2 := L2_worse ws vs (by omega) (by omega)
    have hw3 := L2_worse vs vs (by omega) (by omega)
    obtain ⟨m1, m2, m3, m4, m5, m6, m7⟩ := scores_law (vs.map V4.s) (ws.map V4.s) _ _ _ rfl rfl rfl
    generalize scoreL 0 (vs.map V4.s) = x at *
    generalize scoreL 0 (ws.map V4.s) = y at *
    generalize scoreL 0 (vs.map V4.s ++ ws.map V4.s) = z at *
    have e1 : decide (x < 0) = false := by simp; omega
    have e2 : decide (y < 0) = false := by simp; omega
    have e3 : decide (x > 4611686018427387904) = false := by simp; omega
    have e4 : decide (y > 4611686018427387904) = false := by simp; omega
    have e5 : decide (z < x) = false := by simp; omega
    have e6 : decide (z < y) = false := by simp; omega
    have s1 : (0 + (vs.map V4.av).length) * byT Cf 44 ≤ 140737488355328 := by rw [by44, List.length_map]; omega
    have s2 : ((vs.map V4.av).length + (ws.map V4.av).length) * byT Cf 44 ≤ 140737488355328 := by rw [by44, List.length_map, List.length_map]; omega
    have w3 : decide (x > x) = false := by simp
    rw [w3] at hw3
    by_cases hxy : y > x
    · have w1 : decide (y > x) = true := by simpa using hxy
      have w2 : decide (x > y) = false := by simp; omega
      rw [w1] at hw
      rw [w2] at hw2
      by_cases hx : x ≤ 2305843009213693952
      · by_cases hy : y ≤ 2305843009213693952
        · have e9 : (z != IntKind.wrap .i64 (x + y)) = false := by rw [wrap_in (by omega) (by omega), m7 hx hy]; simp
          exact law6_pt L2 n _ _ x y z _ _ _ _ _ _ _ hf hA hB s1 s2 hC e1 e2 e3 e4 e5 e6 (by simpa using hx) (by simpa using hy) e9 L2_awake hw w1 hw2 hw3
        · exact law6_mt L2 n _ _ x y z _ _ _ _ _ _ _ hf hA hB s1 s2 hC e1 e2 e3 e4 e5 e6 (by simpa using hx) (by simp; omega) L2_awake hw w1 hw2 hw3
      · exact law6_nt L2 n _ _ x y z _ _ _ _ _ _ _ hf hA hB s1 s2 hC e1 e2 e3 e4 e5 e6 (by simp; omega) L2_awake hw w1 hw2 hw3
    · have w1 : decide (y > x) = false := by simp; omega
      rw [w1] at hw
      by_cases hx : x ≤ 2305843009213693952
      · by_cases hy : y ≤ 2305843009213693952
        · have e9 : (z != IntKind.wrap .i64 (x + y)) = false := by rw [wrap_in (by omega) (by omega), m7 hx hy]; simp
          exact law6_pf L2 n _ _ x y z _ _ _ _ _ _ hf hA hB s1 s2 hC e1 e2 e3 e4 e5 e6 (by simpa using hx) (by simpa using hy) e9 L2_awake hw w1 hw3
        · exact law6_mf L2 n _ _ x y z _ _ _ _ _ _ hf hA hB s1 s2 hC e1 e2 e3 e4 e5 e6 (by simpa using hx) (by simp; omega) L2_awake hw w1 hw3
      · exact law6_nf L2 n _ _ x y z _ _ _ _ _ _ hf hA hB s1 s2 hC e1 e2 e3 e4 e5 e6 (by simp; omega) L2_awake hw w1 hw3
  · rw [show (decide (((vs.map V4.av).length : Int) ≤ 300) && decide (((ws.map V4.av).length : Int) ≤ 300)) = false by simp; omega] at hf
    exact law6_big L2 n _ _ _ hf L2_awake
end Go.Proofs.YtccahnafehfjlaaGreat

open Go Go.E
namespace Go.Proofs.YtccahnafehfjlaaGreat
open Go.ChangeShapes Go.WideShapes Go.ChangeAt Go.RowKit
set_option maxRecDepth 100000
theorem scores_lifted (os : Os) (started : os.Started) (H : Type) (enc : TypeId × Value → H) :
    ReturnsInHanded {} Tryz.checked os 6 .any (Rows.rulesScoresSpec.pre6 enc Tryz.prog Tryz.f6 Rows.rulesScoresRow.domain false) (Rows.rulesScoresSpec.post enc Tryz.prog Tryz.f6 false true false false) := by
  refine law_lifted (s := Rows.rulesScoresSpec) started (by kernel_rfl) Tryz.func6 rfl (of_decide_eq_true (by kernel_rfl)) (by kernel_rfl) (by kernel_rfl) ?_
    (ChangeSpec.witness6 (enc := enc) (C := Tryz.checked) false ⟨#[], #[.slice none 0 0, .slice none 0 0], []⟩ 8 (by kernel_rfl) (by kernel_rfl) (by kernel_rfl) (by kernel_rfl)) ?_
  · intro ds hl
    rw [Tryz.params6] at hl
    match ds, hl with
    | [a, b], _ => exact ⟨rfl, rfl, rfl⟩
  · intro xs h
    rw [Tryz.params6] at h
    obtain ⟨x, xs1, rfl, h1, y, xs2, rfl, h2, h3⟩ := h
    have h3 : xs2 = [] := h3
    subst h3
    obtain ⟨vs, rfl⟩ := isT_vios h1
    obtain ⟨ws, rfl⟩ := isT_vios h2
    exact ⟨stepF Cf 0 L2, _, stepF_ok (code_ok prim_collect) L2_ok 0, law6_true 0 vs ws⟩
theorem scores_holds : Rows.RulesScoresSaid :=
  OpenClaim.holds_of_wide 6 Tryz.f6 rfl rfl rfl rfl rfl rfl rfl ⟨rfl, rfl, rfl, rfl, rfl⟩ rfl rfl rfl rfl rfl (by kernel_rfl) Tryz.func6 (by kernel_rfl)
    (of_decide_eq_true (by kernel_rfl)) (by unfold Func.isWrapper; first | (rw [if_pos (by decide +kernel)]; kernel_rfl) | (rw [if_neg (by decide +kernel)]; exact ⟨rfl, rfl⟩))
    (fun os started H enc _ => scores_lifted os started H enc)
#print axioms scores_holds
end Go.Proofs.YtccahnafehfjlaaGreat
