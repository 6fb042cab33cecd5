/- Proved: what functions of the program come to, by their conditions over the abstract machine. Conditions: those that each theorem states. -/
import Derived.Test.YtabbkoegaoekkaaCh2
set_option linter.unusedVariables false
set_option linter.unusedSimpArgs false
namespace Go.Proofs.Ytabbkoegaoekkaa
open Go.RowKit Go.Proofs.Ytabbkoegaoekkaa.AM
set_option maxRecDepth 100000
set_option maxHeartbeats 4000000

theorem r1946 (hm : Try.prog.follows .mixedOrders = true) (ca : List Value) (s1 : Option Nat) (len k1 : Nat) (top mo ow : Int) (i : Nat) (m k : Nat) (cy : List Value) (K : Post) :
  roundX Try.prog (S1946 hm) (gcLKX (at0 [1]) (at0 [.cell 5 1 2]) 1 (cutE [cut1946b ca s1 len k1 top mo ow i])) F1946 body1946 1 [1] [] [1] [] [1,5,6,7] [0,0,1,0,1,1,1,1,1] (T1946 s1 len k1 top i) (H1946 ca mo m k cy) K = (
Alt (ltI (↑i : Int) (↑len : Int)) (Need (ltI (↑i : Int) (↑len : Int)) (Need (isInt IntKind.i64 ((getO ca (0 + (↑i : Int).toNat * 4 + 2)).getD undef)) (True ∧ True ∧ ∀ (x : ByteArray), TokR (intV ((getO ca (0 + (↑i :
Int).toNat * 4 + 2)).getD undef)) x → (nojL [Value.int IntKind.i64 mo, Value.slice (some { block := 1, off := 0, spot := some 1 : Addr }) m k] = true ∧ FlatL cy ∧ True) ∧ (IsP tkF tkG TkOk cy m k ∧ Need (leN m 1000000)
True) ∧ Alt (ltI (placeF x 0 (-1) (tksAt cy m)) 0) (Need (ltI (↑i : Int) (↑len : Int)) (Need (isInt IntKind.i64 ((getO ca (0 + (↑i : Int).toNat * 4 + 1)).getD undef)) (Alt (ltI (intV ((getO ca (0 + (↑i : Int).toNat * 4 +
1)).getD undef)) 0) ((nojL [Value.int IntKind.i64 mo, Value.slice (some { block := 1, off := 0, spot := some 1 : Addr }) m k] = true ∧ FlatL cy ∧ True) ∧ (IsP tkF tkG TkOk cy m k ∧ Need (leN m 1000000) True) ∧ Alt (ltI
(placeF x 0 (-1) (tksAt cy m)) 0) (FlatD [1] (hp [Blk.cells ca 4 false, Blk.cells [Value.int IntKind.i64 mo, Value.slice (some { block := 2, off := 0, spot := some 1 : Addr }) m k] 2 true, Blk.cells cy 2 true]) ∧ ∃ (b :
StO × Int), tmps 154 [(1, Value.slice (some { block := 0, off := 0, spot := s1 : Addr }) len k1), (5, Value.pointer (some { block := 1, off := 0 : Addr })), (6, Value.int IntKind.i64 top), (7, Value.int IntKind.i64 (↑i :
Int)), (11, Value.int IntKind.i64 1)] = tmps 154 [(1, Value.slice (some { block := 0, off := 0, spot := s1 : Addr }) len k1), (5, Value.pointer (some { block := 1, off := 0 : Addr })), (6, Value.int IntKind.i64 top), (7,
Value.int IntKind.i64 (↑i : Int)), (11, Value.int IntKind.i64 b.snd)] ∧ hp [Blk.cells ca 4 false, Blk.cells [Value.int IntKind.i64 mo, Value.slice (some { block := 2, off := 0, spot := some 1 : Addr }) m k] 2 true,
Blk.cells cy 2 true] = hp [Blk.cells ca 4 false, Blk.cells [Value.int IntKind.i64 mo, Value.slice (some { block := 2, off := 0, spot := some 1 : Addr }) b.fst.m b.fst.k] 2 true, Blk.cells b.fst.cy 2 true] ∧ (i.succ.le
len ∧ One top (i + 1) b.fst.L b.fst.cy b.fst.m b.fst.k ∧ (b.snd = 10 → (↑(ofL ow b.fst.L).length : Int) = top)) ∧ K AE.normal (tmps 154 [(1, Value.slice (some { block := 0, off := 0, spot := s1 : Addr }) len k1), (5,
Value.pointer (some { block := 1, off := 0 : Addr })), (6, Value.int IntKind.i64 top), (7, Value.int IntKind.i64 (wr IntKind.i64 ((↑i : Int) + 1)))]) (hp [Blk.cells ca 4 false, Blk.cells [Value.int IntKind.i64 mo,
Value.slice (some { block := 2, off := 0, spot := some 1 : Addr }) b.fst.m b.fst.k] 2 true, Blk.cells b.fst.cy 2 true])) (Need (leI 0 (placeF x 0 (-1) (tksAt cy m))) (Need (ltI (placeF x 0 (-1) (tksAt cy m)) (↑m : Int))
(Need (isInt IntKind.i64 ((getO cy (0 + (placeF x 0 (-1) (tksAt cy m)).toNat * 2 + 1)).getD undef)) (K AE.ret (tmps 154 [(4, Value.bool false)]) (hp [Blk.cells ca 4 false])))))) (True ∧ True ∧ Alt (!(leI 4 (↑x.size :
Int) && leI (↑x.size : Int) 16)) ((nojL [Value.int IntKind.i64 mo, Value.slice (some { block := 1, off := 0, spot := some 1 : Addr }) m k] = true ∧ FlatL cy ∧ True) ∧ (IsP tkF tkG TkOk cy m k ∧ Need (leN m 1000000) True)
∧ Alt (ltI (placeF x 0 (-1) (tksAt cy m)) 0) (FlatD [1] (hp [Blk.cells ca 4 false, Blk.cells [Value.int IntKind.i64 mo, Value.slice (some { block := 2, off := 0, spot := some 1 : Addr }) m k] 2 true, Blk.cells cy 2
true]) ∧ ∃ (b : StO × Int), tmps 154 [(1, Value.slice (some { block := 0, off := 0, spot := s1 : Addr }) len k1), (5, Value.pointer (some { block := 1, off := 0 : Addr })), (6, Value.int IntKind.i64 top), (7, Value.int
IntKind.i64 (↑i : Int)), (11, Value.int IntKind.i64 1)] = tmps 154 [(1, Value.slice (some { block := 0, off := 0, spot := s1 : Addr }) len k1), (5, Value.pointer (some { block := 1, off := 0 : Addr })), (6, Value.int
IntKind.i64 top), (7, Value.int IntKind.i64 (↑i : Int)), (11, Value.int IntKind.i64 b.snd)] ∧ hp [Blk.cells ca 4 false, Blk.cells [Value.int IntKind.i64 mo, Value.slice (some
{ block := 2, off := 0, spot := some 1 : Addr }) m k] 2 true, Blk.cells cy 2 true] = hp [Blk.cells ca 4 false, Blk.cells [Value.int IntKind.i64 mo, Value.slice (some { block := 2, off := 0, spot := some 1 : Addr })
b.fst.m b.fst.k] 2 true, Blk.cells b.fst.cy 2 true] ∧ (i.succ.le len ∧ One top (i + 1) b.fst.L b.fst.cy b.fst.m b.fst.k ∧ (b.snd = 10 → (↑(ofL ow b.fst.L).length : Int) = top)) ∧ K AE.normal (tmps 154 [(1, Value.slice
(some { block := 0, off := 0, spot := s1 : Addr }) len k1), (5, Value.pointer (some { block := 1, off := 0 : Addr })), (6, Value.int IntKind.i64 top), (7, Value.int IntKind.i64 (wr IntKind.i64 ((↑i : Int) + 1)))]) (hp
[Blk.cells ca 4 false, Blk.cells [Value.int IntKind.i64 mo, Value.slice (some { block := 2, off := 0, spot := some 1 : Addr }) b.fst.m b.fst.k] 2 true, Blk.cells b.fst.cy 2 true])) (Need (leI 0 (placeF x 0 (-1) (tksAt cy
m))) (Need (ltI (placeF x 0 (-1) (tksAt cy m)) (↑m : Int)) (Need (isInt IntKind.i64 ((getO cy (0 + (placeF x 0 (-1) (tksAt cy m)).toNat * 2 + 1)).getD undef)) (K AE.ret (tmps 154 [(4, Value.bool false)]) (hp [Blk.cells
ca 4 false])))))) ((nojL [Value.int IntKind.i64 mo, Value.slice (some { block := 1, off := 0, spot := some 1 : Addr }) m k] = true ∧ FlatL cy ∧ True) ∧ (IsP tkF tkG TkOk cy m k ∧ Need (leN m 1000000) True) ∧ Alt (leI 0
(placeF x 0 (-1) (tksAt cy m))) ((nojL [Value.int IntKind.i64 mo, Value.slice (some { block := 1, off := 0, spot := some 1 : Addr }) m k] = true ∧ FlatL cy ∧ True) ∧ (IsP tkF tkG TkOk cy m k ∧ Need (leN m 1000000) True)
∧ Alt (ltI (placeF x 0 (-1) (tksAt cy m)) 0) (FlatD [1] (hp [Blk.cells ca 4 false, Blk.cells [Value.int IntKind.i64 mo, Value.slice (some { block := 2, off := 0, spot := some 1 : Addr }) m k] 2 true, Blk.cells cy 2
true]) ∧ ∃ (b : StO × Int), tmps 154 [(1, Value.slice (some { block := 0, off := 0, spot := s1 : Addr }) len k1), (5, Value.pointer (some { block := 1, off := 0 : Addr })), (6, Value.int IntKind.i64 top), (7, Value.int
IntKind.i64 (↑i : Int)), (11, Value.int IntKind.i64 9)] = tmps 154 [(1, Value.slice (some { block := 0, off := 0, spot := s1 : Addr }) len k1), (5, Value.pointer (some { block := 1, off := 0 : Addr })), (6, Value.int
IntKind.i64 top), (7, Value.int IntKind.i64 (↑i : Int)), (11, Value.int IntKind.i64 b.snd)] ∧ hp [Blk.cells ca 4 false, Blk.cells [Value.int IntKind.i64 mo, Value.slice (some
{ block := 2, off := 0, spot := some 1 : Addr }) m k] 2 true, Blk.cells cy 2 true] = hp [Blk.cells ca 4 false, Blk.cells [Value.int IntKind.i64 mo, Value.slice (some { block := 2, off := 0, spot := some 1 : Addr })
b.fst.m b.fst.k] 2 true, Blk.cells b.fst.cy 2 true] ∧ (i.succ.le len ∧ One top (i + 1) b.fst.L b.fst.cy b.fst.m b.fst.k ∧ (b.snd = 10 → (↑(ofL ow b.fst.L).length : Int) = top)) ∧ K AE.normal (tmps 154 [(1, Value.slice
(some { block := 0, off := 0, spot := s1 : Addr }) len k1), (5, Value.pointer (some { block := 1, off := 0 : Addr })), (6, Value.int IntKind.i64 top), (7, Value.int IntKind.i64 (wr IntKind.i64 ((↑i : Int) + 1)))]) (hp
[Blk.cells ca 4 false, Blk.cells [Value.int IntKind.i64 mo, Value.slice (some { block := 2, off := 0, spot := some 1 : Addr }) b.fst.m b.fst.k] 2 true, Blk.cells b.fst.cy 2 true])) (Need (leI 0 (placeF x 0 (-1) (tksAt cy
m))) (Need (ltI (placeF x 0 (-1) (tksAt cy m)) (↑m : Int)) (Need (isInt IntKind.i64 ((getO cy (0 + (placeF x 0 (-1) (tksAt cy m)).toNat * 2 + 1)).getD undef)) (K AE.ret (tmps 154 [(4, Value.bool false)]) (hp [Blk.cells
ca 4 false])))))) ((nojL [Value.int IntKind.i64 mo, Value.slice (some { block := 1, off := 0, spot := some 1 : Addr }) m k] = true ∧ FlatL cy ∧ True) ∧ (IsP tkF tkG TkOk cy m k ∧ Need (leN m 1000000) True) ∧ ∀ (x_1 :
List Value × Nat), IsS (srt (ofL (intV ((getO ca (0 + (↑i : Int).toNat * 4 + 1)).getD undef)) (tksAt cy m))) x_1.fst (ofL (intV ((getO ca (0 + (↑i : Int).toNat * 4 + 1)).getD undef)) (tksAt cy m)).length x_1.snd → Need
(beqV 64 (Value.int IntKind.i64 (intV (Value.int IntKind.i64 mo))) (Value.int IntKind.i64 (intV (Value.int IntKind.i64 mo)))) (Alt (leI (intV (Value.int IntKind.i64 mo)) (↑(ofL (intV ((getO ca (0 + (↑i : Int).toNat * 4 +
1)).getD undef)) (tksAt cy m)).length : Int)) ((nojL [Value.int IntKind.i64 mo, Value.slice (some { block := 1, off := 0, spot := some 1 : Addr }) m k] = true ∧ FlatL cy ∧ True) ∧ (IsP tkF tkG TkOk cy m k ∧ Need (leN m
1000000) True) ∧ Alt (ltI (placeF x 0 (-1) (tksAt cy m)) 0) (FlatD [1] (hp [Blk.cells ca 4 false, Blk.cells [Value.int IntKind.i64 mo, Value.slice (some { block := 2, off := 0, spot := some 1 : Addr }) m k] 2 true,
Blk.cells cy 2 true]) ∧ ∃ (b : StO × Int), tmps 154 [(1, Value.slice (some { block := 0, off := 0, spot := s1 : Addr }) len k1), (5, Value.pointer (some { block := 1, off := 0 : Addr })), (6, Value.int IntKind.i64 top),
(7, Value.int IntKind.i64 (↑i : Int)), (11, Value.int IntKind.i64 10)] = tmps 154 [(1, Value.slice (some { block := 0, off := 0, spot := s1 : Addr }) len k1), (5, Value.pointer (some { block := 1, off := 0 : Addr })),
(6, Value.int IntKind.i64 top), (7, Value.int IntKind.i64 (↑i : Int)), (11, Value.int IntKind.i64 b.snd)] ∧ hp [Blk.cells ca 4 false, Blk.cells [Value.int IntKind.i64 mo, Value.slice (some
{ block := 2, off := 0, spot := some 1 : Addr }) m k] 2 true, Blk.cells cy 2 true] = hp [Blk.cells ca 4 false, Blk.cells [Value.int IntKind.i64 mo, Value.slice (some { block := 2, off := 0, spot := some 1 : Addr })
b.fst.m b.fst.k] 2 true, Blk.cells b.fst.cy 2 true] ∧ (i.succ.le len ∧ One top (i + 1) b.fst.L b.fst.cy b.fst.m b.fst.k ∧ (b.snd = 10 → (↑(ofL ow b.fst.L).length : Int) = top)) ∧ K AE.normal (tmps 154 [(1, Value.slice
(some { block := 0, off := 0, spot := s1 : Addr }) len k1), (5, Value.pointer (some { block := 1, off := 0 : Addr })), (6, Value.int IntKind.i64 top), (7, Value.int IntKind.i64 (wr IntKind.i64 ((↑i : Int) + 1)))]) (hp
[Blk.cells ca 4 false, Blk.cells [Value.int IntKind.i64 mo, Value.slice (some { block := 2, off := 0, spot := some 1 : Addr }) b.fst.m b.fst.k] 2 true, Blk.cells b.fst.cy 2 true])) (Need (leI 0 (placeF x 0 (-1) (tksAt cy
m))) (Need (ltI (placeF x 0 (-1) (tksAt cy m)) (↑m : Int)) (Need (isInt IntKind.i64 ((getO cy (0 + (placeF x 0 (-1) (tksAt cy m)).toNat * 2 + 1)).getD undef)) (K AE.ret (tmps 154 [(4, Value.bool false)]) (hp [Blk.cells
ca 4 false])))))) (Need (leN (0 + m * 2) cy.length) (Need (leN ((m + 1) * 24) 1099511627776) (Need (leN (m + 1) 1099511627776) ((nojL [Value.int IntKind.i64 mo, Value.slice (some
{ block := 1, off := 0, spot := some 1 : Addr }) (m + 1) (m + 1)] = true ∧ FlatL (List.take (m * 2) (List.drop 0 cy) ++ [Value.string x, Value.int IntKind.i64 (intV ((getO ca (0 + (↑i : Int).toNat * 4 + 1)).getD
undef))]) ∧ True) ∧ (IsP tkF tkG TkOk (List.take (m * 2) (List.drop 0 cy) ++ [Value.string x, Value.int IntKind.i64 (intV ((getO ca (0 + (↑i : Int).toNat * 4 + 1)).getD undef))]) (m + 1) (m + 1) ∧ Need (leN (m + 1)
1000000) True) ∧ Alt (ltI (placeF x 0 (-1) (tksAt (List.take (m * 2) (List.drop 0 cy) ++ [Value.string x, Value.int IntKind.i64 (intV ((getO ca (0 + (↑i : Int).toNat * 4 + 1)).getD undef))]) (m + 1))) 0) (K AE.ret (tmps
154 [(4, Value.bool false)]) (hp [Blk.cells ca 4 false])) (Need (leI 0 (placeF x 0 (-1) (tksAt (List.take (m * 2) (List.drop 0 cy) ++ [Value.string x, Value.int IntKind.i64 (intV ((getO ca (0 + (↑i : Int).toNat * 4 +
1)).getD undef))]) (m + 1)))) (Need (ltI (placeF x 0 (-1) (tksAt (List.take (m * 2) (List.drop 0 cy) ++ [Value.string x, Value.int IntKind.i64 (intV ((getO ca (0 + (↑i : Int).toNat * 4 + 1)).getD undef))]) (m + 1))) (↑(m
+ 1) : Int)) (Need (isInt IntKind.i64 ((getO (List.take (m * 2) (List.drop 0 cy) ++ [Value.string x, Value.int IntKind.i64 (intV ((getO ca (0 + (↑i : Int).toNat * 4 + 1)).getD undef))]) (0 + (placeF x 0 (-1) (tksAt
(List.take (m * 2) (List.drop 0 cy) ++ [Value.string x, Value.int IntKind.i64 (intV ((getO ca (0 + (↑i : Int).toNat * 4 + 1)).getD undef))]) (m + 1))).toNat * 2 + 1)).getD undef)) (Need (ltI (↑i : Int) (↑len : Int))
(Need (isInt IntKind.i64 ((getO ca (0 + (↑i : Int).toNat * 4 + 1)).getD undef)) (Alt (!eqI (intV ((getO (List.take (m * 2) (List.drop 0 cy) ++ [Value.string x, Value.int IntKind.i64 (intV ((getO ca (0 + (↑i : Int).toNat
* 4 + 1)).getD undef))]) (0 + (placeF x 0 (-1) (tksAt (List.take (m * 2) (List.drop 0 cy) ++ [Value.string x, Value.int IntKind.i64 (intV ((getO ca (0 + (↑i : Int).toNat * 4 + 1)).getD undef))]) (m + 1))).toNat * 2 +
1)).getD undef)) (intV ((getO ca (0 + (↑i : Int).toNat * 4 + 1)).getD undef))) (K AE.ret (tmps 154 [(4, Value.bool false)]) (hp [Blk.cells ca 4 false])) (FlatD [1] (hp [Blk.cells ca 4 false, Blk.cells [Value.int
IntKind.i64 mo, Value.slice (some { block := 2, off := 0, spot := some 1 : Addr }) (m + 1) (m + 1)] 2 true, Blk.cells (List.take (m * 2) (List.drop 0 cy) ++ [Value.string x, Value.int IntKind.i64 (intV ((getO ca (0 + (↑i
: Int).toNat * 4 + 1)).getD undef))]) 2 true]) ∧ ∃ (b : StO × Int), tmps 154 [(1, Value.slice (some { block := 0, off := 0, spot := s1 : Addr }) len k1), (5, Value.pointer (some { block := 1, off := 0 : Addr })), (6,
Value.int IntKind.i64 top), (7, Value.int IntKind.i64 (↑i : Int)), (11, Value.int IntKind.i64 0)] = tmps 154 [(1, Value.slice (some { block := 0, off := 0, spot := s1 : Addr }) len k1), (5, Value.pointer (some
{ block := 1, off := 0 : Addr })), (6, Value.int IntKind.i64 top), (7, Value.int IntKind.i64 (↑i : Int)), (11, Value.int IntKind.i64 b.snd)] ∧ hp [Blk.cells ca 4 false, Blk.cells [Value.int IntKind.i64 mo, Value.slice
(some { block := 2, off := 0, spot := some 1 : Addr }) (m + 1) (m + 1)] 2 true, Blk.cells (List.take (m * 2) (List.drop 0 cy) ++ [Value.string x, Value.int IntKind.i64 (intV ((getO ca (0 + (↑i : Int).toNat * 4 + 1)).getD
undef))]) 2 true] = hp [Blk.cells ca 4 false, Blk.cells [Value.int IntKind.i64 mo, Value.slice (some { block := 2, off := 0, spot := some 1 : Addr }) b.fst.m b.fst.k] 2 true, Blk.cells b.fst.cy 2 true] ∧ (i.succ.le len ∧
One top (i + 1) b.fst.L b.fst.cy b.fst.m b.fst.k ∧ (b.snd = 10 → (↑(ofL ow b.fst.L).length : Int) = top)) ∧ K AE.normal (tmps 154 [(1, Value.slice (some { block := 0, off := 0, spot := s1 : Addr }) len k1), (5,
Value.pointer (some { block := 1, off := 0 : Addr })), (6, Value.int IntKind.i64 top), (7, Value.int IntKind.i64 (wr IntKind.i64 ((↑i : Int) + 1)))]) (hp [Blk.cells ca 4 false, Blk.cells [Value.int IntKind.i64 mo,
Value.slice (some { block := 2, off := 0, spot := some 1 : Addr }) b.fst.m b.fst.k] 2 true, Blk.cells b.fst.cy 2 true]))))))))))))))))))) (Need (leI 0 (placeF x 0 (-1) (tksAt cy m))) (Need (ltI (placeF x 0 (-1) (tksAt cy
m)) (↑m : Int)) (Need (isInt IntKind.i64 ((getO cy (0 + (placeF x 0 (-1) (tksAt cy m)).toNat * 2 + 1)).getD undef)) (Need (ltI (↑i : Int) (↑len : Int)) (Need (isInt IntKind.i64 ((getO ca (0 + (↑i : Int).toNat * 4 +
1)).getD undef)) (Alt (ltI (intV ((getO ca (0 + (↑i : Int).toNat * 4 + 1)).getD undef)) 0) ((nojL [Value.int IntKind.i64 mo, Value.slice (some { block := 1, off := 0, spot := some 1 : Addr }) m k] = true ∧ FlatL cy ∧
True) ∧ (IsP tkF tkG TkOk cy m k ∧ Need (leN m 1000000) True) ∧ Alt (ltI (placeF x 0 (-1) (tksAt cy m)) 0) (K AE.ret (tmps 154 [(4, Value.bool false)]) (hp [Blk.cells ca 4 false])) (Need (leI 0 (placeF x 0 (-1) (tksAt cy
m))) (Need (ltI (placeF x 0 (-1) (tksAt cy m)) (↑m : Int)) (Need (isInt IntKind.i64 ((getO cy (0 + (placeF x 0 (-1) (tksAt cy m)).toNat * 2 + 1)).getD undef)) (Alt (!eqI (intV ((getO cy (0 + (placeF x 0 (-1) (tksAt cy
m)).toNat * 2 + 1)).getD undef)) (intV ((getO cy (0 + (placeF x 0 (-1) (tksAt cy m)).toNat * 2 + 1)).getD undef))) (K AE.ret (tmps 154 [(4, Value.bool false)]) (hp [Blk.cells ca 4 false])) (Need (ltI (↑i : Int) (↑len :
Int)) (Need (isInt IntKind.i64 ((getO ca (0 + (↑i : Int).toNat * 4 + 1)).getD undef)) (Alt (leI 0 (intV ((getO ca (0 + (↑i : Int).toNat * 4 + 1)).getD undef))) (K AE.ret (tmps 154 [(4, Value.bool false)]) (hp [Blk.cells
ca 4 false])) (FlatD [1] (hp [Blk.cells ca 4 false, Blk.cells [Value.int IntKind.i64 mo, Value.slice (some { block := 2, off := 0, spot := some 1 : Addr }) m k] 2 true, Blk.cells cy 2 true]) ∧ ∃ (b : StO × Int), tmps 154
[(1, Value.slice (some { block := 0, off := 0, spot := s1 : Addr }) len k1), (5, Value.pointer (some { block := 1, off := 0 : Addr })), (6, Value.int IntKind.i64 top), (7, Value.int IntKind.i64 (↑i : Int)), (11,
Value.int IntKind.i64 1)] = tmps 154 [(1, Value.slice (some { block := 0, off := 0, spot := s1 : Addr }) len k1), (5, Value.pointer (some { block := 1, off := 0 : Addr })), (6, Value.int IntKind.i64 top), (7, Value.int
IntKind.i64 (↑i : Int)), (11, Value.int IntKind.i64 b.snd)] ∧ hp [Blk.cells ca 4 false, Blk.cells [Value.int IntKind.i64 mo, Value.slice (some { block := 2, off := 0, spot := some 1 : Addr }) m k] 2 true, Blk.cells cy 2
true] = hp [Blk.cells ca 4 false, Blk.cells [Value.int IntKind.i64 mo, Value.slice (some { block := 2, off := 0, spot := some 1 : Addr }) b.fst.m b.fst.k] 2 true, Blk.cells b.fst.cy 2 true] ∧ (i.succ.le len ∧ One top (i
+ 1) b.fst.L b.fst.cy b.fst.m b.fst.k ∧ (b.snd = 10 → (↑(ofL ow b.fst.L).length : Int) = top)) ∧ K AE.normal (tmps 154 [(1, Value.slice (some { block := 0, off := 0, spot := s1 : Addr }) len k1), (5, Value.pointer (some
{ block := 1, off := 0 : Addr })), (6, Value.int IntKind.i64 top), (7, Value.int IntKind.i64 (wr IntKind.i64 ((↑i : Int) + 1)))]) (hp [Blk.cells ca 4 false, Blk.cells [Value.int IntKind.i64 mo, Value.slice (some
{ block := 2, off := 0, spot := some 1 : Addr }) b.fst.m b.fst.k] 2 true, Blk.cells b.fst.cy 2 true])))))))))) (True ∧ True ∧ Alt (!(leI 4 (↑x.size : Int) && leI (↑x.size : Int) 16)) ((nojL [Value.int IntKind.i64 mo,
Value.slice (some { block := 1, off := 0, spot := some 1 : Addr }) m k] = true ∧ FlatL cy ∧ True) ∧ (IsP tkF tkG TkOk cy m k ∧ Need (leN m 1000000) True) ∧ Alt (ltI (placeF x 0 (-1) (tksAt cy m)) 0) (K AE.ret (tmps 154
[(4, Value.bool false)]) (hp [Blk.cells ca 4 false])) (Need (leI 0 (placeF x 0 (-1) (tksAt cy m))) (Need (ltI (placeF x 0 (-1) (tksAt cy m)) (↑m : Int)) (Need (isInt IntKind.i64 ((getO cy (0 + (placeF x 0 (-1) (tksAt cy
m)).toNat * 2 + 1)).getD undef)) (Alt (!eqI (intV ((getO cy (0 + (placeF x 0 (-1) (tksAt cy m)).toNat * 2 + 1)).getD undef)) (intV ((getO cy (0 + (placeF x 0 (-1) (tksAt cy m)).toNat * 2 + 1)).getD undef))) (K AE.ret
(tmps 154 [(4, Value.bool false)]) (hp [Blk.cells ca 4 false])) (Need (ltI (↑i : Int) (↑len : Int)) (Need (isInt IntKind.i64 ((getO ca (0 + (↑i : Int).toNat * 4 + 1)).getD undef)) (Alt (leI 0 (intV ((getO ca (0 + (↑i :
Int).toNat * 4 + 1)).getD undef))) (K AE.ret (tmps 154 [(4, Value.bool false)]) (hp [Blk.cells ca 4 false])) (FlatD [1] (hp [Blk.cells ca 4 false, Blk.cells [Value.int IntKind.i64 mo, Value.slice (some
{ block := 2, off := 0, spot := some 1 : Addr }) m k] 2 true, Blk.cells cy 2 true]) ∧ ∃ (b : StO × Int), tmps 154 [(1, Value.slice (some { block := 0, off := 0, spot := s1 : Addr }) len k1), (5, Value.pointer (some
{ block := 1, off := 0 : Addr })), (6, Value.int IntKind.i64 top), (7, Value.int IntKind.i64 (↑i : Int)), (11, Value.int IntKind.i64 1)] = tmps 154 [(1, Value.slice (some { block := 0, off := 0, spot := s1 : Addr }) len
k1), (5, Value.pointer (some { block := 1, off := 0 : Addr })), (6, Value.int IntKind.i64 top), (7, Value.int IntKind.i64 (↑i : Int)), (11, Value.int IntKind.i64 b.snd)] ∧ hp [Blk.cells ca 4 false, Blk.cells [Value.int
IntKind.i64 mo, Value.slice (some { block := 2, off := 0, spot := some 1 : Addr }) m k] 2 true, Blk.cells cy 2 true] = hp [Blk.cells ca 4 false, Blk.cells [Value.int IntKind.i64 mo, Value.slice (some
{ block := 2, off := 0, spot := some 1 : Addr }) b.fst.m b.fst.k] 2 true, Blk.cells b.fst.cy 2 true] ∧ (i.succ.le len ∧ One top (i + 1) b.fst.L b.fst.cy b.fst.m b.fst.k ∧ (b.snd = 10 → (↑(ofL ow b.fst.L).length : Int) =
top)) ∧ K AE.normal (tmps 154 [(1, Value.slice (some { block := 0, off := 0, spot := s1 : Addr }) len k1), (5, Value.pointer (some { block := 1, off := 0 : Addr })), (6, Value.int IntKind.i64 top), (7, Value.int
IntKind.i64 (wr IntKind.i64 ((↑i : Int) + 1)))]) (hp [Blk.cells ca 4 false, Blk.cells [Value.int IntKind.i64 mo, Value.slice (some { block := 2, off := 0, spot := some 1 : Addr }) b.fst.m b.fst.k] 2 true, Blk.cells
b.fst.cy 2 true])))))))))) ((nojL [Value.int IntKind.i64 mo, Value.slice (some { block := 1, off := 0, spot := some 1 : Addr }) m k] = true ∧ FlatL cy ∧ True) ∧ (IsP tkF tkG TkOk cy m k ∧ Need (leN m 1000000) True) ∧ Alt
(leI 0 (placeF x 0 (-1) (tksAt cy m))) ((nojL [Value.int IntKind.i64 mo, Value.slice (some { block := 1, off := 0, spot := some 1 : Addr }) m k] = true ∧ FlatL cy ∧ True) ∧ (IsP tkF tkG TkOk cy m k ∧ Need (leN m 1000000)
True) ∧ Alt (ltI (placeF x 0 (-1) (tksAt cy m)) 0) (K AE.ret (tmps 154 [(4, Value.bool false)]) (hp [Blk.cells ca 4 false])) (Need (leI 0 (placeF x 0 (-1) (tksAt cy m))) (Need (ltI (placeF x 0 (-1) (tksAt cy m)) (↑m :
Int)) (Need (isInt IntKind.i64 ((getO cy (0 + (placeF x 0 (-1) (tksAt cy m)).toNat * 2 + 1)).getD undef)) (Alt (!eqI (intV ((getO cy (0 + (placeF x 0 (-1) (tksAt cy m)).toNat * 2 + 1)).getD undef)) (intV ((getO cy (0 +
(placeF x 0 (-1) (tksAt cy m)).toNat * 2 + 1)).getD undef))) (K AE.ret (tmps 154 [(4, Value.bool false)]) (hp [Blk.cells ca 4 false])) (Need (ltI (↑i : Int) (↑len : Int)) (Need (isInt IntKind.i64 ((getO ca (0 + (↑i :
Int).toNat * 4 + 1)).getD undef)) (Alt (leI 0 (intV ((getO ca (0 + (↑i : Int).toNat * 4 + 1)).getD undef))) (FlatD [1] (hp [Blk.cells ca 4 false, Blk.cells [Value.int IntKind.i64 mo, Value.slice (some
{ block := 2, off := 0, spot := some 1 : Addr }) m k] 2 true, Blk.cells cy 2 true]) ∧ ∃ (b : StO × Int), tmps 154 [(1, Value.slice (some { block := 0, off := 0, spot := s1 : Addr }) len k1), (5, Value.pointer (some
{ block := 1, off := 0 : Addr })), (6, Value.int IntKind.i64 top), (7, Value.int IntKind.i64 (↑i : Int)), (11, Value.int IntKind.i64 9)] = tmps 154 [(1, Value.slice (some { block := 0, off := 0, spot := s1 : Addr }) len
k1), (5, Value.pointer (some { block := 1, off := 0 : Addr })), (6, Value.int IntKind.i64 top), (7, Value.int IntKind.i64 (↑i : Int)), (11, Value.int IntKind.i64 b.snd)] ∧ hp [Blk.cells ca 4 false, Blk.cells [Value.int
IntKind.i64 mo, Value.slice (some { block := 2, off := 0, spot := some 1 : Addr }) m k] 2 true, Blk.cells cy 2 true] = hp [Blk.cells ca 4 false, Blk.cells [Value.int IntKind.i64 mo, Value.slice (some
{ block := 2, off := 0, spot := some 1 : Addr }) b.fst.m b.fst.k] 2 true, Blk.cells b.fst.cy 2 true] ∧ (i.succ.le len ∧ One top (i + 1) b.fst.L b.fst.cy b.fst.m b.fst.k ∧ (b.snd = 10 → (↑(ofL ow b.fst.L).length : Int) =
top)) ∧ K AE.normal (tmps 154 [(1, Value.slice (some { block := 0, off := 0, spot := s1 : Addr }) len k1), (5, Value.pointer (some { block := 1, off := 0 : Addr })), (6, Value.int IntKind.i64 top), (7, Value.int
IntKind.i64 (wr IntKind.i64 ((↑i : Int) + 1)))]) (hp [Blk.cells ca 4 false, Blk.cells [Value.int IntKind.i64 mo, Value.slice (some { block := 2, off := 0, spot := some 1 : Addr }) b.fst.m b.fst.k] 2 true, Blk.cells
b.fst.cy 2 true])) (FlatD [1] (hp [Blk.cells ca 4 false, Blk.cells [Value.int IntKind.i64 mo, Value.slice (some { block := 2, off := 0, spot := some 1 : Addr }) m k] 2 true, Blk.cells cy 2 true]) ∧ ∃ (b : StO × Int),
tmps 154 [(1, Value.slice (some { block := 0, off := 0, spot := s1 : Addr }) len k1), (5, Value.pointer (some { block := 1, off := 0 : Addr })), (6, Value.int IntKind.i64 top), (7, Value.int IntKind.i64 (↑i : Int)), (11,
Value.int IntKind.i64 9)] = tmps 154 [(1, Value.slice (some { block := 0, off := 0, spot := s1 : Addr }) len k1), (5, Value.pointer (some { block := 1, off := 0 : Addr })), (6, Value.int IntKind.i64 top), (7, Value.int
IntKind.i64 (↑i : Int)), (11, Value.int IntKind.i64 b.snd)] ∧ hp [Blk.cells ca 4 false, Blk.cells [Value.int IntKind.i64 mo, Value.slice (some { block := 2, off := 0, spot := some 1 : Addr }) m k] 2 true, Blk.cells cy 2
true] = hp [Blk.cells ca 4 false, Blk.cells [Value.int IntKind.i64 mo, Value.slice (some { block := 2, off := 0, spot := some 1 : Addr }) b.fst.m b.fst.k] 2 true, Blk.cells b.fst.cy 2 true] ∧ (i.succ.le len ∧ One top (i
+ 1) b.fst.L b.fst.cy b.fst.m b.fst.k ∧ (b.snd = 10 → (↑(ofL ow b.fst.L).length : Int) = top)) ∧ K AE.normal (tmps 154 [(1, Value.slice (some { block := 0, off := 0, spot := s1 : Addr }) len k1), (5, Value.pointer (some
{ block := 1, off := 0 : Addr })), (6, Value.int IntKind.i64 top), (7, Value.int IntKind.i64 (wr IntKind.i64 ((↑i : Int) + 1)))]) (hp [Blk.cells ca 4 false, Blk.cells [Value.int IntKind.i64 mo, Value.slice (some
{ block := 2, off := 0, spot := some 1 : Addr }) b.fst.m b.fst.k] 2 true, Blk.cells b.fst.cy 2 true])))))))))) ((nojL [Value.int IntKind.i64 mo, Value.slice (some { block := 1, off := 0, spot := some 1 : Addr }) m k] =
true ∧ FlatL cy ∧ True) ∧ (IsP tkF tkG TkOk cy m k ∧ Need (leN m 1000000) True) ∧ ∀ (x_1 : List Value × Nat), IsS (srt (ofL (intV ((getO ca (0 + (↑i : Int).toNat * 4 + 1)).getD undef)) (tksAt cy m))) x_1.fst (ofL (intV
((getO ca (0 + (↑i : Int).toNat * 4 + 1)).getD undef)) (tksAt cy m)).length x_1.snd → Need (beqV 64 (Value.int IntKind.i64 (intV (Value.int IntKind.i64 mo))) (Value.int IntKind.i64 (intV (Value.int IntKind.i64 mo))))
(Alt (leI (intV (Value.int IntKind.i64 mo)) (↑(ofL (intV ((getO ca (0 + (↑i : Int).toNat * 4 + 1)).getD undef)) (tksAt cy m)).length : Int)) ((nojL [Value.int IntKind.i64 mo, Value.slice (some
{ block := 1, off := 0, spot := some 1 : Addr }) m k] = true ∧ FlatL cy ∧ True) ∧ (IsP tkF tkG TkOk cy m k ∧ Need (leN m 1000000) True) ∧ Alt (ltI (placeF x 0 (-1) (tksAt cy m)) 0) (K AE.ret (tmps 154 [(4, Value.bool
false)]) (hp [Blk.cells ca 4 false])) (Need (leI 0 (placeF x 0 (-1) (tksAt cy m))) (Need (ltI (placeF x 0 (-1) (tksAt cy m)) (↑m : Int)) (Need (isInt IntKind.i64 ((getO cy (0 + (placeF x 0 (-1) (tksAt cy m)).toNat * 2 +
1)).getD undef)) (Alt (!eqI (intV ((getO cy (0 + (placeF x 0 (-1) (tksAt cy m)).toNat * 2 + 1)).getD undef)) (intV ((getO cy (0 + (placeF x 0 (-1) (tksAt cy m)).toNat * 2 + 1)).getD undef))) (K AE.ret (tmps 154 [(4,
Value.bool false)]) (hp [Blk.cells ca 4 false])) (Need (ltI (↑i : Int) (↑len : Int)) (Need (isInt IntKind.i64 ((getO ca (0 + (↑i : Int).toNat * 4 + 1)).getD undef)) (Alt (leI 0 (intV ((getO ca (0 + (↑i : Int).toNat * 4 +
1)).getD undef))) (K AE.ret (tmps 154 [(4, Value.bool false)]) (hp [Blk.cells ca 4 false])) (FlatD [1] (hp [Blk.cells ca 4 false, Blk.cells [Value.int IntKind.i64 mo, Value.slice (some
{ block := 2, off := 0, spot := some 1 : Addr }) m k] 2 true, Blk.cells cy 2 true]) ∧ ∃ (b : StO × Int), tmps 154 [(1, Value.slice (some { block := 0, off := 0, spot := s1 : Addr }) len k1), (5, Value.pointer (some
{ block := 1, off := 0 : Addr })), (6, Value.int IntKind.i64 top), (7, Value.int IntKind.i64 (↑i : Int)), (11, Value.int IntKind.i64 10)] = tmps 154 [(1, Value.slice (some { block := 0, off := 0, spot := s1 : Addr }) len
k1), (5, Value.pointer (some { block := 1, off := 0 : Addr })), (6, Value.int IntKind.i64 top), (7, Value.int IntKind.i64 (↑i : Int)), (11, Value.int IntKind.i64 b.snd)] ∧ hp [Blk.cells ca 4 false, Blk.cells [Value.int
IntKind.i64 mo, Value.slice (some { block := 2, off := 0, spot := some 1 : Addr }) m k] 2 true, Blk.cells cy 2 true] = hp [Blk.cells ca 4 false, Blk.cells [Value.int IntKind.i64 mo, Value.slice (some
{ block := 2, off := 0, spot := some 1 : Addr }) b.fst.m b.fst.k] 2 true, Blk.cells b.fst.cy 2 true] ∧ (i.succ.le len ∧ One top (i + 1) b.fst.L b.fst.cy b.fst.m b.fst.k ∧ (b.snd = 10 → (↑(ofL ow b.fst.L).length : Int) =
top)) ∧ K AE.normal (tmps 154 [(1, Value.slice (some { block := 0, off := 0, spot := s1 : Addr }) len k1), (5, Value.pointer (some { block := 1, off := 0 : Addr })), (6, Value.int IntKind.i64 top), (7, Value.int
IntKind.i64 (wr IntKind.i64 ((↑i : Int) + 1)))]) (hp [Blk.cells ca 4 false, Blk.cells [Value.int IntKind.i64 mo, Value.slice (some { block := 2, off := 0, spot := some 1 : Addr }) b.fst.m b.fst.k] 2 true, Blk.cells
b.fst.cy 2 true])))))))))) (Need (leN (0 + m * 2) cy.length) (Need (leN ((m + 1) * 24) 1099511627776) (Need (leN (m + 1) 1099511627776) ((nojL [Value.int IntKind.i64 mo, Value.slice (some
{ block := 1, off := 0, spot := some 1 : Addr }) (m + 1) (m + 1)] = true ∧ FlatL (List.take (m * 2) (List.drop 0 cy) ++ [Value.string x, Value.int IntKind.i64 (intV ((getO ca (0 + (↑i : Int).toNat * 4 + 1)).getD
undef))]) ∧ True) ∧ (IsP tkF tkG TkOk (List.take (m * 2) (List.drop 0 cy) ++ [Value.string x, Value.int IntKind.i64 (intV ((getO ca (0 + (↑i : Int).toNat * 4 + 1)).getD undef))]) (m + 1) (m + 1) ∧ Need (leN (m + 1)
1000000) True) ∧ Alt (ltI (placeF x 0 (-1) (tksAt (List.take (m * 2) (List.drop 0 cy) ++ [Value.string x, Value.int IntKind.i64 (intV ((getO ca (0 + (↑i : Int).toNat * 4 + 1)).getD undef))]) (m + 1))) 0) (K AE.ret (tmps
154 [(4, Value.bool false)]) (hp [Blk.cells ca 4 false])) (Need (leI 0 (placeF x 0 (-1) (tksAt (List.take (m * 2) (List.drop 0 cy) ++ [Value.string x, Value.int IntKind.i64 (intV ((getO ca (0 + (↑i : Int).toNat * 4 +
1)).getD undef))]) (m + 1)))) (Need (ltI (placeF x 0 (-1) (tksAt (List.take (m * 2) (List.drop 0 cy) ++ [Value.string x, Value.int IntKind.i64 (intV ((getO ca (0 + (↑i : Int).toNat * 4 + 1)).getD undef))]) (m + 1))) (↑(m
+ 1) : Int)) (Need (isInt IntKind.i64 ((getO (List.take (m * 2) (List.drop 0 cy) ++ [Value.string x, Value.int IntKind.i64 (intV ((getO ca (0 + (↑i : Int).toNat * 4 + 1)).getD undef))]) (0 + (placeF x 0 (-1) (tksAt
(List.take (m * 2) (List.drop 0 cy) ++ [Value.string x, Value.int IntKind.i64 (intV ((getO ca (0 + (↑i : Int).toNat * 4 + 1)).getD undef))]) (m + 1))).toNat * 2 + 1)).getD undef)) (K AE.ret (tmps 154 [(4, Value.bool
false)]) (hp [Blk.cells ca 4 false])))))))))))))))))))))) (K (AE.exit 0) (tmps 154 []) (hp [Blk.cells ca 4 false]))) := by kernel_rfl

end Go.Proofs.Ytabbkoegaoekkaa

namespace Go.Proofs.Ytabbkoegaoekkaa
open Go.RowKit Go.Proofs.Ytabbkoegaoekkaa.AM
set_option maxRecDepth 100000
set_option maxHeartbeats 8000000
theorem sure1946 (hm : Try.prog.follows .mixedOrders = true) : Sure Try.prog (S1946 hm) := Sure.addI (Sure.withS ⟨hm, plain, bookW_ok (l := [(26, placeC)]) (bookOf_ok (l := [(3, trueC), (11, isTC)]) ⟨runs_holds hm, isT_says hm, trivial⟩) ⟨place_says hm, trivial⟩⟩
  (l := [(15, ofX.summ (of_says hm)), (14, tokX.summ (tok_says hm))])
  ⟨ofX.sum_ok (of_says hm), tokX.sum_ok (tok_says hm), trivial⟩)
  (l := [(9, Try.f9, body1922), (10, Try.f10, body1923), (8, Try.f8, body1930)])
  ⟨⟨Try.func9, rfl⟩, ⟨Try.func10, rfl⟩, ⟨Try.func8, rfl⟩, trivial⟩
/-- steps that are handed in -/
structure Step4 (ca : List Value) (i : Nat) (kd ow tk : Int) (raw : ByteArray) : Prop where
  g0 : getO ca (i * 4) = some (.int .u8 kd)
  g1 : getO ca (i * 4 + 1) = some (.int .i64 ow)
  g2 : getO ca (i * 4 + 2) = some (.int .i64 tk)
  g3 : getO ca (i * 4 + 3) = some (.string raw)
  ow : ZP .i64 ow
def Steps4 (ca : List Value) (len : Nat) : Prop := ∀ i, i < len → ∃ (kd ow tk : Int) (raw : ByteArray), Step4 ca i kd ow tk raw
theorem flatD1 {ca : List Value} (h : FlatL ca) : FlatD [] (hp [.cells ca 4 false]) := FlatD.hp ⟨h, trivial⟩
theorem IsTL.at {F : List Tk} {cs : List Value} {m k : Nat} (h : IsTL F cs m k) : tksAt cs m = F := by rw [h.len]; exact tksAt_eq h.row
theorem IsTL.is {F : List Tk} {cs : List Value} {m k : Nat} (h : IsTL F cs m k) : IsT cs m k := .mk F h.len.symm h.le h.row
theorem hn19 (mo : Int) (sp : Option Nat) (m k : Nat) : nojL [Value.int .i64 mo, .slice (some ⟨1,0,sp⟩) m k] = true := rfl
theorem One.tl {top : Int} {n : Nat} {L : List Tk} {cy : List Value} {m k : Nat} (h : One top n L cy m k) : IsTL L cy m k := ⟨h.row, h.em, h.hk⟩
theorem One.up {top : Int} {n : Nat} {L : List Tk} {cy : List Value} {m k : Nat} (h : One top n L cy m k) : One top (n + 1) L cy m k := ⟨h.row, h.em, h.hk, Nat.le_succ_of_le h.len, h.nd, h.cnt, h.sz⟩
theorem nd_one {L : List Tk} (h : L.Pairwise fun a b => a.1 ≠ b.1) {x y : Tk} (hx : x ∈ L) (hy : y ∈ L) (he : x.1 = y.1) : x = y := by
  induction L with
  | nil => cases hx
  | cons a M ih =>
    obtain ⟨h1, h2⟩ := List.pairwise_cons.1 h
    rcases List.mem_cons.1 hx with e1 | hx1
    · rcases List.mem_cons.1 hy with e2 | hy1
      · rw [e1, e2]
      · rw [e1] at he; exact absurd he (h1 y hy1)
    · rcases List.mem_cons.1 hy with e2 | hy1
      · rw [e2] at he; exact absurd he.symm (h1 x hx1)
      · exact ih h2 hx1 hy1
theorem placeF_new (s : ByteArray) (o : Int) : ∀ (L : List Tk) (i : Nat) (a : Int), (∀ t ∈ L, t.1 ≠ s) → placeF s i a (L ++ [(s, o)]) = ((i + L.length : Nat) : Int) := by
  intro L
  induction L with
  | nil => intro i a _; show (if eqS s s = true then _ else _) = _; rw [if_pos (eqS_iff.2 rfl)]; rfl
  | cons y L ih =>
    intro i a h
    rw [List.cons_append]
    unfold placeF
    rw [if_neg (fun hh => h y List.mem_cons_self (eqS_iff.1 hh)), ih (i + 1) a (fun t ht => h t (List.mem_cons_of_mem _ ht)), List.length_cons]
    congr 1; omega
theorem hFk {ca : List Value} {mo : Int} {m k : Nat} {cx cy : List Value} (h0 : FlatL ca) (h1 : FlatL cx) (h2 : FlatL cy) : FlatD [1] (hp [.cells ca 4 false, .cells [.int .i64 mo, .slice (some ⟨3,0,some 1⟩) m k] 2 true, .cells cx 1 true, .cells cy 2 true]) := FlatD.hp ⟨h0, rfl, h1, h2, trivial⟩
theorem hFo {ca : List Value} {mo : Int} {m k : Nat} {cy : List Value} (h0 : FlatL ca) (h2 : FlatL cy) : FlatD [1] (hp [.cells ca 4 false, .cells [.int .i64 mo, .slice (some ⟨2,0,some 1⟩) m k] 2 true, .cells cy 2 true]) := FlatD.hp ⟨h0, rfl, h2, trivial⟩
theorem one_inner (hmix : Try.prog.follows .mixedOrders = true) (ca : List Value) (hca : FlatL ca) (s1 : Option Nat) (len k1 : Nat) (top mo : Int) (i : Nat) (hi : i < len) (hlen : len ≤ 60) (kd ow tk : Int) (raw : ByteArray) (S : Step4 ca i kd ow tk raw) (L : List Tk) (cy : List Value) (m k : Nat) (n : Nat) (hn : n ≤ 60) (P : One top n L cy m k) (cx : List Value) (q qk : Nat) (hx : IsS (srt (ofL ow L)) cx q qk) (K : Post)
    (hK : K (.exit 2) (T1946 s1 len k1 top i) (H1946 ca mo m k cy)) :
    ∀ (t j : Nat), j + t = q → LSays Try.prog 1 (sub body1946 [0,0,1,1,1,1,1,1,1,1,0,0,1,0,0,1,0,1,1,1,1,1]) (T1946k s1 len k1 top i q qk j) (H1946k ca mo m k cy cx) K := by
  have hlL := P.len
  have hem := P.em
  have hF := hFk (mo := mo) (m := m) (k := k) hca hx.row.flat P.row.flat
  have hF2 := hFo (mo := mo) (m := m) (k := k) hca P.row.flat
  have hq : q ≤ 60 := by
    have h1 := hx.len
    have h2 : (ofL ow L).length ≤ L.length := by rw [ofL_eq, List.length_map]; exact List.length_filter_le _ _
    rw [srt_len] at h1; omega
  intro t
  induction t with
  | zero =>
    intro j hj
    refine (sure1946 hmix).roundX F1946 noLoops [1] [] [1] [] [1,5,6,7,14,15] ?_
    rw [r1946k]
    simp only [show ¬ ((j : Int) < (q : Int)) by omega, hF2, Alt_iff, Need_iff, ltI_eq, leI_eq, eqI_eq, leN_eq, eqN_eq, decide_eq_true_eq, decide_eq_false_iff_not, decide_true, decide_false, true_and, and_true, Bool.true_eq_false, Bool.false_eq_true, false_implies, true_implies, implies_true, not_true_eq_false, not_false_eq_true, Bool.not_eq_true', Bool.not_eq_false', Nat.zero_add, Nat.add_zero, Nat.sub_zero, Nat.zero_mul, Nat.mul_one, Int.toNat_natCast, List.drop_zero, beqV_int, beqV_sl, beqV_str, beqV_bool, beqV_ptr, beqV_flt, beqV_agg, beqV_tuple, List.all_cons, List.all_nil, Bool.and_self, Bool.and_true, Bool.true_and, Nat.le_refl, Int.le_refl, Nat.zero_le, Option.getD_some, isStr, strV, isInt, intV, isBool, boolV, kindEq, at0, isJunk, Option.isSome_some, Option.isSome_none, if_true, if_false, Nat.add_sub_cancel_left, Nat.add_sub_cancel]
    exact hK
  | succ t ih =>
    intro j hj
    refine (sure1946 hmix).roundX F1946 noLoops [1] [] [1] [] [1,5,6,7,14,15] ?_
    rw [r1946k]
    have hjl : j < (srt (ofL ow L)).length := by have := hx.len; omega
    have hjx : (srt (ofL ow L))[j]? = some (srt (ofL ow L))[j] := List.getElem?_eq_getElem hjl
    have hmem : (srt (ofL ow L))[j] ∈ ofL ow L := srt_mem.1 (List.getElem_mem hjl)
    generalize (srt (ofL ow L))[j] = x at hjx hmem
    obtain ⟨u, hu, hu1, hu2⟩ := ofL_mem.1 hmem
    have gx : getO cx j = some (.string x) := by
      have := hx.row.cell j x hjx
      rwa [Nat.zero_add] at this
    rcases placeF_spec x L 0 (-1) with ⟨h1, h2⟩ | ⟨p, t', h1, h2, h3⟩
    · exact absurd hu2 (h2 u hu)
    · have ht : t' ∈ L := List.mem_of_getElem? h2
      have he : t' = u := nd_one P.nd ht hu (h3.trans hu2.symm)
      have hpl := (List.getElem?_eq_some_iff.1 h2).1
      have ho : t'.2 = ow := by rw [he]; exact hu1
      rw [Nat.zero_add] at h1
      simp only [Nat.zero_add, Nat.mul_one, Int.toNat_natCast, gx, show strV (Value.string x) = x from rfl, Option.getD_some, P.tl.at, h1, P.row.get1 h2, tkG, ho, S.g1, show intV (Value.int .i64 ow) = ow from rfl, ↓Alt_ite, ↓reduceIte, ltI_eq, leI_eq, eqI_eq, decide_eq_true_eq, show (j : Int) < (q : Int) by omega, show (i : Int) < (len : Int) by omega, show ¬ ((p : Int) < 0) by omega, show (0 : Int) ≤ (p : Int) by omega, show (p : Int) < (m : Int) by omega, hn19, P.row.flat, P.tl.is, show m ≤ 1000000 by omega, nx j (by omega), Bool.not_true, hF, Alt_iff, Need_iff, ltI_eq, leI_eq, eqI_eq, leN_eq, eqN_eq, decide_eq_true_eq, decide_eq_false_iff_not, decide_true, decide_false, true_and, and_true, Bool.true_eq_false, Bool.false_eq_true, false_implies, true_implies, implies_true, not_true_eq_false, not_false_eq_true, Bool.not_eq_true', Bool.not_eq_false', Nat.zero_add, Nat.add_zero, Nat.sub_zero, Nat.zero_mul, Nat.mul_one, Int.toNat_natCast, List.drop_zero, beqV_int, beqV_sl, beqV_str, beqV_bool, beqV_ptr, beqV_flt, beqV_agg, beqV_tuple, List.all_cons, List.all_nil, Bool.and_self, Bool.and_true, Bool.true_and, Nat.le_refl, Int.le_refl, Nat.zero_le, Option.getD_some, isStr, strV, isInt, intV, isBool, boolV, kindEq, at0, isJunk, Option.isSome_some, Option.isSome_none, if_true, if_false, Nat.add_sub_cancel_left, Nat.add_sub_cancel]
      exact ih (j + 1) (by omega)
theorem oneB (hmix : Try.prog.follows .mixedOrders = true) (ca : List Value) (hca : FlatL ca) (s1 : Option Nat) (len k1 : Nat) (top mo : Int) (i : Nat) (hi : i < len) (hlen : len ≤ 60) (kd ow tk : Int) (raw : ByteArray) (S : Step4 ca i kd ow tk raw) (c : Int) (b : StO) (P : One top (i + 1) b.L b.cy b.m b.k) (hc : c = 10 → ((ofL ow b.L).length : Int) = top) (K : Post)
    (hK : K .normal (T1946 s1 len k1 top i) (H1946 ca mo b.m b.k b.cy)) : Says Try.prog 1 (sub body1946 [1,1,1,1,1,0,0,1,0,0,1,0,1,1,1,1,1]) (T1946b s1 len k1 top i c) (H1946 ca mo b.m b.k b.cy) K := by
  have hlL := P.len
  have hem := P.em
  have hL : Loops Try.prog body1946 1 (cutE [cut1946k ca s1 len k1 top mo ow i (ofL ow b.L).length b]) := Loops.noneE.moreE _ fun x K hQ => by
    obtain ⟨⟨h1, h2⟩, h3⟩ := hQ
    have h2 : x.2.2 ≤ (ofL ow b.L).length := h2
    exact one_inner hmix ca hca s1 len k1 top mo i hi hlen kd ow tk raw S b.L b.cy b.m b.k (i + 1) (by omega) P x.1 (ofL ow b.L).length x.2.1 h1 K h3 ((ofL ow b.L).length - x.2.2) x.2.2 (by omega)
  have hF2 := hFo (mo := mo) (m := b.m) (k := b.k) hca P.row.flat
  refine (sure1946 hmix).cutN F1946 (hL.gcX (at0 [1]) (at0 [])) [1] [] [1] [] [1,5,6,7] ?_
  rw [r1946b]
  have hcn := P.cnt ow
  simp only [Nat.zero_add, Int.toNat_natCast, S.g1, Option.getD_some, show intV (Value.int .i64 ow) = ow from rfl, P.tl.at, ↓Alt_ite, ↓reduceIte, ltI_eq, leI_eq, eqI_eq, decide_eq_true_eq, show (i : Int) < (len : Int) by omega, hn19, P.row.flat, P.tl.is, show b.m ≤ 1000000 by omega, show ¬ (top < ((ofL ow b.L).length : Int)) by omega, hF2, Alt_iff, Need_iff, ltI_eq, leI_eq, eqI_eq, leN_eq, eqN_eq, decide_eq_true_eq, decide_eq_false_iff_not, decide_true, decide_false, true_and, and_true, Bool.true_eq_false, Bool.false_eq_true, false_implies, true_implies, implies_true, not_true_eq_false, not_false_eq_true, Bool.not_eq_true', Bool.not_eq_false', Nat.zero_add, Nat.add_zero, Nat.sub_zero, Nat.zero_mul, Nat.mul_one, Int.toNat_natCast, List.drop_zero, beqV_int, beqV_sl, beqV_str, beqV_bool, beqV_ptr, beqV_flt, beqV_agg, beqV_tuple, List.all_cons, List.all_nil, Bool.and_self, Bool.and_true, Bool.true_and, Nat.le_refl, Int.le_refl, Nat.zero_le, Option.getD_some, isStr, strV, isInt, intV, isBool, boolV, kindEq, at0, isJunk, Option.isSome_some, Option.isSome_none, if_true, if_false, Nat.add_sub_cancel_left, Nat.add_sub_cancel]
  intro x hx
  have hF := hFk (mo := mo) (m := b.m) (k := b.k) hca hx.row.flat P.row.flat
  by_cases h10 : c = 10
  · simp only [h10, hc h10, hF, decide_true, Bool.not_true, Bool.false_eq_true, ↓reduceIte, Alt_iff, Need_iff, ltI_eq, leI_eq, eqI_eq, leN_eq, eqN_eq, decide_eq_true_eq, decide_eq_false_iff_not, decide_true, decide_false, true_and, and_true, Bool.true_eq_false, Bool.false_eq_true, false_implies, true_implies, implies_true, not_true_eq_false, not_false_eq_true, Bool.not_eq_true', Bool.not_eq_false', Nat.zero_add, Nat.add_zero, Nat.sub_zero, Nat.zero_mul, Nat.mul_one, Int.toNat_natCast, List.drop_zero, beqV_int, beqV_sl, beqV_str, beqV_bool, beqV_ptr, beqV_flt, beqV_agg, beqV_tuple, List.all_cons, List.all_nil, Bool.and_self, Bool.and_true, Bool.true_and, Nat.le_refl, Int.le_refl, Nat.zero_le, Option.getD_some, isStr, strV, isInt, intV, isBool, boolV, kindEq, at0, isJunk, Option.isSome_some, Option.isSome_none, if_true, if_false, Nat.add_sub_cancel_left, Nat.add_sub_cancel]
    exact ⟨(x.1, x.2, 0), rfl, rfl, ⟨hx, Nat.zero_le _⟩, hK⟩
  · simp only [h10, hF, ↓reduceIte, Alt_iff, Need_iff, ltI_eq, leI_eq, eqI_eq, leN_eq, eqN_eq, decide_eq_true_eq, decide_eq_false_iff_not, decide_true, decide_false, true_and, and_true, Bool.true_eq_false, Bool.false_eq_true, false_implies, true_implies, implies_true, not_true_eq_false, not_false_eq_true, Bool.not_eq_true', Bool.not_eq_false', Nat.zero_add, Nat.add_zero, Nat.sub_zero, Nat.zero_mul, Nat.mul_one, Int.toNat_natCast, List.drop_zero, beqV_int, beqV_sl, beqV_str, beqV_bool, beqV_ptr, beqV_flt, beqV_agg, beqV_tuple, List.all_cons, List.all_nil, Bool.and_self, Bool.and_true, Bool.true_and, Nat.le_refl, Int.le_refl, Nat.zero_le, Option.getD_some, isStr, strV, isInt, intV, isBool, boolV, kindEq, at0, isJunk, Option.isSome_some, Option.isSome_none, if_true, if_false, Nat.add_sub_cancel_left, Nat.add_sub_cancel]
    exact ⟨(x.1, x.2, 0), rfl, rfl, ⟨hx, Nat.zero_le _⟩, hK⟩
end Go.Proofs.Ytabbkoegaoekkaa

namespace Go.Proofs.Ytabbkoegaoekkaa
open Go.RowKit Go.Proofs.Ytabbkoegaoekkaa.AM
set_option maxRecDepth 100000
set_option maxHeartbeats 8000000
theorem ofL_append (o : Int) (a b : List Tk) : ofL o (a ++ b) = ofL o a ++ ofL o b := by rw [ofL_eq, ofL_eq, ofL_eq, List.filter_append, List.map_append]
theorem one_loop (hmix : Try.prog.follows .mixedOrders = true) (ca : List Value) (hca : FlatL ca) (s1 : Option Nat) (len k1 : Nat) (hlen : len ≤ 60) (hS : Steps4 ca len) (top : Int) (K : Post)
    (hK : K (.exit 0) (tmps 154 []) (hp [.cells ca 4 false])) :
    ∀ (t i : Nat) (b : StO), i + t = len → One top i b.L b.cy b.m b.k → LSays Try.prog 1 (sub body1946 [0,0,1,0,1,1,1,1,1]) (T1946 s1 len k1 top i) (H1946 ca top b.m b.k b.cy) K := by
  have hL : ∀ (i : Nat) (ow : Int), (i < len → ∃ (kd tk : Int) (raw : ByteArray), Step4 ca i kd ow tk raw) → Loops Try.prog body1946 1 (cutE [cut1946b ca s1 len k1 top top ow i]) := fun i ow hs => Loops.noneE.moreE _ fun x K hQ => by
    obtain ⟨⟨h0, h1, h2⟩, h3⟩ := hQ
    have h0 : i < len := h0
    obtain ⟨kd, tk, raw, S⟩ := hs h0
    exact oneB hmix ca hca s1 len k1 top top i h0 hlen kd ow tk raw S x.2 x.1 h1 h2 K h3
  intro t
  induction t with
  | zero =>
    intro i b hi P
    obtain rfl : i = len := by omega
    refine (sure1946 hmix).roundX F1946 ((hL i 0 (fun h => absurd h (Nat.lt_irrefl _))).gcX (at0 [1]) (at0 [.cell 5 1 2])) [1] [] [1] [] [1,5,6,7] ?_
    rw [r1946]
    simp only [↓Alt_ite, ↓reduceIte, ltI_eq, decide_eq_true_eq, show ¬ ((i : Int) < (i : Int)) by omega, Alt_iff, Need_iff, ltI_eq, leI_eq, eqI_eq, leN_eq, eqN_eq, decide_eq_true_eq, decide_eq_false_iff_not, decide_true, decide_false, true_and, and_true, Bool.true_eq_false, Bool.false_eq_true, false_implies, true_implies, implies_true, not_true_eq_false, not_false_eq_true, Bool.not_eq_true', Bool.not_eq_false', Nat.zero_add, Nat.add_zero, Nat.sub_zero, Nat.zero_mul, Nat.mul_one, Int.toNat_natCast, List.drop_zero, beqV_int, beqV_sl, beqV_str, beqV_bool, beqV_ptr, beqV_flt, beqV_agg, beqV_tuple, List.all_cons, List.all_nil, Bool.and_self, Bool.and_true, Bool.true_and, Nat.le_refl, Int.le_refl, Nat.zero_le, Option.getD_some, isStr, strV, isInt, intV, isBool, boolV, kindEq, at0, isJunk, Option.isSome_some, Option.isSome_none, if_true, if_false, Nat.add_sub_cancel_left, Nat.add_sub_cancel]
    exact ⟨FlatD.hp ⟨hca, trivial⟩, hK⟩
  | succ t ih =>
    intro i b hi P
    obtain ⟨kd, ow, tk, raw, S⟩ := hS i (by omega)
    have hlL := P.len
    have hem := P.em
    have y := P.tl
    refine (sure1946 hmix).roundX F1946 ((hL i ow (fun _ => ⟨kd, tk, raw, S⟩)).gcX (at0 [1]) (at0 [.cell 5 1 2])) [1] [] [1] [] [1,5,6,7] ?_
    rw [r1946]
    have hF2 := hFo (mo := top) (m := b.m) (k := b.k) hca P.row.flat
    have fin : ∀ b' : StO, One top (i + 1) b'.L b'.cy b'.m b'.k → FlatD [1] (H1946 ca top b'.m b'.k b'.cy) ∧ LSays Try.prog 1 (sub body1946 [0,0,1,0,1,1,1,1,1]) (T1946 s1 len k1 top (i + 1)) (H1946 ca top b'.m b'.k b'.cy) K := fun b' h => ⟨hFo hca h.row.flat, ih (i + 1) b' (by omega) h⟩
    simp only [show (i : Int) < (len : Int) by omega, Nat.zero_add, Int.toNat_natCast, S.g2, y.at, Option.getD_some, ↓Alt_ite, ↓reduceIte, ltI_eq, decide_eq_true_eq, show isInt .i64 (Value.int .i64 tk) = true from rfl, Need]
    refine ⟨trivial, trivial, fun x hxT => ?_⟩
    have hxs := hxT.size
    have hil : i < len := by omega
    have hlf : (ofL ow b.L).length ≤ b.L.length := by rw [ofL_eq, List.length_map]; exact List.length_filter_le _ _
    rcases placeF_spec x b.L 0 (-1) with ⟨h1, h2⟩ | ⟨p, t', h1, h2, h3⟩
    · by_cases hn : ow < 0
      · simp only [hn, show (-1 : Int) < 0 by decide, show ¬ ((0 : Int) ≤ -1) by decide, h1, S.g1, show intV (Value.int .i64 ow) = ow from rfl, show intV (Value.int .i64 top) = top from rfl, y.at, ↓Alt_ite, ↓reduceIte, ltI_eq, leI_eq, eqI_eq, decide_eq_true_eq, decide_true, Bool.and_true, Bool.true_eq_false, Bool.not_true, Bool.not_false, show (i : Int) < (len : Int) by omega, hn19, P.row.flat, y.is, show b.m ≤ 1000000 by omega, nx i (by omega), Option.getD_some, hF2, Alt_iff, Need_iff, ltI_eq, leI_eq, eqI_eq, leN_eq, eqN_eq, decide_eq_true_eq, decide_eq_false_iff_not, decide_true, decide_false, true_and, and_true, Bool.true_eq_false, Bool.false_eq_true, false_implies, true_implies, implies_true, not_true_eq_false, not_false_eq_true, Bool.not_eq_true', Bool.not_eq_false', Nat.zero_add, Nat.add_zero, Nat.sub_zero, Nat.zero_mul, Nat.mul_one, Int.toNat_natCast, List.drop_zero, beqV_int, beqV_sl, beqV_str, beqV_bool, beqV_ptr, beqV_flt, beqV_agg, beqV_tuple, List.all_cons, List.all_nil, Bool.and_self, Bool.and_true, Bool.true_and, Nat.le_refl, Int.le_refl, Nat.zero_le, Option.getD_some, isStr, strV, isInt, intV, isBool, boolV, kindEq, at0, isJunk, Option.isSome_some, Option.isSome_none, if_true, if_false, Nat.add_sub_cancel_left, Nat.add_sub_cancel]
        exact ⟨(b, 1), rfl, rfl, ⟨hil, P.up, fun h => absurd (show (1:Int) = 10 from h) (by decide)⟩, fin b P.up⟩
      · by_cases hz : (4 ≤ (x.size : Int) ∧ (x.size : Int) ≤ 16)
        · obtain ⟨z1, z2⟩ := hz
          by_cases hq : top ≤ ((ofL ow b.L).length : Int)
          · have hcn := P.cnt ow
            simp only [hn, z1, z2, hq, show (-1 : Int) < 0 by decide, show ¬ ((0 : Int) ≤ -1) by decide, h1, S.g1, show intV (Value.int .i64 ow) = ow from rfl, show intV (Value.int .i64 top) = top from rfl, y.at, ↓Alt_ite, ↓reduceIte, ltI_eq, leI_eq, eqI_eq, decide_eq_true_eq, decide_true, Bool.and_true, Bool.true_eq_false, Bool.not_true, Bool.not_false, show (i : Int) < (len : Int) by omega, hn19, P.row.flat, y.is, show b.m ≤ 1000000 by omega, nx i (by omega), Option.getD_some, hF2, Alt_iff, Need_iff, ltI_eq, leI_eq, eqI_eq, leN_eq, eqN_eq, decide_eq_true_eq, decide_eq_false_iff_not, decide_true, decide_false, true_and, and_true, Bool.true_eq_false, Bool.false_eq_true, false_implies, true_implies, implies_true, not_true_eq_false, not_false_eq_true, Bool.not_eq_true', Bool.not_eq_false', Nat.zero_add, Nat.add_zero, Nat.sub_zero, Nat.zero_mul, Nat.mul_one, Int.toNat_natCast, List.drop_zero, beqV_int, beqV_sl, beqV_str, beqV_bool, beqV_ptr, beqV_flt, beqV_agg, beqV_tuple, List.all_cons, List.all_nil, Bool.and_self, Bool.and_true, Bool.true_and, Nat.le_refl, Int.le_refl, Nat.zero_le, Option.getD_some, isStr, strV, isInt, intV, isBool, boolV, kindEq, at0, isJunk, Option.isSome_some, Option.isSome_none, if_true, if_false, Nat.add_sub_cancel_left, Nat.add_sub_cancel]
            exact fun _ _ => ⟨(b, 10), rfl, rfl, ⟨hil, P.up, fun _ => by show ((ofL ow b.L).length : Int) = top; omega⟩, fin b P.up⟩
          · have hw : b.cy.take (b.m * 2) ++ [.string x, .int .i64 ow] = pC tkF tkG (b.L ++ [(x, ow)]) := by
              rw [hem, P.row.whole, pC_append]; rfl
            have hok : ∀ t ∈ b.L ++ [(x, ow)], TkOk t := fun t ht => (List.mem_append.1 ht).elim (P.row.ok t) fun h => by
              rcases List.mem_singleton.1 h with rfl
              exact ⟨by show x.size ≤ 1000000; omega, S.ow⟩
            have hrow : TSl (pC tkF tkG (b.L ++ [(x, ow)])) (b.L ++ [(x, ow)]) := PSl.own0 (fun _ => rfl) (fun _ => rfl) hok
            have hl2 : (b.L ++ [(x, ow)]).length = b.m + 1 := by simp [hem]
            have y2 : IsTL (b.L ++ [(x, ow)]) (pC tkF tkG (b.L ++ [(x, ow)])) (b.m + 1) (b.m + 1) := ⟨hrow, hl2.symm, Nat.le_refl _⟩
            have hp2 : placeF x 0 (-1) (b.L ++ [(x, ow)]) = (b.m : Int) := by rw [placeF_new x ow b.L 0 (-1) h2, hem]; congr 1; omega
            have hg2 : (b.L ++ [(x, ow)])[b.m]? = some (x, ow) := by rw [hem]; simp
            have h2g := hrow.get1 hg2
            have hF3 := hFo (mo := top) (m := b.m + 1) (k := b.m + 1) hca hrow.flat
            have hnew : One top (i + 1) (b.L ++ [(x, ow)]) (pC tkF tkG (b.L ++ [(x, ow)])) (b.m + 1) (b.m + 1) := by
              refine ⟨hrow, hl2.symm, Nat.le_refl _, by omega, ?_, fun o => ?_, fun t ht => (List.mem_append.1 ht).elim (P.sz t) fun h => ?_⟩
              · exact List.pairwise_append.2 ⟨P.nd, List.pairwise_singleton _ _, fun a ha c hc => by
                  rcases List.mem_singleton.1 hc with rfl
                  exact h2 a ha⟩
              · rw [ofL_append, List.length_append]
                have hcn := P.cnt o
                by_cases ho : ow = o
                · subst ho
                  have : (ofL ow [(x, ow)]).length ≤ 1 := by rw [ofL_eq, List.length_map]; exact List.length_filter_le _ _
                  omega
                · have : ofL o [(x, ow)] = [] := by
                    rw [ofL_eq, List.filter_cons, if_neg (by simp only [eqI_iff]; exact ho)]; rfl
                  rw [this]; simpa using hcn
              · rcases List.mem_singleton.1 h with rfl
                exact ⟨by show 4 ≤ x.size; omega, by show x.size ≤ 16; omega⟩
            have hsz2 := P.row.size
            simp only [show b.m * 2 ≤ b.cy.length by omega, show (b.m + 1) * 24 ≤ 1099511627776 by omega, show b.m + 1 ≤ 1099511627776 by omega, show b.m + 1 ≤ 1000000 by omega, show (b.m : Int) < ((b.m + 1 : Nat) : Int) by omega, List.drop_zero, hw, hp2, y2.at, y2.is, hrow.flat, h2g, tkG, hF3, hn, z1, z2, hq, show ¬ ((b.m : Int) < 0) by omega, show (0 : Int) ≤ (b.m : Int) by omega, show (-1 : Int) < 0 by decide, show ¬ ((0 : Int) ≤ -1) by decide, h1, S.g1, show intV (Value.int .i64 ow) = ow from rfl, show intV (Value.int .i64 top) = top from rfl, y.at, ↓Alt_ite, ↓reduceIte, ltI_eq, leI_eq, eqI_eq, decide_eq_true_eq, decide_true, Bool.and_true, Bool.true_eq_false, Bool.not_true, Bool.not_false, show (i : Int) < (len : Int) by omega, hn19, P.row.flat, y.is, show b.m ≤ 1000000 by omega, nx i (by omega), Option.getD_some, hF2, Alt_iff, Need_iff, ltI_eq, leI_eq, eqI_eq, leN_eq, eqN_eq, decide_eq_true_eq, decide_eq_false_iff_not, decide_true, decide_false, true_and, and_true, Bool.true_eq_false, Bool.false_eq_true, false_implies, true_implies, implies_true, not_true_eq_false, not_false_eq_true, Bool.not_eq_true', Bool.not_eq_false', Nat.zero_add, Nat.add_zero, Nat.sub_zero, Nat.zero_mul, Nat.mul_one, Int.toNat_natCast, List.drop_zero, beqV_int, beqV_sl, beqV_str, beqV_bool, beqV_ptr, beqV_flt, beqV_agg, beqV_tuple, List.all_cons, List.all_nil, Bool.and_self, Bool.and_true, Bool.true_and, Nat.le_refl, Int.le_refl, Nat.zero_le, Option.getD_some, isStr, strV, isInt, intV, isBool, boolV, kindEq, at0, isJunk, Option.isSome_some, Option.isSome_none, if_true, if_false, Nat.add_sub_cancel_left, Nat.add_sub_cancel]
            exact fun _ _ => ⟨(⟨b.L ++ [(x, ow)], pC tkF tkG (b.L ++ [(x, ow)]), b.m + 1, b.m + 1⟩, 0), rfl, rfl, ⟨hil, hnew, fun h => absurd (show (0:Int) = 10 from h) (by decide)⟩, fin _ hnew⟩
        · have hz' : (decide (4 ≤ (x.size : Int)) && decide ((x.size : Int) ≤ 16)) = false := by
            rw [← Bool.not_eq_true, Bool.and_eq_true, decide_eq_true_eq, decide_eq_true_eq]; exact hz
          simp only [hn, hz', show (-1 : Int) < 0 by decide, show ¬ ((0 : Int) ≤ -1) by decide, h1, S.g1, show intV (Value.int .i64 ow) = ow from rfl, show intV (Value.int .i64 top) = top from rfl, y.at, ↓Alt_ite, ↓reduceIte, ltI_eq, leI_eq, eqI_eq, decide_eq_true_eq, decide_true, Bool.and_true, Bool.true_eq_false, Bool.not_true, Bool.not_false, show (i : Int) < (len : Int) by omega, hn19, P.row.flat, y.is, show b.m ≤ 1000000 by omega, nx i (by omega), Option.getD_some, hF2, Alt_iff, Need_iff, ltI_eq, leI_eq, eqI_eq, leN_eq, eqN_eq, decide_eq_true_eq, decide_eq_false_iff_not, decide_true, decide_false, true_and, and_true, Bool.true_eq_false, Bool.false_eq_true, false_implies, true_implies, implies_true, not_true_eq_false, not_false_eq_true, Bool.not_eq_true', Bool.not_eq_false', Nat.zero_add, Nat.add_zero, Nat.sub_zero, Nat.zero_mul, Nat.mul_one, Int.toNat_natCast, List.drop_zero, beqV_int, beqV_sl, beqV_str, beqV_bool, beqV_ptr, beqV_flt, beqV_agg, beqV_tuple, List.all_cons, List.all_nil, Bool.and_self, Bool.and_true, Bool.true_and, Nat.le_refl, Int.le_refl, Nat.zero_le, Option.getD_some, isStr, strV, isInt, intV, isBool, boolV, kindEq, at0, isJunk, Option.isSome_some, Option.isSome_none, if_true, if_false, Nat.add_sub_cancel_left, Nat.add_sub_cancel]
          exact ⟨(b, 1), rfl, rfl, ⟨hil, P.up, fun h => absurd (show (1:Int) = 10 from h) (by decide)⟩, fin b P.up⟩
    · have ht : t' ∈ b.L := List.mem_of_getElem? h2
      have hsz := P.sz t' ht
      rw [h3] at hsz
      have hpl := (List.getElem?_eq_some_iff.1 h2).1
      have h2g := P.row.get1 h2
      rw [Nat.zero_add] at h1
      have z1 : 4 ≤ (x.size : Int) := by omega
      have z2 : (x.size : Int) ≤ 16 := by omega
      by_cases hn : ow < 0
      · simp only [hn, show ¬ ((0 : Int) ≤ ow) by omega, z1, z2, show ¬ ((p : Int) < 0) by omega, show (0 : Int) ≤ (p : Int) by omega, show (p : Int) < (b.m : Int) by omega, h2g, tkG, h1, S.g1, show intV (Value.int .i64 ow) = ow from rfl, show intV (Value.int .i64 top) = top from rfl, y.at, ↓Alt_ite, ↓reduceIte, ltI_eq, leI_eq, eqI_eq, decide_eq_true_eq, decide_true, Bool.and_true, Bool.true_eq_false, Bool.not_true, Bool.not_false, show (i : Int) < (len : Int) by omega, hn19, P.row.flat, y.is, show b.m ≤ 1000000 by omega, nx i (by omega), Option.getD_some, hF2, Alt_iff, Need_iff, ltI_eq, leI_eq, eqI_eq, leN_eq, eqN_eq, decide_eq_true_eq, decide_eq_false_iff_not, decide_true, decide_false, true_and, and_true, Bool.true_eq_false, Bool.false_eq_true, false_implies, true_implies, implies_true, not_true_eq_false, not_false_eq_true, Bool.not_eq_true', Bool.not_eq_false', Nat.zero_add, Nat.add_zero, Nat.sub_zero, Nat.zero_mul, Nat.mul_one, Int.toNat_natCast, List.drop_zero, beqV_int, beqV_sl, beqV_str, beqV_bool, beqV_ptr, beqV_flt, beqV_agg, beqV_tuple, List.all_cons, List.all_nil, Bool.and_self, Bool.and_true, Bool.true_and, Nat.le_refl, Int.le_refl, Nat.zero_le, Option.getD_some, isStr, strV, isInt, intV, isBool, boolV, kindEq, at0, isJunk, Option.isSome_some, Option.isSome_none, if_true, if_false, Nat.add_sub_cancel_left, Nat.add_sub_cancel]
        exact ⟨(b, 1), rfl, rfl, ⟨hil, P.up, fun h => absurd (show (1:Int) = 10 from h) (by decide)⟩, fin b P.up⟩
      · simp only [hn, show (0 : Int) ≤ ow by omega, z1, z2, show ¬ ((p : Int) < 0) by omega, show (0 : Int) ≤ (p : Int) by omega, show (p : Int) < (b.m : Int) by omega, h2g, tkG, h1, S.g1, show intV (Value.int .i64 ow) = ow from rfl, show intV (Value.int .i64 top) = top from rfl, y.at, ↓Alt_ite, ↓reduceIte, ltI_eq, leI_eq, eqI_eq, decide_eq_true_eq, decide_true, Bool.and_true, Bool.true_eq_false, Bool.not_true, Bool.not_false, show (i : Int) < (len : Int) by omega, hn19, P.row.flat, y.is, show b.m ≤ 1000000 by omega, nx i (by omega), Option.getD_some, hF2, Alt_iff, Need_iff, ltI_eq, leI_eq, eqI_eq, leN_eq, eqN_eq, decide_eq_true_eq, decide_eq_false_iff_not, decide_true, decide_false, true_and, and_true, Bool.true_eq_false, Bool.false_eq_true, false_implies, true_implies, implies_true, not_true_eq_false, not_false_eq_true, Bool.not_eq_true', Bool.not_eq_false', Nat.zero_add, Nat.add_zero, Nat.sub_zero, Nat.zero_mul, Nat.mul_one, Int.toNat_natCast, List.drop_zero, beqV_int, beqV_sl, beqV_str, beqV_bool, beqV_ptr, beqV_flt, beqV_agg, beqV_tuple, List.all_cons, List.all_nil, Bool.and_self, Bool.and_true, Bool.true_and, Nat.le_refl, Int.le_refl, Nat.zero_le, Option.getD_some, isStr, strV, isInt, intV, isBool, boolV, kindEq, at0, isJunk, Option.isSome_some, Option.isSome_none, if_true, if_false, Nat.add_sub_cancel_left, Nat.add_sub_cancel]
        exact ⟨(b, 9), rfl, rfl, ⟨hil, P.up, fun h => absurd (show (9:Int) = 10 from h) (by decide)⟩, fin b P.up⟩
theorem law1946 (hmix : Try.prog.follows .mixedOrders = true) (ca : List Value) (hca : FlatL ca) (len : Nat) (hS : Steps4 ca len) (most : Int) (s1 : Option Nat) (k1 : Nat) :
    FunSays Try.prog 5 [.int .i64 most, .slice (some ⟨0,0,s1⟩) len k1] (hp [.cells ca 4 false]) fun v _ => v = .bool true := by
  have hF : FlatD [] (hp [.cells ca 4 false]) := flatD1 hca
  have hL : ∀ mo, Loops Try.prog body1946 1 (cutE [cut1946L ca s1 len k1 mo mo]) := fun mo => Loops.noneE.moreE _ fun x K hQ => by
    obtain ⟨⟨h1, h2, hw⟩, h3⟩ := hQ
    have h2 : x.2 ≤ len := h2
    have hw : len ≤ 60 := hw
    exact one_loop hmix ca hca s1 len k1 hw hS mo K h3 (len - x.2) x.2 x.1 (by omega) h1
  have e0 : TSl [] [] := ⟨rfl, fun x (h : x ∈ ([] : List Tk)) => by simp at h, .mk fun x (h : x ∈ ([] : List Value)) => by simp at h⟩
  have s0 : ∀ mo : Int, 0 ≤ mo → One mo 0 [] [] 0 0 := fun mo h => ⟨e0, rfl, Nat.le_refl _, Nat.le_refl _, List.Pairwise.nil, fun o => h, fun x (h : x ∈ ([] : List Tk)) => by simp at h⟩
  refine (sure1946 hmix).funX F1946 body1946 [] [] Try.func5 rfl ((hL (if most < 1 then 1 else if 4 < most then 4 else most)).gcX (at0 [1]) (at0 [.cell 5 1 2])) ?_
  rw [w1946]
  rw [Alt_iff]
  refine ⟨fun _ => ⟨trivial, trivial, hF, rfl, rfl⟩, fun h0 => ?_⟩
  have hw : len ≤ 60 := by simp only [ltI_eq, decide_eq_false_iff_not] at h0; omega
  by_cases c1 : most < 1
  · simp only [c1, show ¬ ((4 : Int) < 1) by decide, show (1 : Int) > most by omega, show ¬ (4 < most) by omega, show ¬ (most > 1) by omega, ↓reduceIte]
    exact ⟨hFo hca e0.flat, (⟨[], [], 0, 0⟩, 0), rfl, rfl, ⟨s0 1 (by decide), Nat.zero_le _, hw⟩, trivial, trivial, hF, rfl, trivial⟩
  · by_cases c2 : 4 < most
    · simp only [c1, c2, show (4 : Int) > 1 by decide, show ¬ ((1 : Int) > most) by omega, ↓reduceIte]
      exact ⟨hFo hca e0.flat, (⟨[], [], 0, 0⟩, 0), rfl, rfl, ⟨s0 4 (by decide), Nat.zero_le _, hw⟩, trivial, trivial, hF, rfl, trivial⟩
    · by_cases c3 : most > 1
      · simp only [c1, c2, c3, show ¬ ((1 : Int) > most) by omega, ↓reduceIte]
        exact ⟨hFo hca e0.flat, (⟨[], [], 0, 0⟩, 0), rfl, rfl, ⟨s0 most (by omega), Nat.zero_le _, hw⟩, trivial, trivial, hF, rfl, trivial⟩
      · obtain rfl : most = 1 := by omega
        exact ⟨hFo hca e0.flat, (⟨[], [], 0, 0⟩, 0), rfl, rfl, ⟨s0 1 (by decide), Nat.zero_le _, hw⟩, trivial, trivial, hF, rfl, rfl⟩
end Go.Proofs.Ytabbkoegaoekkaa

namespace Go.Proofs.Ytabbkoegaoekkaa
open Go.RowKit Go.Proofs.Ytabbkoegaoekkaa.AM
set_option maxRecDepth 100000
set_option maxHeartbeats 4000000
theorem flat_at {n : Nat} : ∀ {L : List (List Value)} {i : Nat} {c : List Value}, (∀ c ∈ L, c.length = n) → L[i]? = some c → ∀ j, j < n → L.flatten[i * n + j]? = c[j]? := by
  intro L
  induction L with
  | nil => intro i c _ h; simp at h
  | cons a L ih =>
    intro i c hL h j hj
    have ha : a.length = n := hL a List.mem_cons_self
    cases i with
    | zero =>
      simp at h
      subst h
      rw [Nat.zero_mul, Nat.zero_add, List.flatten_cons, List.getElem?_append_left (by omega)]
    | succ i =>
      rw [List.flatten_cons, List.getElem?_append_right (by rw [Nat.succ_mul]; omega), ha, show (i + 1) * n + j - n = i * n + j by rw [Nat.succ_mul]; omega]
      exact ih (fun c hc => hL c (List.mem_cons_of_mem _ hc)) (by simpa using h) j hj
def GoodStep4 (c : List Value) : Prop := ∃ (kd ow tk : Int) (raw : ByteArray), c = [.int .u8 kd, .int .i64 ow, .int .i64 tk, .string raw] ∧ ZP .i64 ow
theorem steps4_of {L : List (List Value)} {len : Nat} (hl : len ≤ L.length) (h : ∀ c ∈ L, c.length = 4 ∧ GoodStep4 c) : Steps4 L.flatten len ∧ FlatL L.flatten := by
  refine ⟨fun i hi => ?_, ⟨fun x hx => ?_⟩⟩
  · have hc : L[i]? = some L[i] := List.getElem?_eq_getElem (by omega)
    obtain ⟨h1, kd, ow, tk, raw, h2, h3⟩ := h L[i] (List.getElem_mem (by omega))
    rw [h2] at hc
    have e0 := flat_at (n := 4) (fun c hc => (h c hc).1) hc 0 (by omega)
    have e1 := flat_at (n := 4) (fun c hc => (h c hc).1) hc 1 (by omega)
    have e2 := flat_at (n := 4) (fun c hc => (h c hc).1) hc 2 (by omega)
    have e3 := flat_at (n := 4) (fun c hc => (h c hc).1) hc 3 (by omega)
    exact ⟨kd, ow, tk, raw, by rw [getO_eq]; exact e0, by rw [getO_eq]; exact e1, by rw [getO_eq]; exact e2, by rw [getO_eq]; exact e3, h3⟩
  · obtain ⟨c, h1, h2⟩ := List.mem_flatten.1 hx
    obtain ⟨_, kd, ow, tk, raw, rfl, _⟩ := h c h1
    simp at h2
    rcases h2 with rfl | rfl | rfl | rfl <;> rfl
end Go.Proofs.Ytabbkoegaoekkaa
