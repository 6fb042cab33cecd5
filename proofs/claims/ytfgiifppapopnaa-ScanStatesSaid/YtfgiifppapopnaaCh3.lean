/- Proved: what functions of the program come to, by their conditions over the abstract machine. Conditions: those that each theorem states. -/
import Derived.Test.YtfgiifppapopnaaCh2
set_option linter.unusedVariables false
set_option linter.unusedSimpArgs false
namespace Go.Proofs.Ytfgiifppapopnaa
open Go.RowKit Go.Proofs.Ytfgiifppapopnaa.AM
set_option maxRecDepth 100000
set_option maxHeartbeats 4000000
noncomputable def body783 : Code := (Try.f36.body).getD .skip
def F783 : List Nat → Option (List Nat) := fun p => match p with
  | [1] => some [0, 3]
  | [1, 1] => some [0, 3, 5]
  | [1, 0, 1, 1] => some [0, 3, 5, 11]
  | [1, 0, 1, 0, 1, 1] => some [0, 3, 5, 11, 12]
  | [1, 0, 1, 0, 1, 0, 1, 1] => some [4]
  | [1, 1, 1, 0, 1, 0, 1, 1] => some [0, 3, 5, 11, 20]
  | [1, 0, 1, 1, 1, 0, 1, 0, 1, 1] => some [0, 23, 24, 25]
  | [1, 0, 0, 1, 0, 1, 1, 1, 0, 1, 0, 1, 1] => some [0, 23, 24, 25, 26]
  | [1, 0, 1, 0, 0, 1, 0, 1, 1, 1, 0, 1, 0, 1, 1] => some [0]
  | [1, 1, 0, 0, 1, 0, 1, 1, 1, 0, 1, 0, 1, 1] => some [0, 23, 24, 25]
  | [1, 0, 0, 1, 1, 0, 0, 1, 0, 1, 1, 1, 0, 1, 0, 1, 1] => some [0, 7, 23, 24, 25]
  | [1, 1, 1, 0, 0, 1, 0, 1, 1, 1, 0, 1, 0, 1, 1] => some [0, 23, 24, 25]
  | [1, 1, 1, 1, 1, 0, 1, 0, 1, 1] => some [0, 3, 5, 11, 33]
  | [1, 0, 1, 1, 1, 1, 1, 0, 1, 0, 1, 1] => some [4]
  | [1, 1, 1, 1, 1, 1, 1, 0, 1, 0, 1, 1] => some [0, 3, 5, 11, 39]
  | [1, 0, 1, 1, 1, 1, 1, 1, 1, 0, 1, 0, 1, 1] => some [0, 5]
  | [1, 1, 0, 1, 1, 1, 1, 1, 1, 1, 0, 1, 0, 1, 1] => some [0, 5]
  | [1, 1, 1, 1, 1, 1, 1, 1, 1, 0, 1, 0, 1, 1] => some [0, 3, 5, 11, 63]
  | [1, 0, 1, 1, 1, 1, 1, 1, 1, 1, 1, 0, 1, 0, 1, 1] => some [0, 5]
  | [1, 1, 1, 1, 1, 1, 1, 1, 1, 1, 1, 0, 1, 0, 1, 1] => some [0, 3, 5, 79]
  | [1, 0, 1, 1, 1, 1, 1, 1, 1, 1, 1, 1, 1, 0, 1, 0, 1, 1] => some [0, 5]
  | [1, 1, 1] => some [0]
  | [1, 1, 1, 1] => some [4]
  | _ => none
noncomputable def body784 : Code := (Try.f50.body).getD .skip
def F784 : List Nat → Option (List Nat) := fun p => match p with
  | [1] => some [0, 1]
  | [1, 1] => some [0, 1, 5]
  | [1, 1, 1] => some [0, 1, 5, 6]
  | [1, 0, 1, 1, 1] => some [0, 1, 5, 6, 17, 18, 19]
  | [1, 0, 0, 1, 0, 1, 1, 1] => some [0, 1, 5, 6, 17, 18, 19, 20]
  | [1, 0, 1, 0, 0, 1, 0, 1, 1, 1] => some [0, 1, 5, 6]
  | [1, 1, 0, 0, 1, 0, 1, 1, 1] => some [0, 1, 5, 6, 17, 18, 19]
  | [1, 0, 0, 1, 1, 0, 0, 1, 0, 1, 1, 1] => some [0, 1, 5, 6, 8, 17, 18, 19]
  | [1, 1, 0, 0, 1, 1, 0, 0, 1, 0, 1, 1, 1] => some [0, 1, 5, 6, 8, 9, 17, 18, 19]
  | [1, 1, 1, 0, 0, 1, 1, 0, 0, 1, 0, 1, 1, 1] => some [0, 1, 5, 6, 9, 17, 18, 19]
  | [1, 1, 1, 1, 0, 0, 1, 1, 0, 0, 1, 0, 1, 1, 1] => some [0, 1, 5, 6, 9, 17, 18, 19]
  | [1, 1, 1, 1, 1, 0, 0, 1, 1, 0, 0, 1, 0, 1, 1, 1] => some [0, 1, 5, 6, 9, 17, 18, 19]
  | [1, 1, 1, 0, 0, 1, 0, 1, 1, 1] => some [0, 1, 5, 6, 17, 18, 19]
  | [1, 1, 1, 1] => some [0, 1, 5, 6]
  | [1, 1, 1, 1, 1] => some [0, 5]
  | [1, 0, 1, 1, 1, 1, 1] => some [0, 55, 56, 57]
  | [1, 0, 0, 1, 0, 1, 1, 1, 1, 1] => some [0, 55, 56, 57, 58]
  | [1, 0, 1, 0, 0, 1, 0, 1, 1, 1, 1, 1] => some [0]
  | [1, 1, 0, 0, 1, 0, 1, 1, 1, 1, 1] => some [0, 55, 56, 57]
  | [1, 0, 0, 1, 1, 0, 0, 1, 0, 1, 1, 1, 1, 1] => some [0, 11, 55, 56, 57]
  | [1, 1, 1, 0, 0, 1, 0, 1, 1, 1, 1, 1] => some [0, 55, 56, 57]
  | [1, 1, 1, 1, 1, 1] => some [0]
  | [1, 1, 1, 1, 1, 1, 1] => some [4]
  | _ => none
structure LayF (cs : List Value) (m m' : Nat) (x : Rx) (n : Nat) (L : List St) : Prop where
  hc : cs = stC L
  hl : L.length = m
  hm : m' = m
  hd : x.dp < n
  hi : x.is = true
  hs : m + x.sz ≤ 100
inductive LayOk (cs : List Value) (m m' : Nat) (v : Value) (n : Nat) : Prop
  | mk (L : List St) (x : Rx) (h : LayF cs m m' x n L) (hv : rxV x = v) : LayOk cs m m' v n
noncomputable abbrev slR (B n : Nat) : Value := .slice (some ⟨B,0,some 1⟩) n n
noncomputable def layW (n : Nat) : CtrW where
  D := []
  W := [0]
  E := []
  pre := fun args blks => match args, blks with
    | [.slice (some ⟨0,0,some 1⟩) m m', v], [.cells cs 7 true] => LayOk cs m m' v n
    | _, _ => False
  val := fun args blks => match args, blks with
    | [.slice (some ⟨0,0,some 1⟩) m m', v], [.cells cs 7 true] => slR 1 (m + (decV v).sz)
    | _, _ => undef
  out := fun args blks => match args, blks with
    | [.slice (some ⟨0,0,some 1⟩) m m', v], [.cells cs 7 true] => [.dead, .cells (cs ++ stC ((decV v).lay m)) 7 true]
    | _, _ => []
structure WayF (cs : List Value) (m m' : Nat) (ks : List Rx) (n : Nat) (L : List St) : Prop where
  hc : cs = stC L
  hl : L.length = m
  hm : m' = m
  hd : dpL ks < n
  hi : isL ks = true
  hk : 1 ≤ ks.length
  hs : m + (szL ks + 2 * (ks.length - 1)) ≤ 100
inductive WayOk (cs : List Value) (m m' : Nat) (v : Value) (n : Nat) : Prop
  | mk (L : List St) (ks : List Rx) (h : WayF cs m m' ks n L) (hv : frV ks = v) : WayOk cs m m' v n
noncomputable def altW (n : Nat) : CtrW where
  D := []
  W := [0]
  E := []
  pre := fun args blks => match args, blks with
    | [.slice (some ⟨0,0,some 1⟩) m m', v], [.cells cs 7 true] => WayOk cs m m' v n
    | _, _ => False
  val := fun args blks => match args, blks with
    | [.slice (some ⟨0,0,some 1⟩) m m', v], [.cells cs 7 true] => slR 1 (m + (szL (decK v) + 2 * ((decK v).length - 1)))
    | _, _ => undef
  out := fun args blks => match args, blks with
    | [.slice (some ⟨0,0,some 1⟩) m m', v], [.cells cs 7 true] => [.dead, .cells (cs ++ stC (altL (decK v) m (m + (szL (decK v) + 2 * ((decK v).length - 1))))) 7 true]
    | _, _ => []
noncomputable def S783 (n : Nat) : Book := bookW [(36, layW n), (50, altW n)] S0
noncomputable abbrev T783 (m : Nat) (ks : List Rx) (i : Nat) : List Value := tmps 99 [(0, slR 1 m), (23, frV ks), (24, .int .i64 (ks.length : Int)), (25, .int .i64 (i : Int))]

theorem r783 (n : Nat) (m : Nat) (cs : List Value) (ks : List Rx) (i : Nat) (K : Post) :
  roundX Try.prog (S783 n) noLoop F783 body783 1 [] [.tmp 0 7] [] [.tmp 0 7] [0,23,24,25] [0,0,1,0,1,1,1,0,1,0,1,1] (T783 m ks i) (hp [.dead, .cells cs 7 true]) K = (
Alt (ltI (↑i : Int) (↑ks.length : Int)) (Need (ltI (↑i : Int) (↑ks.length : Int)) (Need (isInt IntKind.i64 ((getO (List.drop ((↑i : Int).toNat * 6) (rxL ks).toArray.toList).toArray.toList 0).getD undef)) (Need (isInt
IntKind.u64 ((getO (List.drop ((↑i : Int).toNat * 6) (rxL ks).toArray.toList).toArray.toList 1).getD undef)) (Need (isInt IntKind.u64 ((getO (List.drop ((↑i : Int).toNat * 6) (rxL ks).toArray.toList).toArray.toList
2).getD undef)) (Need (isInt IntKind.u64 ((getO (List.drop ((↑i : Int).toNat * 6) (rxL ks).toArray.toList).toArray.toList 3).getD undef)) (Need (isInt IntKind.u64 ((getO (List.drop ((↑i : Int).toNat * 6) (rxL
ks).toArray.toList).toArray.toList 4).getD undef)) (Need (isFr ((getO (List.drop ((↑i : Int).toNat * 6) (rxL ks).toArray.toList).toArray.toList 5).getD undef)) ((FlatL cs ∧ True) ∧ LayOk cs m m (Value.agg #[Value.int
IntKind.i64 (intV (Value.int IntKind.i64 (intV ((getO (List.drop ((↑i : Int).toNat * 6) (rxL ks).toArray.toList).toArray.toList 0).getD undef)))), Value.int IntKind.u64 (intV (Value.int IntKind.u64 (intV ((getO
(List.drop ((↑i : Int).toNat * 6) (rxL ks).toArray.toList).toArray.toList 1).getD undef)))), Value.int IntKind.u64 (intV (Value.int IntKind.u64 (intV ((getO (List.drop ((↑i : Int).toNat * 6) (rxL
ks).toArray.toList).toArray.toList 2).getD undef)))), Value.int IntKind.u64 (intV (Value.int IntKind.u64 (intV ((getO (List.drop ((↑i : Int).toNat * 6) (rxL ks).toArray.toList).toArray.toList 3).getD undef)))), Value.int
IntKind.u64 (intV (Value.int IntKind.u64 (intV ((getO (List.drop ((↑i : Int).toNat * 6) (rxL ks).toArray.toList).toArray.toList 4).getD undef)))), Value.iface 0 (Value.agg #[Value.int IntKind.i64 (↑(frE ((getO (List.drop
((↑i : Int).toNat * 6) (rxL ks).toArray.toList).toArray.toList 5).getD undef)) : Int), Value.int IntKind.i64 (↑(frN ((getO (List.drop ((↑i : Int).toNat * 6) (rxL ks).toArray.toList).toArray.toList 5).getD undef)) : Int),
Value.agg (frC ((getO (List.drop ((↑i : Int).toNat * 6) (rxL ks).toArray.toList).toArray.toList 5).getD undef)).toArray])]) n ∧ K AE.normal (tmps 99 [(0, Value.slice (some { block := 1, off := 0, spot := some 1 : Addr })
(m + (decV (Value.agg #[Value.int IntKind.i64 (intV (Value.int IntKind.i64 (intV ((getO (List.drop ((↑i : Int).toNat * 6) (rxL ks).toArray.toList).toArray.toList 0).getD undef)))), Value.int IntKind.u64 (intV (Value.int
IntKind.u64 (intV ((getO (List.drop ((↑i : Int).toNat * 6) (rxL ks).toArray.toList).toArray.toList 1).getD undef)))), Value.int IntKind.u64 (intV (Value.int IntKind.u64 (intV ((getO (List.drop ((↑i : Int).toNat * 6) (rxL
ks).toArray.toList).toArray.toList 2).getD undef)))), Value.int IntKind.u64 (intV (Value.int IntKind.u64 (intV ((getO (List.drop ((↑i : Int).toNat * 6) (rxL ks).toArray.toList).toArray.toList 3).getD undef)))), Value.int
IntKind.u64 (intV (Value.int IntKind.u64 (intV ((getO (List.drop ((↑i : Int).toNat * 6) (rxL ks).toArray.toList).toArray.toList 4).getD undef)))), Value.iface 0 (Value.agg #[Value.int IntKind.i64 (↑(frE ((getO (List.drop
((↑i : Int).toNat * 6) (rxL ks).toArray.toList).toArray.toList 5).getD undef)) : Int), Value.int IntKind.i64 (↑(frN ((getO (List.drop ((↑i : Int).toNat * 6) (rxL ks).toArray.toList).toArray.toList 5).getD undef)) : Int),
Value.agg (frC ((getO (List.drop ((↑i : Int).toNat * 6) (rxL ks).toArray.toList).toArray.toList 5).getD undef)).toArray])])).sz) (m + (decV (Value.agg #[Value.int IntKind.i64 (intV (Value.int IntKind.i64 (intV ((getO
(List.drop ((↑i : Int).toNat * 6) (rxL ks).toArray.toList).toArray.toList 0).getD undef)))), Value.int IntKind.u64 (intV (Value.int IntKind.u64 (intV ((getO (List.drop ((↑i : Int).toNat * 6) (rxL
ks).toArray.toList).toArray.toList 1).getD undef)))), Value.int IntKind.u64 (intV (Value.int IntKind.u64 (intV ((getO (List.drop ((↑i : Int).toNat * 6) (rxL ks).toArray.toList).toArray.toList 2).getD undef)))), Value.int
IntKind.u64 (intV (Value.int IntKind.u64 (intV ((getO (List.drop ((↑i : Int).toNat * 6) (rxL ks).toArray.toList).toArray.toList 3).getD undef)))), Value.int IntKind.u64 (intV (Value.int IntKind.u64 (intV ((getO
(List.drop ((↑i : Int).toNat * 6) (rxL ks).toArray.toList).toArray.toList 4).getD undef)))), Value.iface 0 (Value.agg #[Value.int IntKind.i64 (↑(frE ((getO (List.drop ((↑i : Int).toNat * 6) (rxL
ks).toArray.toList).toArray.toList 5).getD undef)) : Int), Value.int IntKind.i64 (↑(frN ((getO (List.drop ((↑i : Int).toNat * 6) (rxL ks).toArray.toList).toArray.toList 5).getD undef)) : Int), Value.agg (frC ((getO
(List.drop ((↑i : Int).toNat * 6) (rxL ks).toArray.toList).toArray.toList 5).getD undef)).toArray])])).sz)), (23, Value.iface 0 (Value.agg #[Value.int IntKind.i64 6, Value.int IntKind.i64 (↑ks.length : Int), Value.agg
(rxL ks).toArray])), (24, Value.int IntKind.i64 (↑ks.length : Int)), (25, Value.int IntKind.i64 (wr IntKind.i64 ((↑i : Int) + 1)))]) (hp [Blk.dead, Blk.cells (cs ++ stC ((decV (Value.agg #[Value.int IntKind.i64 (intV
(Value.int IntKind.i64 (intV ((getO (List.drop ((↑i : Int).toNat * 6) (rxL ks).toArray.toList).toArray.toList 0).getD undef)))), Value.int IntKind.u64 (intV (Value.int IntKind.u64 (intV ((getO (List.drop ((↑i :
Int).toNat * 6) (rxL ks).toArray.toList).toArray.toList 1).getD undef)))), Value.int IntKind.u64 (intV (Value.int IntKind.u64 (intV ((getO (List.drop ((↑i : Int).toNat * 6) (rxL ks).toArray.toList).toArray.toList 2).getD
undef)))), Value.int IntKind.u64 (intV (Value.int IntKind.u64 (intV ((getO (List.drop ((↑i : Int).toNat * 6) (rxL ks).toArray.toList).toArray.toList 3).getD undef)))), Value.int IntKind.u64 (intV (Value.int IntKind.u64
(intV ((getO (List.drop ((↑i : Int).toNat * 6) (rxL ks).toArray.toList).toArray.toList 4).getD undef)))), Value.iface 0 (Value.agg #[Value.int IntKind.i64 (↑(frE ((getO (List.drop ((↑i : Int).toNat * 6) (rxL
ks).toArray.toList).toArray.toList 5).getD undef)) : Int), Value.int IntKind.i64 (↑(frN ((getO (List.drop ((↑i : Int).toNat * 6) (rxL ks).toArray.toList).toArray.toList 5).getD undef)) : Int), Value.agg (frC ((getO
(List.drop ((↑i : Int).toNat * 6) (rxL ks).toArray.toList).toArray.toList 5).getD undef)).toArray])])).lay m)) 7 true]))))))))) (K (AE.exit 1) (tmps 99 [(0, Value.slice (some
{ block := 1, off := 0, spot := some 1 : Addr }) m m)]) (hp [Blk.dead, Blk.cells cs 7 true]))) := by kernel_rfl

noncomputable def cut783 (m : Nat) (cs : List Value) (ks : List Rx) : CutE where
  β := Nat
  p := [0,1,0,1,1,1,0,1,0,1,1]
  t := fun _ => tmps 99 [(0, slR 0 m), (23, frV ks), (24, .int .i64 (ks.length : Int)), (25, .int .i64 0)]
  h := fun _ => hp [.cells cs 7 true]
  Q := fun _ K => K (.exit 1) (tmps 99 [(0, slR 1 (m + szL ks))]) (hp [.dead, .cells (cs ++ stC (layL ks m)) 7 true])
noncomputable abbrev frR (y : Rx) : Value := .iface 0 (.agg #[.int .i64 6, .int .i64 1, .agg #[.int .i64 (y.op : Int), .int .u64 (y.set.x0 : Int), .int .u64 (y.set.x1 : Int), .int .u64 (y.set.x2 : Int), .int .u64 (y.set.x3 : Int), kvV y]])
noncomputable abbrev rxA (o : Int) (v : Value) : Value := .agg #[.int .i64 o, .int .u64 0, .int .u64 0, .int .u64 0, .int .u64 0, v]

theorem w783a (n : Nat) (m : Nat) (cs : List Value) (s : S4) (K : Value → Heap → Prop) :
  funX Try.prog (S783 n) noLoop F783 body783 Try.f36 [] [.tmp 0 7] [slR 0 m, .agg #[.int .i64 1, .int .u64 (s.x0 : Int), .int .u64 (s.x1 : Int), .int .u64 (s.x2 : Int), .int .u64 (s.x3 : Int), .iface 0 (.agg #[.int .i64 6, .int .i64 0, .agg #[]])]] (hp [.cells cs 7 true]) K = (
Need (leN (0 + m * 7) cs.length) (Need (leN ((m + 1) * 56) 1099511627776) (Need (leN (m + 1) 1099511627776) (K (Value.slice (some { block := 1, off := 0, spot := some 1 : Addr }) (m + 1) (m + 1)) (hp [Blk.dead, Blk.cells
(List.take (m * 7) (List.drop 0 cs) ++ [Value.int IntKind.i64 1, Value.int IntKind.u64 (intV (Value.int IntKind.u64 (↑s.x0 : Int))), Value.int IntKind.u64 (intV (Value.int IntKind.u64 (↑s.x1 : Int))), Value.int
IntKind.u64 (intV (Value.int IntKind.u64 (↑s.x2 : Int))), Value.int IntKind.u64 (intV (Value.int IntKind.u64 (↑s.x3 : Int))), Value.int IntKind.i64 0, Value.int IntKind.i64 0]) 7 true]))))) := by kernel_rfl

theorem w783b (n : Nat) (m : Nat) (cs : List Value) (ks : List Rx) (K : Value → Heap → Prop) :
  funX Try.prog (S783 n) (gcLKX (at0 []) (at0 [.tmp 0 7]) 1 (cutE [cut783 m cs ks])) F783 body783 Try.f36 [] [.tmp 0 7] [slR 0 m, rxA 2 (frV ks)] (hp [.cells cs 7 true]) K = (
FlatD [] (hp [Blk.cells cs 7 true]) ∧ ∃ (b : Nat), tmps 99 [(0, Value.slice (some { block := 0, off := 0, spot := some 1 : Addr }) m m), (23, Value.iface 0 (Value.agg #[Value.int IntKind.i64 6, Value.int IntKind.i64
(↑ks.length : Int), Value.agg (rxL ks).toArray])), (24, Value.int IntKind.i64 (↑ks.length : Int)), (25, Value.int IntKind.i64 0)] = tmps 99 [(0, Value.slice (some { block := 0, off := 0, spot := some 1 : Addr }) m m),
(23, Value.iface 0 (Value.agg #[Value.int IntKind.i64 6, Value.int IntKind.i64 (↑ks.length : Int), Value.agg (rxL ks).toArray])), (24, Value.int IntKind.i64 (↑ks.length : Int)), (25, Value.int IntKind.i64 0)] ∧ hp
[Blk.cells cs 7 true] = hp [Blk.cells cs 7 true] ∧ K (Value.slice (some { block := 1, off := 0, spot := some 1 : Addr }) (m + szL ks) (m + szL ks)) (hp [Blk.dead, Blk.cells (cs ++ stC (layL ks m)) 7 true])) := by kernel_rfl

theorem w783c (n : Nat) (m : Nat) (cs : List Value) (ks : List Rx) (K : Value → Heap → Prop) :
  funX Try.prog (S783 n) noLoop F783 body783 Try.f36 [] [.tmp 0 7] [slR 0 m, rxA 3 (frV ks)] (hp [.cells cs 7 true]) K = (
(FlatL cs ∧ True) ∧ WayOk cs m m (Value.iface 0 (Value.agg #[Value.int IntKind.i64 6, Value.int IntKind.i64 (↑ks.length : Int), Value.agg (rxL ks).toArray])) n ∧ K (Value.slice (some
{ block := 1, off := 0, spot := some 1 : Addr }) (m + (szL (decK (Value.iface 0 (Value.agg #[Value.int IntKind.i64 6, Value.int IntKind.i64 (↑ks.length : Int), Value.agg (rxL ks).toArray]))) + 2 * ((decK (Value.iface 0
(Value.agg #[Value.int IntKind.i64 6, Value.int IntKind.i64 (↑ks.length : Int), Value.agg (rxL ks).toArray]))).length - 1))) (m + (szL (decK (Value.iface 0 (Value.agg #[Value.int IntKind.i64 6, Value.int IntKind.i64
(↑ks.length : Int), Value.agg (rxL ks).toArray]))) + 2 * ((decK (Value.iface 0 (Value.agg #[Value.int IntKind.i64 6, Value.int IntKind.i64 (↑ks.length : Int), Value.agg (rxL ks).toArray]))).length - 1)))) (hp [Blk.dead,
Blk.cells (cs ++ stC (altL (decK (Value.iface 0 (Value.agg #[Value.int IntKind.i64 6, Value.int IntKind.i64 (↑ks.length : Int), Value.agg (rxL ks).toArray]))) m (m + (szL (decK (Value.iface 0 (Value.agg #[Value.int
IntKind.i64 6, Value.int IntKind.i64 (↑ks.length : Int), Value.agg (rxL ks).toArray]))) + 2 * ((decK (Value.iface 0 (Value.agg #[Value.int IntKind.i64 6, Value.int IntKind.i64 (↑ks.length : Int), Value.agg (rxL
ks).toArray]))).length - 1))))) 7 true])) := by kernel_rfl

theorem w783d (n : Nat) (m : Nat) (cs : List Value) (y : Rx) (K : Value → Heap → Prop) :
  funX Try.prog (S783 n) noLoop F783 body783 Try.f36 [] [.tmp 0 7] [slR 0 m, rxA 4 (frR y)] (hp [.cells cs 7 true]) K = (
Need (leN (0 + m * 7) cs.length) (Need (leN ((m + 1) * 56) 1099511627776) (Need (leN (m + 1) 1099511627776) ((FlatL (List.take (m * 7) (List.drop 0 cs) ++ [Value.int IntKind.i64 2, Value.int IntKind.u64 0, Value.int
IntKind.u64 0, Value.int IntKind.u64 0, Value.int IntKind.u64 0, Value.int IntKind.i64 (wr IntKind.i64 ((↑m : Int) + 1)), Value.int IntKind.i64 0]) ∧ True) ∧ LayOk (List.take (m * 7) (List.drop 0 cs) ++ [Value.int
IntKind.i64 2, Value.int IntKind.u64 0, Value.int IntKind.u64 0, Value.int IntKind.u64 0, Value.int IntKind.u64 0, Value.int IntKind.i64 (wr IntKind.i64 ((↑m : Int) + 1)), Value.int IntKind.i64 0]) (m + 1) (m + 1)
(Value.agg #[Value.int IntKind.i64 (intV (Value.int IntKind.i64 (↑y.op : Int))), Value.int IntKind.u64 (intV (Value.int IntKind.u64 (↑y.set.x0 : Int))), Value.int IntKind.u64 (intV (Value.int IntKind.u64 (↑y.set.x1 :
Int))), Value.int IntKind.u64 (intV (Value.int IntKind.u64 (↑y.set.x2 : Int))), Value.int IntKind.u64 (intV (Value.int IntKind.u64 (↑y.set.x3 : Int))), Value.iface 0 (Value.agg #[Value.int IntKind.i64 (↑6 : Int),
Value.int IntKind.i64 (↑(frN (Value.iface 0 (Value.agg #[Value.int IntKind.i64 6, Value.int IntKind.i64 (↑y.kids.length : Int), Value.agg (rxL y.kids).toArray]))) : Int), Value.agg (frC (Value.iface 0 (Value.agg
#[Value.int IntKind.i64 6, Value.int IntKind.i64 (↑y.kids.length : Int), Value.agg (rxL y.kids).toArray]))).toArray])]) n ∧ Need (beqV 64 (Value.agg #[Value.int IntKind.i64 (intV (Value.int IntKind.i64 (↑y.op : Int))),
Value.int IntKind.u64 (intV (Value.int IntKind.u64 (↑y.set.x0 : Int))), Value.int IntKind.u64 (intV (Value.int IntKind.u64 (↑y.set.x1 : Int))), Value.int IntKind.u64 (intV (Value.int IntKind.u64 (↑y.set.x2 : Int))),
Value.int IntKind.u64 (intV (Value.int IntKind.u64 (↑y.set.x3 : Int))), Value.iface 0 (Value.agg #[Value.int IntKind.i64 (↑6 : Int), Value.int IntKind.i64 (↑(frN (Value.iface 0 (Value.agg #[Value.int IntKind.i64 6,
Value.int IntKind.i64 (↑y.kids.length : Int), Value.agg (rxL y.kids).toArray]))) : Int), Value.agg (frC (Value.iface 0 (Value.agg #[Value.int IntKind.i64 6, Value.int IntKind.i64 (↑y.kids.length : Int), Value.agg (rxL
y.kids).toArray]))).toArray])]) (Value.agg #[Value.int IntKind.i64 (intV (Value.int IntKind.i64 (↑y.op : Int))), Value.int IntKind.u64 (intV (Value.int IntKind.u64 (↑y.set.x0 : Int))), Value.int IntKind.u64 (intV
(Value.int IntKind.u64 (↑y.set.x1 : Int))), Value.int IntKind.u64 (intV (Value.int IntKind.u64 (↑y.set.x2 : Int))), Value.int IntKind.u64 (intV (Value.int IntKind.u64 (↑y.set.x3 : Int))), Value.iface 0 (Value.agg
#[Value.int IntKind.i64 (↑6 : Int), Value.int IntKind.i64 (↑(frN (Value.iface 0 (Value.agg #[Value.int IntKind.i64 6, Value.int IntKind.i64 (↑y.kids.length : Int), Value.agg (rxL y.kids).toArray]))) : Int), Value.agg
(frC (Value.iface 0 (Value.agg #[Value.int IntKind.i64 6, Value.int IntKind.i64 (↑y.kids.length : Int), Value.agg (rxL y.kids).toArray]))).toArray])])) (Need (beqV 64 (Value.agg #[Value.int IntKind.i64 (intV (Value.int
IntKind.i64 (↑y.op : Int))), Value.int IntKind.u64 (intV (Value.int IntKind.u64 (↑y.set.x0 : Int))), Value.int IntKind.u64 (intV (Value.int IntKind.u64 (↑y.set.x1 : Int))), Value.int IntKind.u64 (intV (Value.int
IntKind.u64 (↑y.set.x2 : Int))), Value.int IntKind.u64 (intV (Value.int IntKind.u64 (↑y.set.x3 : Int))), Value.iface 0 (Value.agg #[Value.int IntKind.i64 (↑6 : Int), Value.int IntKind.i64 (↑(frN (Value.iface 0 (Value.agg
#[Value.int IntKind.i64 6, Value.int IntKind.i64 (↑y.kids.length : Int), Value.agg (rxL y.kids).toArray]))) : Int), Value.agg (frC (Value.iface 0 (Value.agg #[Value.int IntKind.i64 6, Value.int IntKind.i64
(↑y.kids.length : Int), Value.agg (rxL y.kids).toArray]))).toArray])]) (Value.agg #[Value.int IntKind.i64 (intV (Value.int IntKind.i64 (↑y.op : Int))), Value.int IntKind.u64 (intV (Value.int IntKind.u64 (↑y.set.x0 :
Int))), Value.int IntKind.u64 (intV (Value.int IntKind.u64 (↑y.set.x1 : Int))), Value.int IntKind.u64 (intV (Value.int IntKind.u64 (↑y.set.x2 : Int))), Value.int IntKind.u64 (intV (Value.int IntKind.u64 (↑y.set.x3 :
Int))), Value.iface 0 (Value.agg #[Value.int IntKind.i64 (↑6 : Int), Value.int IntKind.i64 (↑(frN (Value.iface 0 (Value.agg #[Value.int IntKind.i64 6, Value.int IntKind.i64 (↑y.kids.length : Int), Value.agg (rxL
y.kids).toArray]))) : Int), Value.agg (frC (Value.iface 0 (Value.agg #[Value.int IntKind.i64 6, Value.int IntKind.i64 (↑y.kids.length : Int), Value.agg (rxL y.kids).toArray]))).toArray])])) (Need (beqV 64 (Value.iface 0
(Value.tuple #[Value.int IntKind.i64 (↑y.op : Int), Value.int IntKind.u64 (↑y.set.x0 : Int), Value.int IntKind.u64 (↑y.set.x1 : Int), Value.int IntKind.u64 (↑y.set.x2 : Int), Value.int IntKind.u64 (↑y.set.x3 : Int),
Value.iface 0 (Value.agg #[Value.int IntKind.i64 6, Value.int IntKind.i64 (↑y.kids.length : Int), Value.agg (rxL y.kids).toArray])])) (Value.iface 0 (Value.tuple #[Value.int IntKind.i64 (↑y.op : Int), Value.int
IntKind.u64 (↑y.set.x0 : Int), Value.int IntKind.u64 (↑y.set.x1 : Int), Value.int IntKind.u64 (↑y.set.x2 : Int), Value.int IntKind.u64 (↑y.set.x3 : Int), Value.iface 0 (Value.agg #[Value.int IntKind.i64 6, Value.int
IntKind.i64 (↑y.kids.length : Int), Value.agg (rxL y.kids).toArray])]))) (Need (beqV 64 (Value.iface 0 (Value.tuple #[Value.int IntKind.i64 (↑y.op : Int), Value.int IntKind.u64 (↑y.set.x0 : Int), Value.int IntKind.u64
(↑y.set.x1 : Int), Value.int IntKind.u64 (↑y.set.x2 : Int), Value.int IntKind.u64 (↑y.set.x3 : Int), Value.iface 0 (Value.agg #[Value.int IntKind.i64 6, Value.int IntKind.i64 (↑y.kids.length : Int), Value.agg (rxL
y.kids).toArray])])) (Value.iface 0 (Value.tuple #[Value.int IntKind.i64 (↑y.op : Int), Value.int IntKind.u64 (↑y.set.x0 : Int), Value.int IntKind.u64 (↑y.set.x1 : Int), Value.int IntKind.u64 (↑y.set.x2 : Int), Value.int
IntKind.u64 (↑y.set.x3 : Int), Value.iface 0 (Value.agg #[Value.int IntKind.i64 6, Value.int IntKind.i64 (↑y.kids.length : Int), Value.agg (rxL y.kids).toArray])]))) (Need (beqV 64 (Value.iface 0 (Value.agg #[Value.int
IntKind.i64 6, Value.int IntKind.i64 1, Value.agg #[Value.int IntKind.i64 (↑y.op : Int), Value.int IntKind.u64 (↑y.set.x0 : Int), Value.int IntKind.u64 (↑y.set.x1 : Int), Value.int IntKind.u64 (↑y.set.x2 : Int),
Value.int IntKind.u64 (↑y.set.x3 : Int), Value.iface 0 (Value.agg #[Value.int IntKind.i64 6, Value.int IntKind.i64 (↑y.kids.length : Int), Value.agg (rxL y.kids).toArray])]])) (Value.iface 0 (Value.agg #[Value.int
IntKind.i64 6, Value.int IntKind.i64 1, Value.agg #[Value.int IntKind.i64 (↑y.op : Int), Value.int IntKind.u64 (↑y.set.x0 : Int), Value.int IntKind.u64 (↑y.set.x1 : Int), Value.int IntKind.u64 (↑y.set.x2 : Int),
Value.int IntKind.u64 (↑y.set.x3 : Int), Value.iface 0 (Value.agg #[Value.int IntKind.i64 6, Value.int IntKind.i64 (↑y.kids.length : Int), Value.agg (rxL y.kids).toArray])]]))) (Need (beqV 64 (Value.iface 0 (Value.agg
#[Value.int IntKind.i64 6, Value.int IntKind.i64 1, Value.agg #[Value.int IntKind.i64 (↑y.op : Int), Value.int IntKind.u64 (↑y.set.x0 : Int), Value.int IntKind.u64 (↑y.set.x1 : Int), Value.int IntKind.u64 (↑y.set.x2 :
Int), Value.int IntKind.u64 (↑y.set.x3 : Int), Value.iface 0 (Value.agg #[Value.int IntKind.i64 6, Value.int IntKind.i64 (↑y.kids.length : Int), Value.agg (rxL y.kids).toArray])]])) (Value.iface 0 (Value.agg #[Value.int
IntKind.i64 6, Value.int IntKind.i64 1, Value.agg #[Value.int IntKind.i64 (↑y.op : Int), Value.int IntKind.u64 (↑y.set.x0 : Int), Value.int IntKind.u64 (↑y.set.x1 : Int), Value.int IntKind.u64 (↑y.set.x2 : Int),
Value.int IntKind.u64 (↑y.set.x3 : Int), Value.iface 0 (Value.agg #[Value.int IntKind.i64 6, Value.int IntKind.i64 (↑y.kids.length : Int), Value.agg (rxL y.kids).toArray])]]))) (Need (beqV 64 (Value.slice (some
{ block := 0, off := 0, spot := some 1 : Addr }) m m) (Value.slice (some { block := 0, off := 0, spot := some 1 : Addr }) m m)) (Need (leN (0 + (m + 1 + (decV (Value.agg #[Value.int IntKind.i64 (intV (Value.int
IntKind.i64 (↑y.op : Int))), Value.int IntKind.u64 (intV (Value.int IntKind.u64 (↑y.set.x0 : Int))), Value.int IntKind.u64 (intV (Value.int IntKind.u64 (↑y.set.x1 : Int))), Value.int IntKind.u64 (intV (Value.int
IntKind.u64 (↑y.set.x2 : Int))), Value.int IntKind.u64 (intV (Value.int IntKind.u64 (↑y.set.x3 : Int))), Value.iface 0 (Value.agg #[Value.int IntKind.i64 (↑6 : Int), Value.int IntKind.i64 (↑(frN (Value.iface 0 (Value.agg
#[Value.int IntKind.i64 6, Value.int IntKind.i64 (↑y.kids.length : Int), Value.agg (rxL y.kids).toArray]))) : Int), Value.agg (frC (Value.iface 0 (Value.agg #[Value.int IntKind.i64 6, Value.int IntKind.i64
(↑y.kids.length : Int), Value.agg (rxL y.kids).toArray]))).toArray])])).sz) * 7) (List.take (m * 7) (List.drop 0 cs) ++ [Value.int IntKind.i64 2, Value.int IntKind.u64 0, Value.int IntKind.u64 0, Value.int IntKind.u64 0,
Value.int IntKind.u64 0, Value.int IntKind.i64 (wr IntKind.i64 ((↑m : Int) + 1)), Value.int IntKind.i64 0] ++ stC ((decV (Value.agg #[Value.int IntKind.i64 (intV (Value.int IntKind.i64 (↑y.op : Int))), Value.int
IntKind.u64 (intV (Value.int IntKind.u64 (↑y.set.x0 : Int))), Value.int IntKind.u64 (intV (Value.int IntKind.u64 (↑y.set.x1 : Int))), Value.int IntKind.u64 (intV (Value.int IntKind.u64 (↑y.set.x2 : Int))), Value.int
IntKind.u64 (intV (Value.int IntKind.u64 (↑y.set.x3 : Int))), Value.iface 0 (Value.agg #[Value.int IntKind.i64 (↑6 : Int), Value.int IntKind.i64 (↑(frN (Value.iface 0 (Value.agg #[Value.int IntKind.i64 6, Value.int
IntKind.i64 (↑y.kids.length : Int), Value.agg (rxL y.kids).toArray]))) : Int), Value.agg (frC (Value.iface 0 (Value.agg #[Value.int IntKind.i64 6, Value.int IntKind.i64 (↑y.kids.length : Int), Value.agg (rxL
y.kids).toArray]))).toArray])])).lay (m + 1))).length) (Need (leN ((m + 1 + (decV (Value.agg #[Value.int IntKind.i64 (intV (Value.int IntKind.i64 (↑y.op : Int))), Value.int IntKind.u64 (intV (Value.int IntKind.u64
(↑y.set.x0 : Int))), Value.int IntKind.u64 (intV (Value.int IntKind.u64 (↑y.set.x1 : Int))), Value.int IntKind.u64 (intV (Value.int IntKind.u64 (↑y.set.x2 : Int))), Value.int IntKind.u64 (intV (Value.int IntKind.u64
(↑y.set.x3 : Int))), Value.iface 0 (Value.agg #[Value.int IntKind.i64 (↑6 : Int), Value.int IntKind.i64 (↑(frN (Value.iface 0 (Value.agg #[Value.int IntKind.i64 6, Value.int IntKind.i64 (↑y.kids.length : Int), Value.agg
(rxL y.kids).toArray]))) : Int), Value.agg (frC (Value.iface 0 (Value.agg #[Value.int IntKind.i64 6, Value.int IntKind.i64 (↑y.kids.length : Int), Value.agg (rxL y.kids).toArray]))).toArray])])).sz + 1) * 56)
1099511627776) (Need (leN (m + 1 + (decV (Value.agg #[Value.int IntKind.i64 (intV (Value.int IntKind.i64 (↑y.op : Int))), Value.int IntKind.u64 (intV (Value.int IntKind.u64 (↑y.set.x0 : Int))), Value.int IntKind.u64
(intV (Value.int IntKind.u64 (↑y.set.x1 : Int))), Value.int IntKind.u64 (intV (Value.int IntKind.u64 (↑y.set.x2 : Int))), Value.int IntKind.u64 (intV (Value.int IntKind.u64 (↑y.set.x3 : Int))), Value.iface 0 (Value.agg
#[Value.int IntKind.i64 (↑6 : Int), Value.int IntKind.i64 (↑(frN (Value.iface 0 (Value.agg #[Value.int IntKind.i64 6, Value.int IntKind.i64 (↑y.kids.length : Int), Value.agg (rxL y.kids).toArray]))) : Int), Value.agg
(frC (Value.iface 0 (Value.agg #[Value.int IntKind.i64 6, Value.int IntKind.i64 (↑y.kids.length : Int), Value.agg (rxL y.kids).toArray]))).toArray])])).sz + 1) 1099511627776) (Need (ltI (↑m : Int) (↑(m + 1 + (decV
(Value.agg #[Value.int IntKind.i64 (intV (Value.int IntKind.i64 (↑y.op : Int))), Value.int IntKind.u64 (intV (Value.int IntKind.u64 (↑y.set.x0 : Int))), Value.int IntKind.u64 (intV (Value.int IntKind.u64 (↑y.set.x1 :
Int))), Value.int IntKind.u64 (intV (Value.int IntKind.u64 (↑y.set.x2 : Int))), Value.int IntKind.u64 (intV (Value.int IntKind.u64 (↑y.set.x3 : Int))), Value.iface 0 (Value.agg #[Value.int IntKind.i64 (↑6 : Int),
Value.int IntKind.i64 (↑(frN (Value.iface 0 (Value.agg #[Value.int IntKind.i64 6, Value.int IntKind.i64 (↑y.kids.length : Int), Value.agg (rxL y.kids).toArray]))) : Int), Value.agg (frC (Value.iface 0 (Value.agg
#[Value.int IntKind.i64 6, Value.int IntKind.i64 (↑y.kids.length : Int), Value.agg (rxL y.kids).toArray]))).toArray])])).sz + 1) : Int)) (Need (leN (0 + (↑m : Int).toNat * 7 + 6 + 1) (List.take ((m + 1 + (decV (Value.agg
#[Value.int IntKind.i64 (intV (Value.int IntKind.i64 (↑y.op : Int))), Value.int IntKind.u64 (intV (Value.int IntKind.u64 (↑y.set.x0 : Int))), Value.int IntKind.u64 (intV (Value.int IntKind.u64 (↑y.set.x1 : Int))),
Value.int IntKind.u64 (intV (Value.int IntKind.u64 (↑y.set.x2 : Int))), Value.int IntKind.u64 (intV (Value.int IntKind.u64 (↑y.set.x3 : Int))), Value.iface 0 (Value.agg #[Value.int IntKind.i64 (↑6 : Int), Value.int
IntKind.i64 (↑(frN (Value.iface 0 (Value.agg #[Value.int IntKind.i64 6, Value.int IntKind.i64 (↑y.kids.length : Int), Value.agg (rxL y.kids).toArray]))) : Int), Value.agg (frC (Value.iface 0 (Value.agg #[Value.int
IntKind.i64 6, Value.int IntKind.i64 (↑y.kids.length : Int), Value.agg (rxL y.kids).toArray]))).toArray])])).sz) * 7) (List.drop 0 (List.take (m * 7) (List.drop 0 cs) ++ [Value.int IntKind.i64 2, Value.int IntKind.u64 0,
Value.int IntKind.u64 0, Value.int IntKind.u64 0, Value.int IntKind.u64 0, Value.int IntKind.i64 (wr IntKind.i64 ((↑m : Int) + 1)), Value.int IntKind.i64 0] ++ stC ((decV (Value.agg #[Value.int IntKind.i64 (intV
(Value.int IntKind.i64 (↑y.op : Int))), Value.int IntKind.u64 (intV (Value.int IntKind.u64 (↑y.set.x0 : Int))), Value.int IntKind.u64 (intV (Value.int IntKind.u64 (↑y.set.x1 : Int))), Value.int IntKind.u64 (intV
(Value.int IntKind.u64 (↑y.set.x2 : Int))), Value.int IntKind.u64 (intV (Value.int IntKind.u64 (↑y.set.x3 : Int))), Value.iface 0 (Value.agg #[Value.int IntKind.i64 (↑6 : Int), Value.int IntKind.i64 (↑(frN (Value.iface 0
(Value.agg #[Value.int IntKind.i64 6, Value.int IntKind.i64 (↑y.kids.length : Int), Value.agg (rxL y.kids).toArray]))) : Int), Value.agg (frC (Value.iface 0 (Value.agg #[Value.int IntKind.i64 6, Value.int IntKind.i64
(↑y.kids.length : Int), Value.agg (rxL y.kids).toArray]))).toArray])])).lay (m + 1)))) ++ [Value.int IntKind.i64 3, Value.int IntKind.u64 0, Value.int IntKind.u64 0, Value.int IntKind.u64 0, Value.int IntKind.u64 0,
Value.int IntKind.i64 (↑m : Int), Value.int IntKind.i64 0]).length) (K (Value.slice (some { block := 1, off := 0, spot := some 1 : Addr }) (m + 1 + (decV (Value.agg #[Value.int IntKind.i64 (intV (Value.int IntKind.i64
(↑y.op : Int))), Value.int IntKind.u64 (intV (Value.int IntKind.u64 (↑y.set.x0 : Int))), Value.int IntKind.u64 (intV (Value.int IntKind.u64 (↑y.set.x1 : Int))), Value.int IntKind.u64 (intV (Value.int IntKind.u64
(↑y.set.x2 : Int))), Value.int IntKind.u64 (intV (Value.int IntKind.u64 (↑y.set.x3 : Int))), Value.iface 0 (Value.agg #[Value.int IntKind.i64 (↑6 : Int), Value.int IntKind.i64 (↑(frN (Value.iface 0 (Value.agg #[Value.int
IntKind.i64 6, Value.int IntKind.i64 (↑y.kids.length : Int), Value.agg (rxL y.kids).toArray]))) : Int), Value.agg (frC (Value.iface 0 (Value.agg #[Value.int IntKind.i64 6, Value.int IntKind.i64 (↑y.kids.length : Int),
Value.agg (rxL y.kids).toArray]))).toArray])])).sz + 1) (m + 1 + (decV (Value.agg #[Value.int IntKind.i64 (intV (Value.int IntKind.i64 (↑y.op : Int))), Value.int IntKind.u64 (intV (Value.int IntKind.u64 (↑y.set.x0 :
Int))), Value.int IntKind.u64 (intV (Value.int IntKind.u64 (↑y.set.x1 : Int))), Value.int IntKind.u64 (intV (Value.int IntKind.u64 (↑y.set.x2 : Int))), Value.int IntKind.u64 (intV (Value.int IntKind.u64 (↑y.set.x3 :
Int))), Value.iface 0 (Value.agg #[Value.int IntKind.i64 (↑6 : Int), Value.int IntKind.i64 (↑(frN (Value.iface 0 (Value.agg #[Value.int IntKind.i64 6, Value.int IntKind.i64 (↑y.kids.length : Int), Value.agg (rxL
y.kids).toArray]))) : Int), Value.agg (frC (Value.iface 0 (Value.agg #[Value.int IntKind.i64 6, Value.int IntKind.i64 (↑y.kids.length : Int), Value.agg (rxL y.kids).toArray]))).toArray])])).sz + 1)) (hp [Blk.dead,
Blk.cells (setAll (List.take ((m + 1 + (decV (Value.agg #[Value.int IntKind.i64 (intV (Value.int IntKind.i64 (↑y.op : Int))), Value.int IntKind.u64 (intV (Value.int IntKind.u64 (↑y.set.x0 : Int))), Value.int IntKind.u64
(intV (Value.int IntKind.u64 (↑y.set.x1 : Int))), Value.int IntKind.u64 (intV (Value.int IntKind.u64 (↑y.set.x2 : Int))), Value.int IntKind.u64 (intV (Value.int IntKind.u64 (↑y.set.x3 : Int))), Value.iface 0 (Value.agg
#[Value.int IntKind.i64 (↑6 : Int), Value.int IntKind.i64 (↑(frN (Value.iface 0 (Value.agg #[Value.int IntKind.i64 6, Value.int IntKind.i64 (↑y.kids.length : Int), Value.agg (rxL y.kids).toArray]))) : Int), Value.agg
(frC (Value.iface 0 (Value.agg #[Value.int IntKind.i64 6, Value.int IntKind.i64 (↑y.kids.length : Int), Value.agg (rxL y.kids).toArray]))).toArray])])).sz) * 7) (List.drop 0 (List.take (m * 7) (List.drop 0 cs) ++
[Value.int IntKind.i64 2, Value.int IntKind.u64 0, Value.int IntKind.u64 0, Value.int IntKind.u64 0, Value.int IntKind.u64 0, Value.int IntKind.i64 (wr IntKind.i64 ((↑m : Int) + 1)), Value.int IntKind.i64 0] ++ stC
((decV (Value.agg #[Value.int IntKind.i64 (intV (Value.int IntKind.i64 (↑y.op : Int))), Value.int IntKind.u64 (intV (Value.int IntKind.u64 (↑y.set.x0 : Int))), Value.int IntKind.u64 (intV (Value.int IntKind.u64
(↑y.set.x1 : Int))), Value.int IntKind.u64 (intV (Value.int IntKind.u64 (↑y.set.x2 : Int))), Value.int IntKind.u64 (intV (Value.int IntKind.u64 (↑y.set.x3 : Int))), Value.iface 0 (Value.agg #[Value.int IntKind.i64 (↑6 :
Int), Value.int IntKind.i64 (↑(frN (Value.iface 0 (Value.agg #[Value.int IntKind.i64 6, Value.int IntKind.i64 (↑y.kids.length : Int), Value.agg (rxL y.kids).toArray]))) : Int), Value.agg (frC (Value.iface 0 (Value.agg
#[Value.int IntKind.i64 6, Value.int IntKind.i64 (↑y.kids.length : Int), Value.agg (rxL y.kids).toArray]))).toArray])])).lay (m + 1)))) ++ [Value.int IntKind.i64 3, Value.int IntKind.u64 0, Value.int IntKind.u64 0,
Value.int IntKind.u64 0, Value.int IntKind.u64 0, Value.int IntKind.i64 (↑m : Int), Value.int IntKind.i64 0]) (0 + (↑m : Int).toNat * 7 + 6) [Value.int IntKind.i64 (↑(m + 1 + (decV (Value.agg #[Value.int IntKind.i64
(intV (Value.int IntKind.i64 (↑y.op : Int))), Value.int IntKind.u64 (intV (Value.int IntKind.u64 (↑y.set.x0 : Int))), Value.int IntKind.u64 (intV (Value.int IntKind.u64 (↑y.set.x1 : Int))), Value.int IntKind.u64 (intV
(Value.int IntKind.u64 (↑y.set.x2 : Int))), Value.int IntKind.u64 (intV (Value.int IntKind.u64 (↑y.set.x3 : Int))), Value.iface 0 (Value.agg #[Value.int IntKind.i64 (↑6 : Int), Value.int IntKind.i64 (↑(frN (Value.iface 0
(Value.agg #[Value.int IntKind.i64 6, Value.int IntKind.i64 (↑y.kids.length : Int), Value.agg (rxL y.kids).toArray]))) : Int), Value.agg (frC (Value.iface 0 (Value.agg #[Value.int IntKind.i64 6, Value.int IntKind.i64
(↑y.kids.length : Int), Value.agg (rxL y.kids).toArray]))).toArray])])).sz + 1) : Int)]) 7 true]))))))))))))))))) := by kernel_rfl

theorem w783e (n : Nat) (m : Nat) (cs : List Value) (y : Rx) (K : Value → Heap → Prop) :
  funX Try.prog (S783 n) noLoop F783 body783 Try.f36 [] [.tmp 0 7] [slR 0 m, rxA 5 (frR y)] (hp [.cells cs 7 true]) K = (
(FlatL cs ∧ True) ∧ LayOk cs m m (Value.agg #[Value.int IntKind.i64 (intV (Value.int IntKind.i64 (↑y.op : Int))), Value.int IntKind.u64 (intV (Value.int IntKind.u64 (↑y.set.x0 : Int))), Value.int IntKind.u64 (intV
(Value.int IntKind.u64 (↑y.set.x1 : Int))), Value.int IntKind.u64 (intV (Value.int IntKind.u64 (↑y.set.x2 : Int))), Value.int IntKind.u64 (intV (Value.int IntKind.u64 (↑y.set.x3 : Int))), Value.iface 0 (Value.agg
#[Value.int IntKind.i64 (↑6 : Int), Value.int IntKind.i64 (↑(frN (Value.iface 0 (Value.agg #[Value.int IntKind.i64 6, Value.int IntKind.i64 (↑y.kids.length : Int), Value.agg (rxL y.kids).toArray]))) : Int), Value.agg
(frC (Value.iface 0 (Value.agg #[Value.int IntKind.i64 6, Value.int IntKind.i64 (↑y.kids.length : Int), Value.agg (rxL y.kids).toArray]))).toArray])]) n ∧ Need (leN (0 + (m + (decV (Value.agg #[Value.int IntKind.i64
(intV (Value.int IntKind.i64 (↑y.op : Int))), Value.int IntKind.u64 (intV (Value.int IntKind.u64 (↑y.set.x0 : Int))), Value.int IntKind.u64 (intV (Value.int IntKind.u64 (↑y.set.x1 : Int))), Value.int IntKind.u64 (intV
(Value.int IntKind.u64 (↑y.set.x2 : Int))), Value.int IntKind.u64 (intV (Value.int IntKind.u64 (↑y.set.x3 : Int))), Value.iface 0 (Value.agg #[Value.int IntKind.i64 (↑6 : Int), Value.int IntKind.i64 (↑(frN (Value.iface 0
(Value.agg #[Value.int IntKind.i64 6, Value.int IntKind.i64 (↑y.kids.length : Int), Value.agg (rxL y.kids).toArray]))) : Int), Value.agg (frC (Value.iface 0 (Value.agg #[Value.int IntKind.i64 6, Value.int IntKind.i64
(↑y.kids.length : Int), Value.agg (rxL y.kids).toArray]))).toArray])])).sz) * 7) (cs ++ stC ((decV (Value.agg #[Value.int IntKind.i64 (intV (Value.int IntKind.i64 (↑y.op : Int))), Value.int IntKind.u64 (intV (Value.int
IntKind.u64 (↑y.set.x0 : Int))), Value.int IntKind.u64 (intV (Value.int IntKind.u64 (↑y.set.x1 : Int))), Value.int IntKind.u64 (intV (Value.int IntKind.u64 (↑y.set.x2 : Int))), Value.int IntKind.u64 (intV (Value.int
IntKind.u64 (↑y.set.x3 : Int))), Value.iface 0 (Value.agg #[Value.int IntKind.i64 (↑6 : Int), Value.int IntKind.i64 (↑(frN (Value.iface 0 (Value.agg #[Value.int IntKind.i64 6, Value.int IntKind.i64 (↑y.kids.length :
Int), Value.agg (rxL y.kids).toArray]))) : Int), Value.agg (frC (Value.iface 0 (Value.agg #[Value.int IntKind.i64 6, Value.int IntKind.i64 (↑y.kids.length : Int), Value.agg (rxL y.kids).toArray]))).toArray])])).lay
m)).length) (Need (leN ((m + (decV (Value.agg #[Value.int IntKind.i64 (intV (Value.int IntKind.i64 (↑y.op : Int))), Value.int IntKind.u64 (intV (Value.int IntKind.u64 (↑y.set.x0 : Int))), Value.int IntKind.u64 (intV
(Value.int IntKind.u64 (↑y.set.x1 : Int))), Value.int IntKind.u64 (intV (Value.int IntKind.u64 (↑y.set.x2 : Int))), Value.int IntKind.u64 (intV (Value.int IntKind.u64 (↑y.set.x3 : Int))), Value.iface 0 (Value.agg
#[Value.int IntKind.i64 (↑6 : Int), Value.int IntKind.i64 (↑(frN (Value.iface 0 (Value.agg #[Value.int IntKind.i64 6, Value.int IntKind.i64 (↑y.kids.length : Int), Value.agg (rxL y.kids).toArray]))) : Int), Value.agg
(frC (Value.iface 0 (Value.agg #[Value.int IntKind.i64 6, Value.int IntKind.i64 (↑y.kids.length : Int), Value.agg (rxL y.kids).toArray]))).toArray])])).sz + 1) * 56) 1099511627776) (Need (leN (m + (decV (Value.agg
#[Value.int IntKind.i64 (intV (Value.int IntKind.i64 (↑y.op : Int))), Value.int IntKind.u64 (intV (Value.int IntKind.u64 (↑y.set.x0 : Int))), Value.int IntKind.u64 (intV (Value.int IntKind.u64 (↑y.set.x1 : Int))),
Value.int IntKind.u64 (intV (Value.int IntKind.u64 (↑y.set.x2 : Int))), Value.int IntKind.u64 (intV (Value.int IntKind.u64 (↑y.set.x3 : Int))), Value.iface 0 (Value.agg #[Value.int IntKind.i64 (↑6 : Int), Value.int
IntKind.i64 (↑(frN (Value.iface 0 (Value.agg #[Value.int IntKind.i64 6, Value.int IntKind.i64 (↑y.kids.length : Int), Value.agg (rxL y.kids).toArray]))) : Int), Value.agg (frC (Value.iface 0 (Value.agg #[Value.int
IntKind.i64 6, Value.int IntKind.i64 (↑y.kids.length : Int), Value.agg (rxL y.kids).toArray]))).toArray])])).sz + 1) 1099511627776) (K (Value.slice (some { block := 1, off := 0, spot := some 1 : Addr }) (m + (decV
(Value.agg #[Value.int IntKind.i64 (intV (Value.int IntKind.i64 (↑y.op : Int))), Value.int IntKind.u64 (intV (Value.int IntKind.u64 (↑y.set.x0 : Int))), Value.int IntKind.u64 (intV (Value.int IntKind.u64 (↑y.set.x1 :
Int))), Value.int IntKind.u64 (intV (Value.int IntKind.u64 (↑y.set.x2 : Int))), Value.int IntKind.u64 (intV (Value.int IntKind.u64 (↑y.set.x3 : Int))), Value.iface 0 (Value.agg #[Value.int IntKind.i64 (↑6 : Int),
Value.int IntKind.i64 (↑(frN (Value.iface 0 (Value.agg #[Value.int IntKind.i64 6, Value.int IntKind.i64 (↑y.kids.length : Int), Value.agg (rxL y.kids).toArray]))) : Int), Value.agg (frC (Value.iface 0 (Value.agg
#[Value.int IntKind.i64 6, Value.int IntKind.i64 (↑y.kids.length : Int), Value.agg (rxL y.kids).toArray]))).toArray])])).sz + 1) (m + (decV (Value.agg #[Value.int IntKind.i64 (intV (Value.int IntKind.i64 (↑y.op : Int))),
Value.int IntKind.u64 (intV (Value.int IntKind.u64 (↑y.set.x0 : Int))), Value.int IntKind.u64 (intV (Value.int IntKind.u64 (↑y.set.x1 : Int))), Value.int IntKind.u64 (intV (Value.int IntKind.u64 (↑y.set.x2 : Int))),
Value.int IntKind.u64 (intV (Value.int IntKind.u64 (↑y.set.x3 : Int))), Value.iface 0 (Value.agg #[Value.int IntKind.i64 (↑6 : Int), Value.int IntKind.i64 (↑(frN (Value.iface 0 (Value.agg #[Value.int IntKind.i64 6,
Value.int IntKind.i64 (↑y.kids.length : Int), Value.agg (rxL y.kids).toArray]))) : Int), Value.agg (frC (Value.iface 0 (Value.agg #[Value.int IntKind.i64 6, Value.int IntKind.i64 (↑y.kids.length : Int), Value.agg (rxL
y.kids).toArray]))).toArray])])).sz + 1)) (hp [Blk.dead, Blk.cells (List.take ((m + (decV (Value.agg #[Value.int IntKind.i64 (intV (Value.int IntKind.i64 (↑y.op : Int))), Value.int IntKind.u64 (intV (Value.int
IntKind.u64 (↑y.set.x0 : Int))), Value.int IntKind.u64 (intV (Value.int IntKind.u64 (↑y.set.x1 : Int))), Value.int IntKind.u64 (intV (Value.int IntKind.u64 (↑y.set.x2 : Int))), Value.int IntKind.u64 (intV (Value.int
IntKind.u64 (↑y.set.x3 : Int))), Value.iface 0 (Value.agg #[Value.int IntKind.i64 (↑6 : Int), Value.int IntKind.i64 (↑(frN (Value.iface 0 (Value.agg #[Value.int IntKind.i64 6, Value.int IntKind.i64 (↑y.kids.length :
Int), Value.agg (rxL y.kids).toArray]))) : Int), Value.agg (frC (Value.iface 0 (Value.agg #[Value.int IntKind.i64 6, Value.int IntKind.i64 (↑y.kids.length : Int), Value.agg (rxL y.kids).toArray]))).toArray])])).sz) * 7)
(List.drop 0 (cs ++ stC ((decV (Value.agg #[Value.int IntKind.i64 (intV (Value.int IntKind.i64 (↑y.op : Int))), Value.int IntKind.u64 (intV (Value.int IntKind.u64 (↑y.set.x0 : Int))), Value.int IntKind.u64 (intV
(Value.int IntKind.u64 (↑y.set.x1 : Int))), Value.int IntKind.u64 (intV (Value.int IntKind.u64 (↑y.set.x2 : Int))), Value.int IntKind.u64 (intV (Value.int IntKind.u64 (↑y.set.x3 : Int))), Value.iface 0 (Value.agg
#[Value.int IntKind.i64 (↑6 : Int), Value.int IntKind.i64 (↑(frN (Value.iface 0 (Value.agg #[Value.int IntKind.i64 6, Value.int IntKind.i64 (↑y.kids.length : Int), Value.agg (rxL y.kids).toArray]))) : Int), Value.agg
(frC (Value.iface 0 (Value.agg #[Value.int IntKind.i64 6, Value.int IntKind.i64 (↑y.kids.length : Int), Value.agg (rxL y.kids).toArray]))).toArray])])).lay m))) ++ [Value.int IntKind.i64 2, Value.int IntKind.u64 0,
Value.int IntKind.u64 0, Value.int IntKind.u64 0, Value.int IntKind.u64 0, Value.int IntKind.i64 (↑m : Int), Value.int IntKind.i64 (wr IntKind.i64 ((↑(m + (decV (Value.agg #[Value.int IntKind.i64 (intV (Value.int
IntKind.i64 (↑y.op : Int))), Value.int IntKind.u64 (intV (Value.int IntKind.u64 (↑y.set.x0 : Int))), Value.int IntKind.u64 (intV (Value.int IntKind.u64 (↑y.set.x1 : Int))), Value.int IntKind.u64 (intV (Value.int
IntKind.u64 (↑y.set.x2 : Int))), Value.int IntKind.u64 (intV (Value.int IntKind.u64 (↑y.set.x3 : Int))), Value.iface 0 (Value.agg #[Value.int IntKind.i64 (↑6 : Int), Value.int IntKind.i64 (↑(frN (Value.iface 0 (Value.agg
#[Value.int IntKind.i64 6, Value.int IntKind.i64 (↑y.kids.length : Int), Value.agg (rxL y.kids).toArray]))) : Int), Value.agg (frC (Value.iface 0 (Value.agg #[Value.int IntKind.i64 6, Value.int IntKind.i64
(↑y.kids.length : Int), Value.agg (rxL y.kids).toArray]))).toArray])])).sz) : Int) + 1))]) 7 true]))))) := by kernel_rfl

theorem w783f (n : Nat) (m : Nat) (cs : List Value) (y : Rx) (K : Value → Heap → Prop) :
  funX Try.prog (S783 n) noLoop F783 body783 Try.f36 [] [.tmp 0 7] [slR 0 m, rxA 6 (frR y)] (hp [.cells cs 7 true]) K = (
Need (leN (0 + m * 7) cs.length) (Need (leN ((m + 1) * 56) 1099511627776) (Need (leN (m + 1) 1099511627776) ((FlatL (List.take (m * 7) (List.drop 0 cs) ++ [Value.int IntKind.i64 2, Value.int IntKind.u64 0, Value.int
IntKind.u64 0, Value.int IntKind.u64 0, Value.int IntKind.u64 0, Value.int IntKind.i64 (wr IntKind.i64 ((↑m : Int) + 1)), Value.int IntKind.i64 0]) ∧ True) ∧ LayOk (List.take (m * 7) (List.drop 0 cs) ++ [Value.int
IntKind.i64 2, Value.int IntKind.u64 0, Value.int IntKind.u64 0, Value.int IntKind.u64 0, Value.int IntKind.u64 0, Value.int IntKind.i64 (wr IntKind.i64 ((↑m : Int) + 1)), Value.int IntKind.i64 0]) (m + 1) (m + 1)
(Value.agg #[Value.int IntKind.i64 (intV (Value.int IntKind.i64 (↑y.op : Int))), Value.int IntKind.u64 (intV (Value.int IntKind.u64 (↑y.set.x0 : Int))), Value.int IntKind.u64 (intV (Value.int IntKind.u64 (↑y.set.x1 :
Int))), Value.int IntKind.u64 (intV (Value.int IntKind.u64 (↑y.set.x2 : Int))), Value.int IntKind.u64 (intV (Value.int IntKind.u64 (↑y.set.x3 : Int))), Value.iface 0 (Value.agg #[Value.int IntKind.i64 (↑6 : Int),
Value.int IntKind.i64 (↑(frN (Value.iface 0 (Value.agg #[Value.int IntKind.i64 6, Value.int IntKind.i64 (↑y.kids.length : Int), Value.agg (rxL y.kids).toArray]))) : Int), Value.agg (frC (Value.iface 0 (Value.agg
#[Value.int IntKind.i64 6, Value.int IntKind.i64 (↑y.kids.length : Int), Value.agg (rxL y.kids).toArray]))).toArray])]) n ∧ Need (beqV 64 (Value.agg #[Value.int IntKind.i64 (intV (Value.int IntKind.i64 (↑y.op : Int))),
Value.int IntKind.u64 (intV (Value.int IntKind.u64 (↑y.set.x0 : Int))), Value.int IntKind.u64 (intV (Value.int IntKind.u64 (↑y.set.x1 : Int))), Value.int IntKind.u64 (intV (Value.int IntKind.u64 (↑y.set.x2 : Int))),
Value.int IntKind.u64 (intV (Value.int IntKind.u64 (↑y.set.x3 : Int))), Value.iface 0 (Value.agg #[Value.int IntKind.i64 (↑6 : Int), Value.int IntKind.i64 (↑(frN (Value.iface 0 (Value.agg #[Value.int IntKind.i64 6,
Value.int IntKind.i64 (↑y.kids.length : Int), Value.agg (rxL y.kids).toArray]))) : Int), Value.agg (frC (Value.iface 0 (Value.agg #[Value.int IntKind.i64 6, Value.int IntKind.i64 (↑y.kids.length : Int), Value.agg (rxL
y.kids).toArray]))).toArray])]) (Value.agg #[Value.int IntKind.i64 (intV (Value.int IntKind.i64 (↑y.op : Int))), Value.int IntKind.u64 (intV (Value.int IntKind.u64 (↑y.set.x0 : Int))), Value.int IntKind.u64 (intV
(Value.int IntKind.u64 (↑y.set.x1 : Int))), Value.int IntKind.u64 (intV (Value.int IntKind.u64 (↑y.set.x2 : Int))), Value.int IntKind.u64 (intV (Value.int IntKind.u64 (↑y.set.x3 : Int))), Value.iface 0 (Value.agg
#[Value.int IntKind.i64 (↑6 : Int), Value.int IntKind.i64 (↑(frN (Value.iface 0 (Value.agg #[Value.int IntKind.i64 6, Value.int IntKind.i64 (↑y.kids.length : Int), Value.agg (rxL y.kids).toArray]))) : Int), Value.agg
(frC (Value.iface 0 (Value.agg #[Value.int IntKind.i64 6, Value.int IntKind.i64 (↑y.kids.length : Int), Value.agg (rxL y.kids).toArray]))).toArray])])) (Need (beqV 64 (Value.agg #[Value.int IntKind.i64 (intV (Value.int
IntKind.i64 (↑y.op : Int))), Value.int IntKind.u64 (intV (Value.int IntKind.u64 (↑y.set.x0 : Int))), Value.int IntKind.u64 (intV (Value.int IntKind.u64 (↑y.set.x1 : Int))), Value.int IntKind.u64 (intV (Value.int
IntKind.u64 (↑y.set.x2 : Int))), Value.int IntKind.u64 (intV (Value.int IntKind.u64 (↑y.set.x3 : Int))), Value.iface 0 (Value.agg #[Value.int IntKind.i64 (↑6 : Int), Value.int IntKind.i64 (↑(frN (Value.iface 0 (Value.agg
#[Value.int IntKind.i64 6, Value.int IntKind.i64 (↑y.kids.length : Int), Value.agg (rxL y.kids).toArray]))) : Int), Value.agg (frC (Value.iface 0 (Value.agg #[Value.int IntKind.i64 6, Value.int IntKind.i64
(↑y.kids.length : Int), Value.agg (rxL y.kids).toArray]))).toArray])]) (Value.agg #[Value.int IntKind.i64 (intV (Value.int IntKind.i64 (↑y.op : Int))), Value.int IntKind.u64 (intV (Value.int IntKind.u64 (↑y.set.x0 :
Int))), Value.int IntKind.u64 (intV (Value.int IntKind.u64 (↑y.set.x1 : Int))), Value.int IntKind.u64 (intV (Value.int IntKind.u64 (↑y.set.x2 : Int))), Value.int IntKind.u64 (intV (Value.int IntKind.u64 (↑y.set.x3 :
Int))), Value.iface 0 (Value.agg #[Value.int IntKind.i64 (↑6 : Int), Value.int IntKind.i64 (↑(frN (Value.iface 0 (Value.agg #[Value.int IntKind.i64 6, Value.int IntKind.i64 (↑y.kids.length : Int), Value.agg (rxL
y.kids).toArray]))) : Int), Value.agg (frC (Value.iface 0 (Value.agg #[Value.int IntKind.i64 6, Value.int IntKind.i64 (↑y.kids.length : Int), Value.agg (rxL y.kids).toArray]))).toArray])])) (Need (beqV 64 (Value.iface 0
(Value.tuple #[Value.int IntKind.i64 (↑y.op : Int), Value.int IntKind.u64 (↑y.set.x0 : Int), Value.int IntKind.u64 (↑y.set.x1 : Int), Value.int IntKind.u64 (↑y.set.x2 : Int), Value.int IntKind.u64 (↑y.set.x3 : Int),
Value.iface 0 (Value.agg #[Value.int IntKind.i64 6, Value.int IntKind.i64 (↑y.kids.length : Int), Value.agg (rxL y.kids).toArray])])) (Value.iface 0 (Value.tuple #[Value.int IntKind.i64 (↑y.op : Int), Value.int
IntKind.u64 (↑y.set.x0 : Int), Value.int IntKind.u64 (↑y.set.x1 : Int), Value.int IntKind.u64 (↑y.set.x2 : Int), Value.int IntKind.u64 (↑y.set.x3 : Int), Value.iface 0 (Value.agg #[Value.int IntKind.i64 6, Value.int
IntKind.i64 (↑y.kids.length : Int), Value.agg (rxL y.kids).toArray])]))) (Need (beqV 64 (Value.iface 0 (Value.tuple #[Value.int IntKind.i64 (↑y.op : Int), Value.int IntKind.u64 (↑y.set.x0 : Int), Value.int IntKind.u64
(↑y.set.x1 : Int), Value.int IntKind.u64 (↑y.set.x2 : Int), Value.int IntKind.u64 (↑y.set.x3 : Int), Value.iface 0 (Value.agg #[Value.int IntKind.i64 6, Value.int IntKind.i64 (↑y.kids.length : Int), Value.agg (rxL
y.kids).toArray])])) (Value.iface 0 (Value.tuple #[Value.int IntKind.i64 (↑y.op : Int), Value.int IntKind.u64 (↑y.set.x0 : Int), Value.int IntKind.u64 (↑y.set.x1 : Int), Value.int IntKind.u64 (↑y.set.x2 : Int), Value.int
IntKind.u64 (↑y.set.x3 : Int), Value.iface 0 (Value.agg #[Value.int IntKind.i64 6, Value.int IntKind.i64 (↑y.kids.length : Int), Value.agg (rxL y.kids).toArray])]))) (Need (beqV 64 (Value.iface 0 (Value.agg #[Value.int
IntKind.i64 6, Value.int IntKind.i64 1, Value.agg #[Value.int IntKind.i64 (↑y.op : Int), Value.int IntKind.u64 (↑y.set.x0 : Int), Value.int IntKind.u64 (↑y.set.x1 : Int), Value.int IntKind.u64 (↑y.set.x2 : Int),
Value.int IntKind.u64 (↑y.set.x3 : Int), Value.iface 0 (Value.agg #[Value.int IntKind.i64 6, Value.int IntKind.i64 (↑y.kids.length : Int), Value.agg (rxL y.kids).toArray])]])) (Value.iface 0 (Value.agg #[Value.int
IntKind.i64 6, Value.int IntKind.i64 1, Value.agg #[Value.int IntKind.i64 (↑y.op : Int), Value.int IntKind.u64 (↑y.set.x0 : Int), Value.int IntKind.u64 (↑y.set.x1 : Int), Value.int IntKind.u64 (↑y.set.x2 : Int),
Value.int IntKind.u64 (↑y.set.x3 : Int), Value.iface 0 (Value.agg #[Value.int IntKind.i64 6, Value.int IntKind.i64 (↑y.kids.length : Int), Value.agg (rxL y.kids).toArray])]]))) (Need (beqV 64 (Value.iface 0 (Value.agg
#[Value.int IntKind.i64 6, Value.int IntKind.i64 1, Value.agg #[Value.int IntKind.i64 (↑y.op : Int), Value.int IntKind.u64 (↑y.set.x0 : Int), Value.int IntKind.u64 (↑y.set.x1 : Int), Value.int IntKind.u64 (↑y.set.x2 :
Int), Value.int IntKind.u64 (↑y.set.x3 : Int), Value.iface 0 (Value.agg #[Value.int IntKind.i64 6, Value.int IntKind.i64 (↑y.kids.length : Int), Value.agg (rxL y.kids).toArray])]])) (Value.iface 0 (Value.agg #[Value.int
IntKind.i64 6, Value.int IntKind.i64 1, Value.agg #[Value.int IntKind.i64 (↑y.op : Int), Value.int IntKind.u64 (↑y.set.x0 : Int), Value.int IntKind.u64 (↑y.set.x1 : Int), Value.int IntKind.u64 (↑y.set.x2 : Int),
Value.int IntKind.u64 (↑y.set.x3 : Int), Value.iface 0 (Value.agg #[Value.int IntKind.i64 6, Value.int IntKind.i64 (↑y.kids.length : Int), Value.agg (rxL y.kids).toArray])]]))) (Need (beqV 64 (Value.slice (some
{ block := 0, off := 0, spot := some 1 : Addr }) m m) (Value.slice (some { block := 0, off := 0, spot := some 1 : Addr }) m m)) (Need (ltI (↑m : Int) (↑(m + 1 + (decV (Value.agg #[Value.int IntKind.i64 (intV (Value.int
IntKind.i64 (↑y.op : Int))), Value.int IntKind.u64 (intV (Value.int IntKind.u64 (↑y.set.x0 : Int))), Value.int IntKind.u64 (intV (Value.int IntKind.u64 (↑y.set.x1 : Int))), Value.int IntKind.u64 (intV (Value.int
IntKind.u64 (↑y.set.x2 : Int))), Value.int IntKind.u64 (intV (Value.int IntKind.u64 (↑y.set.x3 : Int))), Value.iface 0 (Value.agg #[Value.int IntKind.i64 (↑6 : Int), Value.int IntKind.i64 (↑(frN (Value.iface 0 (Value.agg
#[Value.int IntKind.i64 6, Value.int IntKind.i64 (↑y.kids.length : Int), Value.agg (rxL y.kids).toArray]))) : Int), Value.agg (frC (Value.iface 0 (Value.agg #[Value.int IntKind.i64 6, Value.int IntKind.i64
(↑y.kids.length : Int), Value.agg (rxL y.kids).toArray]))).toArray])])).sz) : Int)) (Need (leN (0 + (↑m : Int).toNat * 7 + 6 + 1) (List.take (m * 7) (List.drop 0 cs) ++ [Value.int IntKind.i64 2, Value.int IntKind.u64 0,
Value.int IntKind.u64 0, Value.int IntKind.u64 0, Value.int IntKind.u64 0, Value.int IntKind.i64 (wr IntKind.i64 ((↑m : Int) + 1)), Value.int IntKind.i64 0] ++ stC ((decV (Value.agg #[Value.int IntKind.i64 (intV
(Value.int IntKind.i64 (↑y.op : Int))), Value.int IntKind.u64 (intV (Value.int IntKind.u64 (↑y.set.x0 : Int))), Value.int IntKind.u64 (intV (Value.int IntKind.u64 (↑y.set.x1 : Int))), Value.int IntKind.u64 (intV
(Value.int IntKind.u64 (↑y.set.x2 : Int))), Value.int IntKind.u64 (intV (Value.int IntKind.u64 (↑y.set.x3 : Int))), Value.iface 0 (Value.agg #[Value.int IntKind.i64 (↑6 : Int), Value.int IntKind.i64 (↑(frN (Value.iface 0
(Value.agg #[Value.int IntKind.i64 6, Value.int IntKind.i64 (↑y.kids.length : Int), Value.agg (rxL y.kids).toArray]))) : Int), Value.agg (frC (Value.iface 0 (Value.agg #[Value.int IntKind.i64 6, Value.int IntKind.i64
(↑y.kids.length : Int), Value.agg (rxL y.kids).toArray]))).toArray])])).lay (m + 1))).length) (K (Value.slice (some { block := 1, off := 0, spot := some 1 : Addr }) (m + 1 + (decV (Value.agg #[Value.int IntKind.i64 (intV
(Value.int IntKind.i64 (↑y.op : Int))), Value.int IntKind.u64 (intV (Value.int IntKind.u64 (↑y.set.x0 : Int))), Value.int IntKind.u64 (intV (Value.int IntKind.u64 (↑y.set.x1 : Int))), Value.int IntKind.u64 (intV
(Value.int IntKind.u64 (↑y.set.x2 : Int))), Value.int IntKind.u64 (intV (Value.int IntKind.u64 (↑y.set.x3 : Int))), Value.iface 0 (Value.agg #[Value.int IntKind.i64 (↑6 : Int), Value.int IntKind.i64 (↑(frN (Value.iface 0
(Value.agg #[Value.int IntKind.i64 6, Value.int IntKind.i64 (↑y.kids.length : Int), Value.agg (rxL y.kids).toArray]))) : Int), Value.agg (frC (Value.iface 0 (Value.agg #[Value.int IntKind.i64 6, Value.int IntKind.i64
(↑y.kids.length : Int), Value.agg (rxL y.kids).toArray]))).toArray])])).sz) (m + 1 + (decV (Value.agg #[Value.int IntKind.i64 (intV (Value.int IntKind.i64 (↑y.op : Int))), Value.int IntKind.u64 (intV (Value.int
IntKind.u64 (↑y.set.x0 : Int))), Value.int IntKind.u64 (intV (Value.int IntKind.u64 (↑y.set.x1 : Int))), Value.int IntKind.u64 (intV (Value.int IntKind.u64 (↑y.set.x2 : Int))), Value.int IntKind.u64 (intV (Value.int
IntKind.u64 (↑y.set.x3 : Int))), Value.iface 0 (Value.agg #[Value.int IntKind.i64 (↑6 : Int), Value.int IntKind.i64 (↑(frN (Value.iface 0 (Value.agg #[Value.int IntKind.i64 6, Value.int IntKind.i64 (↑y.kids.length :
Int), Value.agg (rxL y.kids).toArray]))) : Int), Value.agg (frC (Value.iface 0 (Value.agg #[Value.int IntKind.i64 6, Value.int IntKind.i64 (↑y.kids.length : Int), Value.agg (rxL y.kids).toArray]))).toArray])])).sz)) (hp
[Blk.dead, Blk.cells (setAll (List.take (m * 7) (List.drop 0 cs) ++ [Value.int IntKind.i64 2, Value.int IntKind.u64 0, Value.int IntKind.u64 0, Value.int IntKind.u64 0, Value.int IntKind.u64 0, Value.int IntKind.i64 (wr
IntKind.i64 ((↑m : Int) + 1)), Value.int IntKind.i64 0] ++ stC ((decV (Value.agg #[Value.int IntKind.i64 (intV (Value.int IntKind.i64 (↑y.op : Int))), Value.int IntKind.u64 (intV (Value.int IntKind.u64 (↑y.set.x0 :
Int))), Value.int IntKind.u64 (intV (Value.int IntKind.u64 (↑y.set.x1 : Int))), Value.int IntKind.u64 (intV (Value.int IntKind.u64 (↑y.set.x2 : Int))), Value.int IntKind.u64 (intV (Value.int IntKind.u64 (↑y.set.x3 :
Int))), Value.iface 0 (Value.agg #[Value.int IntKind.i64 (↑6 : Int), Value.int IntKind.i64 (↑(frN (Value.iface 0 (Value.agg #[Value.int IntKind.i64 6, Value.int IntKind.i64 (↑y.kids.length : Int), Value.agg (rxL
y.kids).toArray]))) : Int), Value.agg (frC (Value.iface 0 (Value.agg #[Value.int IntKind.i64 6, Value.int IntKind.i64 (↑y.kids.length : Int), Value.agg (rxL y.kids).toArray]))).toArray])])).lay (m + 1))) (0 + (↑m :
Int).toNat * 7 + 6) [Value.int IntKind.i64 (↑(m + 1 + (decV (Value.agg #[Value.int IntKind.i64 (intV (Value.int IntKind.i64 (↑y.op : Int))), Value.int IntKind.u64 (intV (Value.int IntKind.u64 (↑y.set.x0 : Int))),
Value.int IntKind.u64 (intV (Value.int IntKind.u64 (↑y.set.x1 : Int))), Value.int IntKind.u64 (intV (Value.int IntKind.u64 (↑y.set.x2 : Int))), Value.int IntKind.u64 (intV (Value.int IntKind.u64 (↑y.set.x3 : Int))),
Value.iface 0 (Value.agg #[Value.int IntKind.i64 (↑6 : Int), Value.int IntKind.i64 (↑(frN (Value.iface 0 (Value.agg #[Value.int IntKind.i64 6, Value.int IntKind.i64 (↑y.kids.length : Int), Value.agg (rxL
y.kids).toArray]))) : Int), Value.agg (frC (Value.iface 0 (Value.agg #[Value.int IntKind.i64 6, Value.int IntKind.i64 (↑y.kids.length : Int), Value.agg (rxL y.kids).toArray]))).toArray])])).sz) : Int)]) 7
true])))))))))))))) := by kernel_rfl

end Go.Proofs.Ytfgiifppapopnaa

namespace Go.Proofs.Ytfgiifppapopnaa
open Go.RowKit Go.Proofs.Ytfgiifppapopnaa.AM
set_option maxRecDepth 100000
set_option maxHeartbeats 4000000
theorem need_y {A : Prop} : Need true A = A := rfl
theorem frN_kv (e : Int) (n : Nat) (c : Array Value) : frN (.iface 0 (.agg #[.int .i64 e, .int .i64 (n : Int), .agg c])) = n := rfl
theorem frC_kv (e n : Int) (c : Array Value) : frC (.iface 0 (.agg #[.int .i64 e, .int .i64 n, .agg c])) = c.toList := rfl
theorem six_c : ((6 : Nat) : Int) = 6 := rfl
theorem rxV_fold (y : Rx) : (Value.agg #[.int .i64 (y.op : Int), .int .u64 (y.set.x0 : Int), .int .u64 (y.set.x1 : Int), .int .u64 (y.set.x2 : Int), .int .u64 (y.set.x3 : Int), .iface 0 (.agg #[.int .i64 6, .int .i64 (y.kids.length : Int), .agg (rxL y.kids).toArray])]) = rxV y := rfl
theorem beq_rx (y : Rx) : beqV 64 (rxV y) (rxV y) = true := by
  unfold rxV kvV
  rw [beqV_agg]
  simp only [List.all_cons, List.all_nil, beqV_int, beqV_if, Bool.and_true]
theorem st_take {L : List St} {k : Nat} (h : L.length = k) : List.take (k * 7) (List.drop 0 (stC L)) = stC L := by rw [List.drop_zero, List.take_of_length_le (by rw [stC_len]; omega)]
theorem st_snoc (L : List St) (o s0 s1 s2 s3 a b : Int) : stC L ++ [.int .i64 o, .int .u64 s0, .int .u64 s1, .int .u64 s2, .int .u64 s3, .int .i64 a, .int .i64 b] = stC (L ++ [⟨o, s0, s1, s2, s3, a, b⟩]) := by rw [stC_app]; rfl
theorem st_setB (L R : List St) (o s0 s1 s2 s3 a b v : Int) : setAll (stC (L ++ ⟨o, s0, s1, s2, s3, a, b⟩ :: R)) (L.length * 7 + 6) [.int .i64 v] = stC (L ++ ⟨o, s0, s1, s2, s3, a, v⟩ :: R) := by
  have e : ∀ x : Int, stC (L ++ ⟨o, s0, s1, s2, s3, a, x⟩ :: R) = (stC L ++ [.int .i64 o, .int .u64 s0, .int .u64 s1, .int .u64 s2, .int .u64 s3, .int .i64 a]) ++ (.int .i64 x :: stC R) := fun x => by
    rw [stC_app, List.append_assoc]; rfl
  rw [e, e, setAll_at _ _ _ _ (by rw [List.length_append, stC_len]; rfl) (by simp)]
  simp
theorem st_setA (L R : List St) (o s0 s1 s2 s3 a b v : Int) : setAll (stC (L ++ ⟨o, s0, s1, s2, s3, a, b⟩ :: R)) (L.length * 7 + 5) [.int .i64 v] = stC (L ++ ⟨o, s0, s1, s2, s3, v, b⟩ :: R) := by
  have e : ∀ x : Int, stC (L ++ ⟨o, s0, s1, s2, s3, x, b⟩ :: R) = (stC L ++ [.int .i64 o, .int .u64 s0, .int .u64 s1, .int .u64 s2, .int .u64 s3]) ++ (.int .i64 x :: .int .i64 b :: stC R) := fun x => by
    rw [stC_app, List.append_assoc]; rfl
  rw [e, e, setAll_at _ _ _ _ (by rw [List.length_append, stC_len]; rfl) (by simp)]
  simp
theorem rxV_leaf (s : S4) : rxV (.mk 1 s []) = .agg #[.int .i64 1, .int .u64 (s.x0 : Int), .int .u64 (s.x1 : Int), .int .u64 (s.x2 : Int), .int .u64 (s.x3 : Int), .iface 0 (.agg #[.int .i64 6, .int .i64 0, .agg #[]])] := by
  unfold rxV kvV
  simp only [Rx.kids, rxL_nil]
  rfl
theorem rxV_one (o : Nat) (y : Rx) : rxV (.mk o nilS [y]) = rxA (o : Int) (frR y) := by
  unfold rxV
  rw [show kvV (.mk o nilS [y]) = .iface 0 (.agg #[.int .i64 6, .int .i64 1, .agg (rxL [y]).toArray]) from rfl, rxL_one1, kv_eq]
  rfl
theorem rxV_ks (o : Nat) (ks : List Rx) : rxV (.mk o nilS ks) = rxA (o : Int) (frV ks) := rfl
theorem D783 (L : List St) : FlatD [] (hp [.dead, .cells (stC L) 7 true]) := FlatD.hp ⟨stC_flat L, trivial⟩
theorem wr_nx {m : Nat} (h : m ≤ 200) : wr .i64 ((m : Int) + 1) = ((m + 1 : Nat) : Int) := nx m (by omega)
section
variable (hm : Try.prog.follows .mixedOrders = true)
include hm
theorem sure783 (n : Nat) (hn : (layW n).Holds Try.prog 36) (hn2 : (altW n).Holds Try.prog 50) : Sure Try.prog (S783 n) := ⟨hm, plain, bookW_ok sums0 (l := [(36, layW n), (50, altW n)]) ⟨hn, hn2, trivial⟩⟩
omit hm in
/-- a step behind others, told as a new block -/
theorem ren783 {R : List Value} {m : Nat} {cs : List Value} (hR : (R.all fun v => isJunk v || fz v) = true) (hc : FlatL cs) :
    Ren 1 (fun i => if i = 1 then 0 else i) (slR 0 m :: R) (hp [.cells cs 7 true]) (slR 1 m :: R) (hp [.dead, .cells cs 7 true]) := by
  refine ⟨by rw [hp_size]; simp, fun i hi => if_neg (by omega), fun i c e o hi => ?_, fun i j c e o c' e' o' hi hj he => ?_, rfl, fun i x y hx hy => ?_⟩
  · rw [hp_get] at hi
    rcases i with _ | _ | i
    · simp at hi
    · simp only [List.getElem?_cons_succ, List.getElem?_cons_zero, Option.some.injEq, Blk.cells.injEq] at hi
      obtain ⟨rfl, rfl, rfl⟩ := hi
      exact ⟨cs, rfl, fun ρ ρ2 hz _ => Mvs.fz hz hc.1⟩
    · simp at hi
  · rw [hp_get] at hi hj
    rcases i with _ | _ | i <;> rcases j with _ | _ | j <;> simp at hi hj he ⊢
  · cases i with
    | zero =>
      simp at hx hy
      subst hx hy
      exact .inr ⟨rfl, fun ρ ρ2 _ hρ => Mv.sl (hρ 1 (by rw [hp_size]; simp)) _ _ _ _⟩
    | succ i =>
      simp only [List.getElem?_cons_succ] at hx hy
      rw [hx] at hy
      injection hy with hy
      subst hy
      have := List.all_eq_true.1 hR x (List.mem_of_getElem? hx)
      cases hj : isJunk x with
      | true => exact .inl rfl
      | false =>
        rw [hj, Bool.false_or] at this
        exact .inr ⟨rfl, fun ρ ρ2 hz _ => Mv.fz hz this⟩
theorem loop783 (n : Nat) (hn : (layW n).Holds Try.prog 36) (hn2 : (altW n).Holds Try.prog 50) (ks : List Rx) (hd : dpL ks < n) (hi : isL ks = true) (hN : n ≤ 72057594037927936) (M : Nat) (C : List Value) (hM : M ≤ 100) (K : Post)
    (hK : K (.exit 1) (tmps 99 [(0, slR 1 M)]) (hp [.dead, .cells C 7 true])) : ∀ (t : List Rx) (i : Nat) (L : List St), ks.drop i = t → L.length + szL t = M → stC L ++ stC (layL t L.length) = C →
    LSays Try.prog 1 (sub body783 [0,0,1,0,1,1,1,0,1,0,1,1]) (T783 L.length ks i) (hp [.dead, .cells (stC L) 7 true]) K := by
  have hlen := dp_len ks
  intro t
  induction t with
  | nil =>
    intro i L ht hr hC
    have hge : ltI (i : Int) (ks.length : Int) = false := by have := List.drop_eq_nil_iff.1 ht; rw [ltI_eq, decide_eq_false]; omega
    rw [szL] at hr
    rw [layL, show stC ([] : List St) = [] from rfl, List.append_nil] at hC
    subst hC
    obtain rfl : L.length = M := by omega
    refine (sure783 hm n hn hn2).roundX F783 noLoops [] [.tmp 0 7] [] [.tmp 0 7] [0,23,24,25] ?_
    rw [r783, hge]
    exact ⟨D783 L, hK⟩
  | cons y t ih =>
    intro i L ht hr hC
    have hx : ks[i]? = some y := by
      have := congrArg List.head? ht
      rw [List.head?_drop] at this; exact this
    have hil : i < ks.length := (List.getElem?_eq_some_iff.1 hx).1
    have hxm : y ∈ ks := List.mem_of_getElem? hx
    have hlt : ltI (i : Int) (ks.length : Int) = true := ltI_iff.2 (by omega)
    have hyi := is_mem hi hxm
    rw [szL] at hr
    rw [layL, stC_app, ← List.append_assoc, ← stC_app] at hC
    refine (sure783 hm n hn hn2).roundX F783 noLoops [] [.tmp 0 7] [] [.tmp 0 7] [0,23,24,25] ?_
    rw [r783, hlt]
    have e : wr .i64 ((i : Int) + 1) = ((i + 1 : Nat) : Int) := nx i (by omega)
    simp only [Int.toNat_natCast, List.toList_toArray, kid_nth hx, e]
    refine Need_iff.2 ⟨rfl, Need_iff.2 ⟨rfl, Need_iff.2 ⟨rfl, Need_iff.2 ⟨rfl, Need_iff.2 ⟨rfl, Need_iff.2 ⟨rfl, Need_iff.2 ⟨rfl, ?_⟩⟩⟩⟩⟩⟩⟩
    have hll : (L ++ y.lay L.length).length = L.length + y.sz := by rw [List.length_append, lay_len y _ hyi]
    refine ⟨⟨stC_flat L, trivial⟩, ⟨L, y, ⟨rfl, rfl, rfl, Nat.lt_of_le_of_lt (dp_kid hxm) hd, hyi, by omega⟩, rfl⟩, ?_⟩
    have := ih (i + 1) (L ++ y.lay L.length) (by rw [← List.drop_drop, ht]; rfl) (by omega) (by rw [hll]; exact hC)
    rw [hll, stC_app] at this
    have hD := D783 (L ++ y.lay L.length)
    rw [stC_app] at hD
    show FlatD [] (hp [.dead, .cells (stC L ++ stC ((decV (rxV y)).lay L.length)) 7 true]) ∧ LSays _ _ _ (T783 (L.length + (decV (rxV y)).sz) ks (i + 1)) (hp [.dead, .cells (stC L ++ stC ((decV (rxV y)).lay L.length)) 7 true]) _
    rw [decV_rx]
    exact ⟨hD, this⟩
end
end Go.Proofs.Ytfgiifppapopnaa

namespace Go.Proofs.Ytfgiifppapopnaa
open Go.RowKit Go.Proofs.Ytfgiifppapopnaa.AM
set_option maxRecDepth 100000
set_option maxHeartbeats 4000000
section
variable (hm : Try.prog.follows .mixedOrders = true)
include hm
theorem loops783 (n : Nat) (hn : (layW n).Holds Try.prog 36) (hn2 : (altW n).Holds Try.prog 50) (L : List St) (ks : List Rx) (hd : dpL ks < n) (hi : isL ks = true) (hN : n ≤ 72057594037927936) (hM : L.length + szL ks ≤ 100) : Loops Try.prog body783 1 (cutE [cut783 L.length (stC L) ks]) := Loops.noneE.moreE _ fun _ K hQ => by
  have h := loop783 hm n hn hn2 ks hd hi hN (L.length + szL ks) _ hM K hQ ks 0 L rfl rfl rfl
  have hR : ((tmps 99 [(0, slR 1 L.length), (23, frV ks), (24, .int .i64 (ks.length : Int)), (25, .int .i64 0)]).tail.all fun v => isJunk v || fz v) = true := rfl
  exact LSays.ren (ren783 (m := L.length) (R := (tmps 99 [(0, slR 1 L.length), (23, frV ks), (24, .int .i64 (ks.length : Int)), (25, .int .i64 0)]).tail) hR (stC_flat L)) h
theorem lay_step (n : Nat) (hn : (layW n).Holds Try.prog 36) (hn2 : (altW n).Holds Try.prog 50) (hN : n ≤ 72057594037927936) : (layW (n + 1)).Holds Try.prog 36 := by
  intro args blks hf hpre
  simp only [layW] at hpre ⊢
  split at hpre
  case h_2 => exact hpre.elim
  rename_i m m' v cs
  obtain ⟨L, x, ⟨rfl, rfl, rfl, hd, hi, hs⟩, rfl⟩ := hpre
  simp only [decV_rx]
  refine ⟨⟨trivial, trivial⟩, ?_, ?_⟩
  · rw [← stC_app]
    exact ⟨stC_flat _, trivial⟩
  rw [← stC_app]
  have su := sure783 hm n hn hn2
  rw [dp_mk] at hd
  have hik := is_kids hi
  have hxl := lay_len x L.length hi
  have fin : ∀ (k : Nat) (c : List St), k = L.length + x.sz → c = L ++ x.lay L.length → FlatD [] (hp [.dead, .cells (stC c) 7 true]) ∧ isJunk (slR 1 k) = false ∧ slR 1 k = slR 1 (L.length + x.sz) ∧ hp [.dead, .cells (stC c) 7 true] = hp [.dead, .cells (stC (L ++ x.lay L.length)) 7 true] := fun k c h1 h2 => ⟨D783 c, rfl, by rw [h1], by rw [h2]⟩
  have hlF : leN (0 + L.length * 7) (stC L).length = true := leN_iff.2 (by rw [stC_len]; omega)
  have hr1 : leN ((L.length + 1) * 56) 1099511627776 = true := leN_iff.2 (by omega)
  have hr2 : leN (L.length + 1) 1099511627776 = true := leN_iff.2 (by omega)
  obtain ⟨o, s, k⟩ := x
  simp only [Rx.kids] at hd hik
  rw [Rx.is] at hi
  by_cases h1 : o = 1
  · subst h1
    rw [if_pos rfl, List.isEmpty_iff] at hi
    subst hi
    refine su.funX F783 body783 [] [.tmp 0 7] Try.func36 rfl noLoops ?_
    rw [rxV_leaf, w783a]
    simp only [hlF, need_y, hr1, hr2, st_take rfl, intV, st_snoc]
    refine fin _ _ ?_ ?_
    · rw [Rx.sz, if_pos rfl]
    · rw [Rx.lay, if_pos rfl]; rfl
  rw [if_neg h1, Bool.and_eq_true, Bool.and_eq_true, decide_eq_true_eq] at hi
  obtain ⟨hi1, rfl, _⟩ := hi
  by_cases h2 : o = 2
  · subst h2
    have hz : (Rx.mk 2 nilS k).sz = szL k := by rw [Rx.sz]; rfl
    have hl : (Rx.mk 2 nilS k).lay L.length = layL k L.length := by rw [Rx.lay]; rfl
    rw [hz] at hs
    refine su.funX F783 body783 [] [.tmp 0 7] Try.func36 rfl ((loops783 hm n hn hn2 L k (by omega) hik hN hs).gcX (at0 []) (at0 [.tmp 0 7])) ?_
    rw [rxV_ks]
    show funX Try.prog (S783 n) (gcLKX (at0 []) (at0 [.tmp 0 7]) 1 (cutE [cut783 L.length (stC L) k])) F783 body783 Try.f36 [] [.tmp 0 7] [slR 0 L.length, rxA 2 (frV k)] (hp [.cells (stC L) 7 true]) _
    rw [w783b]
    rw [← stC_app]
    refine ⟨FlatD.hp ⟨stC_flat L, trivial⟩, 0, rfl, rfl, ?_⟩
    refine fin _ _ ?_ ?_
    · rw [hz]
    · rw [hl]
  rw [if_neg h2] at hi1
  by_cases h3 : o = 3
  · subst h3
    rw [if_pos rfl] at hi1
    have hz : (Rx.mk 3 nilS k).sz = szL k + 2 * (k.length - 1) := by rw [Rx.sz]; rfl
    have hl : (Rx.mk 3 nilS k).lay L.length = altL k L.length (L.length + (szL k + 2 * (k.length - 1))) := by rw [Rx.lay]; rfl
    have hk1 : 1 ≤ k.length := by
      cases k with
      | nil => cases hi1
      | cons y l => simp
    rw [hz] at hs
    refine su.funX F783 body783 [] [.tmp 0 7] Try.func36 rfl noLoops ?_
    rw [rxV_ks]
    show funX Try.prog (S783 n) noLoop F783 body783 Try.f36 [] [.tmp 0 7] [slR 0 L.length, rxA 3 (frV k)] (hp [.cells (stC L) 7 true]) _
    rw [w783c]
    simp only [show decK (.iface 0 (.agg #[.int .i64 6, .int .i64 (k.length : Int), .agg (rxL k).toArray])) = k from decK_fr k, ← stC_app]
    refine ⟨⟨stC_flat L, trivial⟩, ⟨L, k, ⟨rfl, rfl, rfl, by omega, hik, hk1, hs⟩, rfl⟩, ?_⟩
    refine fin _ _ ?_ ?_
    · rw [hz]
    · rw [hl]
  rw [if_neg h3] at hi1
  by_cases h4 : o = 4 ∨ o = 5 ∨ o = 6
  case neg => rw [if_neg h4] at hi1; cases hi1
  rw [if_pos h4, beq_iff_eq] at hi1
  obtain ⟨y, rfl⟩ := List.length_eq_one_iff.1 hi1
  have hyi : y.is = true := is_mem hik List.mem_cons_self
  have hyd : y.dp < n := by
    have := dp_kid (k := [y]) List.mem_cons_self
    omega
  have hyz : szL [y] = y.sz := by rw [szL, szL]; omega
  have hyl : ∀ a, layL [y] a = y.lay a := fun a => by rw [layL, layL, List.append_nil]
  have hy1 := lay_len y (L.length + 1) hyi
  have hy0 := lay_len y L.length hyi
  rcases h4 with rfl | rfl | rfl
  · have hz : (Rx.mk 4 nilS [y]).sz = y.sz + 2 := by rw [Rx.sz, hyz]; rfl
    have hl : (Rx.mk 4 nilS [y]).lay L.length = stP (L.length + 1) (L.length + y.sz + 2) :: y.lay (L.length + 1) ++ [stJ L.length] := by rw [Rx.lay, hyz]; simp only [hyl]; rfl
    rw [hz] at hs
    refine su.funX F783 body783 [] [.tmp 0 7] Try.func36 rfl noLoops ?_
    rw [rxV_one]
    show funX Try.prog (S783 n) noLoop F783 body783 Try.f36 [] [.tmp 0 7] [slR 0 L.length, rxA 4 (frR y)] (hp [.cells (stC L) 7 true]) _
    rw [w783d]
    have hll : (L ++ [(⟨2, 0, 0, 0, 0, ((L.length + 1 : Nat) : Int), 0⟩ : St)] ++ y.lay (L.length + 1)).length = L.length + 1 + y.sz := by simp only [List.length_append, List.length_cons, List.length_nil, hy1]
    have g1 : leN (0 + (L.length + 1 + y.sz) * 7) (stC (L ++ [(⟨2, 0, 0, 0, 0, ((L.length + 1 : Nat) : Int), 0⟩ : St)] ++ y.lay (L.length + 1))).length = true := leN_iff.2 (by rw [stC_len, hll]; omega)
    have g2 : leN ((L.length + 1 + y.sz + 1) * 56) 1099511627776 = true := leN_iff.2 (by omega)
    have g3 : leN (L.length + 1 + y.sz + 1) 1099511627776 = true := leN_iff.2 (by omega)
    have g4 : ltI (L.length : Int) ((L.length + 1 + y.sz + 1 : Nat) : Int) = true := ltI_iff.2 (by omega)
    simp only [hlF, need_y, hr1, hr2, st_take rfl, intV, frN_kv, frC_kv, Array.toArray_toList, six_c, rxV_fold, decV_rx, beq_rx, beqV_if, beqV_sl, wr_nx (show L.length ≤ 200 by omega), Int.toNat_natCast, st_snoc, ← stC_app]
    refine ⟨⟨stC_flat _, trivial⟩, ⟨L ++ [⟨2, 0, 0, 0, 0, ((L.length + 1 : Nat) : Int), 0⟩], y, ⟨rfl, by simp, rfl, hyd, hyi, by omega⟩, rfl⟩, ?_⟩
    simp only [g1, g2, g3, g4, need_y, st_take hll, st_snoc]
    refine Need_iff.2 ⟨leN_iff.2 (by rw [stC_len]; simp only [List.length_append, List.length_cons, List.length_nil]; omega), ?_⟩
    simp only [List.append_assoc, List.cons_append, List.nil_append, Nat.zero_add, st_setB]
    refine fin _ _ ?_ ?_
    · rw [hz]; omega
    · rw [hl]; simp only [stP, stJ, List.cons_append]; congr 3; omega
  · have hz : (Rx.mk 5 nilS [y]).sz = y.sz + 1 := by rw [Rx.sz, hyz]; rfl
    have hl : (Rx.mk 5 nilS [y]).lay L.length = y.lay L.length ++ [stP L.length (L.length + y.sz + 1)] := by rw [Rx.lay, hyz]; simp only [hyl]; rfl
    rw [hz] at hs
    refine su.funX F783 body783 [] [.tmp 0 7] Try.func36 rfl noLoops ?_
    rw [rxV_one]
    show funX Try.prog (S783 n) noLoop F783 body783 Try.f36 [] [.tmp 0 7] [slR 0 L.length, rxA 5 (frR y)] (hp [.cells (stC L) 7 true]) _
    rw [w783e]
    have hll : (L ++ y.lay L.length).length = L.length + y.sz := by simp only [List.length_append, hy0]
    have g1 : leN (0 + (L.length + y.sz) * 7) (stC (L ++ y.lay L.length)).length = true := leN_iff.2 (by rw [stC_len, hll]; omega)
    have g2 : leN ((L.length + y.sz + 1) * 56) 1099511627776 = true := leN_iff.2 (by omega)
    have g3 : leN (L.length + y.sz + 1) 1099511627776 = true := leN_iff.2 (by omega)
    have g5 : wr .i64 (((L.length + y.sz : Nat) : Int) + 1) = ((L.length + y.sz + 1 : Nat) : Int) := nx _ (by omega)
    simp only [need_y, intV, frN_kv, frC_kv, Array.toArray_toList, six_c, rxV_fold, decV_rx, Int.toNat_natCast, ← stC_app, g1, g2, g3, g5, st_take hll, st_snoc]
    refine ⟨⟨stC_flat _, trivial⟩, ⟨L, y, ⟨rfl, rfl, rfl, hyd, hyi, by omega⟩, rfl⟩, ?_⟩
    refine fin _ _ ?_ ?_
    · rw [hz]; omega
    · rw [hl, ← List.append_assoc]; rfl
  · have hz : (Rx.mk 6 nilS [y]).sz = y.sz + 1 := by rw [Rx.sz, hyz]; rfl
    have hl : (Rx.mk 6 nilS [y]).lay L.length = stP (L.length + 1) (L.length + y.sz + 1) :: y.lay (L.length + 1) := by rw [Rx.lay, hyz]; simp only [hyl]; rfl
    rw [hz] at hs
    refine su.funX F783 body783 [] [.tmp 0 7] Try.func36 rfl noLoops ?_
    rw [rxV_one]
    show funX Try.prog (S783 n) noLoop F783 body783 Try.f36 [] [.tmp 0 7] [slR 0 L.length, rxA 6 (frR y)] (hp [.cells (stC L) 7 true]) _
    rw [w783f]
    have g4 : ltI (L.length : Int) ((L.length + 1 + y.sz : Nat) : Int) = true := ltI_iff.2 (by omega)
    simp only [hlF, need_y, hr1, hr2, st_take rfl, intV, frN_kv, frC_kv, Array.toArray_toList, six_c, rxV_fold, decV_rx, beq_rx, beqV_if, beqV_sl, wr_nx (show L.length ≤ 200 by omega), Int.toNat_natCast, st_snoc, ← stC_app]
    refine ⟨⟨stC_flat _, trivial⟩, ⟨L ++ [⟨2, 0, 0, 0, 0, ((L.length + 1 : Nat) : Int), 0⟩], y, ⟨rfl, by simp, rfl, hyd, hyi, by omega⟩, rfl⟩, ?_⟩
    simp only [g4, need_y]
    refine Need_iff.2 ⟨leN_iff.2 (by rw [stC_len]; simp only [List.length_append, List.length_cons, List.length_nil]; omega), ?_⟩
    simp only [List.append_assoc, List.cons_append, List.nil_append, Nat.zero_add, st_setB]
    refine fin _ _ ?_ ?_
    · rw [hz]; omega
    · rw [hl]; simp only [stP]; congr 3; omega
end
end Go.Proofs.Ytfgiifppapopnaa

namespace Go.Proofs.Ytfgiifppapopnaa
open Go.RowKit Go.Proofs.Ytfgiifppapopnaa.AM
set_option maxRecDepth 100000
set_option maxHeartbeats 4000000
/-! ### ways but the last, the jumps' end e told later -/
def preL : List Rx → Nat → Nat → List St
  | [], _, _ => []
  | x :: l, a, e => stP (a + 1) (a + x.sz + 2) :: x.lay (a + 1) ++ stJ e :: preL l (a + x.sz + 2) e
def jmpL : List Rx → Nat → List Nat
  | [], _ => []
  | x :: l, a => (a + 1 + x.sz) :: jmpL l (a + x.sz + 2)
theorem preL_len : ∀ (l : List Rx) (a e : Nat), isL l = true → (preL l a e).length = szL l + 2 * l.length
  | [], _, _, _ => rfl
  | x :: l, a, e, h => by
    rw [isL, Bool.and_eq_true] at h
    rw [preL, szL]
    simp only [List.length_cons, List.length_append, lay_len x _ h.1, preL_len l _ e h.2]
    omega
theorem jmpL_len : ∀ (l : List Rx) (a : Nat), (jmpL l a).length = l.length
  | [], _ => rfl
  | x :: l, a => by rw [jmpL, List.length_cons, List.length_cons, jmpL_len l]
theorem preL_snoc : ∀ (l : List Rx) (x : Rx) (a e : Nat), preL (l ++ [x]) a e = preL l a e ++ (stP (a + szL l + 2 * l.length + 1) (a + szL l + 2 * l.length + x.sz + 2) :: x.lay (a + szL l + 2 * l.length + 1) ++ [stJ e])
  | [], x, a, e => by rw [List.nil_append, preL, preL, preL, szL]; rfl
  | y :: l, x, a, e => by
    rw [List.cons_append, preL, preL_snoc l, preL, szL, List.length_cons, show a + y.sz + 2 + szL l + 2 * l.length = a + (y.sz + szL l) + 2 * (l.length + 1) by omega]
    simp
theorem jmpL_snoc : ∀ (l : List Rx) (x : Rx) (a : Nat), jmpL (l ++ [x]) a = jmpL l a ++ [a + szL l + 2 * l.length + 1 + x.sz]
  | [], x, a => by rw [List.nil_append, jmpL, jmpL, jmpL, szL]; rfl
  | y :: l, x, a => by
    rw [List.cons_append, jmpL, jmpL_snoc l, jmpL, szL, List.length_cons, show a + y.sz + 2 + szL l + 2 * l.length = a + (y.sz + szL l) + 2 * (l.length + 1) by omega]
    rfl
theorem altL_pre : ∀ (l : List Rx) (z : Rx) (a e : Nat), altL (l ++ [z]) a e = preL l a e ++ z.lay (a + szL l + 2 * l.length)
  | [], z, a, e => by rw [List.nil_append, altL, preL, szL]; rfl
  | y :: l, z, a, e => by
    rw [List.cons_append, altL, if_neg (by simp), altL_pre l, preL, szL, List.length_cons, show a + y.sz + 2 + szL l + 2 * l.length = a + (y.sz + szL l) + 2 * (l.length + 1) by omega]
    simp
theorem jmpL_lt : ∀ (l : List Rx) (a : Nat), ∀ j ∈ jmpL l a, a ≤ j ∧ j < a + szL l + 2 * l.length
  | [], _, j, h => by cases h
  | x :: l, a, j, h => by
    rw [jmpL] at h
    rw [szL, List.length_cons]
    rcases List.mem_cons.1 h with rfl | h
    · omega
    · have := jmpL_lt l _ j h; omega
end Go.Proofs.Ytfgiifppapopnaa

namespace Go.Proofs.Ytfgiifppapopnaa
open Go.RowKit Go.Proofs.Ytfgiifppapopnaa.AM
set_option maxRecDepth 100000
set_option maxHeartbeats 4000000
noncomputable def S784 (n : Nat) : Book := bookW [(36, layW n)] S0
noncomputable abbrev jC (J : List Nat) : List Value := J.map fun (j : Nat) => Value.int .i64 (j : Int)
noncomputable abbrev T784 (m : Nat) (ks qs : List Rx) (q i : Nat) : List Value := tmps 69 [(0, slR 1 m), (1, frV ks), (5, slR 2 q), (6, .int .i64 (qs.length : Int)), (17, frV qs), (18, .int .i64 (qs.length : Int)), (19, .int .i64 (i : Int))]

theorem r784 (n : Nat) (m : Nat) (cs js : List Value) (ks qs : List Rx) (q i : Nat) (K : Post) :
  roundX Try.prog (S784 n) noLoop F784 body784 1 [] [.tmp 0 7, .tmp 5 1] [] [.tmp 0 7, .tmp 5 1] [0,1,5,6,17,18,19] [0,0,1,0,1,1,1] (T784 m ks qs q i) (hp [.dead, .cells cs 7 true, .cells js 1 true]) K = (
Alt (ltI (↑i : Int) (↑qs.length : Int)) (Need (ltI (↑i : Int) (↑qs.length : Int)) (Need (isInt IntKind.i64 ((getO (List.drop ((↑i : Int).toNat * 6) (rxL qs).toArray.toList).toArray.toList 0).getD undef)) (Need (isInt
IntKind.u64 ((getO (List.drop ((↑i : Int).toNat * 6) (rxL qs).toArray.toList).toArray.toList 1).getD undef)) (Need (isInt IntKind.u64 ((getO (List.drop ((↑i : Int).toNat * 6) (rxL qs).toArray.toList).toArray.toList
2).getD undef)) (Need (isInt IntKind.u64 ((getO (List.drop ((↑i : Int).toNat * 6) (rxL qs).toArray.toList).toArray.toList 3).getD undef)) (Need (isInt IntKind.u64 ((getO (List.drop ((↑i : Int).toNat * 6) (rxL
qs).toArray.toList).toArray.toList 4).getD undef)) (Need (isFr ((getO (List.drop ((↑i : Int).toNat * 6) (rxL qs).toArray.toList).toArray.toList 5).getD undef)) (Need (leN (0 + m * 7) cs.length) (Need (leN ((m + 1) * 56)
1099511627776) (Need (leN (m + 1) 1099511627776) ((FlatL (List.take (m * 7) (List.drop 0 cs) ++ [Value.int IntKind.i64 2, Value.int IntKind.u64 0, Value.int IntKind.u64 0, Value.int IntKind.u64 0, Value.int IntKind.u64
0, Value.int IntKind.i64 (wr IntKind.i64 ((↑m : Int) + 1)), Value.int IntKind.i64 0]) ∧ True) ∧ LayOk (List.take (m * 7) (List.drop 0 cs) ++ [Value.int IntKind.i64 2, Value.int IntKind.u64 0, Value.int IntKind.u64 0,
Value.int IntKind.u64 0, Value.int IntKind.u64 0, Value.int IntKind.i64 (wr IntKind.i64 ((↑m : Int) + 1)), Value.int IntKind.i64 0]) (m + 1) (m + 1) (Value.agg #[Value.int IntKind.i64 (intV (Value.int IntKind.i64 (intV
((getO (List.drop ((↑i : Int).toNat * 6) (rxL qs).toArray.toList).toArray.toList 0).getD undef)))), Value.int IntKind.u64 (intV (Value.int IntKind.u64 (intV ((getO (List.drop ((↑i : Int).toNat * 6) (rxL
qs).toArray.toList).toArray.toList 1).getD undef)))), Value.int IntKind.u64 (intV (Value.int IntKind.u64 (intV ((getO (List.drop ((↑i : Int).toNat * 6) (rxL qs).toArray.toList).toArray.toList 2).getD undef)))), Value.int
IntKind.u64 (intV (Value.int IntKind.u64 (intV ((getO (List.drop ((↑i : Int).toNat * 6) (rxL qs).toArray.toList).toArray.toList 3).getD undef)))), Value.int IntKind.u64 (intV (Value.int IntKind.u64 (intV ((getO
(List.drop ((↑i : Int).toNat * 6) (rxL qs).toArray.toList).toArray.toList 4).getD undef)))), Value.iface 0 (Value.agg #[Value.int IntKind.i64 (↑(frE ((getO (List.drop ((↑i : Int).toNat * 6) (rxL
qs).toArray.toList).toArray.toList 5).getD undef)) : Int), Value.int IntKind.i64 (↑(frN ((getO (List.drop ((↑i : Int).toNat * 6) (rxL qs).toArray.toList).toArray.toList 5).getD undef)) : Int), Value.agg (frC ((getO
(List.drop ((↑i : Int).toNat * 6) (rxL qs).toArray.toList).toArray.toList 5).getD undef)).toArray])]) n ∧ Need (beqV 64 (Value.agg #[Value.int IntKind.i64 (intV (Value.int IntKind.i64 (intV ((getO (List.drop ((↑i :
Int).toNat * 6) (rxL qs).toArray.toList).toArray.toList 0).getD undef)))), Value.int IntKind.u64 (intV (Value.int IntKind.u64 (intV ((getO (List.drop ((↑i : Int).toNat * 6) (rxL qs).toArray.toList).toArray.toList 1).getD
undef)))), Value.int IntKind.u64 (intV (Value.int IntKind.u64 (intV ((getO (List.drop ((↑i : Int).toNat * 6) (rxL qs).toArray.toList).toArray.toList 2).getD undef)))), Value.int IntKind.u64 (intV (Value.int IntKind.u64
(intV ((getO (List.drop ((↑i : Int).toNat * 6) (rxL qs).toArray.toList).toArray.toList 3).getD undef)))), Value.int IntKind.u64 (intV (Value.int IntKind.u64 (intV ((getO (List.drop ((↑i : Int).toNat * 6) (rxL
qs).toArray.toList).toArray.toList 4).getD undef)))), Value.iface 0 (Value.agg #[Value.int IntKind.i64 (↑(frE ((getO (List.drop ((↑i : Int).toNat * 6) (rxL qs).toArray.toList).toArray.toList 5).getD undef)) : Int),
Value.int IntKind.i64 (↑(frN ((getO (List.drop ((↑i : Int).toNat * 6) (rxL qs).toArray.toList).toArray.toList 5).getD undef)) : Int), Value.agg (frC ((getO (List.drop ((↑i : Int).toNat * 6) (rxL
qs).toArray.toList).toArray.toList 5).getD undef)).toArray])]) (Value.agg #[Value.int IntKind.i64 (intV (Value.int IntKind.i64 (intV ((getO (List.drop ((↑i : Int).toNat * 6) (rxL qs).toArray.toList).toArray.toList
0).getD undef)))), Value.int IntKind.u64 (intV (Value.int IntKind.u64 (intV ((getO (List.drop ((↑i : Int).toNat * 6) (rxL qs).toArray.toList).toArray.toList 1).getD undef)))), Value.int IntKind.u64 (intV (Value.int
IntKind.u64 (intV ((getO (List.drop ((↑i : Int).toNat * 6) (rxL qs).toArray.toList).toArray.toList 2).getD undef)))), Value.int IntKind.u64 (intV (Value.int IntKind.u64 (intV ((getO (List.drop ((↑i : Int).toNat * 6) (rxL
qs).toArray.toList).toArray.toList 3).getD undef)))), Value.int IntKind.u64 (intV (Value.int IntKind.u64 (intV ((getO (List.drop ((↑i : Int).toNat * 6) (rxL qs).toArray.toList).toArray.toList 4).getD undef)))),
Value.iface 0 (Value.agg #[Value.int IntKind.i64 (↑(frE ((getO (List.drop ((↑i : Int).toNat * 6) (rxL qs).toArray.toList).toArray.toList 5).getD undef)) : Int), Value.int IntKind.i64 (↑(frN ((getO (List.drop ((↑i :
Int).toNat * 6) (rxL qs).toArray.toList).toArray.toList 5).getD undef)) : Int), Value.agg (frC ((getO (List.drop ((↑i : Int).toNat * 6) (rxL qs).toArray.toList).toArray.toList 5).getD undef)).toArray])])) (Need (beqV 64
(Value.agg #[Value.int IntKind.i64 (intV (Value.int IntKind.i64 (intV ((getO (List.drop ((↑i : Int).toNat * 6) (rxL qs).toArray.toList).toArray.toList 0).getD undef)))), Value.int IntKind.u64 (intV (Value.int IntKind.u64
(intV ((getO (List.drop ((↑i : Int).toNat * 6) (rxL qs).toArray.toList).toArray.toList 1).getD undef)))), Value.int IntKind.u64 (intV (Value.int IntKind.u64 (intV ((getO (List.drop ((↑i : Int).toNat * 6) (rxL
qs).toArray.toList).toArray.toList 2).getD undef)))), Value.int IntKind.u64 (intV (Value.int IntKind.u64 (intV ((getO (List.drop ((↑i : Int).toNat * 6) (rxL qs).toArray.toList).toArray.toList 3).getD undef)))), Value.int
IntKind.u64 (intV (Value.int IntKind.u64 (intV ((getO (List.drop ((↑i : Int).toNat * 6) (rxL qs).toArray.toList).toArray.toList 4).getD undef)))), Value.iface 0 (Value.agg #[Value.int IntKind.i64 (↑(frE ((getO (List.drop
((↑i : Int).toNat * 6) (rxL qs).toArray.toList).toArray.toList 5).getD undef)) : Int), Value.int IntKind.i64 (↑(frN ((getO (List.drop ((↑i : Int).toNat * 6) (rxL qs).toArray.toList).toArray.toList 5).getD undef)) : Int),
Value.agg (frC ((getO (List.drop ((↑i : Int).toNat * 6) (rxL qs).toArray.toList).toArray.toList 5).getD undef)).toArray])]) (Value.agg #[Value.int IntKind.i64 (intV (Value.int IntKind.i64 (intV ((getO (List.drop ((↑i :
Int).toNat * 6) (rxL qs).toArray.toList).toArray.toList 0).getD undef)))), Value.int IntKind.u64 (intV (Value.int IntKind.u64 (intV ((getO (List.drop ((↑i : Int).toNat * 6) (rxL qs).toArray.toList).toArray.toList 1).getD
undef)))), Value.int IntKind.u64 (intV (Value.int IntKind.u64 (intV ((getO (List.drop ((↑i : Int).toNat * 6) (rxL qs).toArray.toList).toArray.toList 2).getD undef)))), Value.int IntKind.u64 (intV (Value.int IntKind.u64
(intV ((getO (List.drop ((↑i : Int).toNat * 6) (rxL qs).toArray.toList).toArray.toList 3).getD undef)))), Value.int IntKind.u64 (intV (Value.int IntKind.u64 (intV ((getO (List.drop ((↑i : Int).toNat * 6) (rxL
qs).toArray.toList).toArray.toList 4).getD undef)))), Value.iface 0 (Value.agg #[Value.int IntKind.i64 (↑(frE ((getO (List.drop ((↑i : Int).toNat * 6) (rxL qs).toArray.toList).toArray.toList 5).getD undef)) : Int),
Value.int IntKind.i64 (↑(frN ((getO (List.drop ((↑i : Int).toNat * 6) (rxL qs).toArray.toList).toArray.toList 5).getD undef)) : Int), Value.agg (frC ((getO (List.drop ((↑i : Int).toNat * 6) (rxL
qs).toArray.toList).toArray.toList 5).getD undef)).toArray])])) (Need (beqV 64 (Value.slice (some { block := 1, off := 0, spot := some 1 : Addr }) m m) (Value.slice (some { block := 1, off := 0, spot := some 1 : Addr })
m m)) (Need (leN (0 + q * 1) js.length) (Need (leN ((q + 1) * 8) 1099511627776) (Need (leN (q + 1) 1099511627776) (Need (leN (0 + (m + 1 + (decV (Value.agg #[Value.int IntKind.i64 (intV (Value.int IntKind.i64 (intV
((getO (List.drop ((↑i : Int).toNat * 6) (rxL qs).toArray.toList).toArray.toList 0).getD undef)))), Value.int IntKind.u64 (intV (Value.int IntKind.u64 (intV ((getO (List.drop ((↑i : Int).toNat * 6) (rxL
qs).toArray.toList).toArray.toList 1).getD undef)))), Value.int IntKind.u64 (intV (Value.int IntKind.u64 (intV ((getO (List.drop ((↑i : Int).toNat * 6) (rxL qs).toArray.toList).toArray.toList 2).getD undef)))), Value.int
IntKind.u64 (intV (Value.int IntKind.u64 (intV ((getO (List.drop ((↑i : Int).toNat * 6) (rxL qs).toArray.toList).toArray.toList 3).getD undef)))), Value.int IntKind.u64 (intV (Value.int IntKind.u64 (intV ((getO
(List.drop ((↑i : Int).toNat * 6) (rxL qs).toArray.toList).toArray.toList 4).getD undef)))), Value.iface 0 (Value.agg #[Value.int IntKind.i64 (↑(frE ((getO (List.drop ((↑i : Int).toNat * 6) (rxL
qs).toArray.toList).toArray.toList 5).getD undef)) : Int), Value.int IntKind.i64 (↑(frN ((getO (List.drop ((↑i : Int).toNat * 6) (rxL qs).toArray.toList).toArray.toList 5).getD undef)) : Int), Value.agg (frC ((getO
(List.drop ((↑i : Int).toNat * 6) (rxL qs).toArray.toList).toArray.toList 5).getD undef)).toArray])])).sz) * 7) (List.take (m * 7) (List.drop 0 cs) ++ [Value.int IntKind.i64 2, Value.int IntKind.u64 0, Value.int
IntKind.u64 0, Value.int IntKind.u64 0, Value.int IntKind.u64 0, Value.int IntKind.i64 (wr IntKind.i64 ((↑m : Int) + 1)), Value.int IntKind.i64 0] ++ stC ((decV (Value.agg #[Value.int IntKind.i64 (intV (Value.int
IntKind.i64 (intV ((getO (List.drop ((↑i : Int).toNat * 6) (rxL qs).toArray.toList).toArray.toList 0).getD undef)))), Value.int IntKind.u64 (intV (Value.int IntKind.u64 (intV ((getO (List.drop ((↑i : Int).toNat * 6) (rxL
qs).toArray.toList).toArray.toList 1).getD undef)))), Value.int IntKind.u64 (intV (Value.int IntKind.u64 (intV ((getO (List.drop ((↑i : Int).toNat * 6) (rxL qs).toArray.toList).toArray.toList 2).getD undef)))), Value.int
IntKind.u64 (intV (Value.int IntKind.u64 (intV ((getO (List.drop ((↑i : Int).toNat * 6) (rxL qs).toArray.toList).toArray.toList 3).getD undef)))), Value.int IntKind.u64 (intV (Value.int IntKind.u64 (intV ((getO
(List.drop ((↑i : Int).toNat * 6) (rxL qs).toArray.toList).toArray.toList 4).getD undef)))), Value.iface 0 (Value.agg #[Value.int IntKind.i64 (↑(frE ((getO (List.drop ((↑i : Int).toNat * 6) (rxL
qs).toArray.toList).toArray.toList 5).getD undef)) : Int), Value.int IntKind.i64 (↑(frN ((getO (List.drop ((↑i : Int).toNat * 6) (rxL qs).toArray.toList).toArray.toList 5).getD undef)) : Int), Value.agg (frC ((getO
(List.drop ((↑i : Int).toNat * 6) (rxL qs).toArray.toList).toArray.toList 5).getD undef)).toArray])])).lay (m + 1))).length) (Need (leN ((m + 1 + (decV (Value.agg #[Value.int IntKind.i64 (intV (Value.int IntKind.i64
(intV ((getO (List.drop ((↑i : Int).toNat * 6) (rxL qs).toArray.toList).toArray.toList 0).getD undef)))), Value.int IntKind.u64 (intV (Value.int IntKind.u64 (intV ((getO (List.drop ((↑i : Int).toNat * 6) (rxL
qs).toArray.toList).toArray.toList 1).getD undef)))), Value.int IntKind.u64 (intV (Value.int IntKind.u64 (intV ((getO (List.drop ((↑i : Int).toNat * 6) (rxL qs).toArray.toList).toArray.toList 2).getD undef)))), Value.int
IntKind.u64 (intV (Value.int IntKind.u64 (intV ((getO (List.drop ((↑i : Int).toNat * 6) (rxL qs).toArray.toList).toArray.toList 3).getD undef)))), Value.int IntKind.u64 (intV (Value.int IntKind.u64 (intV ((getO
(List.drop ((↑i : Int).toNat * 6) (rxL qs).toArray.toList).toArray.toList 4).getD undef)))), Value.iface 0 (Value.agg #[Value.int IntKind.i64 (↑(frE ((getO (List.drop ((↑i : Int).toNat * 6) (rxL
qs).toArray.toList).toArray.toList 5).getD undef)) : Int), Value.int IntKind.i64 (↑(frN ((getO (List.drop ((↑i : Int).toNat * 6) (rxL qs).toArray.toList).toArray.toList 5).getD undef)) : Int), Value.agg (frC ((getO
(List.drop ((↑i : Int).toNat * 6) (rxL qs).toArray.toList).toArray.toList 5).getD undef)).toArray])])).sz + 1) * 56) 1099511627776) (Need (leN (m + 1 + (decV (Value.agg #[Value.int IntKind.i64 (intV (Value.int
IntKind.i64 (intV ((getO (List.drop ((↑i : Int).toNat * 6) (rxL qs).toArray.toList).toArray.toList 0).getD undef)))), Value.int IntKind.u64 (intV (Value.int IntKind.u64 (intV ((getO (List.drop ((↑i : Int).toNat * 6) (rxL
qs).toArray.toList).toArray.toList 1).getD undef)))), Value.int IntKind.u64 (intV (Value.int IntKind.u64 (intV ((getO (List.drop ((↑i : Int).toNat * 6) (rxL qs).toArray.toList).toArray.toList 2).getD undef)))), Value.int
IntKind.u64 (intV (Value.int IntKind.u64 (intV ((getO (List.drop ((↑i : Int).toNat * 6) (rxL qs).toArray.toList).toArray.toList 3).getD undef)))), Value.int IntKind.u64 (intV (Value.int IntKind.u64 (intV ((getO
(List.drop ((↑i : Int).toNat * 6) (rxL qs).toArray.toList).toArray.toList 4).getD undef)))), Value.iface 0 (Value.agg #[Value.int IntKind.i64 (↑(frE ((getO (List.drop ((↑i : Int).toNat * 6) (rxL
qs).toArray.toList).toArray.toList 5).getD undef)) : Int), Value.int IntKind.i64 (↑(frN ((getO (List.drop ((↑i : Int).toNat * 6) (rxL qs).toArray.toList).toArray.toList 5).getD undef)) : Int), Value.agg (frC ((getO
(List.drop ((↑i : Int).toNat * 6) (rxL qs).toArray.toList).toArray.toList 5).getD undef)).toArray])])).sz + 1) 1099511627776) (Need (ltI (↑m : Int) (↑(m + 1 + (decV (Value.agg #[Value.int IntKind.i64 (intV (Value.int
IntKind.i64 (intV ((getO (List.drop ((↑i : Int).toNat * 6) (rxL qs).toArray.toList).toArray.toList 0).getD undef)))), Value.int IntKind.u64 (intV (Value.int IntKind.u64 (intV ((getO (List.drop ((↑i : Int).toNat * 6) (rxL
qs).toArray.toList).toArray.toList 1).getD undef)))), Value.int IntKind.u64 (intV (Value.int IntKind.u64 (intV ((getO (List.drop ((↑i : Int).toNat * 6) (rxL qs).toArray.toList).toArray.toList 2).getD undef)))), Value.int
IntKind.u64 (intV (Value.int IntKind.u64 (intV ((getO (List.drop ((↑i : Int).toNat * 6) (rxL qs).toArray.toList).toArray.toList 3).getD undef)))), Value.int IntKind.u64 (intV (Value.int IntKind.u64 (intV ((getO
(List.drop ((↑i : Int).toNat * 6) (rxL qs).toArray.toList).toArray.toList 4).getD undef)))), Value.iface 0 (Value.agg #[Value.int IntKind.i64 (↑(frE ((getO (List.drop ((↑i : Int).toNat * 6) (rxL
qs).toArray.toList).toArray.toList 5).getD undef)) : Int), Value.int IntKind.i64 (↑(frN ((getO (List.drop ((↑i : Int).toNat * 6) (rxL qs).toArray.toList).toArray.toList 5).getD undef)) : Int), Value.agg (frC ((getO
(List.drop ((↑i : Int).toNat * 6) (rxL qs).toArray.toList).toArray.toList 5).getD undef)).toArray])])).sz + 1) : Int)) (Need (leN (0 + (↑m : Int).toNat * 7 + 6 + 1) (List.take ((m + 1 + (decV (Value.agg #[Value.int
IntKind.i64 (intV (Value.int IntKind.i64 (intV ((getO (List.drop ((↑i : Int).toNat * 6) (rxL qs).toArray.toList).toArray.toList 0).getD undef)))), Value.int IntKind.u64 (intV (Value.int IntKind.u64 (intV ((getO
(List.drop ((↑i : Int).toNat * 6) (rxL qs).toArray.toList).toArray.toList 1).getD undef)))), Value.int IntKind.u64 (intV (Value.int IntKind.u64 (intV ((getO (List.drop ((↑i : Int).toNat * 6) (rxL
qs).toArray.toList).toArray.toList 2).getD undef)))), Value.int IntKind.u64 (intV (Value.int IntKind.u64 (intV ((getO (List.drop ((↑i : Int).toNat * 6) (rxL qs).toArray.toList).toArray.toList 3).getD undef)))), Value.int
IntKind.u64 (intV (Value.int IntKind.u64 (intV ((getO (List.drop ((↑i : Int).toNat * 6) (rxL qs).toArray.toList).toArray.toList 4).getD undef)))), Value.iface 0 (Value.agg #[Value.int IntKind.i64 (↑(frE ((getO (List.drop
((↑i : Int).toNat * 6) (rxL qs).toArray.toList).toArray.toList 5).getD undef)) : Int), Value.int IntKind.i64 (↑(frN ((getO (List.drop ((↑i : Int).toNat * 6) (rxL qs).toArray.toList).toArray.toList 5).getD undef)) : Int),
Value.agg (frC ((getO (List.drop ((↑i : Int).toNat * 6) (rxL qs).toArray.toList).toArray.toList 5).getD undef)).toArray])])).sz) * 7) (List.drop 0 (List.take (m * 7) (List.drop 0 cs) ++ [Value.int IntKind.i64 2,
Value.int IntKind.u64 0, Value.int IntKind.u64 0, Value.int IntKind.u64 0, Value.int IntKind.u64 0, Value.int IntKind.i64 (wr IntKind.i64 ((↑m : Int) + 1)), Value.int IntKind.i64 0] ++ stC ((decV (Value.agg #[Value.int
IntKind.i64 (intV (Value.int IntKind.i64 (intV ((getO (List.drop ((↑i : Int).toNat * 6) (rxL qs).toArray.toList).toArray.toList 0).getD undef)))), Value.int IntKind.u64 (intV (Value.int IntKind.u64 (intV ((getO
(List.drop ((↑i : Int).toNat * 6) (rxL qs).toArray.toList).toArray.toList 1).getD undef)))), Value.int IntKind.u64 (intV (Value.int IntKind.u64 (intV ((getO (List.drop ((↑i : Int).toNat * 6) (rxL
qs).toArray.toList).toArray.toList 2).getD undef)))), Value.int IntKind.u64 (intV (Value.int IntKind.u64 (intV ((getO (List.drop ((↑i : Int).toNat * 6) (rxL qs).toArray.toList).toArray.toList 3).getD undef)))), Value.int
IntKind.u64 (intV (Value.int IntKind.u64 (intV ((getO (List.drop ((↑i : Int).toNat * 6) (rxL qs).toArray.toList).toArray.toList 4).getD undef)))), Value.iface 0 (Value.agg #[Value.int IntKind.i64 (↑(frE ((getO (List.drop
((↑i : Int).toNat * 6) (rxL qs).toArray.toList).toArray.toList 5).getD undef)) : Int), Value.int IntKind.i64 (↑(frN ((getO (List.drop ((↑i : Int).toNat * 6) (rxL qs).toArray.toList).toArray.toList 5).getD undef)) : Int),
Value.agg (frC ((getO (List.drop ((↑i : Int).toNat * 6) (rxL qs).toArray.toList).toArray.toList 5).getD undef)).toArray])])).lay (m + 1)))) ++ [Value.int IntKind.i64 3, Value.int IntKind.u64 0, Value.int IntKind.u64 0,
Value.int IntKind.u64 0, Value.int IntKind.u64 0, Value.int IntKind.i64 0, Value.int IntKind.i64 0]).length) (K AE.normal (tmps 69 [(0, Value.slice (some { block := 1, off := 0, spot := some 1 : Addr }) (m + 1 + (decV
(Value.agg #[Value.int IntKind.i64 (intV (Value.int IntKind.i64 (intV ((getO (List.drop ((↑i : Int).toNat * 6) (rxL qs).toArray.toList).toArray.toList 0).getD undef)))), Value.int IntKind.u64 (intV (Value.int IntKind.u64
(intV ((getO (List.drop ((↑i : Int).toNat * 6) (rxL qs).toArray.toList).toArray.toList 1).getD undef)))), Value.int IntKind.u64 (intV (Value.int IntKind.u64 (intV ((getO (List.drop ((↑i : Int).toNat * 6) (rxL
qs).toArray.toList).toArray.toList 2).getD undef)))), Value.int IntKind.u64 (intV (Value.int IntKind.u64 (intV ((getO (List.drop ((↑i : Int).toNat * 6) (rxL qs).toArray.toList).toArray.toList 3).getD undef)))), Value.int
IntKind.u64 (intV (Value.int IntKind.u64 (intV ((getO (List.drop ((↑i : Int).toNat * 6) (rxL qs).toArray.toList).toArray.toList 4).getD undef)))), Value.iface 0 (Value.agg #[Value.int IntKind.i64 (↑(frE ((getO (List.drop
((↑i : Int).toNat * 6) (rxL qs).toArray.toList).toArray.toList 5).getD undef)) : Int), Value.int IntKind.i64 (↑(frN ((getO (List.drop ((↑i : Int).toNat * 6) (rxL qs).toArray.toList).toArray.toList 5).getD undef)) : Int),
Value.agg (frC ((getO (List.drop ((↑i : Int).toNat * 6) (rxL qs).toArray.toList).toArray.toList 5).getD undef)).toArray])])).sz + 1) (m + 1 + (decV (Value.agg #[Value.int IntKind.i64 (intV (Value.int IntKind.i64 (intV
((getO (List.drop ((↑i : Int).toNat * 6) (rxL qs).toArray.toList).toArray.toList 0).getD undef)))), Value.int IntKind.u64 (intV (Value.int IntKind.u64 (intV ((getO (List.drop ((↑i : Int).toNat * 6) (rxL
qs).toArray.toList).toArray.toList 1).getD undef)))), Value.int IntKind.u64 (intV (Value.int IntKind.u64 (intV ((getO (List.drop ((↑i : Int).toNat * 6) (rxL qs).toArray.toList).toArray.toList 2).getD undef)))), Value.int
IntKind.u64 (intV (Value.int IntKind.u64 (intV ((getO (List.drop ((↑i : Int).toNat * 6) (rxL qs).toArray.toList).toArray.toList 3).getD undef)))), Value.int IntKind.u64 (intV (Value.int IntKind.u64 (intV ((getO
(List.drop ((↑i : Int).toNat * 6) (rxL qs).toArray.toList).toArray.toList 4).getD undef)))), Value.iface 0 (Value.agg #[Value.int IntKind.i64 (↑(frE ((getO (List.drop ((↑i : Int).toNat * 6) (rxL
qs).toArray.toList).toArray.toList 5).getD undef)) : Int), Value.int IntKind.i64 (↑(frN ((getO (List.drop ((↑i : Int).toNat * 6) (rxL qs).toArray.toList).toArray.toList 5).getD undef)) : Int), Value.agg (frC ((getO
(List.drop ((↑i : Int).toNat * 6) (rxL qs).toArray.toList).toArray.toList 5).getD undef)).toArray])])).sz + 1)), (1, Value.iface 0 (Value.agg #[Value.int IntKind.i64 6, Value.int IntKind.i64 (↑ks.length : Int), Value.agg
(rxL ks).toArray])), (5, Value.slice (some { block := 2, off := 0, spot := some 1 : Addr }) (q + 1) (q + 1)), (6, Value.int IntKind.i64 (↑qs.length : Int)), (17, Value.iface 0 (Value.agg #[Value.int IntKind.i64 6,
Value.int IntKind.i64 (↑qs.length : Int), Value.agg (rxL qs).toArray])), (18, Value.int IntKind.i64 (↑qs.length : Int)), (19, Value.int IntKind.i64 (wr IntKind.i64 ((↑i : Int) + 1)))]) (hp [Blk.dead, Blk.cells (setAll
(List.take ((m + 1 + (decV (Value.agg #[Value.int IntKind.i64 (intV (Value.int IntKind.i64 (intV ((getO (List.drop ((↑i : Int).toNat * 6) (rxL qs).toArray.toList).toArray.toList 0).getD undef)))), Value.int IntKind.u64
(intV (Value.int IntKind.u64 (intV ((getO (List.drop ((↑i : Int).toNat * 6) (rxL qs).toArray.toList).toArray.toList 1).getD undef)))), Value.int IntKind.u64 (intV (Value.int IntKind.u64 (intV ((getO (List.drop ((↑i :
Int).toNat * 6) (rxL qs).toArray.toList).toArray.toList 2).getD undef)))), Value.int IntKind.u64 (intV (Value.int IntKind.u64 (intV ((getO (List.drop ((↑i : Int).toNat * 6) (rxL qs).toArray.toList).toArray.toList 3).getD
undef)))), Value.int IntKind.u64 (intV (Value.int IntKind.u64 (intV ((getO (List.drop ((↑i : Int).toNat * 6) (rxL qs).toArray.toList).toArray.toList 4).getD undef)))), Value.iface 0 (Value.agg #[Value.int IntKind.i64
(↑(frE ((getO (List.drop ((↑i : Int).toNat * 6) (rxL qs).toArray.toList).toArray.toList 5).getD undef)) : Int), Value.int IntKind.i64 (↑(frN ((getO (List.drop ((↑i : Int).toNat * 6) (rxL
qs).toArray.toList).toArray.toList 5).getD undef)) : Int), Value.agg (frC ((getO (List.drop ((↑i : Int).toNat * 6) (rxL qs).toArray.toList).toArray.toList 5).getD undef)).toArray])])).sz) * 7) (List.drop 0 (List.take (m
* 7) (List.drop 0 cs) ++ [Value.int IntKind.i64 2, Value.int IntKind.u64 0, Value.int IntKind.u64 0, Value.int IntKind.u64 0, Value.int IntKind.u64 0, Value.int IntKind.i64 (wr IntKind.i64 ((↑m : Int) + 1)), Value.int
IntKind.i64 0] ++ stC ((decV (Value.agg #[Value.int IntKind.i64 (intV (Value.int IntKind.i64 (intV ((getO (List.drop ((↑i : Int).toNat * 6) (rxL qs).toArray.toList).toArray.toList 0).getD undef)))), Value.int IntKind.u64
(intV (Value.int IntKind.u64 (intV ((getO (List.drop ((↑i : Int).toNat * 6) (rxL qs).toArray.toList).toArray.toList 1).getD undef)))), Value.int IntKind.u64 (intV (Value.int IntKind.u64 (intV ((getO (List.drop ((↑i :
Int).toNat * 6) (rxL qs).toArray.toList).toArray.toList 2).getD undef)))), Value.int IntKind.u64 (intV (Value.int IntKind.u64 (intV ((getO (List.drop ((↑i : Int).toNat * 6) (rxL qs).toArray.toList).toArray.toList 3).getD
undef)))), Value.int IntKind.u64 (intV (Value.int IntKind.u64 (intV ((getO (List.drop ((↑i : Int).toNat * 6) (rxL qs).toArray.toList).toArray.toList 4).getD undef)))), Value.iface 0 (Value.agg #[Value.int IntKind.i64
(↑(frE ((getO (List.drop ((↑i : Int).toNat * 6) (rxL qs).toArray.toList).toArray.toList 5).getD undef)) : Int), Value.int IntKind.i64 (↑(frN ((getO (List.drop ((↑i : Int).toNat * 6) (rxL
qs).toArray.toList).toArray.toList 5).getD undef)) : Int), Value.agg (frC ((getO (List.drop ((↑i : Int).toNat * 6) (rxL qs).toArray.toList).toArray.toList 5).getD undef)).toArray])])).lay (m + 1)))) ++ [Value.int
IntKind.i64 3, Value.int IntKind.u64 0, Value.int IntKind.u64 0, Value.int IntKind.u64 0, Value.int IntKind.u64 0, Value.int IntKind.i64 0, Value.int IntKind.i64 0]) (0 + (↑m : Int).toNat * 7 + 6) [Value.int IntKind.i64
(↑(m + 1 + (decV (Value.agg #[Value.int IntKind.i64 (intV (Value.int IntKind.i64 (intV ((getO (List.drop ((↑i : Int).toNat * 6) (rxL qs).toArray.toList).toArray.toList 0).getD undef)))), Value.int IntKind.u64 (intV
(Value.int IntKind.u64 (intV ((getO (List.drop ((↑i : Int).toNat * 6) (rxL qs).toArray.toList).toArray.toList 1).getD undef)))), Value.int IntKind.u64 (intV (Value.int IntKind.u64 (intV ((getO (List.drop ((↑i :
Int).toNat * 6) (rxL qs).toArray.toList).toArray.toList 2).getD undef)))), Value.int IntKind.u64 (intV (Value.int IntKind.u64 (intV ((getO (List.drop ((↑i : Int).toNat * 6) (rxL qs).toArray.toList).toArray.toList 3).getD
undef)))), Value.int IntKind.u64 (intV (Value.int IntKind.u64 (intV ((getO (List.drop ((↑i : Int).toNat * 6) (rxL qs).toArray.toList).toArray.toList 4).getD undef)))), Value.iface 0 (Value.agg #[Value.int IntKind.i64
(↑(frE ((getO (List.drop ((↑i : Int).toNat * 6) (rxL qs).toArray.toList).toArray.toList 5).getD undef)) : Int), Value.int IntKind.i64 (↑(frN ((getO (List.drop ((↑i : Int).toNat * 6) (rxL
qs).toArray.toList).toArray.toList 5).getD undef)) : Int), Value.agg (frC ((getO (List.drop ((↑i : Int).toNat * 6) (rxL qs).toArray.toList).toArray.toList 5).getD undef)).toArray])])).sz + 1) : Int)]) 7 true, Blk.cells
(List.take (q * 1) (List.drop 0 js) ++ [Value.int IntKind.i64 (↑(m + 1 + (decV (Value.agg #[Value.int IntKind.i64 (intV (Value.int IntKind.i64 (intV ((getO (List.drop ((↑i : Int).toNat * 6) (rxL
qs).toArray.toList).toArray.toList 0).getD undef)))), Value.int IntKind.u64 (intV (Value.int IntKind.u64 (intV ((getO (List.drop ((↑i : Int).toNat * 6) (rxL qs).toArray.toList).toArray.toList 1).getD undef)))), Value.int
IntKind.u64 (intV (Value.int IntKind.u64 (intV ((getO (List.drop ((↑i : Int).toNat * 6) (rxL qs).toArray.toList).toArray.toList 2).getD undef)))), Value.int IntKind.u64 (intV (Value.int IntKind.u64 (intV ((getO
(List.drop ((↑i : Int).toNat * 6) (rxL qs).toArray.toList).toArray.toList 3).getD undef)))), Value.int IntKind.u64 (intV (Value.int IntKind.u64 (intV ((getO (List.drop ((↑i : Int).toNat * 6) (rxL
qs).toArray.toList).toArray.toList 4).getD undef)))), Value.iface 0 (Value.agg #[Value.int IntKind.i64 (↑(frE ((getO (List.drop ((↑i : Int).toNat * 6) (rxL qs).toArray.toList).toArray.toList 5).getD undef)) : Int),
Value.int IntKind.i64 (↑(frN ((getO (List.drop ((↑i : Int).toNat * 6) (rxL qs).toArray.toList).toArray.toList 5).getD undef)) : Int), Value.agg (frC ((getO (List.drop ((↑i : Int).toNat * 6) (rxL
qs).toArray.toList).toArray.toList 5).getD undef)).toArray])])).sz) : Int)]) 1 true]))))))))))))))))))))))) (K (AE.exit 0) (tmps 69 [(0, Value.slice (some { block := 1, off := 0, spot := some 1 : Addr }) m m), (1,
Value.iface 0 (Value.agg #[Value.int IntKind.i64 6, Value.int IntKind.i64 (↑ks.length : Int), Value.agg (rxL ks).toArray])), (5, Value.slice (some { block := 2, off := 0, spot := some 1 : Addr }) q q), (6, Value.int
IntKind.i64 (↑qs.length : Int))]) (hp [Blk.dead, Blk.cells cs 7 true, Blk.cells js 1 true]))) := by kernel_rfl

noncomputable abbrev T784b (m : Nat) (q i : Nat) : List Value := tmps 69 [(0, slR 1 m), (55, slR 2 q), (56, .int .i64 (q : Int)), (57, .int .i64 (i : Int))]

theorem r784b (n : Nat) (m : Nat) (cs js : List Value) (q i : Nat) (K : Post) :
  roundX Try.prog (S784 n) noLoop F784 body784 1 [] [.tmp 0 7, .tmp 55 1] [] [.tmp 0 7] [0,55,56,57] [0,0,1,0,1,1,1,1,1] (T784b m q i) (hp [.dead, .cells cs 7 true, .cells js 1 true]) K = (
Alt (ltI (↑i : Int) (↑q : Int)) (Need (ltI (↑i : Int) (↑q : Int)) (Need (isInt IntKind.i64 ((getO js (0 + (↑i : Int).toNat * 1)).getD undef)) (Need (leI 0 (intV ((getO js (0 + (↑i : Int).toNat * 1)).getD undef))) (Need
(ltI (intV ((getO js (0 + (↑i : Int).toNat * 1)).getD undef)) (↑m : Int)) (Need (leN (0 + (intV ((getO js (0 + (↑i : Int).toNat * 1)).getD undef)).toNat * 7 + 5 + 1) cs.length) (K AE.normal (tmps 69 [(0, Value.slice
(some { block := 1, off := 0, spot := some 1 : Addr }) m m), (55, Value.slice (some { block := 2, off := 0, spot := some 1 : Addr }) q q), (56, Value.int IntKind.i64 (↑q : Int)), (57, Value.int IntKind.i64 (wr
IntKind.i64 ((↑i : Int) + 1)))]) (hp [Blk.dead, Blk.cells (setAll cs (0 + (intV ((getO js (0 + (↑i : Int).toNat * 1)).getD undef)).toNat * 7 + 5) [Value.int IntKind.i64 (↑m : Int)]) 7 true, Blk.cells js 1 true]))))))) (K
(AE.exit 2) (tmps 69 [(0, Value.slice (some { block := 1, off := 0, spot := some 1 : Addr }) m m)]) (hp [Blk.dead, Blk.cells cs 7 true]))) := by kernel_rfl

noncomputable def cut784 (m : Nat) (cs : List Value) (qs : List Rx) (z : Rx) : CutE where
  β := Nat
  p := [0,1,0,1,1,1]
  t := fun _ => tmps 69 [(0, slR 0 m), (1, .iface 0 (.agg #[.int .i64 6, .int .i64 ((qs.length + 1 : Nat) : Int), .agg (rxL (qs ++ [z])).toArray])), (5, slR 1 0), (6, .int .i64 (qs.length : Int)), (17, frV qs), (18, .int .i64 (qs.length : Int)), (19, .int .i64 0)]
  h := fun _ => hp [.cells cs 7 true, .cells [] 1 true]
  Q := fun _ K => K (.exit 0) (tmps 69 [(0, slR 1 (m + szL qs + 2 * qs.length)), (1, .iface 0 (.agg #[.int .i64 6, .int .i64 ((qs.length + 1 : Nat) : Int), .agg (rxL (qs ++ [z])).toArray])), (5, slR 2 qs.length), (6, .int .i64 (qs.length : Int))]) (hp [.dead, .cells (cs ++ stC (preL qs m 0)) 7 true, .cells (jC (jmpL qs m)) 1 true])
noncomputable def cut784b (m : Nat) (cs : List Value) (qs : List Rx) (z : Rx) : CutE where
  β := Nat
  p := [0,1,0,1,1,1,1,1]
  t := fun _ => T784b (m + szL qs + 2 * qs.length + z.sz) qs.length 0
  h := fun _ => hp [.dead, .cells (cs ++ stC (preL qs m 0) ++ stC (z.lay (m + szL qs + 2 * qs.length))) 7 true, .cells (jC (jmpL qs m)) 1 true]
  Q := fun _ K => K (.exit 2) (tmps 69 [(0, slR 1 (m + szL qs + 2 * qs.length + z.sz))]) (hp [.dead, .cells (cs ++ stC (altL (qs ++ [z]) m (m + szL qs + 2 * qs.length + z.sz))) 7 true])

theorem w784 (n : Nat) (m : Nat) (cs : List Value) (qs : List Rx) (z : Rx) (K : Value → Heap → Prop) :
  funX Try.prog (S784 n) (gcLKX (at0 []) (fun p => cond (eqN p.length 6) [.tmp 0 7, .tmp 5 1] [.tmp 0 7, .tmp 55 1]) 1 (cutE [cut784 m cs qs z, cut784b m cs qs z])) F784 body784 Try.f50 [] [.tmp 0 7] [slR 0 m, .iface 0 (.agg #[.int .i64 6, .int .i64 ((qs.length + 1 : Nat) : Int), .agg (rxL (qs ++ [z])).toArray])] (hp [.cells cs 7 true]) K = (
Need (leI 0 (wr IntKind.i64 ((↑(qs.length + 1) : Int) - 1))) (Need (leI (wr IntKind.i64 ((↑(qs.length + 1) : Int) - 1)) (↑(↑(qs.length + 1) : Int).toNat : Int)) (FlatD [] (hp [Blk.cells cs 7 true, Blk.cells [] 1 true]) ∧
∃ (b : Nat), tmps 69 [(0, Value.slice (some { block := 0, off := 0, spot := some 1 : Addr }) m m), (1, Value.iface 0 (Value.agg #[Value.int IntKind.i64 6, Value.int IntKind.i64 (↑(qs.length + 1) : Int), Value.agg (rxL
(qs ++ [z])).toArray])), (5, Value.slice (some { block := 1, off := 0, spot := some 1 : Addr }) 0 0), (6, Value.int IntKind.i64 (wr IntKind.i64 ((↑(qs.length + 1) : Int) - 1))), (17, Value.iface 0 (Value.agg #[Value.int
IntKind.i64 6, Value.int IntKind.i64 (↑((wr IntKind.i64 ((↑(qs.length + 1) : Int) - 1)).toNat - 0) : Int), Value.agg (List.take (((wr IntKind.i64 ((↑(qs.length + 1) : Int) - 1)).toNat - 0) * 6) (List.drop 0 (rxL (qs ++
[z])).toArray.toList)).toArray])), (18, Value.int IntKind.i64 (↑((wr IntKind.i64 ((↑(qs.length + 1) : Int) - 1)).toNat - 0) : Int)), (19, Value.int IntKind.i64 0)] = tmps 69 [(0, Value.slice (some
{ block := 0, off := 0, spot := some 1 : Addr }) m m), (1, Value.iface 0 (Value.agg #[Value.int IntKind.i64 6, Value.int IntKind.i64 (↑(qs.length + 1) : Int), Value.agg (rxL (qs ++ [z])).toArray])), (5, Value.slice (some
{ block := 1, off := 0, spot := some 1 : Addr }) 0 0), (6, Value.int IntKind.i64 (↑qs.length : Int)), (17, Value.iface 0 (Value.agg #[Value.int IntKind.i64 6, Value.int IntKind.i64 (↑qs.length : Int), Value.agg (rxL
qs).toArray])), (18, Value.int IntKind.i64 (↑qs.length : Int)), (19, Value.int IntKind.i64 0)] ∧ hp [Blk.cells cs 7 true, Blk.cells [] 1 true] = hp [Blk.cells cs 7 true, Blk.cells [] 1 true] ∧ Need (ltI (↑qs.length :
Int) (↑(qs.length + 1) : Int)) (Need (isInt IntKind.i64 ((getO (List.drop ((↑qs.length : Int).toNat * 6) (rxL (qs ++ [z])).toArray.toList).toArray.toList 0).getD undef)) (Need (isInt IntKind.u64 ((getO (List.drop
((↑qs.length : Int).toNat * 6) (rxL (qs ++ [z])).toArray.toList).toArray.toList 1).getD undef)) (Need (isInt IntKind.u64 ((getO (List.drop ((↑qs.length : Int).toNat * 6) (rxL (qs ++ [z])).toArray.toList).toArray.toList
2).getD undef)) (Need (isInt IntKind.u64 ((getO (List.drop ((↑qs.length : Int).toNat * 6) (rxL (qs ++ [z])).toArray.toList).toArray.toList 3).getD undef)) (Need (isInt IntKind.u64 ((getO (List.drop ((↑qs.length :
Int).toNat * 6) (rxL (qs ++ [z])).toArray.toList).toArray.toList 4).getD undef)) (Need (isFr ((getO (List.drop ((↑qs.length : Int).toNat * 6) (rxL (qs ++ [z])).toArray.toList).toArray.toList 5).getD undef)) ((FlatL (cs
++ stC (preL qs m 0)) ∧ True) ∧ LayOk (cs ++ stC (preL qs m 0)) (m + szL qs + 2 * qs.length) (m + szL qs + 2 * qs.length) (Value.agg #[Value.int IntKind.i64 (intV ((getO (List.drop ((↑qs.length : Int).toNat * 6) (rxL (qs
++ [z])).toArray.toList).toArray.toList 0).getD undef)), Value.int IntKind.u64 (intV ((getO (List.drop ((↑qs.length : Int).toNat * 6) (rxL (qs ++ [z])).toArray.toList).toArray.toList 1).getD undef)), Value.int
IntKind.u64 (intV ((getO (List.drop ((↑qs.length : Int).toNat * 6) (rxL (qs ++ [z])).toArray.toList).toArray.toList 2).getD undef)), Value.int IntKind.u64 (intV ((getO (List.drop ((↑qs.length : Int).toNat * 6) (rxL (qs
++ [z])).toArray.toList).toArray.toList 3).getD undef)), Value.int IntKind.u64 (intV ((getO (List.drop ((↑qs.length : Int).toNat * 6) (rxL (qs ++ [z])).toArray.toList).toArray.toList 4).getD undef)), Value.iface 0
(Value.agg #[Value.int IntKind.i64 (↑(frE ((getO (List.drop ((↑qs.length : Int).toNat * 6) (rxL (qs ++ [z])).toArray.toList).toArray.toList 5).getD undef)) : Int), Value.int IntKind.i64 (↑(frN ((getO (List.drop
((↑qs.length : Int).toNat * 6) (rxL (qs ++ [z])).toArray.toList).toArray.toList 5).getD undef)) : Int), Value.agg (frC ((getO (List.drop ((↑qs.length : Int).toNat * 6) (rxL (qs ++ [z])).toArray.toList).toArray.toList
5).getD undef)).toArray])]) n ∧ FlatD [] (hp [Blk.dead, Blk.cells (cs ++ stC (preL qs m 0) ++ stC ((decV (Value.agg #[Value.int IntKind.i64 (intV ((getO (List.drop ((↑qs.length : Int).toNat * 6) (rxL (qs ++
[z])).toArray.toList).toArray.toList 0).getD undef)), Value.int IntKind.u64 (intV ((getO (List.drop ((↑qs.length : Int).toNat * 6) (rxL (qs ++ [z])).toArray.toList).toArray.toList 1).getD undef)), Value.int IntKind.u64
(intV ((getO (List.drop ((↑qs.length : Int).toNat * 6) (rxL (qs ++ [z])).toArray.toList).toArray.toList 2).getD undef)), Value.int IntKind.u64 (intV ((getO (List.drop ((↑qs.length : Int).toNat * 6) (rxL (qs ++
[z])).toArray.toList).toArray.toList 3).getD undef)), Value.int IntKind.u64 (intV ((getO (List.drop ((↑qs.length : Int).toNat * 6) (rxL (qs ++ [z])).toArray.toList).toArray.toList 4).getD undef)), Value.iface 0
(Value.agg #[Value.int IntKind.i64 (↑(frE ((getO (List.drop ((↑qs.length : Int).toNat * 6) (rxL (qs ++ [z])).toArray.toList).toArray.toList 5).getD undef)) : Int), Value.int IntKind.i64 (↑(frN ((getO (List.drop
((↑qs.length : Int).toNat * 6) (rxL (qs ++ [z])).toArray.toList).toArray.toList 5).getD undef)) : Int), Value.agg (frC ((getO (List.drop ((↑qs.length : Int).toNat * 6) (rxL (qs ++ [z])).toArray.toList).toArray.toList
5).getD undef)).toArray])])).lay (m + szL qs + 2 * qs.length))) 7 true, Blk.cells (jC (jmpL qs m)) 1 true]) ∧ ∃ (b : Nat), tmps 69 [(0, Value.slice (some { block := 1, off := 0, spot := some 1 : Addr }) (m + szL qs + 2 *
qs.length + (decV (Value.agg #[Value.int IntKind.i64 (intV ((getO (List.drop ((↑qs.length : Int).toNat * 6) (rxL (qs ++ [z])).toArray.toList).toArray.toList 0).getD undef)), Value.int IntKind.u64 (intV ((getO (List.drop
((↑qs.length : Int).toNat * 6) (rxL (qs ++ [z])).toArray.toList).toArray.toList 1).getD undef)), Value.int IntKind.u64 (intV ((getO (List.drop ((↑qs.length : Int).toNat * 6) (rxL (qs ++
[z])).toArray.toList).toArray.toList 2).getD undef)), Value.int IntKind.u64 (intV ((getO (List.drop ((↑qs.length : Int).toNat * 6) (rxL (qs ++ [z])).toArray.toList).toArray.toList 3).getD undef)), Value.int IntKind.u64
(intV ((getO (List.drop ((↑qs.length : Int).toNat * 6) (rxL (qs ++ [z])).toArray.toList).toArray.toList 4).getD undef)), Value.iface 0 (Value.agg #[Value.int IntKind.i64 (↑(frE ((getO (List.drop ((↑qs.length : Int).toNat
* 6) (rxL (qs ++ [z])).toArray.toList).toArray.toList 5).getD undef)) : Int), Value.int IntKind.i64 (↑(frN ((getO (List.drop ((↑qs.length : Int).toNat * 6) (rxL (qs ++ [z])).toArray.toList).toArray.toList 5).getD undef))
: Int), Value.agg (frC ((getO (List.drop ((↑qs.length : Int).toNat * 6) (rxL (qs ++ [z])).toArray.toList).toArray.toList 5).getD undef)).toArray])])).sz) (m + szL qs + 2 * qs.length + (decV (Value.agg #[Value.int
IntKind.i64 (intV ((getO (List.drop ((↑qs.length : Int).toNat * 6) (rxL (qs ++ [z])).toArray.toList).toArray.toList 0).getD undef)), Value.int IntKind.u64 (intV ((getO (List.drop ((↑qs.length : Int).toNat * 6) (rxL (qs
++ [z])).toArray.toList).toArray.toList 1).getD undef)), Value.int IntKind.u64 (intV ((getO (List.drop ((↑qs.length : Int).toNat * 6) (rxL (qs ++ [z])).toArray.toList).toArray.toList 2).getD undef)), Value.int
IntKind.u64 (intV ((getO (List.drop ((↑qs.length : Int).toNat * 6) (rxL (qs ++ [z])).toArray.toList).toArray.toList 3).getD undef)), Value.int IntKind.u64 (intV ((getO (List.drop ((↑qs.length : Int).toNat * 6) (rxL (qs
++ [z])).toArray.toList).toArray.toList 4).getD undef)), Value.iface 0 (Value.agg #[Value.int IntKind.i64 (↑(frE ((getO (List.drop ((↑qs.length : Int).toNat * 6) (rxL (qs ++ [z])).toArray.toList).toArray.toList 5).getD
undef)) : Int), Value.int IntKind.i64 (↑(frN ((getO (List.drop ((↑qs.length : Int).toNat * 6) (rxL (qs ++ [z])).toArray.toList).toArray.toList 5).getD undef)) : Int), Value.agg (frC ((getO (List.drop ((↑qs.length :
Int).toNat * 6) (rxL (qs ++ [z])).toArray.toList).toArray.toList 5).getD undef)).toArray])])).sz)), (55, Value.slice (some { block := 2, off := 0, spot := some 1 : Addr }) qs.length qs.length), (56, Value.int IntKind.i64
(↑qs.length : Int)), (57, Value.int IntKind.i64 0)] = tmps 69 [(0, Value.slice (some { block := 1, off := 0, spot := some 1 : Addr }) (m + szL qs + 2 * qs.length + z.sz) (m + szL qs + 2 * qs.length + z.sz)), (55,
Value.slice (some { block := 2, off := 0, spot := some 1 : Addr }) qs.length qs.length), (56, Value.int IntKind.i64 (↑qs.length : Int)), (57, Value.int IntKind.i64 0)] ∧ hp [Blk.dead, Blk.cells (cs ++ stC (preL qs m 0)
++ stC ((decV (Value.agg #[Value.int IntKind.i64 (intV ((getO (List.drop ((↑qs.length : Int).toNat * 6) (rxL (qs ++ [z])).toArray.toList).toArray.toList 0).getD undef)), Value.int IntKind.u64 (intV ((getO (List.drop
((↑qs.length : Int).toNat * 6) (rxL (qs ++ [z])).toArray.toList).toArray.toList 1).getD undef)), Value.int IntKind.u64 (intV ((getO (List.drop ((↑qs.length : Int).toNat * 6) (rxL (qs ++
[z])).toArray.toList).toArray.toList 2).getD undef)), Value.int IntKind.u64 (intV ((getO (List.drop ((↑qs.length : Int).toNat * 6) (rxL (qs ++ [z])).toArray.toList).toArray.toList 3).getD undef)), Value.int IntKind.u64
(intV ((getO (List.drop ((↑qs.length : Int).toNat * 6) (rxL (qs ++ [z])).toArray.toList).toArray.toList 4).getD undef)), Value.iface 0 (Value.agg #[Value.int IntKind.i64 (↑(frE ((getO (List.drop ((↑qs.length : Int).toNat
* 6) (rxL (qs ++ [z])).toArray.toList).toArray.toList 5).getD undef)) : Int), Value.int IntKind.i64 (↑(frN ((getO (List.drop ((↑qs.length : Int).toNat * 6) (rxL (qs ++ [z])).toArray.toList).toArray.toList 5).getD undef))
: Int), Value.agg (frC ((getO (List.drop ((↑qs.length : Int).toNat * 6) (rxL (qs ++ [z])).toArray.toList).toArray.toList 5).getD undef)).toArray])])).lay (m + szL qs + 2 * qs.length))) 7 true, Blk.cells (jC (jmpL qs m))
1 true] = hp [Blk.dead, Blk.cells (cs ++ stC (preL qs m 0) ++ stC (z.lay (m + szL qs + 2 * qs.length))) 7 true, Blk.cells (jC (jmpL qs m)) 1 true] ∧ K (Value.slice (some { block := 1, off := 0, spot := some 1 : Addr })
(m + szL qs + 2 * qs.length + z.sz) (m + szL qs + 2 * qs.length + z.sz)) (hp [Blk.dead, Blk.cells (cs ++ stC (altL (qs ++ [z]) m (m + szL qs + 2 * qs.length + z.sz))) 7 true]))))))))))) := by kernel_rfl

end Go.Proofs.Ytfgiifppapopnaa

namespace Go.Proofs.Ytfgiifppapopnaa
open Go.RowKit Go.Proofs.Ytfgiifppapopnaa.AM
set_option maxRecDepth 100000
set_option maxHeartbeats 4000000
theorem kidG {L : List Rx} {i : Nat} {x : Rx} (h : L[i]? = some x) : getO (List.drop (i * 6) (rxL L)) 0 = some (.int .i64 (x.op : Int)) ∧ getO (List.drop (i * 6) (rxL L)) 1 = some (.int .u64 (x.set.x0 : Int)) ∧ getO (List.drop (i * 6) (rxL L)) 2 = some (.int .u64 (x.set.x1 : Int)) ∧ getO (List.drop (i * 6) (rxL L)) 3 = some (.int .u64 (x.set.x2 : Int)) ∧ getO (List.drop (i * 6) (rxL L)) 4 = some (.int .u64 (x.set.x3 : Int)) ∧ getO (List.drop (i * 6) (rxL L)) 5 = some (kvV x) := by
  rw [kid_nth h]
  exact ⟨rfl, rfl, rfl, rfl, rfl, rfl⟩
theorem frE_kvV (x : Rx) : frE (kvV x) = 6 := rfl
theorem frN_kvV (x : Rx) : frN (kvV x) = x.kids.length := rfl
theorem frC_kvV (x : Rx) : frC (kvV x) = rxL x.kids := rfl
theorem isFr_kvV (x : Rx) : isFr (kvV x) = true := rfl
theorem intV_ii (x : Int) : intV (.int .i64 x) = x := rfl
theorem isInt_i (x : Int) : isInt .i64 (.int .i64 x) = true := rfl
theorem isInt_u (x : Int) : isInt .u64 (.int .u64 x) = true := rfl
theorem jC_flat (J : List Nat) : FlatL (jC J) := ⟨fun v hv => by
  simp only [jC, List.mem_map] at hv
  obtain ⟨j, _, rfl⟩ := hv
  rfl⟩
theorem jC_snoc (J : List Nat) (j : Nat) : jC J ++ [.int .i64 (j : Int)] = jC (J ++ [j]) := by unfold jC; rw [List.map_append]; rfl
theorem jC_take {J : List Nat} {q : Nat} (h : J.length = q) : List.take (q * 1) (List.drop 0 (jC J)) = jC J := by rw [List.drop_zero, List.take_of_length_le (by unfold jC; rw [List.length_map]; omega)]
theorem jC_len (J : List Nat) : (jC J).length = J.length := List.length_map _
theorem jC_get {J : List Nat} {i j : Nat} (h : J[i]? = some j) : getO (jC J) (0 + i * 1) = some (.int .i64 (j : Int)) := by
  rw [getO_eq, Nat.zero_add, Nat.mul_one]; unfold jC; rw [List.getElem?_map, h]; rfl
theorem D784 (L : List St) (J : List Nat) : FlatD [] (hp [.dead, .cells (stC L) 7 true, .cells (jC J) 1 true]) := FlatD.hp ⟨stC_flat L, jC_flat J, trivial⟩
section
variable (hm : Try.prog.follows .mixedOrders = true)
include hm
theorem sure784 (n : Nat) (hn : (layW n).Holds Try.prog 36) : Sure Try.prog (S784 n) := ⟨hm, plain, bookW_ok sums0 (l := [(36, layW n)]) ⟨hn, trivial⟩⟩
theorem loop784 (n : Nat) (hn : (layW n).Holds Try.prog 36) (ks qs : List Rx) (hd : dpL qs < n) (hi : isL qs = true) (hN : n ≤ 72057594037927936) (hq : qs.length ≤ 100) (M : Nat) (C : List St) (J : List Nat) (hM : M ≤ 100) (K : Post)
    (hK : K (.exit 0) (tmps 69 [(0, slR 1 M), (1, frV ks), (5, slR 2 qs.length), (6, .int .i64 (qs.length : Int))]) (hp [.dead, .cells (stC C) 7 true, .cells (jC J) 1 true])) : ∀ (t : List Rx) (i : Nat) (L : List St) (J' : List Nat), qs.drop i = t → i ≤ qs.length → L.length + szL t + 2 * t.length = M → L ++ preL t L.length 0 = C → J' ++ jmpL t L.length = J → J'.length = i →
    LSays Try.prog 1 (sub body784 [0,0,1,0,1,1,1]) (T784 L.length ks qs i i) (hp [.dead, .cells (stC L) 7 true, .cells (jC J') 1 true]) K := by
  have hlen := dp_len qs
  intro t
  induction t with
  | nil =>
    intro i L J' ht hiq hr hC hJ hl
    have hge : ltI (i : Int) (qs.length : Int) = false := by have := List.drop_eq_nil_iff.1 ht; rw [ltI_eq, decide_eq_false]; omega
    obtain rfl : i = qs.length := by have := List.drop_eq_nil_iff.1 ht; omega
    rw [szL] at hr
    rw [preL, List.append_nil] at hC
    rw [jmpL, List.append_nil] at hJ
    subst hC hJ
    obtain rfl : L.length = M := by simpa using hr
    refine (sure784 hm n hn).roundX F784 noLoops [] [.tmp 0 7, .tmp 5 1] [] [.tmp 0 7, .tmp 5 1] [0,1,5,6,17,18,19] ?_
    rw [r784, hge]
    exact ⟨D784 L J', hK⟩
  | cons y t ih =>
    intro i L J' ht hiq hr hC hJ hl
    have hx : qs[i]? = some y := by
      have := congrArg List.head? ht
      rw [List.head?_drop] at this; exact this
    have hil : i < qs.length := (List.getElem?_eq_some_iff.1 hx).1
    have hxm : y ∈ qs := List.mem_of_getElem? hx
    have hlt : ltI (i : Int) (qs.length : Int) = true := ltI_iff.2 (by omega)
    have hyi := is_mem hi hxm
    rw [szL, List.length_cons] at hr
    obtain ⟨c0, c1, c2, c3, c4, c5⟩ := kidG hx
    refine (sure784 hm n hn).roundX F784 noLoops [] [.tmp 0 7, .tmp 5 1] [] [.tmp 0 7, .tmp 5 1] [0,1,5,6,17,18,19] ?_
    rw [r784, hlt]
    have e : wr .i64 ((i : Int) + 1) = ((i + 1 : Nat) : Int) := nx i (by omega)
    have hlF : leN (0 + L.length * 7) (stC L).length = true := leN_iff.2 (by rw [stC_len]; omega)
    have hr1 : leN ((L.length + 1) * 56) 1099511627776 = true := leN_iff.2 (by omega)
    have hr2 : leN (L.length + 1) 1099511627776 = true := leN_iff.2 (by omega)
    have hy1 := lay_len y (L.length + 1) hyi
    have hll : (L ++ [(⟨2, 0, 0, 0, 0, ((L.length + 1 : Nat) : Int), 0⟩ : St)] ++ y.lay (L.length + 1)).length = L.length + 1 + y.sz := by simp only [List.length_append, List.length_cons, List.length_nil, hy1]
    have g1 : leN (0 + (L.length + 1 + y.sz) * 7) (stC (L ++ [(⟨2, 0, 0, 0, 0, ((L.length + 1 : Nat) : Int), 0⟩ : St)] ++ y.lay (L.length + 1))).length = true := leN_iff.2 (by rw [stC_len, hll]; omega)
    have g2 : leN ((L.length + 1 + y.sz + 1) * 56) 1099511627776 = true := leN_iff.2 (by omega)
    have g3 : leN (L.length + 1 + y.sz + 1) 1099511627776 = true := leN_iff.2 (by omega)
    have g4 : ltI (L.length : Int) ((L.length + 1 + y.sz + 1 : Nat) : Int) = true := ltI_iff.2 (by omega)
    have j1 : leN (0 + i * 1) (jC J').length = true := leN_iff.2 (by rw [jC_len]; omega)
    have j2 : leN ((i + 1) * 8) 1099511627776 = true := leN_iff.2 (by omega)
    have j3 : leN (i + 1) 1099511627776 = true := leN_iff.2 (by omega)
    simp only [Int.toNat_natCast, List.toList_toArray, c0, c1, c2, c3, c4, c5, Option.getD_some, intV, isInt_i, isInt_u, isFr_kvV, frE_kvV, frN_kvV, frC_kvV, six_c, rxV_fold, decV_rx, beq_rx, beqV_if, beqV_sl, need_y, hlF, hr1, hr2, st_take rfl, wr_nx (show L.length ≤ 200 by omega), st_snoc, ← stC_app, e]
    refine Alt_iff.2 ⟨fun _ => ?_, fun h => by cases h⟩
    refine ⟨⟨stC_flat _, trivial⟩, ⟨L ++ [⟨2, 0, 0, 0, 0, ((L.length + 1 : Nat) : Int), 0⟩], y, ⟨rfl, by simp, rfl, Nat.lt_of_le_of_lt (dp_kid hxm) hd, hyi, by omega⟩, rfl⟩, ?_⟩
    simp only [g1, g2, g3, g4, j1, j2, j3, need_y, st_take hll, jC_take hl, jC_snoc, st_snoc]
    refine Need_iff.2 ⟨leN_iff.2 (by rw [stC_len]; simp only [List.length_append, List.length_cons, List.length_nil]; omega), ?_⟩
    simp only [List.append_assoc, List.cons_append, List.nil_append, Nat.zero_add, st_setB]
    have hLl : (L ++ (⟨2, 0, 0, 0, 0, ((L.length + 1 : Nat) : Int), ((L.length + 1 + y.sz + 1 : Nat) : Int)⟩ : St) :: (y.lay (L.length + 1) ++ [⟨3, 0, 0, 0, 0, 0, 0⟩])).length = L.length + 1 + y.sz + 1 := by simp only [List.length_append, List.length_cons, List.length_nil, hy1]; omega
    have := ih (i + 1) (L ++ (⟨2, 0, 0, 0, 0, ((L.length + 1 : Nat) : Int), ((L.length + 1 + y.sz + 1 : Nat) : Int)⟩ : St) :: (y.lay (L.length + 1) ++ [⟨3, 0, 0, 0, 0, 0, 0⟩])) (J' ++ [L.length + 1 + y.sz]) (by rw [← List.drop_drop, ht]; rfl) (by omega) (by rw [hLl]; omega) (by
      rw [← hC, hLl, preL, show L.length + 1 + y.sz + 1 = L.length + y.sz + 2 by omega]
      simp [stP, stJ]) (by rw [← hJ, hLl, jmpL, show L.length + 1 + y.sz + 1 = L.length + y.sz + 2 by omega]; simp) (by simp [hl])
    rw [hLl] at this
    exact ⟨D784 _ _, this⟩
theorem loop784b (n : Nat) (hn : (layW n).Holds Try.prog 36) (M : Nat) (C : List St) (J : List Nat) (hM : M ≤ 100) (hJM : J.length ≤ 100) (K : Post)
    (hK : K (.exit 2) (tmps 69 [(0, slR 1 M)]) (hp [.dead, .cells (stC C) 7 true])) : ∀ (t : List Rx) (i : Nat) (A B : List St), J.drop i = jmpL t A.length → isL t = true → (A ++ preL t A.length 0 ++ B).length = M → A ++ preL t A.length M ++ B = C →
    LSays Try.prog 1 (sub body784 [0,0,1,0,1,1,1,1,1]) (T784b M J.length i) (hp [.dead, .cells (stC (A ++ preL t A.length 0 ++ B)) 7 true, .cells (jC J) 1 true]) K := by
  intro t
  induction t with
  | nil =>
    intro i A B hJ hi hM' hC
    have hge : ltI (i : Int) (J.length : Int) = false := by have := List.drop_eq_nil_iff.1 hJ; rw [ltI_eq, decide_eq_false]; omega
    refine (sure784 hm n hn).roundX F784 noLoops [] [.tmp 0 7, .tmp 55 1] [] [.tmp 0 7] [0,55,56,57] ?_
    rw [r784b, hge]
    rw [show preL [] A.length M = preL [] A.length 0 from rfl] at hC
    rw [hC]
    exact ⟨D783 C, hK⟩
  | cons x t ih =>
    intro i A B hJ hi hM' hC
    rw [isL, Bool.and_eq_true] at hi
    rw [jmpL] at hJ
    have hx : J[i]? = some (A.length + 1 + x.sz) := by
      have := congrArg List.head? hJ
      rw [List.head?_drop] at this; exact this
    have hil : i < J.length := (List.getElem?_eq_some_iff.1 hx).1
    have hlt : ltI (i : Int) (J.length : Int) = true := ltI_iff.2 (by omega)
    have hxl := lay_len x (A.length + 1) hi.1
    have hA : ∀ e : Nat, A ++ preL (x :: t) A.length e ++ B = (A ++ stP (A.length + 1) (A.length + x.sz + 2) :: x.lay (A.length + 1)) ++ ⟨3, 0, 0, 0, 0, (e : Int), 0⟩ :: (preL t (A.length + x.sz + 2) e ++ B) := fun e => by rw [preL]; simp [stJ]
    have hP : (A ++ stP (A.length + 1) (A.length + x.sz + 2) :: x.lay (A.length + 1)).length = A.length + 1 + x.sz := by simp only [List.length_append, List.length_cons, hxl]; omega
    have hMl : A.length + 1 + x.sz < M := by rw [← hM', hA 0, List.length_append, hP, List.length_cons]; omega
    refine (sure784 hm n hn).roundX F784 noLoops [] [.tmp 0 7, .tmp 55 1] [] [.tmp 0 7] [0,55,56,57] ?_
    rw [r784b, hlt]
    have e : wr .i64 ((i : Int) + 1) = ((i + 1 : Nat) : Int) := nx i (by omega)
    have k1 : leI 0 ((A.length + 1 + x.sz : Nat) : Int) = true := leI_iff.2 (by omega)
    have k2 : ltI ((A.length + 1 + x.sz : Nat) : Int) (M : Int) = true := ltI_iff.2 (by omega)
    have k3 : leN (0 + (A.length + 1 + x.sz) * 7 + 5 + 1) (stC (A ++ preL (x :: t) A.length 0 ++ B)).length = true := leN_iff.2 (by rw [stC_len, hM']; omega)
    simp only [Int.toNat_natCast, jC_get hx, Option.getD_some, intV_ii, isInt_i, need_y, k1, k2, k3, e]
    refine Alt_iff.2 ⟨fun _ => ?_, fun h => by cases h⟩
    rw [Nat.zero_add]
    have hA0 := hA 0
    rw [show (((0 : Nat) : Int)) = 0 from rfl] at hA0
    rw [hA0, ← hP, st_setA]
    have hA' : (A ++ stP (A.length + 1) (A.length + x.sz + 2) :: x.lay (A.length + 1)) ++ ⟨3, 0, 0, 0, 0, (M : Int), 0⟩ :: (preL t (A.length + x.sz + 2) 0 ++ B) = (A ++ stP (A.length + 1) (A.length + x.sz + 2) :: x.lay (A.length + 1) ++ [stJ M]) ++ preL t (A.length + x.sz + 2) 0 ++ B := by simp [stJ]
    have hl2 : (A ++ stP (A.length + 1) (A.length + x.sz + 2) :: x.lay (A.length + 1) ++ [stJ M]).length = A.length + x.sz + 2 := by rw [List.length_append, hP]; simp only [List.length_cons, List.length_nil]; omega
    have := ih (i + 1) (A ++ stP (A.length + 1) (A.length + x.sz + 2) :: x.lay (A.length + 1) ++ [stJ M]) B (by rw [hl2, ← List.drop_drop, hJ]; rfl) hi.2 (by
      rw [hl2, ← hA', ← hM', hA0]; simp) (by
      rw [hl2, ← hC, hA M]; simp [stJ])
    rw [hl2, ← hA'] at this
    exact ⟨D784 _ _, this⟩
end
end Go.Proofs.Ytfgiifppapopnaa

namespace Go.Proofs.Ytfgiifppapopnaa
open Go.RowKit Go.Proofs.Ytfgiifppapopnaa.AM
set_option maxRecDepth 100000
set_option maxHeartbeats 4000000
theorem isL_app (k l : List Rx) : isL (k ++ l) = (isL k && isL l) := by
  rw [isL_all, isL_all, isL_all, List.all_append]
theorem dpL_app (k l : List Rx) : dpL (k ++ l) = dpL k + dpL l := by
  induction k with
  | nil => rw [List.nil_append, dpL, Nat.zero_add]
  | cons x k ih => rw [List.cons_append, dpL, dpL, ih, Nat.add_assoc]
theorem frV_snoc (qs : List Rx) (z : Rx) : frV (qs ++ [z]) = .iface 0 (.agg #[.int .i64 6, .int .i64 ((qs.length + 1 : Nat) : Int), .agg (rxL (qs ++ [z])).toArray]) := by
  show Value.iface 0 (.agg #[.int .i64 6, .int .i64 ((qs ++ [z]).length : Int), .agg (rxL (qs ++ [z])).toArray]) = _
  rw [show (qs ++ [z]).length = qs.length + 1 by simp]
theorem rxL_pre (qs : List Rx) (z : Rx) : List.take (qs.length * 6) (rxL (qs ++ [z])) = rxL qs := by
  rw [rxL_append, List.take_append_of_le_length (by rw [rxL_len]; omega), List.take_of_length_le (by rw [rxL_len]; omega)]
theorem rens {g : Nat → Nat} {l2 : List Blk} {h : Heap} {t t2 : List Value} (hk : 1 ≤ (hp l2).size) (hlow : ∀ B, B < 1 → g B = B)
    (hb : ∀ B c e o, (hp l2).get B = some (.cells c e o) → h.get (g B) = some (.cells c e o) ∧ FlatL c)
    (hinj : ∀ B B' c e o c' e' o', (hp l2).get B = some (.cells c e o) → (hp l2).get B' = some (.cells c' e' o') → g B = g B' → B = B')
    (hlen : t.length = t2.length)
    (ht : ∀ (i : Nat) x y, t[i]? = some x → t2[i]? = some y → isJunk y = true ∨ (isJunk x = false ∧ ((x = y ∧ fz x = true) ∨ ∃ B o sp n c, B < (hp l2).size ∧ x = .slice (some ⟨g B, o, sp⟩) n c ∧ y = .slice (some ⟨B, o, sp⟩) n c))) : Ren 1 g t h t2 (hp l2) :=
  ⟨hk, hlow, fun B c e o h1 => ⟨c, (hb B c e o h1).1, fun ρ ρ2 hz _ => Mvs.fz hz (hb B c e o h1).2.1⟩, hinj, hlen, fun i x y hx hy => by
    rcases ht i x y hx hy with q | ⟨q, q2⟩
    · exact .inl q
    · refine .inr ⟨q, fun ρ ρ2 hz hρ => ?_⟩
      rcases q2 with ⟨rfl, q3⟩ | ⟨B, o, sp, n, c, hB, rfl, rfl⟩
      · exact Mv.fz hz q3
      · exact Mv.sl (hρ B hB) _ _ _ _⟩
section
variable (hm : Try.prog.follows .mixedOrders = true)
include hm
omit hm in
theorem ren784w (m : Nat) (qs : List Rx) (w : Value) (hw : fz w = true) (hwj : isJunk w = false) (cs : List Value) (hc : FlatL cs) :
    Ren 1 (fun i => if i = 1 then 0 else if i = 2 then 1 else i) (tmps 69 [(0, slR 0 m), (1, w), (5, slR 1 0), (6, .int .i64 (qs.length : Int)), (17, frV qs), (18, .int .i64 (qs.length : Int)), (19, .int .i64 0)]) (hp [.cells cs 7 true, .cells [] 1 true])
      (tmps 69 [(0, slR 1 m), (1, w), (5, slR 2 0), (6, .int .i64 (qs.length : Int)), (17, frV qs), (18, .int .i64 (qs.length : Int)), (19, .int .i64 0)]) (hp [.dead, .cells cs 7 true, .cells [] 1 true]) := by
  refine rens (by rw [hp_size]; simp) (fun B hB => by obtain rfl : B = 0 := by omega
                                                      rfl) (fun B c e o h1 => ?_) (fun i j c e o c' e' o' hi hj he => ?_) rfl (fun i x y hx hy => ?_)
  · rw [hp_get] at h1
    rcases B with _ | _ | _ | B
    · simp at h1
    · simp only [List.getElem?_cons_succ, List.getElem?_cons_zero, Option.some.injEq, Blk.cells.injEq] at h1
      obtain ⟨rfl, rfl, rfl⟩ := h1
      exact ⟨rfl, hc⟩
    · simp only [List.getElem?_cons_succ, List.getElem?_cons_zero, Option.some.injEq, Blk.cells.injEq] at h1
      obtain ⟨rfl, rfl, rfl⟩ := h1
      exact ⟨by rw [if_neg (by omega), if_pos (by omega), hp_get]; rfl, ⟨fun v hv => by cases hv⟩⟩
    · simp at h1
  · rw [hp_get] at hi hj
    rcases i with _ | _ | _ | i <;> rcases j with _ | _ | _ | j <;> simp at hi hj he ⊢
  · rcases i with _ | _ | _ | _ | _ | _ | i
    · have e1 : slR 0 m = x := Option.some.inj hx
      have e2 : slR 1 m = y := Option.some.inj hy
      subst e1 e2
      exact .inr ⟨rfl, .inr ⟨1, 0, some 1, m, m, by rw [hp_size]; simp, rfl, rfl⟩⟩
    · have e1 : w = x := Option.some.inj hx
      have e2 : w = y := Option.some.inj hy
      subst e1 e2
      exact .inr ⟨hwj, .inl ⟨rfl, hw⟩⟩
    · have e2 : junk = y := Option.some.inj hy
      subst e2; exact .inl rfl
    · have e2 : junk = y := Option.some.inj hy
      subst e2; exact .inl rfl
    · have e2 : junk = y := Option.some.inj hy
      subst e2; exact .inl rfl
    · have e1 : slR 1 0 = x := Option.some.inj hx
      have e2 : slR 2 0 = y := Option.some.inj hy
      subst e1 e2
      exact .inr ⟨rfl, .inr ⟨2, 0, some 1, 0, 0, by rw [hp_size]; simp, rfl, rfl⟩⟩
    · have hx' : ((tmps 69 [(0, slR 1 m), (1, w), (5, slR 2 0), (6, .int .i64 (qs.length : Int)), (17, frV qs), (18, .int .i64 (qs.length : Int)), (19, .int .i64 0)]).drop 6)[i]? = some x := by
        rw [show (tmps 69 [(0, slR 1 m), (1, w), (5, slR 2 0), (6, .int .i64 (qs.length : Int)), (17, frV qs), (18, .int .i64 (qs.length : Int)), (19, .int .i64 0)]).drop 6 = (tmps 69 [(0, slR 0 m), (1, w), (5, slR 1 0), (6, .int .i64 (qs.length : Int)), (17, frV qs), (18, .int .i64 (qs.length : Int)), (19, .int .i64 0)]).drop 6 from rfl, List.getElem?_drop, Nat.add_comm]
        exact hx
      have hy' : ((tmps 69 [(0, slR 1 m), (1, w), (5, slR 2 0), (6, .int .i64 (qs.length : Int)), (17, frV qs), (18, .int .i64 (qs.length : Int)), (19, .int .i64 0)]).drop 6)[i]? = some y := by
        rw [List.getElem?_drop, Nat.add_comm]
        exact hy
      rw [hx'] at hy'
      injection hy' with hy'
      subst hy'
      have hall : (((tmps 69 [(0, slR 1 m), (1, w), (5, slR 2 0), (6, .int .i64 (qs.length : Int)), (17, frV qs), (18, .int .i64 (qs.length : Int)), (19, .int .i64 0)]).drop 6).all fun v => isJunk v || fz v) = true := rfl
      have := List.all_eq_true.1 hall x (List.mem_of_getElem? hx')
      cases hj : isJunk x with
      | true => exact .inl rfl
      | false => rw [hj, Bool.false_or] at this; exact .inr ⟨rfl, .inl ⟨rfl, this⟩⟩
theorem loops784 (n : Nat) (hn : (layW n).Holds Try.prog 36) (L : List St) (qs : List Rx) (z : Rx) (hd : dpL qs < n) (hi : isL qs = true) (hzi : z.is = true) (hN : n ≤ 72057594037927936) (hM : L.length + szL qs + 2 * qs.length + z.sz ≤ 100) : Loops Try.prog body784 1 (cutE [cut784 L.length (stC L) qs z, cut784b L.length (stC L) qs z]) := (Loops.noneE.moreE (cut784b L.length (stC L) qs z) fun _ K hQ => by
    have hpl := preL_len qs L.length 0 hi
    have hzl := lay_len z (L.length + szL qs + 2 * qs.length) hzi
    have hjl := jmpL_len qs L.length
    have hQ' : K (.exit 2) (tmps 69 [(0, slR 1 (L.length + szL qs + 2 * qs.length + z.sz))]) (hp [.dead, .cells (stC (L ++ altL (qs ++ [z]) L.length (L.length + szL qs + 2 * qs.length + z.sz))) 7 true]) := by rw [stC_app]; exact hQ
    have h := loop784b hm n hn (L.length + szL qs + 2 * qs.length + z.sz) _ (jmpL qs L.length) hM (by omega) K hQ' qs 0 L (z.lay (L.length + szL qs + 2 * qs.length)) rfl hi (by rw [List.length_append, List.length_append, hpl, hzl]; omega) (by rw [altL_pre, List.append_assoc])
    rw [hjl, stC_app, stC_app] at h
    exact h).moreE (cut784 L.length (stC L) qs z) fun _ K hQ => by
  have hpl := preL_len qs L.length 0 hi
  have hQ' : K (.exit 0) (tmps 69 [(0, slR 1 (L.length + szL qs + 2 * qs.length)), (1, frV (qs ++ [z])), (5, slR 2 qs.length), (6, .int .i64 (qs.length : Int))]) (hp [.dead, .cells (stC (L ++ preL qs L.length 0)) 7 true, .cells (jC (jmpL qs L.length)) 1 true]) := by rw [stC_app, frV_snoc]; exact hQ
  have h := loop784 hm n hn (qs ++ [z]) qs hd hi hN (by omega) (L.length + szL qs + 2 * qs.length) _ _ (by omega) K hQ' qs 0 L [] rfl (Nat.zero_le _) rfl rfl rfl rfl
  rw [show T784 L.length (qs ++ [z]) qs 0 0 = tmps 69 [(0, slR 1 L.length), (1, frV (qs ++ [z])), (5, slR 2 0), (6, .int .i64 (qs.length : Int)), (17, frV qs), (18, .int .i64 (qs.length : Int)), (19, .int .i64 0)] from rfl, frV_snoc] at h
  exact LSays.ren (ren784w L.length qs _ rfl rfl (stC L) (stC_flat L)) h
theorem alt_says (n : Nat) (hn : (layW n).Holds Try.prog 36) (hN : n ≤ 72057594037927936) : (altW n).Holds Try.prog 50 := by
  intro args blks hf hpre
  simp only [altW] at hpre ⊢
  split at hpre
  case h_2 => exact hpre.elim
  rename_i m m' v cs
  obtain ⟨L, ks, ⟨rfl, rfl, rfl, hd, hi, hk, hs⟩, rfl⟩ := hpre
  simp only [decK_fr]
  rcases List.eq_nil_or_concat ks with rfl | ⟨qs, z, rfl⟩
  · cases hk
  simp only [List.concat_eq_append] at *
  rw [isL_app, Bool.and_eq_true] at hi
  have hz0 : isL [z] = z.is := by rw [isL, isL, Bool.and_true]
  rw [hz0] at hi
  have hzs : szL [z] = z.sz := by rw [szL, szL]; rfl
  have hzd : dpL [z] = z.dp := by rw [dpL, dpL]; rfl
  rw [dpL_app, hzd] at hd
  have hT : szL (qs ++ [z]) + 2 * ((qs ++ [z]).length - 1) = szL qs + z.sz + 2 * qs.length := by rw [szL_app, hzs]; simp
  rw [hT] at hs ⊢
  rw [show L.length + (szL qs + z.sz + 2 * qs.length) = L.length + szL qs + 2 * qs.length + z.sz by omega] at hs ⊢
  refine ⟨⟨trivial, trivial⟩, ?_, ?_⟩
  · rw [← stC_app]
    exact ⟨stC_flat _, trivial⟩
  refine (sure784 hm n hn).funX F784 body784 [] [.tmp 0 7] Try.func50 rfl ((loops784 hm n hn L qs z (by omega) hi.1 hi.2 hN hs).gcX (at0 []) (fun p => cond (eqN p.length 6) [.tmp 0 7, .tmp 5 1] [.tmp 0 7, .tmp 55 1])) ?_
  rw [frV_snoc]
  show funX Try.prog (S784 n) (gcLKX (at0 []) (fun p => cond (eqN p.length 6) [.tmp 0 7, .tmp 5 1] [.tmp 0 7, .tmp 55 1]) 1 (cutE [cut784 L.length (stC L) qs z, cut784b L.length (stC L) qs z])) F784 body784 Try.f50 [] [.tmp 0 7] [slR 0 L.length, .iface 0 (.agg #[.int .i64 6, .int .i64 ((qs.length + 1 : Nat) : Int), .agg (rxL (qs ++ [z])).toArray])] (hp [.cells (stC L) 7 true]) _
  rw [w784]
  have e1 : wr .i64 (((qs.length + 1 : Nat) : Int) - 1) = (qs.length : Int) := by rw [wr_i64 _ (by omega) (by omega)]; omega
  have hx : (qs ++ [z])[qs.length]? = some z := by simp
  obtain ⟨c0, c1, c2, c3, c4, c5⟩ := kidG hx
  have k1 : leI 0 (qs.length : Int) = true := leI_iff.2 (by omega)
  have k2 : leI (qs.length : Int) ((qs.length + 1 : Nat) : Int) = true := leI_iff.2 (by omega)
  have k3 : ltI (qs.length : Int) ((qs.length + 1 : Nat) : Int) = true := ltI_iff.2 (by omega)
  have hpl := preL_len qs L.length 0 hi.1
  have hpL : (L ++ preL qs L.length 0).length = L.length + szL qs + 2 * qs.length := by rw [List.length_append, hpl]; omega
  simp only [e1, Int.toNat_natCast, Nat.sub_zero, List.toList_toArray, List.drop_zero, rxL_pre, k1, k2, k3, need_y, c0, c1, c2, c3, c4, c5, Option.getD_some, intV, isInt_i, isInt_u, isFr_kvV, frE_kvV, frN_kvV, frC_kvV, six_c, rxV_fold, decV_rx, ← stC_app]
  refine ⟨FlatD.hp ⟨stC_flat L, ⟨fun v hv => by cases hv⟩, trivial⟩, 0, trivial, trivial, ⟨stC_flat _, trivial⟩, ⟨L ++ preL qs L.length 0, z, ⟨rfl, hpL, rfl, by omega, hi.2, hs⟩, rfl⟩, D784 _ _, 0, trivial, trivial, ?_⟩
  exact ⟨D783 _, by first | exact trivial | exact rfl, by first | exact trivial | exact rfl, by first | exact trivial | exact rfl⟩
theorem lay_all : ∀ n, n ≤ 72057594037927937 → (layW n).Holds Try.prog 36 := by
  intro n
  induction n with
  | zero =>
    intro _ args blks hf hpre
    simp only [layW] at hpre
    split at hpre
    · obtain ⟨L, x, h, _⟩ := hpre; exact absurd h.hd (Nat.not_lt_zero _)
    · exact hpre.elim
  | succ n ih => exact fun h => lay_step hm n (ih (by omega)) (alt_says hm n (ih (by omega)) (by omega)) (by omega)
end
end Go.Proofs.Ytfgiifppapopnaa

namespace Go.Proofs.Ytfgiifppapopnaa
open Go.RowKit Go.Proofs.Ytfgiifppapopnaa.AM
set_option maxRecDepth 100000
set_option maxHeartbeats 4000000
noncomputable def body780 : Code := (Try.f21.body).getD .skip
def F780 : List Nat → Option (List Nat) := fun p => match p with
  | [1] => some [1]
  | [1, 1] => some [1, 4]
  | [1, 0, 1, 1] => some [1, 12]
  | [1, 0, 1, 0, 1, 1] => some [2, 3]
  | [1, 1, 1] => some [1]
  | [1, 1, 1, 1] => some [2, 3]
  | _ => none
/-- a nil row at the call, told as an empty one within -/
theorem FunSays.nil0 {P : Program} {f : FuncId} {rest : List Value} {e : Nat} {K : Value → Heap → Prop} (hs : FunSays P f (.slice (some ⟨0,0,some 1⟩) 0 0 :: rest) (hp [.cells [] e true]) K) : FunSays P f (.slice none 0 0 :: rest) (hp []) K := by
  obtain ⟨fn, h1, h2, h3⟩ := hs
  refine ⟨fn, h1, h2, fun ρ w args' ht r ha => ?_⟩
  obtain ⟨y, ys, rfl, v1, hys⟩ := ha.of_cons
  obtain ⟨rfl, _, _⟩ := v1.nilslice
  have hfr : ρ (hp []).size = none := ht _ (Nat.le_refl _)
  have r2 : WR ρ (hp [.cells [] e true]) w := r.ghost hfr e true
  refine (h3 ρ w _ (fun B hB => ht B (Nat.zero_le _)) r2 (VRs.cons (.nl _ _ _ _ rfl (fun h => by cases h)) hys)).mono ?_
  rintro e' w' ⟨v, h', ρ', v', rfl, hk, ht', r', f', hv⟩
  refine ⟨v, h', ρ', v', rfl, hk, ht', r', ?_, hv⟩
  have f1 : Frk 0 ρ (hp []) w ρ (hp [.cells [] e true]) w := Frk.of (Fr.ghost hfr) (Nat.zero_le _)
  have f2 : Frk 0 ρ (hp [.cells [] e true]) w ρ' h' w' := ⟨f'.os, f'.tape, f'.output, Nat.zero_le _, f'.ws, fun B hB => absurd hB (Nat.not_lt_zero _), f'.keep, f'.live, f'.zs, f'.zn⟩
  exact f1.trans f2
inductive LayZ (v : Value) : Prop
  | mk (x : Rx) (h : rxV x = v) (hd : x.dp < 72057594037927936) (hi : x.is = true) (hs : x.sz ≤ 100) : LayZ v
noncomputable def layZ : Ctr where
  pre := fun args blks => match args, blks with
    | [.slice none 0 0, v], [] => LayZ v
    | _, _ => False
  val := fun args blks => match args, blks with
    | [.slice none 0 0, v], [] => slR 0 (decV v).sz
    | _, _ => undef
  new := fun args blks => match args, blks with
    | [.slice none 0 0, v], [] => [.cells (stC ((decV v).lay 0)) 7 true]
    | _, _ => []
theorem ren780 (m : Nat) (cs : List Value) (hc : FlatL cs) : Ren 0 (fun i => if i = 0 then 1 else i) [slR 1 m] (hp [.dead, .cells cs 7 true]) [slR 0 m] (hp [.cells cs 7 true]) := by
  refine ⟨Nat.zero_le _, fun B hB => absurd hB (Nat.not_lt_zero _), fun i c e o hi => ?_, fun i j c e o c' e' o' hi hj he => ?_, rfl, fun i x y hx hy => ?_⟩
  · rw [hp_get] at hi
    rcases i with _ | i
    · simp only [List.getElem?_cons_zero, Option.some.injEq, Blk.cells.injEq] at hi
      obtain ⟨rfl, rfl, rfl⟩ := hi
      exact ⟨cs, by rw [if_pos rfl, hp_get]; rfl, fun ρ ρ2 hz _ => Mvs.fz hz hc.1⟩
    · simp at hi
  · rw [hp_get] at hi hj
    rcases i with _ | i <;> rcases j with _ | j <;> simp at hi hj he ⊢
  · cases i with
    | zero =>
      simp at hx hy
      subst hx hy
      exact .inr ⟨rfl, fun ρ ρ2 _ hρ => Mv.sl (hρ 0 (by rw [hp_size]; simp)) _ _ _ _⟩
    | succ i => simp at hx
theorem layZ_says (hm : Try.prog.follows .mixedOrders = true) : layZ.Holds Try.prog 36 := by
  intro args blks hf hpre
  simp only [layZ] at hpre ⊢
  split at hpre
  case h_2 => exact hpre.elim
  rename_i v
  obtain ⟨x, rfl, hd, hi, hs⟩ := hpre
  simp only [decV_rx]
  refine ⟨⟨stC_flat _, trivial⟩, ?_⟩
  obtain ⟨_, _, h⟩ := lay_all hm 72057594037927936 (by decide) [slR 0 0, rxV x] [.cells [] 7 true] ⟨⟨fun v hv => by cases hv⟩, trivial⟩ ⟨[], x, ⟨rfl, rfl, rfl, hd, hi, by omega⟩, rfl⟩
  refine FunSays.ren (FunSays.nil0 h) fun v h' hk => ?_
  obtain ⟨rfl, rfl⟩ := hk
  simp only [layW, decV_rx, List.nil_append, Nat.zero_add]
  exact ⟨_, _, _, ren780 x.sz (stC (x.lay 0)) (stC_flat _), rfl, rfl, rfl⟩
noncomputable def S780 : Book := bookOf [(36, layZ), (35, szeC)]

theorem w780 (x : Rx) (K : Value → Heap → Prop) :
  funX Try.prog S780 noLoop F780 body780 Try.f21 [] [.tup 0 0 7] [.agg #[.int .i64 (x.op : Int), .int .u64 (x.set.x0 : Int), .int .u64 (x.set.x1 : Int), .int .u64 (x.set.x2 : Int), .int .u64 (x.set.x3 : Int), kvV x]] (hp []) K = (
True ∧ RxD (Value.agg #[Value.int IntKind.i64 (intV (Value.int IntKind.i64 (↑x.op : Int))), Value.int IntKind.u64 (intV (Value.int IntKind.u64 (↑x.set.x0 : Int))), Value.int IntKind.u64 (intV (Value.int IntKind.u64
(↑x.set.x1 : Int))), Value.int IntKind.u64 (intV (Value.int IntKind.u64 (↑x.set.x2 : Int))), Value.int IntKind.u64 (intV (Value.int IntKind.u64 (↑x.set.x3 : Int))), Value.iface 0 (Value.agg #[Value.int IntKind.i64 6,
Value.int IntKind.i64 (↑x.kids.length : Int), Value.agg (rxL x.kids).toArray])]) 72057594037927936 ∧ Alt (eqI (bif (decV (Value.agg #[Value.int IntKind.i64 (intV (Value.int IntKind.i64 (↑x.op : Int))), Value.int
IntKind.u64 (intV (Value.int IntKind.u64 (↑x.set.x0 : Int))), Value.int IntKind.u64 (intV (Value.int IntKind.u64 (↑x.set.x1 : Int))), Value.int IntKind.u64 (intV (Value.int IntKind.u64 (↑x.set.x2 : Int))), Value.int
IntKind.u64 (intV (Value.int IntKind.u64 (↑x.set.x3 : Int))), Value.iface 0 (Value.agg #[Value.int IntKind.i64 6, Value.int IntKind.i64 (↑x.kids.length : Int), Value.agg (rxL x.kids).toArray])])).is then (↑((decV
(Value.agg #[Value.int IntKind.i64 (intV (Value.int IntKind.i64 (↑x.op : Int))), Value.int IntKind.u64 (intV (Value.int IntKind.u64 (↑x.set.x0 : Int))), Value.int IntKind.u64 (intV (Value.int IntKind.u64 (↑x.set.x1 :
Int))), Value.int IntKind.u64 (intV (Value.int IntKind.u64 (↑x.set.x2 : Int))), Value.int IntKind.u64 (intV (Value.int IntKind.u64 (↑x.set.x3 : Int))), Value.iface 0 (Value.agg #[Value.int IntKind.i64 6, Value.int
IntKind.i64 (↑x.kids.length : Int), Value.agg (rxL x.kids).toArray])])).sz + 1) : Int) else 0) 0) (K (Value.tuple #[Value.slice (some { block := 0, off := 0, spot := some 1 : Addr }) 0 0, Value.bool false]) (hp
[Blk.cells [] 7 true])) (Alt (ltI 40 (bif (decV (Value.agg #[Value.int IntKind.i64 (intV (Value.int IntKind.i64 (↑x.op : Int))), Value.int IntKind.u64 (intV (Value.int IntKind.u64 (↑x.set.x0 : Int))), Value.int
IntKind.u64 (intV (Value.int IntKind.u64 (↑x.set.x1 : Int))), Value.int IntKind.u64 (intV (Value.int IntKind.u64 (↑x.set.x2 : Int))), Value.int IntKind.u64 (intV (Value.int IntKind.u64 (↑x.set.x3 : Int))), Value.iface 0
(Value.agg #[Value.int IntKind.i64 6, Value.int IntKind.i64 (↑x.kids.length : Int), Value.agg (rxL x.kids).toArray])])).is then (↑((decV (Value.agg #[Value.int IntKind.i64 (intV (Value.int IntKind.i64 (↑x.op : Int))),
Value.int IntKind.u64 (intV (Value.int IntKind.u64 (↑x.set.x0 : Int))), Value.int IntKind.u64 (intV (Value.int IntKind.u64 (↑x.set.x1 : Int))), Value.int IntKind.u64 (intV (Value.int IntKind.u64 (↑x.set.x2 : Int))),
Value.int IntKind.u64 (intV (Value.int IntKind.u64 (↑x.set.x3 : Int))), Value.iface 0 (Value.agg #[Value.int IntKind.i64 6, Value.int IntKind.i64 (↑x.kids.length : Int), Value.agg (rxL x.kids).toArray])])).sz + 1) : Int)
else 0)) (K (Value.tuple #[Value.slice (some { block := 0, off := 0, spot := some 1 : Addr }) 0 0, Value.bool false]) (hp [Blk.cells [] 7 true])) (True ∧ LayZ (Value.agg #[Value.int IntKind.i64 (intV (Value.int
IntKind.i64 (↑x.op : Int))), Value.int IntKind.u64 (intV (Value.int IntKind.u64 (↑x.set.x0 : Int))), Value.int IntKind.u64 (intV (Value.int IntKind.u64 (↑x.set.x1 : Int))), Value.int IntKind.u64 (intV (Value.int
IntKind.u64 (↑x.set.x2 : Int))), Value.int IntKind.u64 (intV (Value.int IntKind.u64 (↑x.set.x3 : Int))), Value.iface 0 (Value.agg #[Value.int IntKind.i64 6, Value.int IntKind.i64 (↑x.kids.length : Int), Value.agg (rxL
x.kids).toArray])]) ∧ Need (leN (0 + (decV (Value.agg #[Value.int IntKind.i64 (intV (Value.int IntKind.i64 (↑x.op : Int))), Value.int IntKind.u64 (intV (Value.int IntKind.u64 (↑x.set.x0 : Int))), Value.int IntKind.u64
(intV (Value.int IntKind.u64 (↑x.set.x1 : Int))), Value.int IntKind.u64 (intV (Value.int IntKind.u64 (↑x.set.x2 : Int))), Value.int IntKind.u64 (intV (Value.int IntKind.u64 (↑x.set.x3 : Int))), Value.iface 0 (Value.agg
#[Value.int IntKind.i64 6, Value.int IntKind.i64 (↑x.kids.length : Int), Value.agg (rxL x.kids).toArray])])).sz * 7) (stC ((decV (Value.agg #[Value.int IntKind.i64 (intV (Value.int IntKind.i64 (↑x.op : Int))), Value.int
IntKind.u64 (intV (Value.int IntKind.u64 (↑x.set.x0 : Int))), Value.int IntKind.u64 (intV (Value.int IntKind.u64 (↑x.set.x1 : Int))), Value.int IntKind.u64 (intV (Value.int IntKind.u64 (↑x.set.x2 : Int))), Value.int
IntKind.u64 (intV (Value.int IntKind.u64 (↑x.set.x3 : Int))), Value.iface 0 (Value.agg #[Value.int IntKind.i64 6, Value.int IntKind.i64 (↑x.kids.length : Int), Value.agg (rxL x.kids).toArray])])).lay 0)).length) (Need
(leN (((decV (Value.agg #[Value.int IntKind.i64 (intV (Value.int IntKind.i64 (↑x.op : Int))), Value.int IntKind.u64 (intV (Value.int IntKind.u64 (↑x.set.x0 : Int))), Value.int IntKind.u64 (intV (Value.int IntKind.u64
(↑x.set.x1 : Int))), Value.int IntKind.u64 (intV (Value.int IntKind.u64 (↑x.set.x2 : Int))), Value.int IntKind.u64 (intV (Value.int IntKind.u64 (↑x.set.x3 : Int))), Value.iface 0 (Value.agg #[Value.int IntKind.i64 6,
Value.int IntKind.i64 (↑x.kids.length : Int), Value.agg (rxL x.kids).toArray])])).sz + 1) * 56) 1099511627776) (Need (leN ((decV (Value.agg #[Value.int IntKind.i64 (intV (Value.int IntKind.i64 (↑x.op : Int))), Value.int
IntKind.u64 (intV (Value.int IntKind.u64 (↑x.set.x0 : Int))), Value.int IntKind.u64 (intV (Value.int IntKind.u64 (↑x.set.x1 : Int))), Value.int IntKind.u64 (intV (Value.int IntKind.u64 (↑x.set.x2 : Int))), Value.int
IntKind.u64 (intV (Value.int IntKind.u64 (↑x.set.x3 : Int))), Value.iface 0 (Value.agg #[Value.int IntKind.i64 6, Value.int IntKind.i64 (↑x.kids.length : Int), Value.agg (rxL x.kids).toArray])])).sz + 1) 1099511627776)
(K (Value.tuple #[Value.slice (some { block := 0, off := 0, spot := some 1 : Addr }) ((decV (Value.agg #[Value.int IntKind.i64 (intV (Value.int IntKind.i64 (↑x.op : Int))), Value.int IntKind.u64 (intV (Value.int
IntKind.u64 (↑x.set.x0 : Int))), Value.int IntKind.u64 (intV (Value.int IntKind.u64 (↑x.set.x1 : Int))), Value.int IntKind.u64 (intV (Value.int IntKind.u64 (↑x.set.x2 : Int))), Value.int IntKind.u64 (intV (Value.int
IntKind.u64 (↑x.set.x3 : Int))), Value.iface 0 (Value.agg #[Value.int IntKind.i64 6, Value.int IntKind.i64 (↑x.kids.length : Int), Value.agg (rxL x.kids).toArray])])).sz + 1) ((decV (Value.agg #[Value.int IntKind.i64
(intV (Value.int IntKind.i64 (↑x.op : Int))), Value.int IntKind.u64 (intV (Value.int IntKind.u64 (↑x.set.x0 : Int))), Value.int IntKind.u64 (intV (Value.int IntKind.u64 (↑x.set.x1 : Int))), Value.int IntKind.u64 (intV
(Value.int IntKind.u64 (↑x.set.x2 : Int))), Value.int IntKind.u64 (intV (Value.int IntKind.u64 (↑x.set.x3 : Int))), Value.iface 0 (Value.agg #[Value.int IntKind.i64 6, Value.int IntKind.i64 (↑x.kids.length : Int),
Value.agg (rxL x.kids).toArray])])).sz + 1), Value.bool true]) (hp [Blk.cells (List.take ((decV (Value.agg #[Value.int IntKind.i64 (intV (Value.int IntKind.i64 (↑x.op : Int))), Value.int IntKind.u64 (intV (Value.int
IntKind.u64 (↑x.set.x0 : Int))), Value.int IntKind.u64 (intV (Value.int IntKind.u64 (↑x.set.x1 : Int))), Value.int IntKind.u64 (intV (Value.int IntKind.u64 (↑x.set.x2 : Int))), Value.int IntKind.u64 (intV (Value.int
IntKind.u64 (↑x.set.x3 : Int))), Value.iface 0 (Value.agg #[Value.int IntKind.i64 6, Value.int IntKind.i64 (↑x.kids.length : Int), Value.agg (rxL x.kids).toArray])])).sz * 7) (List.drop 0 (stC ((decV (Value.agg
#[Value.int IntKind.i64 (intV (Value.int IntKind.i64 (↑x.op : Int))), Value.int IntKind.u64 (intV (Value.int IntKind.u64 (↑x.set.x0 : Int))), Value.int IntKind.u64 (intV (Value.int IntKind.u64 (↑x.set.x1 : Int))),
Value.int IntKind.u64 (intV (Value.int IntKind.u64 (↑x.set.x2 : Int))), Value.int IntKind.u64 (intV (Value.int IntKind.u64 (↑x.set.x3 : Int))), Value.iface 0 (Value.agg #[Value.int IntKind.i64 6, Value.int IntKind.i64
(↑x.kids.length : Int), Value.agg (rxL x.kids).toArray])])).lay 0))) ++ [Value.int IntKind.i64 4, Value.int IntKind.u64 0, Value.int IntKind.u64 0, Value.int IntKind.u64 0, Value.int IntKind.u64 0, Value.int IntKind.i64
0, Value.int IntKind.i64 0]) 7 true]))))))) := by kernel_rfl

def makB (x : Rx) : Bool := x.is && decide (x.sz + 1 ≤ 40)
def makF (x : Rx) : List St := bif makB x then x.lay 0 ++ [stM] else []
noncomputable def makC : Ctr where
  pre := fun args blks => match args, blks with
    | [v], [] => RxD v 72057594037927936
    | _, _ => False
  val := fun args blks => match args, blks with
    | [v], [] => .tuple #[slR 0 (makF (decV v)).length, .bool (makB (decV v))]
    | _, _ => undef
  new := fun args blks => match args, blks with
    | [v], [] => [.cells (stC (makF (decV v))) 7 true]
    | _, _ => []
theorem mak_says (hm : Try.prog.follows .mixedOrders = true) : makC.Holds Try.prog 21 := by
  intro args blks hf hpre
  simp only [makC] at hpre ⊢
  split at hpre
  case h_2 => exact hpre.elim
  rename_i v
  obtain ⟨x, rfl, hd⟩ := hpre
  simp only [decV_rx]
  refine ⟨⟨stC_flat _, trivial⟩, ?_⟩
  have su : Sure Try.prog S780 := ⟨hm, plain, bookOf_ok (l := [(36, layZ), (35, szeC)]) ⟨layZ_says hm, sze_says hm, trivial⟩⟩
  refine su.funX F780 body780 [] [.tup 0 0 7] Try.func21 rfl noLoops ?_
  have hD : RxD (rxV x) 72057594037927936 := ⟨x, rfl, hd⟩
  have hZ : x.is = true → x.sz ≤ 100 → LayZ (rxV x) := fun h1 h2 => ⟨x, rfl, hd, h1, h2⟩
  have hw := w780 x
  rw [show (rxV x) = .agg #[.int .i64 (x.op : Int), .int .u64 (x.set.x0 : Int), .int .u64 (x.set.x1 : Int), .int .u64 (x.set.x2 : Int), .int .u64 (x.set.x3 : Int), kvV x] from rfl, hw]
  simp only [intV, frN_kv, frC_kv, Array.toArray_toList, six_c, rxV_fold, decV_rx]
  have hD' := hD
  have T1 : FlatD [] (hp [.cells [] 7 true]) := FlatD.hp ⟨⟨fun v hv => by cases hv⟩, trivial⟩
  refine ⟨trivial, hD', ?_⟩
  cases hi : x.is with
  | false =>
    have hB : makB x = false := by unfold makB; rw [hi]; rfl
    have hF : makF x = [] := by unfold makF; rw [hB]; rfl
    rw [hB, hF]
    exact ⟨T1, rfl, rfl, rfl⟩
  | true =>
    have e0 : eqI (bif true then ((x.sz + 1 : Nat) : Int) else 0) 0 = false := by rw [cond_true, eqI_eq, decide_eq_false]; omega
    rw [e0]
    by_cases h40 : x.sz + 1 ≤ 40
    · have e1 : ltI 40 (bif true then ((x.sz + 1 : Nat) : Int) else 0) = false := by rw [cond_true, ltI_eq, decide_eq_false]; omega
      have hB : makB x = true := by unfold makB; rw [hi, decide_eq_true h40]; rfl
      have hF : makF x = x.lay 0 ++ [stM] := by unfold makF; rw [hB]; rfl
      have hl := lay_len x 0 hi
      have hl2 : (x.lay 0 ++ [stM]).length = x.sz + 1 := by rw [List.length_append, hl]; rfl
      rw [e1, hB, hF, hl2]
      refine ⟨trivial, hZ hi (by omega), Need_iff.2 ⟨leN_iff.2 (by rw [stC_len, hl]; omega), Need_iff.2 ⟨leN_iff.2 (by omega), Need_iff.2 ⟨leN_iff.2 (by omega), ?_⟩⟩⟩⟩
      rw [st_take hl, st_snoc]
      exact ⟨FlatD.hp ⟨stC_flat _, trivial⟩, rfl, rfl, rfl⟩
    · have e1 : ltI 40 (bif true then ((x.sz + 1 : Nat) : Int) else 0) = true := ltI_iff.2 (by rw [cond_true]; omega)
      have hB : makB x = false := by unfold makB; rw [hi, decide_eq_false h40]; rfl
      have hF : makF x = [] := by unfold makF; rw [hB]; rfl
      rw [e1, hB, hF]
      exact ⟨T1, rfl, rfl, rfl⟩
end Go.Proofs.Ytfgiifppapopnaa

namespace Go.Proofs.Ytfgiifppapopnaa
open Go.RowKit Go.Proofs.Ytfgiifppapopnaa.AM
set_option maxRecDepth 100000
set_option maxHeartbeats 4000000
/-! ### what the parser makes: its sets hold 64 bits each, and it has few nodes -/
mutual
def Rx.fit : Rx → Prop
  | .mk _ s k => s.ok ∧ fitL k
def fitL : List Rx → Prop
  | [] => True
  | x :: l => x.fit ∧ fitL l
end
theorem fitL_app {k l : List Rx} : fitL (k ++ l) ↔ fitL k ∧ fitL l := by
  induction k with
  | nil => rw [List.nil_append, fitL]; exact ⟨fun h => ⟨trivial, h⟩, fun h => h.2⟩
  | cons x k ih => rw [List.cons_append, fitL, fitL, ih]; exact ⟨fun h => ⟨⟨h.1, h.2.1⟩, h.2.2⟩, fun h => ⟨h.1.1, h.1.2, h.2⟩⟩
theorem dpL_cat (k l : List Rx) : dpL (k ++ l) = dpL k + dpL l := by
  induction k with
  | nil => rw [List.nil_append, dpL, Nat.zero_add]
  | cons x k ih => rw [List.cons_append, dpL, dpL, ih, Nat.add_assoc]
theorem leaf_fit {S : S4} (h : S.ok) : (leafT S).fit := by unfold leafT; rw [Rx.fit, fitL]; exact ⟨h, trivial⟩
theorem leaf_dp (S : S4) : (leafT S).dp = 1 := by unfold leafT; rw [Rx.dp, dpL]
theorem one_fit {o : Nat} {x : Rx} (h : x.fit) : (Rx.mk o nilS [x]).fit := by rw [Rx.fit, fitL, fitL]; exact ⟨nilS_ok, h, trivial⟩
theorem one_dp (o : Nat) (x : Rx) : (Rx.mk o nilS [x]).dp = x.dp + 1 := by rw [Rx.dp, dpL, dpL]
/-- a factor, a way: fit, and no more nodes than bytes let it have -/
structure FOk (s : ByteArray) (p : PS) (r : PS × Rx) : Prop where
  fit : r.2.fit
  few : r.2.dp + 2 + 4 * p.a ≤ 4 * r.1.a
structure YOk (s : ByteArray) (p : PS) (r : PS × Rx) : Prop where
  fit : r.2.fit
  few : r.2.dp + 4 * p.a ≤ 4 * r.1.a + 1
theorem atm_ok {W : Nat → PS → PS × Rx} {s : ByteArray} {d : Nat} (hg : Goes s (W (d + 1))) (hW : ∀ p, p.a ≤ s.size → YOk s p (W (d + 1) p)) : ∀ p, p.a ≤ s.size → ovF s p = false → FOk s p (atmR W s d p) := by
  intro p h ho
  have hb := byF_stp h
  have ea := atm_eats hg p h ho
  have hby : (byF s p).a = p.a + 1 := by rw [(byF_no ho).1]
  have lf : ∀ (q : PS) (S : S4), S.ok → p.a + 1 ≤ q.a → FOk s p (q, leafT S) := fun q S hS hq => ⟨leaf_fit hS, by rw [leaf_dp]; simp only; omega⟩
  unfold atmR at ea ⊢
  split
  · rename_i h40
    rw [if_pos h40] at ea
    have hP : (atmP W s d (byF s p)).2.fit ∧ (atmP W s d (byF s p)).2.dp + 4 * (byF s p).a ≤ 4 * (atmP W s d (byF s p)).1.a + 1 := by
      unfold atmP
      split
      · exact ⟨leaf_fit nilS_ok, by rw [leaf_dp]; simp only; omega⟩
      · have := hW ⟨(byF s p).a, false⟩ hb.sz
        exact ⟨this.fit, this.few⟩
    have h1 := atmP_stp hg hb.sz
    have h2 := nxF_stp (c := 41) h1.sz
    have h3 := h2.le
    exact ⟨hP.1, by have := hP.2; simp only at ea ⊢; omega⟩
  split
  · rename_i h40 h91
    rw [if_neg h40, if_pos h91] at ea
    exact lf _ _ (clsS_ok hb.sz) ea
  split
  · rename_i h40 h91 h46
    rw [if_neg h40, if_neg h91, if_pos h46] at ea
    exact lf _ _ (turnS_ok nilS_ok) ea
  split
  · rename_i h40 h91 h46 h92
    rw [if_neg h40, if_neg h91, if_neg h46, if_pos h92] at ea
    exact lf _ _ (addS_ok nilS_ok _) ea
  · rename_i h40 h91 h46 h92
    rw [if_neg h40, if_neg h91, if_neg h46, if_neg h92] at ea
    exact lf _ _ (addS_ok nilS_ok _) ea
theorem fac_ok {A : PS → PS × Rx} {s : ByteArray} (hA : ∀ p, p.a ≤ s.size → ovF s p = false → FOk s p (A p)) : ∀ p, p.a ≤ s.size → ovF s p = false → FOk s p (facR A s p) := by
  intro p h ho
  have := hA p h ho
  have h1 := this.fit
  have h2 := this.few
  unfold facR
  have st : ∀ (c : Int) (o : Nat), seF s (A p).1 c = true → FOk s p (nxF s (A p).1 c, .mk o nilS [(A p).2]) := fun c o hc => ⟨one_fit h1, by rw [one_dp, nxF_t hc]; simp only; omega⟩
  split
  · rename_i h; exact st _ _ h
  split
  · rename_i h; exact st _ _ h
  split
  · rename_i h; exact st _ _ h
  · exact this
structure LOk (s : ByteArray) (a : Nat) (k : Nat) (r : PS × List Rx) : Prop where
  fit : fitL r.2
  few : dpL r.2 + 4 * a ≤ 4 * r.1.a + k
theorem wayL_ok {A : PS → PS × Rx} {s : ByteArray} (hg : Goes s A) (hA : ∀ p, p.a ≤ s.size → ovF s p = false → FOk s p (A p)) (a : Nat) : ∀ (m : Nat) (p : PS) (ks : List Rx), p.a ≤ s.size → fitL ks → dpL ks + 4 * a ≤ 4 * p.a → LOk s a 0 (wayL A s m p ks) := by
  intro m
  induction m with
  | zero => intro p ks _ h1 h2; exact ⟨h1, h2⟩
  | succ m ih =>
    intro p ks hp h1 h2
    unfold wayL
    split
    · exact ⟨h1, h2⟩
    · rename_i hc
      have ho : ovF s p = false := by
        cases ho : ovF s p with
        | false => rfl
        | true => rw [ho] at hc; exact absurd rfl hc
      have hf := hA p hp ho
      refine ih _ _ (hg p hp).sz (fitL_app.2 ⟨h1, by rw [fitL, fitL]; exact ⟨hf.fit, trivial⟩⟩) ?_
      have := hf.few
      rw [dpL_cat, dpL, dpL]
      omega
theorem tree_fit {ks : List Rx} {o : Nat} (h : fitL ks) : (Rx.mk o nilS ks).fit := by rw [Rx.fit]; exact ⟨nilS_ok, h⟩
theorem way_ok {A : PS → PS × Rx} {s : ByteArray} (hg : Goes s A) (hA : ∀ p, p.a ≤ s.size → ovF s p = false → FOk s p (A p)) : ∀ p, p.a ≤ s.size → YOk s p (wayR A s p) := by
  intro p hp
  have h := wayL_ok hg hA p.a (s.size + 1) p [] hp (by rw [fitL]; trivial) (by rw [dpL]; omega)
  unfold wayR
  generalize wayL A s (s.size + 1) p [] = y at *
  obtain ⟨q, ks⟩ := y
  have h1 := h.fit
  have h2 := h.few
  simp only at h1 h2
  match ks with
  | [x] =>
    rw [fitL, fitL] at h1
    rw [dpL, dpL] at h2
    exact ⟨h1.1, by simp only [seqT]; omega⟩
  | [] => exact ⟨tree_fit h1, by show (Rx.mk 2 nilS []).dp + _ ≤ _; rw [Rx.dp]; simp only; omega⟩
  | x :: y :: l => exact ⟨tree_fit h1, by show (Rx.mk 2 nilS (x :: y :: l)).dp + _ ≤ _; rw [Rx.dp]; simp only; omega⟩
theorem wysL_ok {B : PS → PS × Rx} {s : ByteArray} (hg : Goes s B) (hB : ∀ p, p.a ≤ s.size → YOk s p (B p)) (a : Nat) : ∀ (m : Nat) (p : PS) (ks : List Rx), p.a ≤ s.size → fitL ks → 1 ≤ ks.length → dpL ks + 4 * a + 3 * (ks.length - 1) ≤ 4 * p.a + 1 →
    fitL (wysL B s m p ks).2 ∧ 1 ≤ (wysL B s m p ks).2.length ∧ dpL (wysL B s m p ks).2 + 4 * a + 3 * ((wysL B s m p ks).2.length - 1) ≤ 4 * (wysL B s m p ks).1.a + 1 := by
  intro m
  induction m with
  | zero => intro p ks _ h1 h2 h3; exact ⟨h1, h2, h3⟩
  | succ m ih =>
    intro p ks hp h1 h2 h3
    unfold wysL
    split
    · rename_i hs
      have h0 : p.a + 1 ≤ s.size := (lt_nx hs).1
      have hf := hB ⟨p.a + 1, p.b⟩ h0
      refine ih _ _ (hg ⟨p.a + 1, p.b⟩ h0).sz (fitL_app.2 ⟨h1, by rw [fitL, fitL]; exact ⟨hf.fit, trivial⟩⟩) (by rw [List.length_append]; omega) ?_
      have := hf.few
      rw [dpL_cat, dpL, dpL, List.length_append]
      simp only [List.length_cons, List.length_nil] at this ⊢
      omega
    · exact ⟨h1, h2, h3⟩
theorem wys_ok {B : PS → PS × Rx} {s : ByteArray} (hg : Goes s B) (hB : ∀ p, p.a ≤ s.size → YOk s p (B p)) : ∀ p, p.a ≤ s.size → YOk s p (wysR B s p) := by
  intro p hp
  have hb := hB p hp
  have hbf := hb.few
  obtain ⟨h1, h2, h3⟩ := wysL_ok hg hB p.a (s.size + 1) (B p).1 [(B p).2] (hg p hp).sz (by rw [fitL, fitL]; exact ⟨hb.fit, trivial⟩) (Nat.le_refl _) (by rw [dpL, dpL]; simp only [List.length_cons, List.length_nil]; omega)
  unfold wysR
  generalize wysL B s (s.size + 1) (B p).1 [(B p).2] = y at *
  obtain ⟨q, ks⟩ := y
  simp only at h1 h2 h3
  match ks, h2 with
  | [x], _ =>
    rw [fitL, fitL] at h1
    rw [dpL, dpL] at h3
    exact ⟨h1.1, by simp only [altT]; simp only [List.length_cons, List.length_nil] at h3; omega⟩
  | x :: y :: l, _ => exact ⟨tree_fit h1, by show (Rx.mk 3 nilS (x :: y :: l)).dp + _ ≤ _; rw [Rx.dp]; simp only [List.length_cons] at h3 ⊢; omega⟩
theorem wysN_ok (s : ByteArray) : ∀ n d p, p.a ≤ s.size → YOk s p (wysN s n d p) := by
  intro n
  induction n with
  | zero => intro d p _; exact ⟨leaf_fit nilS_ok, by show (leafT nilS).dp + _ ≤ _; rw [leaf_dp]; show 1 + 4 * p.a ≤ 4 * p.a + 1; omega⟩
  | succ n ih =>
    intro d p hp
    have g1 := atm_goes (wysN_goes s n (d + 1))
    exact wys_ok (way_goes (fac_goes g1)) (way_ok (fac_goes g1) (fac_ok (atm_ok (wysN_goes s n (d + 1)) (ih (d + 1))))) p hp
theorem pars_fit (s : ByteArray) : (parsR s).fit ∧ (parsR s).dp ≤ 4 * s.size + 1 := by
  unfold parsR
  cases parsB s with
  | false => exact ⟨tree_fit (by rw [fitL]; trivial), by show (Rx.mk 0 nilS []).dp ≤ _; rw [Rx.dp, dpL]; omega⟩
  | true =>
    have h := wysN_ok s (s.size + 1) 0 ⟨0, decide (40 < s.size)⟩ (Nat.zero_le _)
    have hs := (wysN_goes s (s.size + 1) 0 ⟨0, decide (40 < s.size)⟩ (Nat.zero_le _)).sz
    exact ⟨h.fit, by have := h.few; show (parsP s).2.dp ≤ _; change (parsP s).1.a ≤ _ at hs; change (parsP s).2.dp + 4 * 0 ≤ 4 * (parsP s).1.a + 1 at this; omega⟩
end Go.Proofs.Ytfgiifppapopnaa

namespace Go.Proofs.Ytfgiifppapopnaa
open Go.RowKit Go.Proofs.Ytfgiifppapopnaa.AM
set_option maxRecDepth 100000
set_option maxHeartbeats 4000000
noncomputable def body709 : Code := (Try.f10.body).getD .skip
def F709 : List Nat → Option (List Nat) := fun p => match p with
  | [1] => some [0]
  | [1, 1] => some [4, 5]
  | [1, 0, 1, 1] => some [4, 12]
  | [1, 0, 1, 0, 1, 1] => some [2, 3]
  | [1, 1, 1] => some [4]
  | [1, 1, 1, 1] => some [2, 3]
  | _ => none
noncomputable def body706 : Code := (Try.f8.body).getD .skip
def F706 : List Nat → Option (List Nat) := fun p => match p with
  | [1] => some [0, 1, 2, 3]
  | [1, 1] => some [1, 2, 3, 9, 10]
  | [1, 0, 1, 1] => some [1, 2, 3, 9, 21]
  | [1, 0, 1, 0, 1, 1] => some [8]
  | [1, 1, 1] => some [1, 2, 3, 9]
  | [1, 1, 1, 1] => some [1, 2, 3, 9, 11, 12]
  | [1, 0, 1, 1, 1, 1] => some [9, 11, 12, 46]
  | [1, 0, 1, 0, 1, 1, 1, 1] => some [8]
  | [1, 1, 1, 1, 1] => some [9, 11, 12]
  | [1, 1, 1, 1, 1, 1] => some [9, 13]
  | [1, 0, 1, 1, 1, 1, 1, 1] => some [9, 13, 14]
  | [1, 0, 0, 0, 1, 0, 1, 1, 1, 1, 1, 1] => some [9, 13, 14, 54]
  | [1, 1, 0, 0, 0, 1, 0, 1, 1, 1, 1, 1, 1] => some []
  | [1, 0, 0, 1, 0, 1, 1, 1, 1, 1, 1] => some [9, 13, 14]
  | [1, 0, 0, 1, 0, 0, 1, 0, 1, 1, 1, 1, 1, 1] => some [9, 13, 14, 84]
  | [1, 0, 1, 0, 0, 1, 0, 0, 1, 0, 1, 1, 1, 1, 1, 1] => some [8]
  | [1, 1, 0, 0, 1, 0, 1, 1, 1, 1, 1, 1] => some [9, 13, 14]
  | [1, 1, 1, 1, 1, 1, 1] => some []
  | [1, 1, 1, 1, 1, 1, 1, 1] => some [8]
  | _ => none
noncomputable def S709 (hm : Try.prog.follows .mixedOrders = true) : Book := bookS [(24, parsX.summ (parsX_says hm))] (bookOf [(21, makC)])

theorem w709 (hm : Try.prog.follows .mixedOrders = true) (s : ByteArray) (K : Value → Heap → Prop) :
  funX Try.prog (S709 hm) noLoop F709 body709 Try.f10 [] [.tup 0 0 7] [.string s] (hp []) K = (
True ∧ s.size.le 140737488351232 ∧ ∀ (x : Rx × Bool), x = (parsR s, parsB s) → Alt (!x.snd) (K (Value.tuple #[Value.slice (some { block := 0, off := 0, spot := some 1 : Addr }) 0 0, Value.bool false]) (hp [Blk.cells [] 7
true])) (True ∧ RxD (Value.agg #[Value.int IntKind.i64 (intV (Value.int IntKind.i64 (↑x.fst.op : Int))), Value.int IntKind.u64 (intV (Value.int IntKind.u64 (↑x.fst.set.x0 : Int))), Value.int IntKind.u64 (intV (Value.int
IntKind.u64 (↑x.fst.set.x1 : Int))), Value.int IntKind.u64 (intV (Value.int IntKind.u64 (↑x.fst.set.x2 : Int))), Value.int IntKind.u64 (intV (Value.int IntKind.u64 (↑x.fst.set.x3 : Int))), Value.iface 0 (Value.agg
#[Value.int IntKind.i64 6, Value.int IntKind.i64 (↑x.fst.kids.length : Int), Value.agg (rxL x.fst.kids).toArray])]) 72057594037927936 ∧ K (Value.tuple #[Value.slice (some { block := 0, off := 0, spot := some 1 : Addr })
(makF (decV (Value.agg #[Value.int IntKind.i64 (intV (Value.int IntKind.i64 (↑x.fst.op : Int))), Value.int IntKind.u64 (intV (Value.int IntKind.u64 (↑x.fst.set.x0 : Int))), Value.int IntKind.u64 (intV (Value.int
IntKind.u64 (↑x.fst.set.x1 : Int))), Value.int IntKind.u64 (intV (Value.int IntKind.u64 (↑x.fst.set.x2 : Int))), Value.int IntKind.u64 (intV (Value.int IntKind.u64 (↑x.fst.set.x3 : Int))), Value.iface 0 (Value.agg
#[Value.int IntKind.i64 6, Value.int IntKind.i64 (↑x.fst.kids.length : Int), Value.agg (rxL x.fst.kids).toArray])]))).length (makF (decV (Value.agg #[Value.int IntKind.i64 (intV (Value.int IntKind.i64 (↑x.fst.op :
Int))), Value.int IntKind.u64 (intV (Value.int IntKind.u64 (↑x.fst.set.x0 : Int))), Value.int IntKind.u64 (intV (Value.int IntKind.u64 (↑x.fst.set.x1 : Int))), Value.int IntKind.u64 (intV (Value.int IntKind.u64
(↑x.fst.set.x2 : Int))), Value.int IntKind.u64 (intV (Value.int IntKind.u64 (↑x.fst.set.x3 : Int))), Value.iface 0 (Value.agg #[Value.int IntKind.i64 6, Value.int IntKind.i64 (↑x.fst.kids.length : Int), Value.agg (rxL
x.fst.kids).toArray])]))).length, Value.bool (makB (decV (Value.agg #[Value.int IntKind.i64 (intV (Value.int IntKind.i64 (↑x.fst.op : Int))), Value.int IntKind.u64 (intV (Value.int IntKind.u64 (↑x.fst.set.x0 : Int))),
Value.int IntKind.u64 (intV (Value.int IntKind.u64 (↑x.fst.set.x1 : Int))), Value.int IntKind.u64 (intV (Value.int IntKind.u64 (↑x.fst.set.x2 : Int))), Value.int IntKind.u64 (intV (Value.int IntKind.u64 (↑x.fst.set.x3 :
Int))), Value.iface 0 (Value.agg #[Value.int IntKind.i64 6, Value.int IntKind.i64 (↑x.fst.kids.length : Int), Value.agg (rxL x.fst.kids).toArray])])))]) (hp [Blk.cells (stC (makF (decV (Value.agg #[Value.int IntKind.i64
(intV (Value.int IntKind.i64 (↑x.fst.op : Int))), Value.int IntKind.u64 (intV (Value.int IntKind.u64 (↑x.fst.set.x0 : Int))), Value.int IntKind.u64 (intV (Value.int IntKind.u64 (↑x.fst.set.x1 : Int))), Value.int
IntKind.u64 (intV (Value.int IntKind.u64 (↑x.fst.set.x2 : Int))), Value.int IntKind.u64 (intV (Value.int IntKind.u64 (↑x.fst.set.x3 : Int))), Value.iface 0 (Value.agg #[Value.int IntKind.i64 6, Value.int IntKind.i64
(↑x.fst.kids.length : Int), Value.agg (rxL x.fst.kids).toArray])])))) 7 true]))) := by kernel_rfl

def mdB (s : ByteArray) : Bool := parsB s && makB (parsR s)
def mdF (s : ByteArray) : List St := bif mdB s then makF (parsR s) else []
noncomputable def madC : Ctr where
  pre := fun args blks => match args, blks with
    | [.string s], [] => s.size ≤ 140737488351232
    | _, _ => False
  val := fun args blks => match args, blks with
    | [.string s], [] => .tuple #[slR 0 (mdF s).length, .bool (mdB s)]
    | _, _ => undef
  new := fun args blks => match args, blks with
    | [.string s], [] => [.cells (stC (mdF s)) 7 true]
    | _, _ => []
noncomputable def S706 : Book := bookOf [(10, madC), (3, trueC), (11, beginC), (12, nextC)]
noncomputable abbrev T706 (n : Nat) (a : Int) (i : Nat) : List Value := tmps 86 [(9, slR 0 n), (13, .int .u64 a), (14, .int .i64 (i : Int))]

theorem r706 (n : Nat) (cs : List Value) (a : Int) (i : Nat) (K : Post) :
  roundX Try.prog S706 noLoop F706 body706 0 [] [.tmp 9 7] [] [.tmp 9 7] [9,13,14] [0,0,1,0,1,1,1,1,1,1] (T706 n a i) (hp [.cells cs 7 true]) K = (
Alt (ltI (↑i : Int) 64) (Alt (eqI (bitsW BinOp.and IntKind.u64 (a.fdiv (2 ^ min (wr IntKind.u64 (↑i : Int)).toNat 64)) 1) 1) (Alt (leI (↑n : Int) (↑i : Int)) (K AE.ret (tmps 86 [(8, Value.bool false)]) (hp [])) (Need
(ltI (↑i : Int) (↑n : Int)) (Need (isInt IntKind.i64 ((getO cs (0 + (↑i : Int).toNat * 7 + 0)).getD undef)) (Alt (!eqI (intV ((getO cs (0 + (↑i : Int).toNat * 7 + 0)).getD undef)) 1) (Need (ltI (↑i : Int) (↑n : Int))
(Need (isInt IntKind.i64 ((getO cs (0 + (↑i : Int).toNat * 7 + 0)).getD undef)) (Alt (!eqI (intV ((getO cs (0 + (↑i : Int).toNat * 7 + 0)).getD undef)) 4) (K AE.ret (tmps 86 [(8, Value.bool false)]) (hp [])) (K AE.normal
(tmps 86 [(9, Value.slice (some { block := 0, off := 0, spot := some 1 : Addr }) n n), (13, Value.int IntKind.u64 a), (14, Value.int IntKind.i64 (wr IntKind.i64 ((↑i : Int) + 1)))]) (hp [Blk.cells cs 7 true]))))) (K
AE.normal (tmps 86 [(9, Value.slice (some { block := 0, off := 0, spot := some 1 : Addr }) n n), (13, Value.int IntKind.u64 a), (14, Value.int IntKind.i64 (wr IntKind.i64 ((↑i : Int) + 1)))]) (hp [Blk.cells cs 7
true])))))) (K AE.normal (tmps 86 [(9, Value.slice (some { block := 0, off := 0, spot := some 1 : Addr }) n n), (13, Value.int IntKind.u64 a), (14, Value.int IntKind.i64 (wr IntKind.i64 ((↑i : Int) + 1)))]) (hp
[Blk.cells cs 7 true]))) (K (AE.exit 0) (tmps 86 []) (hp []))) := by kernel_rfl

end Go.Proofs.Ytfgiifppapopnaa

namespace Go.Proofs.Ytfgiifppapopnaa
open Go.RowKit Go.Proofs.Ytfgiifppapopnaa.AM
set_option maxRecDepth 100000
set_option maxHeartbeats 4000000
structure AllT (P : List St) (x : Nat) : Prop where
  lt : x < 18446744073709551616
  bits : ∀ j, x.testBit j = true → j < P.length ∧ ((stAt P j).fo = 1 ∨ (stAt P j).fo = 4)
noncomputable def cut706 (s : ByteArray) : CutE where
  β := Nat
  p := [0,1,0,1,1,1,1,1,1]
  t := fun x => T706 (mdF s).length (x : Int) 0
  h := fun _ => hp [.cells (stC (mdF s)) 7 true]
  Q := fun x K => AllT (mdF s) x ∧ K (.exit 0) (tmps 86 []) (hp [])

theorem w706 (s : ByteArray) (a b c : Int) (K : Value → Heap → Prop) :
  funX Try.prog S706 (gcLKX (at0 []) (at0 [.tmp 9 7]) 0 (cutE [cut706 s])) F706 body706 Try.f8 [] [] [.string s, .int .u64 a, .int .u64 b, .int .u8 c] (hp []) K = (
True ∧ s.size.le 140737488351232 ∧ Alt (!mdB s) (True ∧ True ∧ K (Value.bool true) (hp [])) ((FlatL (stC (mdF s)) ∧ True) ∧ (IsSt (stC (mdF s)) (mdF s).length ∧ NextOk a c ∧ Need (leN (mdF s).length (mdF s).length) True)
∧ (FlatL (stC (mdF s)) ∧ True) ∧ (IsSt (stC (mdF s)) (mdF s).length ∧ NextOk b c ∧ Need (leN (mdF s).length (mdF s).length) True) ∧ (FlatL (stC (mdF s)) ∧ True) ∧ (IsSt (stC (mdF s)) (mdF s).length ∧ NextOk (bitsW
BinOp.or IntKind.u64 a b) c ∧ Need (leN (mdF s).length (mdF s).length) True) ∧ Alt (!eqI (nextF (stsAt (stC (mdF s)) (mdF s).length) (bitsW BinOp.or IntKind.u64 a b) c) (bitsW BinOp.or IntKind.u64 (nextF (stsAt (stC (mdF
s)) (mdF s).length) a c) (nextF (stsAt (stC (mdF s)) (mdF s).length) b c))) (K (Value.bool false) (hp [])) ((FlatL (stC (mdF s)) ∧ True) ∧ (IsSt (stC (mdF s)) (mdF s).length ∧ NextOk 0 c ∧ Need (leN (mdF s).length (mdF
s).length) True) ∧ Alt (!eqI (nextF (stsAt (stC (mdF s)) (mdF s).length) 0 c) 0) (K (Value.bool false) (hp [])) ((FlatL (stC (mdF s)) ∧ True) ∧ (IsSt (stC (mdF s)) (mdF s).length ∧ Need (leN (mdF s).length (mdF
s).length) True) ∧ FlatD [] (hp [Blk.cells (stC (mdF s)) 7 true]) ∧ ∃ (b_1 : Nat), tmps 86 [(9, Value.slice (some { block := 0, off := 0, spot := some 1 : Addr }) (mdF s).length (mdF s).length), (13, Value.int
IntKind.u64 (bitsW BinOp.or IntKind.u64 (bitsW BinOp.or IntKind.u64 (nextF (stsAt (stC (mdF s)) (mdF s).length) a c) (nextF (stsAt (stC (mdF s)) (mdF s).length) b c)) (startF (stsAt (stC (mdF s)) (mdF s).length)))), (14,
Value.int IntKind.i64 0)] = tmps 86 [(9, Value.slice (some { block := 0, off := 0, spot := some 1 : Addr }) (mdF s).length (mdF s).length), (13, Value.int IntKind.u64 (↑b_1 : Int)), (14, Value.int IntKind.i64 0)] ∧ hp
[Blk.cells (stC (mdF s)) 7 true] = hp [Blk.cells (stC (mdF s)) 7 true] ∧ AllT (mdF s) b_1 ∧ True ∧ True ∧ K (Value.bool true) (hp []))))) := by kernel_rfl

theorem reach_term {P : List St} {i j : Nat} (h : (reachM P i).testBit j = true) : j < P.length ∧ ((stAt P j).fo = 1 ∨ (stAt P j).fo = 4) := by
  unfold reachM at h
  rw [outM_bit] at h
  simp only [Nat.zero_testBit, Bool.false_or, Bool.and_eq_true, decide_eq_true_eq] at h
  exact ⟨by omega, h.2.2⟩
theorem nextL_bit (P : List St) (now c : Nat) : ∀ (k i o j : Nat), (nextL P now c k i o).testBit j = true ↔ o.testBit j = true ∨ ∃ t, t < k ∧ sel P now c (i + t) = true ∧ (reachM P (i + t + 1)).testBit j = true := by
  intro k
  induction k with
  | zero => intro i o j; unfold nextL; exact ⟨.inl, fun h => h.elim id fun ⟨t, ht, _⟩ => absurd ht (Nat.not_lt_zero _)⟩
  | succ k ih =>
    intro i o j
    unfold nextL
    rw [ih]
    have e : (if sel P now c i = true then o ||| reachM P (i + 1) else o).testBit j = true ↔ o.testBit j = true ∨ (sel P now c i = true ∧ (reachM P (i + 1)).testBit j = true) := by
      split
      · rename_i h; rw [Nat.testBit_or, Bool.or_eq_true]; exact ⟨fun q => q.imp id fun q => ⟨h, q⟩, fun q => q.imp id fun q => q.2⟩
      · rename_i h; exact ⟨.inl, fun q => q.elim id fun q => absurd q.1 h⟩
    rw [e, or_assoc]
    refine or_congr_right ⟨fun q => ?_, fun q => ?_⟩
    · rcases q with q | ⟨t, h1, h2⟩
      · exact ⟨0, by omega, q⟩
      · exact ⟨t + 1, by omega, by rw [show i + (t + 1) = i + 1 + t by omega]; exact h2⟩
    · obtain ⟨t, h1, h2⟩ := q
      cases t with
      | zero => exact .inl h2
      | succ t => exact .inr ⟨t, by omega, by rw [show i + (t + 1) = i + 1 + t by omega] at h2; exact h2⟩
theorem nextR_bit (P : List St) (now c j : Nat) : (nextR P now c).testBit j = true ↔ ∃ t, t < P.length ∧ sel P now c t = true ∧ (reachM P (t + 1)).testBit j = true := by
  unfold nextR
  rw [nextL_bit]
  simp only [Nat.zero_testBit, Bool.false_eq_true, false_or, Nat.zero_add]
theorem sel_or (P : List St) (a b c i : Nat) : sel P (a ||| b) c i = (sel P a c i || sel P b c i) := by
  unfold sel
  rw [Nat.testBit_or]
  cases a.testBit i <;> cases b.testBit i <;> simp
theorem nextR_or (P : List St) (a b c : Nat) : nextR P (a ||| b) c = nextR P a c ||| nextR P b c := by
  apply Nat.eq_of_testBit_eq
  intro j
  rw [Nat.testBit_or, Bool.eq_iff_iff, Bool.or_eq_true, nextR_bit, nextR_bit, nextR_bit]
  constructor
  · rintro ⟨t, h1, h2, h3⟩
    rw [sel_or, Bool.or_eq_true] at h2
    exact h2.imp (fun q => ⟨t, h1, q, h3⟩) fun q => ⟨t, h1, q, h3⟩
  · rintro (⟨t, h1, h2, h3⟩ | ⟨t, h1, h2, h3⟩)
    · exact ⟨t, h1, by rw [sel_or, h2, Bool.true_or], h3⟩
    · exact ⟨t, h1, by rw [sel_or, h2, Bool.or_true], h3⟩
theorem nextR_zero (P : List St) (c : Nat) : nextR P 0 c = 0 := by
  apply Nat.eq_of_testBit_eq
  intro j
  rw [Nat.zero_testBit]
  cases h : (nextR P 0 c).testBit j with
  | false => rfl
  | true =>
    obtain ⟨t, _, h2, _⟩ := (nextR_bit P 0 c j).1 h
    unfold sel at h2
    rw [Nat.zero_testBit, Bool.false_and] at h2
    cases h2
/-- sets of steps that are bytes and matches -/
theorem allT_of {P : List St} {x : Nat} (hP : chkF P = true) (h : ∀ j, x.testBit j = true → j < P.length ∧ ((stAt P j).fo = 1 ∨ (stAt P j).fo = 4)) : AllT P x := by
  refine ⟨?_, h⟩
  obtain ⟨h40, _, _⟩ := chk_in hP
  show x < 2 ^ 64
  apply Nat.lt_pow_two_of_testBit
  intro j hj
  cases hb : x.testBit j with
  | false => rfl
  | true => have := (h j hb).1; omega
theorem allT_zero (P : List St) : AllT P 0 := ⟨by decide, fun j h => by rw [Nat.zero_testBit] at h; cases h⟩
theorem allT_or {P : List St} {x y : Nat} (hx : AllT P x) (hy : AllT P y) : AllT P (x ||| y) := by
  refine ⟨Nat.or_lt_two_pow (n := 64) hx.lt hy.lt, fun j h => ?_⟩
  rw [Nat.testBit_or, Bool.or_eq_true] at h
  exact h.elim (hx.bits j) (hy.bits j)
theorem next_all (P : List St) (now c : Int) : ∃ x : Nat, nextF P now c = (x : Int) ∧ AllT P x ∧ x = if chkF P = true then nextR P now.toNat c.toNat else 0 := by
  by_cases hP : chkF P = true
  · refine ⟨nextR P now.toNat c.toNat, by unfold nextF; rw [if_pos hP], allT_of hP fun j h => ?_, by rw [if_pos hP]⟩
    obtain ⟨t, _, _, h3⟩ := (nextR_bit _ _ _ _).1 h
    exact reach_term h3
  · exact ⟨0, by unfold nextF; rw [if_neg hP]; rfl, allT_zero P, by rw [if_neg hP]⟩
theorem start_all (P : List St) : ∃ x : Nat, startF P = (x : Int) ∧ AllT P x := by
  by_cases hP : chkF P = true
  · exact ⟨reachM P 0, by unfold startF; rw [if_pos hP], allT_of hP fun j h => reach_term h⟩
  · exact ⟨0, by unfold startF; rw [if_neg hP]; rfl, allT_zero P⟩
end Go.Proofs.Ytfgiifppapopnaa

namespace Go.Proofs.Ytfgiifppapopnaa
open Go.RowKit Go.Proofs.Ytfgiifppapopnaa.AM
set_option maxRecDepth 100000
set_option maxHeartbeats 4000000
theorem stB_ok {s : S4} (h : s.ok) : StOk (stB s) := by
  have h0 := h.h0
  have h1 := h.h1
  have h2 := h.h2
  have h3 := h.h3
  refine ⟨⟨?_, ?_⟩, ⟨?_, ?_⟩, ⟨?_, ?_⟩, ⟨?_, ?_⟩, ⟨?_, ?_⟩, ⟨?_, ?_⟩, ⟨?_, ?_⟩⟩ <;> (unfold stB; dsimp only; omega)
theorem stP_ok {a b : Nat} (ha : a ≤ 1000000) (hb : b ≤ 1000000) : StOk (stP a b) := by
  refine ⟨⟨?_, ?_⟩, ⟨?_, ?_⟩, ⟨?_, ?_⟩, ⟨?_, ?_⟩, ⟨?_, ?_⟩, ⟨?_, ?_⟩, ⟨?_, ?_⟩⟩ <;> (unfold stP; dsimp only; omega)
theorem stJ_ok {a : Nat} (ha : a ≤ 1000000) : StOk (stJ a) := by
  refine ⟨⟨?_, ?_⟩, ⟨?_, ?_⟩, ⟨?_, ?_⟩, ⟨?_, ?_⟩, ⟨?_, ?_⟩, ⟨?_, ?_⟩, ⟨?_, ?_⟩⟩ <;> (unfold stJ; dsimp only; omega)
theorem stM_ok  : StOk (stM) := by
  refine ⟨⟨?_, ?_⟩, ⟨?_, ?_⟩, ⟨?_, ?_⟩, ⟨?_, ?_⟩, ⟨?_, ?_⟩, ⟨?_, ?_⟩, ⟨?_, ?_⟩⟩ <;> (unfold stM; dsimp only; omega)
mutual
theorem lay_ok : ∀ (x : Rx) (a : Nat), x.fit → a + x.sz ≤ 1000000 → ∀ t ∈ x.lay a, StOk t
  | .mk o s k, a, hf, hs, t, ht => by
    rw [Rx.fit] at hf
    rw [Rx.lay] at ht
    rw [Rx.sz] at hs
    by_cases h1 : o = 1
    · rw [if_pos h1] at ht
      rw [List.mem_singleton] at ht
      subst ht; exact stB_ok hf.1
    rw [if_neg h1] at ht hs
    by_cases h2 : o = 2
    · rw [if_pos h2] at ht
      rw [if_neg (by omega), if_neg (by omega), if_neg (by omega)] at hs
      exact layL_ok k a hf.2 hs t ht
    rw [if_neg h2] at ht
    by_cases h3 : o = 3
    · rw [if_pos h3] at ht hs
      exact altL_ok k a _ hf.2 hs hs t ht
    rw [if_neg h3] at ht hs
    by_cases h4 : o = 4
    · rw [if_pos h4] at ht hs
      simp only [List.cons_append, List.mem_cons, List.mem_append, List.not_mem_nil, or_false] at ht
      rcases ht with rfl | ht | rfl
      · exact stP_ok (by omega) (by omega)
      · exact layL_ok k (a + 1) hf.2 (by omega) t ht
      · exact stJ_ok (by omega)
    rw [if_neg h4] at ht hs
    by_cases h5 : o = 5
    · rw [if_pos h5] at ht
      rw [if_pos (.inl h5)] at hs
      simp only [List.mem_append, List.mem_cons, List.not_mem_nil, or_false] at ht
      rcases ht with ht | rfl
      · exact layL_ok k a hf.2 (by omega) t ht
      · exact stP_ok (by omega) (by omega)
    rw [if_neg h5] at ht
    by_cases h6 : o = 6
    · rw [if_pos h6] at ht
      rw [if_pos (.inr h6)] at hs
      rcases List.mem_cons.1 ht with rfl | ht
      · exact stP_ok (by omega) (by omega)
      · exact layL_ok k (a + 1) hf.2 (by omega) t ht
    · rw [if_neg h6] at ht
      cases ht
theorem layL_ok : ∀ (k : List Rx) (a : Nat), fitL k → a + szL k ≤ 1000000 → ∀ t ∈ layL k a, StOk t
  | [], a, _, _, t, ht => by rw [layL] at ht; cases ht
  | x :: l, a, hf, hs, t, ht => by
    rw [fitL] at hf
    rw [szL] at hs
    rw [layL, List.mem_append] at ht
    rcases ht with ht | ht
    · exact lay_ok x a hf.1 (by omega) t ht
    · exact layL_ok l _ hf.2 (by omega) t ht
theorem altL_ok : ∀ (k : List Rx) (a e : Nat), fitL k → a + (szL k + 2 * (k.length - 1)) ≤ 1000000 → e ≤ 1000000 → ∀ t ∈ altL k a e, StOk t
  | [], a, e, _, _, _, t, ht => by rw [altL] at ht; cases ht
  | x :: l, a, e, hf, hs, he, t, ht => by
    rw [fitL] at hf
    rw [szL, List.length_cons] at hs
    rw [altL] at ht
    by_cases hl : l.isEmpty = true
    · rw [if_pos hl] at ht
      exact lay_ok x a hf.1 (by omega) t ht
    · rw [if_neg hl] at ht
      have hl1 : 1 ≤ l.length := by
        cases l with
        | nil => exact absurd rfl hl
        | cons y l => simp
      simp only [List.cons_append, List.mem_cons, List.mem_append] at ht
      rcases ht with rfl | ht | rfl | ht
      · exact stP_ok (by omega) (by omega)
      · exact lay_ok x (a + 1) hf.1 (by omega) t ht
      · exact stJ_ok he
      · exact altL_ok l _ e hf.2 (by omega) he t ht
end
theorem mak_ok {x : Rx} (h : x.fit) : (∀ t ∈ makF x, StOk t) ∧ (makF x).length ≤ 40 := by
  unfold makF
  cases hB : makB x with
  | false => exact ⟨fun t ht => (by cases ht), Nat.zero_le _⟩
  | true =>
    unfold makB at hB
    rw [Bool.and_eq_true, decide_eq_true_eq] at hB
    refine ⟨fun t ht => ?_, ?_⟩
    · simp only [cond_true, List.mem_append, List.mem_singleton] at ht
      rcases ht with ht | rfl
      · exact lay_ok x 0 h (by omega) t ht
      · exact stM_ok
    · simp only [cond_true, List.length_append, lay_len x 0 hB.1, List.length_cons, List.length_nil]; omega
theorem md_ok (s : ByteArray) : (∀ t ∈ mdF s, StOk t) ∧ (mdF s).length ≤ 40 := by
  unfold mdF
  cases mdB s with
  | false => exact ⟨fun t ht => (by cases ht), Nat.zero_le _⟩
  | true => exact mak_ok (pars_fit s).1
theorem md_st (s : ByteArray) : IsSt (stC (mdF s)) (mdF s).length := .mk _ rfl (Nat.le_refl _) (md_ok s).1 (by have := (md_ok s).2; omega)
theorem md_at (s : ByteArray) : stsAt (stC (mdF s)) (mdF s).length = mdF s := by rw [stsAt_eq (Nat.le_refl _), List.take_length]
section
variable (hm : Try.prog.follows .mixedOrders = true)
include hm
theorem mad_says : madC.Holds Try.prog 10 := by
  intro args blks hf hpre
  simp only [madC] at hpre ⊢
  split at hpre
  case h_2 => exact hpre.elim
  rename_i s
  refine ⟨⟨stC_flat _, trivial⟩, ?_⟩
  have su : Sure Try.prog (S709 hm) := Sure.withS (S := bookOf [(21, makC)]) ⟨hm, plain, bookOf_ok (l := [(21, makC)]) ⟨mak_says hm, trivial⟩⟩ (l := [(24, parsX.summ (parsX_says hm))]) ⟨parsX.sum_ok _, trivial⟩
  refine su.funX F709 body709 [] [.tup 0 0 7] Try.func10 rfl noLoops ?_
  rw [w709]
  refine ⟨trivial, hpre, ?_⟩
  rintro x hx
  have e1 : x.1 = parsR s := by rw [hx]
  have e2 : x.2 = parsB s := by rw [hx]
  have hfit := pars_fit s
  have hD : RxD (rxV x.1) 72057594037927936 := ⟨x.1, rfl, by rw [e1]; omega⟩
  obtain ⟨x, b⟩ := x
  simp only at e1 e2 hD
  subst e1 e2
  have T1 : FlatD [] (hp [.cells [] 7 true]) := FlatD.hp ⟨⟨fun v hv => by cases hv⟩, trivial⟩
  cases hb : parsB s with
  | false =>
    have hB : mdB s = false := by unfold mdB; rw [hb]; rfl
    have hF : mdF s = [] := by unfold mdF; rw [hB]; rfl
    rw [hB, hF]
    exact ⟨T1, rfl, rfl, rfl⟩
  | true =>
    have hB : mdB s = makB (parsR s) := by unfold mdB; rw [hb]; rfl
    have hF : mdF s = makF (parsR s) := by
      unfold mdF; rw [hB]
      cases hq : makB (parsR s) with
      | true => rfl
      | false => unfold makF; rw [hq]; rfl
    rw [hB, hF]
    refine ⟨trivial, hD, ?_⟩
    generalize 72057594037927936 = N at *
    simp only [intV, rxV_fold, decV_rx]
    exact ⟨FlatD.hp ⟨stC_flat _, trivial⟩, by first | exact trivial | exact rfl, by first | exact trivial | exact rfl, by first | exact trivial | exact rfl⟩
theorem sure706 : Sure Try.prog S706 := ⟨hm, plain, bookOf_ok (l := [(10, madC), (3, trueC), (11, beginC), (12, nextC)]) ⟨mad_says hm, runs_holds hm, begin_says hm, next_says hm, trivial⟩⟩
theorem loop706 (s : ByteArray) (x : Nat) (hx : AllT (mdF s) x) (K : Post) (hK : K (.exit 0) (tmps 86 []) (hp [])) : ∀ (q i : Nat), 64 - i = q →
    LSays Try.prog 0 (sub body706 [0,0,1,0,1,1,1,1,1,1]) (T706 (mdF s).length (x : Int) i) (hp [.cells (stC (mdF s)) 7 true]) K := by
  have hF : FlatD [] (hp [.cells (stC (mdF s)) 7 true]) := FlatD.hp ⟨stC_flat _, trivial⟩
  have hF0 : FlatD [] (hp []) := FlatD.hp trivial
  have h40 := (md_ok s).2
  intro q
  induction q with
  | zero =>
    intro i hi
    refine (sure706 hm).roundX F706 noLoops [] [.tmp 9 7] [] [.tmp 9 7] [9,13,14] ?_
    rw [r706, show ltI (i : Int) 64 = false by rw [ltI_eq, decide_eq_false]; omega]
    exact ⟨hF0, hK⟩
  | succ q ih =>
    intro i hi
    have hnext := ih (i + 1) (by omega)
    refine (sure706 hm).roundX F706 noLoops [] [.tmp 9 7] [] [.tmp 9 7] [9,13,14] ?_
    have e : wr .i64 ((i : Int) + 1) = ((i + 1 : Nat) : Int) := nx i (by omega)
    have e2 : (wr .u64 (i : Int)).toNat = i := by rw [wr_u64 _ (by omega) (by omega)]; rfl
    rw [r706, show ltI (i : Int) 64 = true from ltI_iff.2 (by omega), e2, e, show eqI (bitsW .and .u64 ((x : Int).fdiv (2 ^ min i 64)) 1) 1 = x.testBit i from bit_eq x i hx.lt (by omega)]
    cases hb : x.testBit i with
    | false => exact ⟨hF, hnext⟩
    | true =>
      obtain ⟨hl, ht⟩ := hx.bits i hb
      have hg : (mdF s)[i]? = some (stAt (mdF s) (i : Int)) := by
        unfold stAt
        rw [Int.toNat_natCast, List.getD_eq_getElem?_getD, List.getElem?_eq_getElem hl]; rfl
      have g0 : getO (stC (mdF s)) (0 + (i : Int).toNat * 7 + 0) = some (.int .i64 (stAt (mdF s) (i : Int)).fo) := by
        rw [Int.toNat_natCast, Nat.zero_add, Nat.add_zero]
        exact (st_get hg).1
      rw [show leI ((mdF s).length : Int) (i : Int) = false by rw [leI_eq, decide_eq_false]; omega, show ltI (i : Int) ((mdF s).length : Int) = true from ltI_iff.2 (by omega), g0]
      refine Need_iff.2 ⟨rfl, Need_iff.2 ⟨rfl, ?_⟩⟩
      show Alt (!eqI (stAt (mdF s) (i : Int)).fo 1) _ _
      rcases ht with ht | ht
      · rw [ht]; exact ⟨hF, hnext⟩
      · rw [ht]
        exact ⟨hF, hnext⟩
theorem law706 (s : ByteArray) (a b c : Int) (hs : s.size ≤ 140737488351232) (ha : NextOk a c) (hb : NextOk b c) : FunSays Try.prog 8 [.string s, .int .u64 a, .int .u64 b, .int .u8 c] (hp []) fun v _ => v = .bool true := by
  have hF : FlatD [] (hp [.cells (stC (mdF s)) 7 true]) := FlatD.hp ⟨stC_flat _, trivial⟩
  have hF0 : FlatD [] (hp []) := FlatD.hp trivial
  have hL : Loops Try.prog body706 0 (cutE [cut706 s]) := Loops.noneE.moreE _ fun x K hQ => loop706 hm s x hQ.1 K hQ.2 64 0 rfl
  refine (sure706 hm).funX F706 body706 [] [] Try.func8 rfl (hL.gcX (at0 []) (at0 [.tmp 9 7])) ?_
  show funX Try.prog S706 (gcLKX (at0 []) (at0 [.tmp 9 7]) 0 (cutE [cut706 s])) F706 body706 Try.f8 [] [] [.string s, .int .u64 a, .int .u64 b, .int .u8 c] (hp []) _
  rw [w706]
  refine ⟨trivial, hs, ?_⟩
  cases hB : mdB s with
  | false => exact ⟨trivial, trivial, hF0, rfl, rfl⟩
  | true =>
    have hI := md_st s
    have hl : Need (leN (mdF s).length (mdF s).length) True := Need_iff.2 ⟨leN_iff.2 (Nat.le_refl _), trivial⟩
    obtain ⟨A, rfl⟩ := Int.eq_ofNat_of_zero_le ha.n0
    obtain ⟨B, rfl⟩ := Int.eq_ofNat_of_zero_le hb.n0
    have hA : A < 18446744073709551616 := by have := ha.n1; omega
    have hBb : B < 18446744073709551616 := by have := hb.n1; omega
    have hor := orN A B hA hBb
    have hAB : NextOk (((A ||| B : Nat)) : Int) c := ⟨by omega, by have := Nat.or_lt_two_pow (n := 64) hA hBb; omega, ha.c0, ha.c1⟩
    have h0 : NextOk 0 c := ⟨by decide, by decide, ha.c0, ha.c1⟩
    obtain ⟨X, eX, tX, vX⟩ := next_all (mdF s) (A : Int) c
    obtain ⟨Y, eY, tY, vY⟩ := next_all (mdF s) (B : Int) c
    obtain ⟨Z, eZ, tZ, vZ⟩ := next_all (mdF s) ((A ||| B : Nat) : Int) c
    obtain ⟨N, eN, tN, vN⟩ := next_all (mdF s) 0 c
    obtain ⟨S, eS, tS⟩ := start_all (mdF s)
    have hZ : Z = X ||| Y := by
      rw [vX, vY, vZ]
      split
      · rw [Int.toNat_natCast, Int.toNat_natCast, Int.toNat_natCast, nextR_or]
      · rfl
    have hN : N = 0 := by
      rw [vN]
      split
      · rw [show (0 : Int).toNat = 0 from rfl, nextR_zero]
      · rfl
    subst hZ hN
    have oXY := orN X Y tX.lt tY.lt
    have tXY := allT_or tX tY
    have oXS := orN (X ||| Y) S tXY.lt tS.lt
    rw [md_at, hor, eX, eY, eZ, eN, eS, oXY, oXS]
    refine ⟨⟨stC_flat _, trivial⟩, ⟨hI, ha, hl⟩, ⟨stC_flat _, trivial⟩, ⟨hI, hb, hl⟩, ⟨stC_flat _, trivial⟩, ⟨hI, hAB, hl⟩, ?_⟩
    rw [show eqI ((X ||| Y : Nat) : Int) ((X ||| Y : Nat) : Int) = true by rw [eqI_iff]]
    refine ⟨⟨stC_flat _, trivial⟩, ⟨hI, h0, hl⟩, ?_⟩
    rw [show eqI ((0 : Nat) : Int) 0 = true by rw [eqI_iff]; rfl]
    exact ⟨⟨stC_flat _, trivial⟩, ⟨hI, hl⟩, hF, (X ||| Y ||| S), rfl, rfl, allT_or tXY tS, trivial, trivial, hF0, rfl, rfl⟩
end
end Go.Proofs.Ytfgiifppapopnaa
