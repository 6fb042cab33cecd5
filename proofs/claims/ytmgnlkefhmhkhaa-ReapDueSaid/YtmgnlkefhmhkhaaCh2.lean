/- Proved: what functions of the program come to, by their conditions over the abstract machine. Conditions: those that each theorem states. -/
import Derived.Test.YtmgnlkefhmhkhaaCh1
set_option linter.unusedVariables false
set_option linter.unusedSimpArgs false
namespace Go.Proofs.Ytmgnlkefhmhkhaa
open Go.RowKit Go.Proofs.Ytmgnlkefhmhkhaa.AM
set_option maxRecDepth 100000
set_option maxHeartbeats 4000000
noncomputable def body1329 : Code := (Try.f4.body).getD .skip
def F1329 : List Nat → Option (List Nat) := fun p => match p with
  | [1] => some [0, 1]
  | [1, 0, 1] => some [0, 1, 17]
  | [1, 0, 1, 0, 1] => some [4]
  | [1, 1] => some [0, 1]
  | [1, 1, 1] => some [0, 1, 5, 6]
  | [1, 0, 1, 1, 1] => some [0, 1, 5, 6, 23]
  | [1, 0, 1, 0, 1, 1, 1] => some [4]
  | [1, 1, 1, 1] => some [0, 1, 5, 6]
  | [1, 0, 1, 1, 1, 1] => some [0, 1, 5, 6, 7]
  | [1, 0, 0, 0, 1, 0, 1, 1, 1, 1] => some [0, 1, 5, 6, 7, 27]
  | [1, 1, 0, 0, 0, 1, 0, 1, 1, 1, 1] => some [1, 5, 6]
  | [1, 0, 0, 1, 0, 1, 1, 1, 1] => some [0, 1, 5, 6, 7]
  | [1, 0, 0, 0, 1, 0, 0, 1, 0, 1, 1, 1, 1] => some [0, 1, 5, 6, 7, 47]
  | [1, 0, 1, 0, 0, 0, 1, 0, 0, 1, 0, 1, 1, 1, 1] => some [4]
  | [1, 0, 0, 1, 0, 0, 1, 0, 1, 1, 1, 1] => some [1000000, 0, 1, 5, 6, 7]
  | [1, 1, 0, 0, 1, 0, 0, 1, 0, 1, 1, 1, 1] => some [0, 1, 5, 6, 7, 8, 9, 10]
  | [1, 1, 1, 0, 0, 1, 0, 0, 1, 0, 1, 1, 1, 1] => some [0, 1, 5, 6, 7, 98]
  | [1, 0, 1, 1, 1, 0, 0, 1, 0, 0, 1, 0, 1, 1, 1, 1] => some [4]
  | [1, 1, 0, 0, 1, 0, 1, 1, 1, 1] => some [0, 1, 5, 6, 7]
  | [1, 1, 1, 1, 1] => some [1, 5, 6]
  | [1, 1, 1, 1, 1, 1] => some [1, 6, 11, 12]
  | [1, 1, 1, 1, 1, 1, 1] => some [11, 12, 13, 14]
  | [1, 1, 1, 1, 1, 1, 1, 1] => some [4]
  | _ => none
noncomputable def T1329 (s1 : Option Nat) (len k1 : Nat) (id : Int) (i : Nat) : List Value := tmps 122 [(0, .slice (some ⟨0,0,s1⟩) len k1), (1, .int .i64 id), (5, p1 1), (6, p1 2), (7, .int .i64 i)]
noncomputable def H1329 (ca : List Value) (n : Nat) (cs : List Value) (o m : Nat) (ds : List Value) : Heap := hp [.cells ca 3 false, .cells [.slice (some ⟨3,0,some 1⟩) n n] 1 true, .cells [.slice (some ⟨4,o,some 1⟩) m m] 1 true, .cells cs 2 true, .cells ds 2 true]
/-- both queues hold the same -/
structure Both2 (k : Nat) (b : List Re × Nat × List Value) : Prop where
  q : IsQ b.1
  row : DRow b.2.2 b.2.1 b.1
  len : b.1.length ≤ k

theorem y1329 (ca : List Value) (s1 : Option Nat) (len k1 : Nat) (id : Int) (i n : Nat) (cs : List Value) (o m : Nat) (ds : List Value) (K : Post) :
  roundX Try.prog SM noLoop F1329 body1329 1 [1,2] [] [1,2] [] [0,1,5,6,7] [1,0,0,1,0,0,1,0,1,1,1,1] (T1329 s1 len k1 id i) (H1329 ca n cs o m ds) K = (
Alt (eqI (↑n : Int) 0)
  (Alt (!false == ltI 0 (↑m : Int)) (K AE.ret (tmps 122 [(4, Value.bool false)]) (hp [Blk.cells ca 3 false]))
    (K AE.normal
      (tmps 122
        [(0, Value.slice (some { block := 0, off := 0, spot := s1 : Addr }) len k1), (1, Value.int IntKind.i64 id),
          (5, Value.pointer (some { block := 1, off := 0 : Addr })),
          (6, Value.pointer (some { block := 2, off := 0 : Addr })), (7, Value.int IntKind.i64 (↑i : Int))])
      (hp
        [Blk.cells ca 3 false,
          Blk.cells [Value.slice (some { block := 3, off := 0, spot := some 1 : Addr }) n n] 1 true,
          Blk.cells [Value.slice (some { block := 4, off := o, spot := some 1 : Addr }) m m] 1 true,
          Blk.cells cs 2 true, Blk.cells ds 2 true])))
  (Need (ltI 0 (↑n : Int))
    (Need (isInt IntKind.i64 ((getO cs 1).getD undef))
      (Need (ltI 0 (↑n : Int))
        (Need (isInt IntKind.u64 ((getO cs 0).getD undef))
          (Alt (!true == ltI 0 (↑m : Int)) (K AE.ret (tmps 122 [(4, Value.bool false)]) (hp [Blk.cells ca 3 false]))
            (Need (ltI 0 (↑m : Int))
              (Need (isInt IntKind.i64 ((getO ds (o + 0 + 0)).getD undef))
                (Alt (!eqI (intV ((getO cs 1).getD undef)) (intV ((getO ds (o + 0 + 0)).getD undef)))
                  (K AE.ret (tmps 122 [(4, Value.bool false)]) (hp [Blk.cells ca 3 false]))
                  (Need (ltI 0 (↑m : Int))
                    (Need (isInt IntKind.u64 ((getO ds (o + 0 + 1)).getD undef))
                      (Alt (!eqI (intV ((getO cs 0).getD undef)) (intV ((getO ds (o + 0 + 1)).getD undef)))
                        (K AE.ret (tmps 122 [(4, Value.bool false)]) (hp [Blk.cells ca 3 false]))
                        (K AE.normal
                          (tmps 122
                            [(0, Value.slice (some { block := 0, off := 0, spot := s1 : Addr }) len k1),
                              (1, Value.int IntKind.i64 id), (5, Value.pointer (some { block := 1, off := 0 : Addr })),
                              (6, Value.pointer (some { block := 2, off := 0 : Addr })),
                              (7, Value.int IntKind.i64 (↑i : Int))])
                          (hp
                            [Blk.cells ca 3 false,
                              Blk.cells [Value.slice (some { block := 3, off := 0, spot := some 1 : Addr }) n n] 1 true,
                              Blk.cells [Value.slice (some { block := 4, off := o, spot := some 1 : Addr }) m m] 1 true,
                              Blk.cells cs 2 true, Blk.cells ds 2 true])))))))))))))) := by kernel_rfl

noncomputable def cut1329a (ca : List Value) (s1 : Option Nat) (len k1 : Nat) (id : Int) (i : Nat) : CutE where
  β := List Re × Nat × List Value
  p := [1,0,0,1,0,0,1,0,1,1,1,1]
  t := fun _ => T1329 s1 len k1 id i
  h := fun b => H1329 ca b.1.length (reC b.1) b.2.1 b.1.length b.2.2
  Q := fun b K => (Both2 (i + 1) b ∧ i < len) ∧ K .normal (T1329 s1 len k1 id i) (H1329 ca b.1.length (reC b.1) b.2.1 b.1.length b.2.2)

theorem r1329 (ca : List Value) (s1 : Option Nat) (len k1 : Nat) (id : Int) (i n : Nat) (cs : List Value) (o m : Nat) (ds : List Value) (K : Post) :
  roundX Try.prog SM (gcLKX (at0 [1,2]) (at0 []) 1 (cutE [cut1329a ca s1 len k1 id i])) F1329 body1329 1 [1,2] [] [1,2] [] [0,1,5,6,7] [0,0,1,0,1,1,1,1] (T1329 s1 len k1 id i) (H1329 ca n cs o m ds) K = (
Alt (ltI (↑i : Int) (↑len : Int)) (Need (ltI (↑i : Int) (↑len : Int)) (Need (isInt IntKind.u8 ((getO ca (0 + (↑i : Int).toNat * 3)).getD undef)) (Need (isInt IntKind.i64 ((getO ca (0 + (↑i : Int).toNat * 3 + 1)).getD
undef)) (Need (isInt IntKind.u64 ((getO ca (0 + (↑i : Int).toNat * 3 + 1 + 1)).getD undef)) (Alt (eqI ((intV (Value.int IntKind.u8 (intV ((getO ca (0 + (↑i : Int).toNat * 3)).getD undef)))).tmod 3) 0) ((nojL [Value.slice
(some { block := 1, off := 0, spot := some 1 : Addr }) n n] = true ∧ FlatL cs ∧ True) ∧ (IsRC cs n n ∧ IsUpE (resAt cs n) ∧ ReOk (intV (Value.int IntKind.u64 (intV ((getO ca (0 + (↑i : Int).toNat * 3 + 1 + 1)).getD
undef))), intV (Value.int IntKind.i64 (intV ((getO ca (0 + (↑i : Int).toNat * 3 + 1)).getD undef)))) ∧ Need (leN n 999999) True) ∧ (nojL [Value.slice (some { block := 1, off := o, spot := some 1 : Addr }) m m] = true ∧
FlatL ds ∧ True) ∧ (IsDC ds o m m ∧ ReOk (intV (Value.int IntKind.u64 (intV ((getO ca (0 + (↑i : Int).toNat * 3 + 1 + 1)).getD undef))), intV (Value.int IntKind.i64 (intV ((getO ca (0 + (↑i : Int).toNat * 3 + 1)).getD
undef)))) ∧ IsQ (desAt ds o m) ∧ Need (leN m 999999) True) ∧ Need (beqV 64 (Value.int IntKind.i64 (↑(putE (intV (Value.int IntKind.i64 (intV ((getO ca (0 + (↑i : Int).toNat * 3 + 1)).getD undef)))) (intV (Value.int
IntKind.u64 (intV ((getO ca (0 + (↑i : Int).toNat * 3 + 1 + 1)).getD undef)))) (desAt ds o m)).length : Int)) (Value.int IntKind.i64 (↑(putE (intV (Value.int IntKind.i64 (intV ((getO ca (0 + (↑i : Int).toNat * 3 +
1)).getD undef)))) (intV (Value.int IntKind.u64 (intV ((getO ca (0 + (↑i : Int).toNat * 3 + 1 + 1)).getD undef)))) (desAt ds o m)).length : Int))) (Need (beqV 64 (Value.slice (some
{ block := 7, off := 0, spot := some 1 : Addr }) (putE (intV (Value.int IntKind.i64 (intV ((getO ca (0 + (↑i : Int).toNat * 3 + 1)).getD undef)))) (intV (Value.int IntKind.u64 (intV ((getO ca (0 + (↑i : Int).toNat * 3 +
1 + 1)).getD undef)))) (desAt ds o m)).length (putE (intV (Value.int IntKind.i64 (intV ((getO ca (0 + (↑i : Int).toNat * 3 + 1)).getD undef)))) (intV (Value.int IntKind.u64 (intV ((getO ca (0 + (↑i : Int).toNat * 3 + 1 +
1)).getD undef)))) (desAt ds o m)).length) (Value.slice (some { block := 7, off := 0, spot := some 1 : Addr }) (putE (intV (Value.int IntKind.i64 (intV ((getO ca (0 + (↑i : Int).toNat * 3 + 1)).getD undef)))) (intV
(Value.int IntKind.u64 (intV ((getO ca (0 + (↑i : Int).toNat * 3 + 1 + 1)).getD undef)))) (desAt ds o m)).length (putE (intV (Value.int IntKind.i64 (intV ((getO ca (0 + (↑i : Int).toNat * 3 + 1)).getD undef)))) (intV
(Value.int IntKind.u64 (intV ((getO ca (0 + (↑i : Int).toNat * 3 + 1 + 1)).getD undef)))) (desAt ds o m)).length)) (Alt (!eqI (↑(putE (intV (Value.int IntKind.i64 (intV ((getO ca (0 + (↑i : Int).toNat * 3 + 1)).getD
undef)))) (intV (Value.int IntKind.u64 (intV ((getO ca (0 + (↑i : Int).toNat * 3 + 1 + 1)).getD undef)))) (resAt cs n)).length : Int) (↑(putE (intV (Value.int IntKind.i64 (intV ((getO ca (0 + (↑i : Int).toNat * 3 +
1)).getD undef)))) (intV (Value.int IntKind.u64 (intV ((getO ca (0 + (↑i : Int).toNat * 3 + 1 + 1)).getD undef)))) (desAt ds o m)).length : Int)) (K AE.ret (tmps 122 [(4, Value.bool false)]) (hp [Blk.cells ca 3 false]))
(FlatD [1, 2] (hp [Blk.cells ca 3 false, Blk.cells [Value.slice (some { block := 3, off := 0, spot := some 1 : Addr }) (putE (intV (Value.int IntKind.i64 (intV ((getO ca (0 + (↑i : Int).toNat * 3 + 1)).getD undef))))
(intV (Value.int IntKind.u64 (intV ((getO ca (0 + (↑i : Int).toNat * 3 + 1 + 1)).getD undef)))) (resAt cs n)).length (putE (intV (Value.int IntKind.i64 (intV ((getO ca (0 + (↑i : Int).toNat * 3 + 1)).getD undef)))) (intV
(Value.int IntKind.u64 (intV ((getO ca (0 + (↑i : Int).toNat * 3 + 1 + 1)).getD undef)))) (resAt cs n)).length] 1 true, Blk.cells [Value.slice (some { block := 4, off := 0, spot := some 1 : Addr }) (putE (intV (Value.int
IntKind.i64 (intV ((getO ca (0 + (↑i : Int).toNat * 3 + 1)).getD undef)))) (intV (Value.int IntKind.u64 (intV ((getO ca (0 + (↑i : Int).toNat * 3 + 1 + 1)).getD undef)))) (desAt ds o m)).length (putE (intV (Value.int
IntKind.i64 (intV ((getO ca (0 + (↑i : Int).toNat * 3 + 1)).getD undef)))) (intV (Value.int IntKind.u64 (intV ((getO ca (0 + (↑i : Int).toNat * 3 + 1 + 1)).getD undef)))) (desAt ds o m)).length] 1 true, Blk.cells (reC
(putE (intV (Value.int IntKind.i64 (intV ((getO ca (0 + (↑i : Int).toNat * 3 + 1)).getD undef)))) (intV (Value.int IntKind.u64 (intV ((getO ca (0 + (↑i : Int).toNat * 3 + 1 + 1)).getD undef)))) (resAt cs n))) 2 true,
Blk.cells (deC (putE (intV (Value.int IntKind.i64 (intV ((getO ca (0 + (↑i : Int).toNat * 3 + 1)).getD undef)))) (intV (Value.int IntKind.u64 (intV ((getO ca (0 + (↑i : Int).toNat * 3 + 1 + 1)).getD undef)))) (desAt ds o
m))) 2 true]) ∧ ∃ (b : List Re × Nat × List Value), tmps 122 [(0, Value.slice (some { block := 0, off := 0, spot := s1 : Addr }) len k1), (1, Value.int IntKind.i64 id), (5, Value.pointer (some
{ block := 1, off := 0 : Addr })), (6, Value.pointer (some { block := 2, off := 0 : Addr })), (7, Value.int IntKind.i64 (↑i : Int))] = tmps 122 [(0, Value.slice (some { block := 0, off := 0, spot := s1 : Addr }) len k1),
(1, Value.int IntKind.i64 id), (5, Value.pointer (some { block := 1, off := 0 : Addr })), (6, Value.pointer (some { block := 2, off := 0 : Addr })), (7, Value.int IntKind.i64 (↑i : Int))] ∧ hp [Blk.cells ca 3 false,
Blk.cells [Value.slice (some { block := 3, off := 0, spot := some 1 : Addr }) (putE (intV (Value.int IntKind.i64 (intV ((getO ca (0 + (↑i : Int).toNat * 3 + 1)).getD undef)))) (intV (Value.int IntKind.u64 (intV ((getO ca
(0 + (↑i : Int).toNat * 3 + 1 + 1)).getD undef)))) (resAt cs n)).length (putE (intV (Value.int IntKind.i64 (intV ((getO ca (0 + (↑i : Int).toNat * 3 + 1)).getD undef)))) (intV (Value.int IntKind.u64 (intV ((getO ca (0 +
(↑i : Int).toNat * 3 + 1 + 1)).getD undef)))) (resAt cs n)).length] 1 true, Blk.cells [Value.slice (some { block := 4, off := 0, spot := some 1 : Addr }) (putE (intV (Value.int IntKind.i64 (intV ((getO ca (0 + (↑i :
Int).toNat * 3 + 1)).getD undef)))) (intV (Value.int IntKind.u64 (intV ((getO ca (0 + (↑i : Int).toNat * 3 + 1 + 1)).getD undef)))) (desAt ds o m)).length (putE (intV (Value.int IntKind.i64 (intV ((getO ca (0 + (↑i :
Int).toNat * 3 + 1)).getD undef)))) (intV (Value.int IntKind.u64 (intV ((getO ca (0 + (↑i : Int).toNat * 3 + 1 + 1)).getD undef)))) (desAt ds o m)).length] 1 true, Blk.cells (reC (putE (intV (Value.int IntKind.i64 (intV
((getO ca (0 + (↑i : Int).toNat * 3 + 1)).getD undef)))) (intV (Value.int IntKind.u64 (intV ((getO ca (0 + (↑i : Int).toNat * 3 + 1 + 1)).getD undef)))) (resAt cs n))) 2 true, Blk.cells (deC (putE (intV (Value.int
IntKind.i64 (intV ((getO ca (0 + (↑i : Int).toNat * 3 + 1)).getD undef)))) (intV (Value.int IntKind.u64 (intV ((getO ca (0 + (↑i : Int).toNat * 3 + 1 + 1)).getD undef)))) (desAt ds o m))) 2 true] = hp [Blk.cells ca 3
false, Blk.cells [Value.slice (some { block := 3, off := 0, spot := some 1 : Addr }) b.fst.length b.fst.length] 1 true, Blk.cells [Value.slice (some { block := 4, off := b.snd.fst, spot := some 1 : Addr }) b.fst.length
b.fst.length] 1 true, Blk.cells (reC b.fst) 2 true, Blk.cells b.snd.snd 2 true] ∧ (Both2 (i + 1) b ∧ i.succ.le len) ∧ K AE.normal (tmps 122 [(0, Value.slice (some { block := 0, off := 0, spot := s1 : Addr }) len k1), (1,
Value.int IntKind.i64 id), (5, Value.pointer (some { block := 1, off := 0 : Addr })), (6, Value.pointer (some { block := 2, off := 0 : Addr })), (7, Value.int IntKind.i64 (wr IntKind.i64 ((↑i : Int) + 1)))]) (hp
[Blk.cells ca 3 false, Blk.cells [Value.slice (some { block := 3, off := 0, spot := some 1 : Addr }) b.fst.length b.fst.length] 1 true, Blk.cells [Value.slice (some
{ block := 4, off := b.snd.fst, spot := some 1 : Addr }) b.fst.length b.fst.length] 1 true, Blk.cells (reC b.fst) 2 true, Blk.cells b.snd.snd 2 true]))))) (Alt (eqI ((intV (Value.int IntKind.u8 (intV ((getO ca (0 + (↑i :
Int).toNat * 3)).getD undef)))).tmod 3) 1) ((nojL [Value.slice (some { block := 1, off := 0, spot := some 1 : Addr }) n n] = true ∧ FlatL cs ∧ True) ∧ IsRC cs n n ∧ (nojL [Value.slice (some
{ block := 1, off := o, spot := some 1 : Addr }) m m] = true ∧ FlatL ds ∧ True) ∧ IsDC ds o m m ∧ Need (beqV 64 (Value.int IntKind.i64 (intV (Value.int IntKind.i64 (intV ((getO ca (0 + (↑i : Int).toNat * 3 + 1)).getD
undef))))) (Value.int IntKind.i64 (intV (Value.int IntKind.i64 (intV ((getO ca (0 + (↑i : Int).toNat * 3 + 1)).getD undef)))))) (Alt (!hasE (intV (Value.int IntKind.i64 (intV ((getO ca (0 + (↑i : Int).toNat * 3 +
1)).getD undef)))) (resAt cs n) == hasE (intV (Value.int IntKind.i64 (intV ((getO ca (0 + (↑i : Int).toNat * 3 + 1)).getD undef)))) (desAt ds o m)) (K AE.ret (tmps 122 [(4, Value.bool false)]) (hp [Blk.cells ca 3
false])) (Need (beqV 64 (Value.int IntKind.i64 (↑(dropE (intV (Value.int IntKind.i64 (intV ((getO ca (0 + (↑i : Int).toNat * 3 + 1)).getD undef)))) (desAt ds o m)).length : Int)) (Value.int IntKind.i64 (↑(dropE (intV
(Value.int IntKind.i64 (intV ((getO ca (0 + (↑i : Int).toNat * 3 + 1)).getD undef)))) (desAt ds o m)).length : Int))) (Need (beqV 64 (Value.slice (some
{ block := 6, off := dOff (intV (Value.int IntKind.i64 (intV ((getO ca (0 + (↑i : Int).toNat * 3 + 1)).getD undef)))) o (desAt ds o m), spot := some 1 : Addr }) (dropE (intV (Value.int IntKind.i64 (intV ((getO ca (0 +
(↑i : Int).toNat * 3 + 1)).getD undef)))) (desAt ds o m)).length (dropE (intV (Value.int IntKind.i64 (intV ((getO ca (0 + (↑i : Int).toNat * 3 + 1)).getD undef)))) (desAt ds o m)).length) (Value.slice (some
{ block := 6, off := dOff (intV (Value.int IntKind.i64 (intV ((getO ca (0 + (↑i : Int).toNat * 3 + 1)).getD undef)))) o (desAt ds o m), spot := some 1 : Addr }) (dropE (intV (Value.int IntKind.i64 (intV ((getO ca (0 +
(↑i : Int).toNat * 3 + 1)).getD undef)))) (desAt ds o m)).length (dropE (intV (Value.int IntKind.i64 (intV ((getO ca (0 + (↑i : Int).toNat * 3 + 1)).getD undef)))) (desAt ds o m)).length)) (Alt (!eqI (↑(dropE (intV
(Value.int IntKind.i64 (intV ((getO ca (0 + (↑i : Int).toNat * 3 + 1)).getD undef)))) (resAt cs n)).length : Int) (↑(dropE (intV (Value.int IntKind.i64 (intV ((getO ca (0 + (↑i : Int).toNat * 3 + 1)).getD undef))))
(desAt ds o m)).length : Int)) (K AE.ret (tmps 122 [(4, Value.bool false)]) (hp [Blk.cells ca 3 false])) (FlatD [1, 2] (hp [Blk.cells ca 3 false, Blk.cells [Value.slice (some
{ block := 3, off := 0, spot := some 1 : Addr }) (dropE (intV (Value.int IntKind.i64 (intV ((getO ca (0 + (↑i : Int).toNat * 3 + 1)).getD undef)))) (resAt cs n)).length (dropE (intV (Value.int IntKind.i64 (intV ((getO ca
(0 + (↑i : Int).toNat * 3 + 1)).getD undef)))) (resAt cs n)).length] 1 true, Blk.cells [Value.slice (some
{ block := 4, off := dOff (intV (Value.int IntKind.i64 (intV ((getO ca (0 + (↑i : Int).toNat * 3 + 1)).getD undef)))) o (desAt ds o m), spot := some 1 : Addr }) (dropE (intV (Value.int IntKind.i64 (intV ((getO ca (0 +
(↑i : Int).toNat * 3 + 1)).getD undef)))) (desAt ds o m)).length (dropE (intV (Value.int IntKind.i64 (intV ((getO ca (0 + (↑i : Int).toNat * 3 + 1)).getD undef)))) (desAt ds o m)).length] 1 true, Blk.cells (reC (dropE
(intV (Value.int IntKind.i64 (intV ((getO ca (0 + (↑i : Int).toNat * 3 + 1)).getD undef)))) (resAt cs n))) 2 true, Blk.cells (dCs (intV (Value.int IntKind.i64 (intV ((getO ca (0 + (↑i : Int).toNat * 3 + 1)).getD
undef)))) ds (desAt ds o m)) 2 true]) ∧ ∃ (b : List Re × Nat × List Value), tmps 122 [(0, Value.slice (some { block := 0, off := 0, spot := s1 : Addr }) len k1), (1, Value.int IntKind.i64 id), (5, Value.pointer (some
{ block := 1, off := 0 : Addr })), (6, Value.pointer (some { block := 2, off := 0 : Addr })), (7, Value.int IntKind.i64 (↑i : Int))] = tmps 122 [(0, Value.slice (some { block := 0, off := 0, spot := s1 : Addr }) len k1),
(1, Value.int IntKind.i64 id), (5, Value.pointer (some { block := 1, off := 0 : Addr })), (6, Value.pointer (some { block := 2, off := 0 : Addr })), (7, Value.int IntKind.i64 (↑i : Int))] ∧ hp [Blk.cells ca 3 false,
Blk.cells [Value.slice (some { block := 3, off := 0, spot := some 1 : Addr }) (dropE (intV (Value.int IntKind.i64 (intV ((getO ca (0 + (↑i : Int).toNat * 3 + 1)).getD undef)))) (resAt cs n)).length (dropE (intV
(Value.int IntKind.i64 (intV ((getO ca (0 + (↑i : Int).toNat * 3 + 1)).getD undef)))) (resAt cs n)).length] 1 true, Blk.cells [Value.slice (some
{ block := 4, off := dOff (intV (Value.int IntKind.i64 (intV ((getO ca (0 + (↑i : Int).toNat * 3 + 1)).getD undef)))) o (desAt ds o m), spot := some 1 : Addr }) (dropE (intV (Value.int IntKind.i64 (intV ((getO ca (0 +
(↑i : Int).toNat * 3 + 1)).getD undef)))) (desAt ds o m)).length (dropE (intV (Value.int IntKind.i64 (intV ((getO ca (0 + (↑i : Int).toNat * 3 + 1)).getD undef)))) (desAt ds o m)).length] 1 true, Blk.cells (reC (dropE
(intV (Value.int IntKind.i64 (intV ((getO ca (0 + (↑i : Int).toNat * 3 + 1)).getD undef)))) (resAt cs n))) 2 true, Blk.cells (dCs (intV (Value.int IntKind.i64 (intV ((getO ca (0 + (↑i : Int).toNat * 3 + 1)).getD
undef)))) ds (desAt ds o m)) 2 true] = hp [Blk.cells ca 3 false, Blk.cells [Value.slice (some { block := 3, off := 0, spot := some 1 : Addr }) b.fst.length b.fst.length] 1 true, Blk.cells [Value.slice (some
{ block := 4, off := b.snd.fst, spot := some 1 : Addr }) b.fst.length b.fst.length] 1 true, Blk.cells (reC b.fst) 2 true, Blk.cells b.snd.snd 2 true] ∧ (Both2 (i + 1) b ∧ i.succ.le len) ∧ K AE.normal (tmps 122 [(0,
Value.slice (some { block := 0, off := 0, spot := s1 : Addr }) len k1), (1, Value.int IntKind.i64 id), (5, Value.pointer (some { block := 1, off := 0 : Addr })), (6, Value.pointer (some { block := 2, off := 0 : Addr })),
(7, Value.int IntKind.i64 (wr IntKind.i64 ((↑i : Int) + 1)))]) (hp [Blk.cells ca 3 false, Blk.cells [Value.slice (some { block := 3, off := 0, spot := some 1 : Addr }) b.fst.length b.fst.length] 1 true, Blk.cells
[Value.slice (some { block := 4, off := b.snd.fst, spot := some 1 : Addr }) b.fst.length b.fst.length] 1 true, Blk.cells (reC b.fst) 2 true, Blk.cells b.snd.snd 2 true]))))))) ((nojL [Value.slice (some
{ block := 1, off := 0, spot := some 1 : Addr }) n n] = true ∧ FlatL cs ∧ True) ∧ IsRC cs n n ∧ (nojL [Value.slice (some { block := 1, off := o, spot := some 1 : Addr }) m m] = true ∧ FlatL ds ∧ True) ∧ IsDC ds o m m ∧
(FlatL (iC (ripeE (intV (Value.int IntKind.u64 (intV ((getO ca (0 + (↑i : Int).toNat * 3 + 1 + 1)).getD undef)))) (resAt cs n))) ∧ FlatL (iC (ripeE (intV (Value.int IntKind.u64 (intV ((getO ca (0 + (↑i : Int).toNat * 3 +
1 + 1)).getD undef)))) (desAt ds o m))) ∧ True) ∧ (IsE (iE IntKind.i64) (ZP IntKind.i64) (iC (ripeE (intV (Value.int IntKind.u64 (intV ((getO ca (0 + (↑i : Int).toNat * 3 + 1 + 1)).getD undef)))) (resAt cs n))) 0 (ripeE
(intV (Value.int IntKind.u64 (intV ((getO ca (0 + (↑i : Int).toNat * 3 + 1 + 1)).getD undef)))) (resAt cs n)).length (ripeE (intV (Value.int IntKind.u64 (intV ((getO ca (0 + (↑i : Int).toNat * 3 + 1 + 1)).getD undef))))
(resAt cs n)).length ∧ IsE (iE IntKind.i64) (ZP IntKind.i64) (iC (ripeE (intV (Value.int IntKind.u64 (intV ((getO ca (0 + (↑i : Int).toNat * 3 + 1 + 1)).getD undef)))) (desAt ds o m))) 0 (ripeE (intV (Value.int
IntKind.u64 (intV ((getO ca (0 + (↑i : Int).toNat * 3 + 1 + 1)).getD undef)))) (desAt ds o m)).length (ripeE (intV (Value.int IntKind.u64 (intV ((getO ca (0 + (↑i : Int).toNat * 3 + 1 + 1)).getD undef)))) (desAt ds o
m)).length) ∧ Need (beqV 64 (Value.int IntKind.u64 (intV (Value.int IntKind.u64 (intV ((getO ca (0 + (↑i : Int).toNat * 3 + 1 + 1)).getD undef))))) (Value.int IntKind.u64 (intV (Value.int IntKind.u64 (intV ((getO ca (0 +
(↑i : Int).toNat * 3 + 1 + 1)).getD undef)))))) (Alt (!sameI (intsAt (iC (ripeE (intV (Value.int IntKind.u64 (intV ((getO ca (0 + (↑i : Int).toNat * 3 + 1 + 1)).getD undef)))) (resAt cs n))) 0 (ripeE (intV (Value.int
IntKind.u64 (intV ((getO ca (0 + (↑i : Int).toNat * 3 + 1 + 1)).getD undef)))) (resAt cs n)).length) (intsAt (iC (ripeE (intV (Value.int IntKind.u64 (intV ((getO ca (0 + (↑i : Int).toNat * 3 + 1 + 1)).getD undef))))
(desAt ds o m))) 0 (ripeE (intV (Value.int IntKind.u64 (intV ((getO ca (0 + (↑i : Int).toNat * 3 + 1 + 1)).getD undef)))) (desAt ds o m)).length)) (K AE.ret (tmps 122 [(4, Value.bool false)]) (hp [Blk.cells ca 3 false]))
(Need (beqV 64 (Value.int IntKind.i64 (↑(restE (intV (Value.int IntKind.u64 (intV ((getO ca (0 + (↑i : Int).toNat * 3 + 1 + 1)).getD undef)))) (desAt ds o m)).length : Int)) (Value.int IntKind.i64 (↑(restE (intV
(Value.int IntKind.u64 (intV ((getO ca (0 + (↑i : Int).toNat * 3 + 1 + 1)).getD undef)))) (desAt ds o m)).length : Int))) (Need (beqV 64 (Value.slice (some
{ block := 4, off := o + (ripeE (intV (Value.int IntKind.u64 (intV ((getO ca (0 + (↑i : Int).toNat * 3 + 1 + 1)).getD undef)))) (desAt ds o m)).length * 2, spot := some 1 : Addr }) (restE (intV (Value.int IntKind.u64
(intV ((getO ca (0 + (↑i : Int).toNat * 3 + 1 + 1)).getD undef)))) (desAt ds o m)).length (restE (intV (Value.int IntKind.u64 (intV ((getO ca (0 + (↑i : Int).toNat * 3 + 1 + 1)).getD undef)))) (desAt ds o m)).length)
(Value.slice (some { block := 4, off := o + (ripeE (intV (Value.int IntKind.u64 (intV ((getO ca (0 + (↑i : Int).toNat * 3 + 1 + 1)).getD undef)))) (desAt ds o m)).length * 2, spot := some 1 : Addr }) (restE (intV
(Value.int IntKind.u64 (intV ((getO ca (0 + (↑i : Int).toNat * 3 + 1 + 1)).getD undef)))) (desAt ds o m)).length (restE (intV (Value.int IntKind.u64 (intV ((getO ca (0 + (↑i : Int).toNat * 3 + 1 + 1)).getD undef))))
(desAt ds o m)).length)) (Alt (!eqI (↑(restE (intV (Value.int IntKind.u64 (intV ((getO ca (0 + (↑i : Int).toNat * 3 + 1 + 1)).getD undef)))) (resAt cs n)).length : Int) (↑(restE (intV (Value.int IntKind.u64 (intV ((getO
ca (0 + (↑i : Int).toNat * 3 + 1 + 1)).getD undef)))) (desAt ds o m)).length : Int)) (K AE.ret (tmps 122 [(4, Value.bool false)]) (hp [Blk.cells ca 3 false])) (FlatD [1, 2] (hp [Blk.cells ca 3 false, Blk.cells
[Value.slice (some { block := 3, off := 0, spot := some 1 : Addr }) (restE (intV (Value.int IntKind.u64 (intV ((getO ca (0 + (↑i : Int).toNat * 3 + 1 + 1)).getD undef)))) (resAt cs n)).length (restE (intV (Value.int
IntKind.u64 (intV ((getO ca (0 + (↑i : Int).toNat * 3 + 1 + 1)).getD undef)))) (resAt cs n)).length] 1 true, Blk.cells [Value.slice (some
{ block := 4, off := o + (ripeE (intV (Value.int IntKind.u64 (intV ((getO ca (0 + (↑i : Int).toNat * 3 + 1 + 1)).getD undef)))) (desAt ds o m)).length * 2, spot := some 1 : Addr }) (restE (intV (Value.int IntKind.u64
(intV ((getO ca (0 + (↑i : Int).toNat * 3 + 1 + 1)).getD undef)))) (desAt ds o m)).length (restE (intV (Value.int IntKind.u64 (intV ((getO ca (0 + (↑i : Int).toNat * 3 + 1 + 1)).getD undef)))) (desAt ds o m)).length] 1
true, Blk.cells (reC (restE (intV (Value.int IntKind.u64 (intV ((getO ca (0 + (↑i : Int).toNat * 3 + 1 + 1)).getD undef)))) (resAt cs n))) 2 true, Blk.cells ds 2 true]) ∧ ∃ (b : List Re × Nat × List Value), tmps 122 [(0,
Value.slice (some { block := 0, off := 0, spot := s1 : Addr }) len k1), (1, Value.int IntKind.i64 id), (5, Value.pointer (some { block := 1, off := 0 : Addr })), (6, Value.pointer (some { block := 2, off := 0 : Addr })),
(7, Value.int IntKind.i64 (↑i : Int))] = tmps 122 [(0, Value.slice (some { block := 0, off := 0, spot := s1 : Addr }) len k1), (1, Value.int IntKind.i64 id), (5, Value.pointer (some { block := 1, off := 0 : Addr })), (6,
Value.pointer (some { block := 2, off := 0 : Addr })), (7, Value.int IntKind.i64 (↑i : Int))] ∧ hp [Blk.cells ca 3 false, Blk.cells [Value.slice (some { block := 3, off := 0, spot := some 1 : Addr }) (restE (intV
(Value.int IntKind.u64 (intV ((getO ca (0 + (↑i : Int).toNat * 3 + 1 + 1)).getD undef)))) (resAt cs n)).length (restE (intV (Value.int IntKind.u64 (intV ((getO ca (0 + (↑i : Int).toNat * 3 + 1 + 1)).getD undef)))) (resAt
cs n)).length] 1 true, Blk.cells [Value.slice (some
{ block := 4, off := o + (ripeE (intV (Value.int IntKind.u64 (intV ((getO ca (0 + (↑i : Int).toNat * 3 + 1 + 1)).getD undef)))) (desAt ds o m)).length * 2, spot := some 1 : Addr }) (restE (intV (Value.int IntKind.u64
(intV ((getO ca (0 + (↑i : Int).toNat * 3 + 1 + 1)).getD undef)))) (desAt ds o m)).length (restE (intV (Value.int IntKind.u64 (intV ((getO ca (0 + (↑i : Int).toNat * 3 + 1 + 1)).getD undef)))) (desAt ds o m)).length] 1
true, Blk.cells (reC (restE (intV (Value.int IntKind.u64 (intV ((getO ca (0 + (↑i : Int).toNat * 3 + 1 + 1)).getD undef)))) (resAt cs n))) 2 true, Blk.cells ds 2 true] = hp [Blk.cells ca 3 false, Blk.cells [Value.slice
(some { block := 3, off := 0, spot := some 1 : Addr }) b.fst.length b.fst.length] 1 true, Blk.cells [Value.slice (some { block := 4, off := b.snd.fst, spot := some 1 : Addr }) b.fst.length b.fst.length] 1 true, Blk.cells
(reC b.fst) 2 true, Blk.cells b.snd.snd 2 true] ∧ (Both2 (i + 1) b ∧ i.succ.le len) ∧ K AE.normal (tmps 122 [(0, Value.slice (some { block := 0, off := 0, spot := s1 : Addr }) len k1), (1, Value.int IntKind.i64 id), (5,
Value.pointer (some { block := 1, off := 0 : Addr })), (6, Value.pointer (some { block := 2, off := 0 : Addr })), (7, Value.int IntKind.i64 (wr IntKind.i64 ((↑i : Int) + 1)))]) (hp [Blk.cells ca 3 false, Blk.cells
[Value.slice (some { block := 3, off := 0, spot := some 1 : Addr }) b.fst.length b.fst.length] 1 true, Blk.cells [Value.slice (some { block := 4, off := b.snd.fst, spot := some 1 : Addr }) b.fst.length b.fst.length] 1
true, Blk.cells (reC b.fst) 2 true, Blk.cells b.snd.snd 2 true]))))))))))))) (K (AE.exit 0) (tmps 122 [(1, Value.int IntKind.i64 id), (5, Value.pointer (some { block := 1, off := 0 : Addr })), (6, Value.pointer (some
{ block := 2, off := 0 : Addr }))]) (hp [Blk.cells ca 3 false, Blk.cells [Value.slice (some { block := 3, off := 0, spot := some 1 : Addr }) n n] 1 true, Blk.cells [Value.slice (some
{ block := 4, off := o, spot := some 1 : Addr }) m m] 1 true, Blk.cells cs 2 true, Blk.cells ds 2 true]))) := by kernel_rfl

noncomputable def cut1329L (ca : List Value) (s1 : Option Nat) (len k1 : Nat) (id : Int) : CutE where
  β := (List Re × Nat × List Value) × Nat
  p := [0,1,0,1,1,1,1]
  t := fun x => T1329 s1 len k1 id x.2
  h := fun x => H1329 ca x.1.1.length (reC x.1.1) x.1.2.1 x.1.1.length x.1.2.2
  Q := fun x K => (Both2 x.2 x.1 ∧ x.2 ≤ len ∧ len ≤ 100) ∧ ∀ b, Both2 len b → K (.exit 0) (tmps 122 [(1, .int .i64 id), (5, p1 1), (6, p1 2)]) (H1329 ca b.1.length (reC b.1) b.2.1 b.1.length b.2.2)

theorem w1329 (ca : List Value) (s1 : Option Nat) (len k1 : Nat) (id : Int) (K : Value → Heap → Prop) :
  funX Try.prog SM (gcLKX (at0 [1,2]) (at0 [.cell 5 0 2, .cell 6 0 2]) 1 (cutE [cut1329L ca s1 len k1 id])) F1329 body1329 Try.f4 [] [] [.slice (some ⟨0,0,s1⟩) len k1, .int .i64 id] (hp [.cells ca 3 false]) K = (
Alt (ltI 100 (↑len : Int)) (True ∧ True ∧ K (Value.bool true) (hp [Blk.cells ca 3 false]))
  (FlatD [1, 2]
      (hp
        [Blk.cells ca 3 false,
          Blk.cells [Value.slice (some { block := 3, off := 0, spot := some 1 : Addr }) 0 0] 1 true,
          Blk.cells [Value.slice (some { block := 4, off := 0, spot := some 1 : Addr }) 0 0] 1 true,
          Blk.cells [] 2 true, Blk.cells [] 2 true]) ∧
    ∃ (b : (List Re × Nat × List Value) × Nat),
      tmps 122
            [(0, Value.slice (some { block := 0, off := 0, spot := s1 : Addr }) len k1), (1, Value.int IntKind.i64 id),
              (5, Value.pointer (some { block := 1, off := 0 : Addr })),
              (6, Value.pointer (some { block := 2, off := 0 : Addr })), (7, Value.int IntKind.i64 0)] =
          tmps 122
            [(0, Value.slice (some { block := 0, off := 0, spot := s1 : Addr }) len k1), (1, Value.int IntKind.i64 id),
              (5, Value.pointer (some { block := 1, off := 0 : Addr })),
              (6, Value.pointer (some { block := 2, off := 0 : Addr })), (7, Value.int IntKind.i64 (↑b.snd : Int))] ∧
        hp
              [Blk.cells ca 3 false,
                Blk.cells [Value.slice (some { block := 3, off := 0, spot := some 1 : Addr }) 0 0] 1 true,
                Blk.cells [Value.slice (some { block := 4, off := 0, spot := some 1 : Addr }) 0 0] 1 true,
                Blk.cells [] 2 true, Blk.cells [] 2 true] =
            hp
              [Blk.cells ca 3 false,
                Blk.cells
                  [Value.slice (some { block := 3, off := 0, spot := some 1 : Addr }) b.fst.fst.length b.fst.fst.length]
                  1 true,
                Blk.cells
                  [Value.slice (some { block := 4, off := b.fst.snd.fst, spot := some 1 : Addr }) b.fst.fst.length
                      b.fst.fst.length]
                  1 true,
                Blk.cells (reC b.fst.fst) 2 true, Blk.cells b.fst.snd.snd 2 true] ∧
          (Both2 b.snd b.fst ∧ b.snd.le len ∧ len.le 100) ∧
            ∀ (b : List Re × Nat × List Value),
              Both2 len b →
                (FlatL (reC b.fst) ∧ FlatL [Value.int IntKind.i64 id] ∧ True) ∧
                  (True ∧
                      IsP reF reG ReOk (reC b.fst) b.fst.length b.fst.length ∧ Need (leN b.fst.length 1000000) True) ∧
                    Alt (ltI (idxE id 0 (resAt (reC b.fst) b.fst.length)) 0)
                      ((nojL
                              [Value.slice (some { block := 1, off := b.snd.fst, spot := some 1 : Addr }) b.fst.length
                                  b.fst.length] =
                            true ∧
                          FlatL b.snd.snd ∧ True) ∧
                        IsDC b.snd.snd b.snd.fst b.fst.length b.fst.length ∧
                          Alt (eqI 0 (whenE id (desAt b.snd.snd b.snd.fst b.fst.length)))
                            (Alt (false == hasE id (desAt b.snd.snd b.snd.fst b.fst.length))
                              (True ∧ True ∧ K (Value.bool true) (hp [Blk.cells ca 3 false]))
                              (K (Value.bool false) (hp [Blk.cells ca 3 false])))
                            (K (Value.bool false) (hp [Blk.cells ca 3 false])))
                      (Need (leI 0 (idxE id 0 (resAt (reC b.fst) b.fst.length)))
                        (Need (ltI (idxE id 0 (resAt (reC b.fst) b.fst.length)) (↑b.fst.length : Int))
                          (Need
                            (isInt IntKind.u64
                              ((getO (reC b.fst) (0 + (idxE id 0 (resAt (reC b.fst) b.fst.length)).toNat * 2 + 0)).getD
                                undef))
                            ((nojL
                                    [Value.slice (some { block := 1, off := b.snd.fst, spot := some 1 : Addr })
                                        b.fst.length b.fst.length] =
                                  true ∧
                                FlatL b.snd.snd ∧ True) ∧
                              IsDC b.snd.snd b.snd.fst b.fst.length b.fst.length ∧
                                Alt
                                  (eqI
                                    (intV
                                      ((getO (reC b.fst)
                                            (0 + (idxE id 0 (resAt (reC b.fst) b.fst.length)).toNat * 2 + 0)).getD
                                        undef))
                                    (whenE id (desAt b.snd.snd b.snd.fst b.fst.length)))
                                  (Alt (true == hasE id (desAt b.snd.snd b.snd.fst b.fst.length))
                                    (True ∧ True ∧ K (Value.bool true) (hp [Blk.cells ca 3 false]))
                                    (K (Value.bool false) (hp [Blk.cells ca 3 false])))
                                  (K (Value.bool false) (hp [Blk.cells ca 3 false])))))))) := by kernel_rfl

end Go.Proofs.Ytmgnlkefhmhkhaa

namespace Go.Proofs.Ytmgnlkefhmhkhaa
open Go.RowKit Go.Proofs.Ytmgnlkefhmhkhaa.AM
set_option maxRecDepth 100000
set_option maxHeartbeats 4000000
def Steps3 (ca : List Value) (len : Nat) : Prop := ∀ i, i < len → ∃ g id d : Int, getO ca (i * 3) = some (.int .u8 g) ∧ getO ca (i * 3 + 1) = some (.int .i64 id) ∧ getO ca (i * 3 + 1 + 1) = some (.int .u64 d) ∧ ReOk (d, id)
theorem h5_flat {ca cs ds : List Value} {n m o n2 m2 : Nat} (h : FlatL ca) (h2 : FlatL cs) (h3 : FlatL ds) : FlatD [1, 2] (hp [.cells ca 3 false, .cells [.slice (some ⟨3,0,some 1⟩) n n2] 1 true, .cells [.slice (some ⟨4,o,some 1⟩) m m2] 1 true, .cells cs 2 true, .cells ds 2 true]) := FlatD.hp ⟨h, rfl, rfl, h2, h3, trivial⟩
theorem partP (hmix : Try.prog.follows .mixedOrders = true) (ca : List Value) (hca : FlatL ca) (s1 : Option Nat) (len k1 : Nat) (id : Int) (i : Nat) (L : List Re) (o : Nat) (ds : List Value) (ok : ∀ x ∈ L, ReOk x) (hD : DRow ds o L) (K : Post)
    (hK : K .normal (T1329 s1 len k1 id i) (H1329 ca L.length (reC L) o L.length ds)) :
    Says Try.prog 1 (sub body1329 [1,0,0,1,0,0,1,0,1,1,1,1]) (T1329 s1 len k1 id i) (H1329 ca L.length (reC L) o L.length ds) K := by
  refine (sureM hmix).cutN F1329 noLoops [1,2] [] [1,2] [] [0,1,5,6,7] ?_
  rw [y1329]
  have hF := h5_flat (n := L.length) (n2 := L.length) (m := L.length) (m2 := L.length) (o := o) hca (reC_flat L) hD.flat
  cases L with
  | nil => exact Alt_iff.2 ⟨fun _ => Alt_iff.2 ⟨fun h => (by cases h), fun _ => ⟨hF, hK⟩⟩, fun h => (by cases h)⟩
  | cons x t =>
    have g0 : getO (reC (x :: t)) 0 = some (.int .u64 x.1) := rfl
    have g1 : getO (reC (x :: t)) 1 = some (.int .i64 x.2) := rfl
    have hx : (x :: t)[0]? = some x := rfl
    have d0 : getO ds o = some (.int .i64 x.2) := hD.get0 hx
    have d1 : getO ds (o + 1) = some (.int .u64 x.1) := hD.get1 hx
    have hlt : (0 : Int) < ((x :: t).length : Int) := by rw [List.length_cons]; omega
    have hl0 : ¬ ((x :: t).length : Int) = 0 := by rw [List.length_cons]; omega
    have hl1 : ltI 0 ((x :: t).length : Int) = true := ltI_iff.2 hlt
    simp only [g0, g1, Nat.add_zero, d0, d1, hl1, hlt, hl0, hF, show intV (Value.int .u64 x.1) = x.1 from rfl, show intV (Value.int .i64 x.2) = x.2 from rfl, beq_self_eq_true, Bool.not_true, Bool.not_false, Alt_iff, Need_iff, ltI_eq, leI_eq, eqI_eq, leN_eq, eqN_eq, decide_eq_true_eq, decide_eq_false_iff_not, decide_true, decide_false, true_and, and_true, Bool.true_eq_false, Bool.false_eq_true, false_implies, true_implies, implies_true, not_true_eq_false, not_false_eq_true, Bool.not_eq_true', Bool.not_eq_false', Nat.zero_add, Nat.add_zero, Nat.sub_zero, Nat.zero_mul, Nat.mul_one, Int.toNat_natCast, List.drop_zero, beqV_int, beqV_sl, beqV_str, beqV_bool, beqV_ptr, beqV_flt, beqV_agg, beqV_tuple, List.all_cons, List.all_nil, Bool.and_self, Bool.and_true, Bool.true_and, Nat.le_refl, Int.le_refl, Nat.zero_le, Option.getD_some, isStr, strV, isInt, intV, isBool, boolV, kindEq, at0, isJunk, Option.isSome_some, Option.isSome_none, if_true, if_false, Nat.add_sub_cancel_left, Nat.add_sub_cancel]
    exact hK
theorem plays_loop (hmix : Try.prog.follows .mixedOrders = true) (ca : List Value) (hca : FlatL ca) (s1 : Option Nat) (len k1 : Nat) (hlen : len ≤ 100) (hS : Steps3 ca len) (id : Int) (K : Post)
    (hK : ∀ b, Both2 len b → K (.exit 0) (tmps 122 [(1, .int .i64 id), (5, p1 1), (6, p1 2)]) (H1329 ca b.1.length (reC b.1) b.2.1 b.1.length b.2.2)) :
    ∀ (t i : Nat) (b : List Re × Nat × List Value), i + t = len → Both2 i b →
    LSays Try.prog 1 (sub body1329 [0,0,1,0,1,1,1,1]) (T1329 s1 len k1 id i) (H1329 ca b.1.length (reC b.1) b.2.1 b.1.length b.2.2) K := by
  have hL : ∀ i, Loops Try.prog body1329 1 (cutE [cut1329a ca s1 len k1 id i]) := fun i => Loops.noneE.moreE _ fun b K hq => by
    obtain ⟨⟨hB, _⟩, hq⟩ := hq
    exact partP hmix ca hca s1 len k1 id i b.1 b.2.1 b.2.2 hB.row.ok hB.row K hq
  intro t
  induction t with
  | zero =>
    intro i b hi hB
    obtain ⟨L, o, ds⟩ := b
    have hF := h5_flat (n := L.length) (n2 := L.length) (m := L.length) (m2 := L.length) (o := o) hca (reC_flat L) hB.row.flat
    refine (sureM hmix).roundX F1329 ((hL i).gcX (at0 [1,2]) (at0 [])) [1,2] [] [1,2] [] [0,1,5,6,7] ?_
    simp only
    rw [r1329]
    obtain rfl : i = len := by omega
    exact Alt_iff.2 ⟨fun h => absurd (ltI_iff.1 h) (by omega), fun _ => ⟨hF, hK (L, o, ds) hB⟩⟩
  | succ t ih =>
    intro i b hi hB
    obtain ⟨L, o, ds⟩ := b
    obtain ⟨g, id2, d, g0, g1, g2, he⟩ := hS i (by omega)
    have ok := hB.row.ok
    have hD := hB.row
    have hQ := hB.q
    simp only at ok hD hQ
    have hLl : L.length ≤ i := hB.len
    have hrc := rcs ok (by omega)
    have hdc : IsDC ds o L.length L.length := .mk L hD rfl rfl
    have hup : IsUpE L := ⟨hQ.up, hQ.len⟩
    refine (sureM hmix).roundX F1329 ((hL i).gcX (at0 [1,2]) (at0 [])) [1,2] [] [1,2] [] [0,1,5,6,7] ?_
    simp only
    rw [r1329]
    have e1 : ∀ z : Int, eqI z z = true := fun z => eqI_iff.2 rfl
    have e2 : ∀ l : List Int, sameI l l = true := fun l => sameI_iff.2 rfl
    have hrl := ripeE_len d L
    have hie : IsE (iE .i64) (ZP .i64) (iC (ripeE d L)) 0 (ripeE d L).length (ripeE d L).length := IsE.own flat_i (ripeE_ok ok) (by omega)
    have hdl := dropE_len id2 L
    have hpl := putE_len id2 d L
    simp only [Nat.zero_add, Int.toNat_natCast, g0, g1, g2, reC_at ok, hD.at, Option.getD_some, show ∀ n, intV (Value.int .u8 n) = n from fun _ => rfl, show ∀ n, intV (Value.int .u64 n) = n from fun _ => rfl, show ∀ n, intV (Value.int .i64 n) = n from fun _ => rfl, hrc, hdc, hup, hQ, he, e1, e2, hie, iC_flat, nx i (by omega), reC_flat, hD.flat, show (i : Int) < (len : Int) by omega, show L.length ≤ 999999 by omega, Bool.not_true, beq_self_eq_true, Alt_iff, Need_iff, ltI_eq, leI_eq, eqI_eq, leN_eq, eqN_eq, decide_eq_true_eq, decide_eq_false_iff_not, decide_true, decide_false, true_and, and_true, Bool.true_eq_false, Bool.false_eq_true, false_implies, true_implies, implies_true, not_true_eq_false, not_false_eq_true, Bool.not_eq_true', Bool.not_eq_false', Nat.zero_add, Nat.add_zero, Nat.sub_zero, Nat.zero_mul, Nat.mul_one, Int.toNat_natCast, List.drop_zero, beqV_int, beqV_sl, beqV_str, beqV_bool, beqV_ptr, beqV_flt, beqV_agg, beqV_tuple, List.all_cons, List.all_nil, Bool.and_self, Bool.and_true, Bool.true_and, Nat.le_refl, Int.le_refl, Nat.zero_le, Option.getD_some, isStr, strV, isInt, intV, isBool, boolV, kindEq, at0, isJunk, Option.isSome_some, Option.isSome_none, if_true, if_false, Nat.add_sub_cancel_left, Nat.add_sub_cancel]
    have fin : ∀ b : List Re × Nat × List Value, Both2 (i + 1) b → FlatD [1, 2] (hp [.cells ca 3 false, .cells [.slice (some ⟨3,0,some 1⟩) b.1.length b.1.length] 1 true, .cells [.slice (some ⟨4,b.2.1,some 1⟩) b.1.length b.1.length] 1 true, .cells (reC b.1) 2 true, .cells b.2.2 2 true]) := fun b hb => h5_flat hca (reC_flat _) hb.row.flat
    refine ⟨fun h => ?_, fun h => ⟨fun h2 => ?_, fun h2 => ?_⟩⟩
    · have hB2 : Both2 (i + 1) (putE id2 d L, 0, deC (putE id2 d L)) := ⟨isQ_put hQ (by omega), deC_row (putE_ok he ok) (by omega), by show (putE id2 d L).length ≤ i + 1; omega⟩
      exact ⟨rfl, rfl, fin _ hB2, _, rfl, ⟨hB2, by show i < len; omega⟩, fin _ hB2, ih (i + 1) _ (by omega) hB2⟩
    · have hB2 : Both2 (i + 1) (dropE id2 L, dOff id2 o L, dCs id2 ds L) := ⟨isQ_drop hQ, dRow hD, by show (dropE id2 L).length ≤ i + 1; omega⟩
      exact ⟨rfl, rfl, fin _ hB2, _, rfl, ⟨hB2, by show i < len; omega⟩, fin _ hB2, ih (i + 1) _ (by omega) hB2⟩
    · have hB2 : Both2 (i + 1) (restE d L, o + (ripeE d L).length * 2, ds) := ⟨isQ_rest hQ, rest_row hD, by show (restE d L).length ≤ i + 1; omega⟩
      exact ⟨rfl, rfl, fin _ hB2, _, rfl, ⟨hB2, by show i < len; omega⟩, fin _ hB2, ih (i + 1) _ (by omega) hB2⟩
end Go.Proofs.Ytmgnlkefhmhkhaa

namespace Go.Proofs.Ytmgnlkefhmhkhaa
open Go.RowKit Go.Proofs.Ytmgnlkefhmhkhaa.AM
set_option maxRecDepth 100000
set_option maxHeartbeats 4000000
theorem idx_when (o : Int) : ∀ (L : List Re) (i : Nat), (idxE o i L = -1 ∧ hasE o L = false ∧ whenE o L = 0) ∨ ∃ j : Nat, idxE o i L = ((i + j : Nat) : Int) ∧ hasE o L = true ∧ L[j]? = some (whenE o L, o) := by
  intro L
  induction L with
  | nil => intro i; exact .inl ⟨rfl, rfl, rfl⟩
  | cons x t ih =>
    intro i
    by_cases h : eqI x.2 o = true
    · refine .inr ⟨0, by simp [idxE, h], by simp [hasE, h], ?_⟩
      rw [List.getElem?_cons_zero, whenE, if_pos h, ← eqI_iff.1 h]
    · rcases ih (i + 1) with ⟨q1, q2, q3⟩ | ⟨j, q1, q2, q3⟩
      · exact .inl ⟨by rw [idxE, if_neg h, q1], by rw [hasE, if_neg h, q2], by rw [whenE, if_neg h, q3]⟩
      · exact .inr ⟨j + 1, by rw [idxE, if_neg h, q1]; omega, by rw [hasE, if_neg h, q2], by rw [List.getElem?_cons_succ, whenE, if_neg h, q3]⟩
theorem law1329z (hmix : Try.prog.follows .mixedOrders = true) (ca : List Value) (hca : FlatL ca) (len : Nat) (hS : Steps3 ca len) (id : Int) (hid : ZP .i64 id) (s1 : Option Nat) (k1 : Nat) :
    FunSays Try.prog 4 [.slice (some ⟨0,0,s1⟩) len k1, .int .i64 id] (hp [.cells ca 3 false]) fun v _ => v = .bool true := by
  have hF : FlatD [] (hp [.cells ca 3 false]) := FlatD.hp ⟨hca, trivial⟩
  have hL : Loops Try.prog body1329 1 (cutE [cut1329L ca s1 len k1 id]) := Loops.noneE.moreE _ fun x K hq => by
    obtain ⟨⟨h1, h2, h3⟩, h4⟩ := hq
    exact plays_loop hmix ca hca s1 len k1 h3 hS id K h4 (len - x.2) x.2 x.1 (by omega) h1
  refine (sureM hmix).funX F1329 body1329 [] [] Try.func4 rfl (hL.gcX (at0 [1,2]) (at0 [.cell 5 0 2, .cell 6 0 2])) ?_
  rw [w1329]
  refine Alt_iff.2 ⟨fun _ => ⟨trivial, trivial, hF, rfl, rfl⟩, fun h100 => ?_⟩
  have h100 : len ≤ 100 := by
    have : ¬ (100 : Int) < (len : Int) := fun h => by rw [ltI_iff.2 h] at h100; cases h100
    omega
  refine ⟨h5_flat hca (reC_flat []) (deC_flat []), (([], 0, []), 0), rfl, rfl, ⟨⟨isQ_nil, deC_row (L := []) (fun x hx => by simp at hx) (by decide), Nat.le_refl _⟩, Nat.zero_le _, h100⟩, fun b hB => ?_⟩
  obtain ⟨L, o, ds⟩ := b
  have hD := hB.row
  have ok := hB.row.ok
  have hLl : L.length ≤ len := hB.len
  simp only at hD ok ⊢
  have hdc : IsDC ds o L.length L.length := .mk L hD rfl rfl
  rw [reC_at ok, hD.at]
  refine ⟨⟨reC_flat L, int_flat id, trivial⟩, ⟨trivial, irs ok, Need_iff.2 ⟨leN_iff.2 (by omega), trivial⟩⟩, ?_⟩
  rcases idx_when id L 0 with ⟨q1, q2, q3⟩ | ⟨j, q1, q2, q3⟩
  · rw [q1, q2, q3]
    refine Alt_iff.2 ⟨fun _ => ⟨⟨rfl, hD.flat, trivial⟩, hdc, Alt_iff.2 ⟨fun _ => Alt_iff.2 ⟨fun _ => ⟨trivial, trivial, hF, rfl, (by first | rfl | trivial)⟩, fun h => (by cases h)⟩, fun h => (by cases h)⟩⟩, fun h => (by cases h)⟩
  · rw [Nat.zero_add] at q1
    have hjl := (List.getElem?_eq_some_iff.1 q3).1
    have g0 := (reC_row ok).get0 q3
    rw [q1, q2]
    have e1 : ∀ z : Int, eqI z z = true := fun z => eqI_iff.2 rfl
    simp only [Nat.zero_add, Nat.add_zero, Int.toNat_natCast, g0, reF, show ¬ ((j : Int) < 0) by omega, show (0 : Int) ≤ (j : Int) by omega, show (j : Int) < (L.length : Int) by omega, hD.flat, hdc, hF, show ∀ n, intV (Value.int .u64 n) = n from fun _ => rfl, e1, beq_self_eq_true, Alt_iff, Need_iff, ltI_eq, leI_eq, eqI_eq, leN_eq, eqN_eq, decide_eq_true_eq, decide_eq_false_iff_not, decide_true, decide_false, true_and, and_true, Bool.true_eq_false, Bool.false_eq_true, false_implies, true_implies, implies_true, not_true_eq_false, not_false_eq_true, Bool.not_eq_true', Bool.not_eq_false', Nat.zero_add, Nat.add_zero, Nat.sub_zero, Nat.zero_mul, Nat.mul_one, Int.toNat_natCast, List.drop_zero, beqV_int, beqV_sl, beqV_str, beqV_bool, beqV_ptr, beqV_flt, beqV_agg, beqV_tuple, List.all_cons, List.all_nil, Bool.and_self, Bool.and_true, Bool.true_and, Nat.le_refl, Int.le_refl, Nat.zero_le, Option.getD_some, isStr, strV, isInt, intV, isBool, boolV, kindEq, at0, isJunk, Option.isSome_some, Option.isSome_none, if_true, if_false, Nat.add_sub_cancel_left, Nat.add_sub_cancel]
    first | rfl | exact ⟨rfl, rfl⟩ | trivial | skip
theorem flat_at {n : Nat} : ∀ {L : List (List Value)} {i : Nat} {c : List Value}, (∀ c ∈ L, c.length = n) → L[i]? = some c → ∀ j, j < n → L.flatten[i * n + j]? = c[j]? := by
  intro L
  induction L with
  | nil => intro i c _ h; simp at h
  | cons a L ih =>
    intro i c hL h j hj
    have ha : a.length = n := hL a List.mem_cons_self
    cases i with
    | zero =>
      simp at h
      subst h
      rw [Nat.zero_mul, Nat.zero_add, List.flatten_cons, List.getElem?_append_left (by omega)]
    | succ i =>
      rw [List.flatten_cons, List.getElem?_append_right (by rw [Nat.succ_mul]; omega), ha, show (i + 1) * n + j - n = i * n + j by rw [Nat.succ_mul]; omega]
      exact ih (fun c hc => hL c (List.mem_cons_of_mem _ hc)) (by simpa using h) j hj
def GoodStep3 (c : List Value) : Prop := ∃ (g id d : Int), c = [.int .u8 g, .int .i64 id, .int .u64 d] ∧ ReOk (d, id)
theorem steps3_of {L : List (List Value)} {len : Nat} (hl : len ≤ L.length) (h : ∀ c ∈ L, c.length = 3 ∧ GoodStep3 c) : Steps3 L.flatten len ∧ FlatL L.flatten := by
  refine ⟨fun i hi => ?_, ⟨fun x hx => ?_⟩⟩
  · have hc : L[i]? = some L[i] := List.getElem?_eq_getElem (by omega)
    obtain ⟨h1, g, id, d, h2, h3⟩ := h L[i] (List.getElem_mem (by omega))
    rw [h2] at hc
    have e0 := flat_at (n := 3) (fun c hc => (h c hc).1) hc 0 (by omega)
    have e1 := flat_at (n := 3) (fun c hc => (h c hc).1) hc 1 (by omega)
    have e2 := flat_at (n := 3) (fun c hc => (h c hc).1) hc 2 (by omega)
    exact ⟨g, id, d, by rw [getO_eq]; exact e0, by rw [getO_eq]; exact e1, by rw [getO_eq]; exact e2, h3⟩
  · obtain ⟨c, h1, h2⟩ := List.mem_flatten.1 hx
    obtain ⟨_, g, id, d, rfl, _⟩ := h c h1
    simp at h2
    rcases h2 with rfl | rfl | rfl <;> rfl
end Go.Proofs.Ytmgnlkefhmhkhaa

namespace Go.Proofs.Ytmgnlkefhmhkhaa
open Go.RowKit Go.Proofs.Ytmgnlkefhmhkhaa.AM
set_option maxRecDepth 100000
set_option maxHeartbeats 4000000
noncomputable def T1310 (s1 s2 : Option Nat) (n c1 m c2 : Nat) (id d : Int) (i : Nat) : List Value := tmps 26 [(0, .slice (some ⟨0,0,s1⟩) n c1), (1, .slice (some ⟨1,0,s2⟩) m c2), (2, .int .i64 id), (7, .int .u64 d), (8, .int .i64 i)]
noncomputable def hW2 (ca cb : List Value) (w1 w2 : Bool) : List Blk := [.cells ca 1 w1, .cells cb 1 w2]
def whenW (id : Int) : List Int → List Int → Int → Int
  | x :: a, y :: b, d => whenW id a b (if eqI x id then y else d)
  | _, _, d => d
abbrev USl (cs : List Value) (o : Nat) (l : List Int) : Prop := ESl (iE .u64) (ZP .u64) cs o l
abbrev IsU (cs : List Value) (o len cap : Nat) : Prop := IsE (iE .u64) (ZP .u64) cs o len cap
theorem u64_eq {cs : List Value} {o : Nat} {l : List Int} (h : USl cs o l) : intsAt cs o l.length = l := ESl.elAt h fun _ => rfl

theorem r1310 (s1 s2 : Option Nat) (n c1 m c2 : Nat) (id d : Int) (i : Nat) (ca cb : List Value) (w1 w2 : Bool) (K : Post) :
  roundX Try.prog S0 noLoop F1310 body1310 2 [] [] [] [] [0,1,2,7,8] [0,0,1,0,1,1] (T1310 s1 s2 n c1 m c2 id d i) (hp (hW2 ca cb w1 w2)) K = (
Alt (ltI (↑i : Int) (↑n : Int))
  (Need (ltI (↑i : Int) (↑n : Int))
    (Need (isInt IntKind.i64 ((getO ca (0 + (↑i : Int).toNat * 1)).getD undef))
      (Alt (eqI (intV ((getO ca (0 + (↑i : Int).toNat * 1)).getD undef)) id)
        (Need (ltI (↑i : Int) (↑m : Int))
          (Need (isInt IntKind.u64 ((getO cb (0 + (↑i : Int).toNat * 1)).getD undef))
            (K AE.normal
              (tmps 26
                [(0, Value.slice (some { block := 0, off := 0, spot := s1 : Addr }) n c1),
                  (1, Value.slice (some { block := 1, off := 0, spot := s2 : Addr }) m c2),
                  (2, Value.int IntKind.i64 id),
                  (7, Value.int IntKind.u64 (intV ((getO cb (0 + (↑i : Int).toNat * 1)).getD undef))),
                  (8, Value.int IntKind.i64 (wr IntKind.i64 ((↑i : Int) + 1)))])
              (hp [Blk.cells ca 1 w1, Blk.cells cb 1 w2]))))
        (K AE.normal
          (tmps 26
            [(0, Value.slice (some { block := 0, off := 0, spot := s1 : Addr }) n c1),
              (1, Value.slice (some { block := 1, off := 0, spot := s2 : Addr }) m c2), (2, Value.int IntKind.i64 id),
              (7, Value.int IntKind.u64 d), (8, Value.int IntKind.i64 (wr IntKind.i64 ((↑i : Int) + 1)))])
          (hp [Blk.cells ca 1 w1, Blk.cells cb 1 w2])))))
  (K (AE.exit 0) (tmps 26 [(7, Value.int IntKind.u64 d)]) (hp [Blk.cells ca 1 w1, Blk.cells cb 1 w2]))) := by kernel_rfl

noncomputable def cut1310 (s1 s2 : Option Nat) (c1 c2 : Nat) (id : Int) (ca cb : List Value) (w1 w2 : Bool) (a b : List Int) : CutE where
  β := Nat × Int
  p := [0,1,0,1,1]
  t := fun x => T1310 s1 s2 a.length c1 b.length c2 id x.2 x.1
  h := fun x => hp (hW2 ca cb w1 w2)
  Q := fun x K => (whenW id (a.drop x.1) (b.drop x.1) x.2 = whenW id a b 0) ∧ K (.exit 0) (tmps 26 [(7, .int .u64 (whenW id a b 0))]) (hp (hW2 ca cb w1 w2))

theorem w1310 (s1 s2 : Option Nat) (c1 c2 : Nat) (id : Int) (ca cb : List Value) (w1 w2 : Bool) (a b : List Int) (K : Value → Heap → Prop) :
  funX Try.prog S0 (gcLKX (at0 []) (at0 []) 2 (cutE [cut1310 s1 s2 c1 c2 id ca cb w1 w2 a b])) F1310 body1310 Try.f17 [] [] [.slice (some ⟨0,0,s1⟩) a.length c1, .slice (some ⟨1,0,s2⟩) b.length c2, .int .i64 id] (hp (hW2 ca cb w1 w2)) K = (
FlatD [] (hp [Blk.cells ca 1 w1, Blk.cells cb 1 w2]) ∧
  ∃ (b_1 : Nat × Int),
    tmps 26
          [(0, Value.slice (some { block := 0, off := 0, spot := s1 : Addr }) a.length c1),
            (1, Value.slice (some { block := 1, off := 0, spot := s2 : Addr }) b.length c2),
            (2, Value.int IntKind.i64 id), (7, Value.int IntKind.u64 0), (8, Value.int IntKind.i64 0)] =
        tmps 26
          [(0, Value.slice (some { block := 0, off := 0, spot := s1 : Addr }) a.length c1),
            (1, Value.slice (some { block := 1, off := 0, spot := s2 : Addr }) b.length c2),
            (2, Value.int IntKind.i64 id), (7, Value.int IntKind.u64 b_1.snd),
            (8, Value.int IntKind.i64 (↑b_1.fst : Int))] ∧
      hp [Blk.cells ca 1 w1, Blk.cells cb 1 w2] = hp [Blk.cells ca 1 w1, Blk.cells cb 1 w2] ∧
        whenW id (List.drop b_1.fst a) (List.drop b_1.fst b) b_1.snd = whenW id a b 0 ∧
          K (Value.int IntKind.u64 (whenW id a b 0)) (hp [Blk.cells ca 1 w1, Blk.cells cb 1 w2])) := by kernel_rfl

theorem hW2_flat {ca cb : List Value} {w1 w2 : Bool} (h : FlatL ca) (h2 : FlatL cb) : FlatD [] (hp [.cells ca 1 w1, .cells cb 1 w2]) := FlatD.hp ⟨h, h2, trivial⟩
theorem when_loop (hmix : Try.prog.follows .mixedOrders = true) (s1 s2 : Option Nat) (c1 c2 : Nat) (id : Int) (ca cb : List Value) (w1 w2 : Bool) (a b : List Int) (hA : ISl ca 0 a) (hB : USl cb 0 b) (hle : a.length ≤ b.length) (K : Post)
    (hK : K (.exit 0) (tmps 26 [(7, .int .u64 (whenW id a b 0))]) (hp (hW2 ca cb w1 w2))) : ∀ (t u : List Int) (i : Nat) (d : Int), a.drop i = t → b.drop i = u → whenW id t u d = whenW id a b 0 →
    LSays Try.prog 2 (sub body1310 [0,0,1,0,1,1]) (T1310 s1 s2 a.length c1 b.length c2 id d i) (hp (hW2 ca cb w1 w2)) K := by
  have hF := hW2_flat (w1 := w1) (w2 := w2) hA.flat hB.flat
  have hsh := hA.short
  intro t
  induction t with
  | nil =>
    intro u i d ht hu ha
    have hge : ¬ ((i : Int) < (a.length : Int)) := by have := List.drop_eq_nil_iff.1 ht; omega
    refine (sure0 hmix).roundX F1310 noLoops [] [] [] [] [0,1,2,7,8] ?_
    rw [r1310]
    have ha : d = whenW id a b 0 := by rw [← ha]; simp [whenW]
    rw [← ha] at hK
    simp only [hge, hF, Alt_iff, Need_iff, ltI_eq, leI_eq, eqI_eq, leN_eq, eqN_eq, decide_eq_true_eq, decide_eq_false_iff_not, decide_true, decide_false, true_and, and_true, Bool.true_eq_false, Bool.false_eq_true, false_implies, true_implies, implies_true, not_true_eq_false, not_false_eq_true, Bool.not_eq_true', Bool.not_eq_false', Nat.zero_add, Nat.add_zero, Nat.sub_zero, Nat.zero_mul, Nat.mul_one, Int.toNat_natCast, List.drop_zero, beqV_int, beqV_sl, beqV_str, beqV_bool, beqV_ptr, beqV_flt, beqV_agg, beqV_tuple, List.all_cons, List.all_nil, Bool.and_self, Bool.and_true, Bool.true_and, Nat.le_refl, Int.le_refl, Nat.zero_le, Option.getD_some, isStr, strV, isInt, intV, isBool, boolV, kindEq, at0, isJunk, Option.isSome_some, Option.isSome_none, if_true, if_false, Nat.add_sub_cancel_left, Nat.add_sub_cancel]
    exact hK
  | cons x t ih =>
    intro u i d ht hu ha
    obtain ⟨hlt, hx, hd⟩ := cons_of_drop ht
    cases u with
    | nil => have := List.drop_eq_nil_iff.1 hu; omega
    | cons y u =>
      obtain ⟨hlt2, hy, hd2⟩ := cons_of_drop hu
      have g0 : getO ca (0 + i) = some (.int .i64 x) := hA.cell i x hx
      have g1 : getO cb (0 + i) = some (.int .u64 y) := hB.cell i y hy
      rw [Nat.zero_add] at g0 g1
      refine (sure0 hmix).roundX F1310 noLoops [] [] [] [] [0,1,2,7,8] ?_
      rw [r1310]
      rw [whenW] at ha
      simp only [Nat.zero_add, Nat.mul_one, Int.toNat_natCast, show (i : Int) < (a.length : Int) by omega, show (i : Int) < (b.length : Int) by omega, g0, g1, nx i (by omega), hF, Alt_iff, Need_iff, ltI_eq, leI_eq, eqI_eq, leN_eq, eqN_eq, decide_eq_true_eq, decide_eq_false_iff_not, decide_true, decide_false, true_and, and_true, Bool.true_eq_false, Bool.false_eq_true, false_implies, true_implies, implies_true, not_true_eq_false, not_false_eq_true, Bool.not_eq_true', Bool.not_eq_false', Nat.zero_add, Nat.add_zero, Nat.sub_zero, Nat.zero_mul, Nat.mul_one, Int.toNat_natCast, List.drop_zero, beqV_int, beqV_sl, beqV_str, beqV_bool, beqV_ptr, beqV_flt, beqV_agg, beqV_tuple, List.all_cons, List.all_nil, Bool.and_self, Bool.and_true, Bool.true_and, Nat.le_refl, Int.le_refl, Nat.zero_le, Option.getD_some, isStr, strV, isInt, intV, isBool, boolV, kindEq, at0, isJunk, Option.isSome_some, Option.isSome_none, if_true, if_false, Nat.add_sub_cancel_left, Nat.add_sub_cancel]
      refine ⟨fun h => ?_, fun h => ?_⟩
      · exact ih u (i + 1) y hd hd2 (by rw [if_pos (eqI_iff.2 h)] at ha; exact ha)
      · exact ih u (i + 1) d hd hd2 (by rw [if_neg (fun hh => h (eqI_iff.1 hh))] at ha; exact ha)
noncomputable def whenC : CtrW where
  D := []
  W := []
  E := []
  pre := fun args blks => match args, blks with
    | [.slice (some ⟨0,0,_⟩) n c1, .slice (some ⟨1,0,_⟩) m c2, .int .i64 _], [.cells ca 1 _, .cells cb 1 _] => IsI ca 0 n c1 ∧ IsU cb 0 m c2 ∧ Need (leN n m) True
    | _, _ => False
  val := fun args blks => match args, blks with
    | [.slice (some ⟨0,0,_⟩) n c1, .slice (some ⟨1,0,_⟩) m c2, .int .i64 id], [.cells ca 1 _, .cells cb 1 _] => .int .u64 (whenW id (intsAt ca 0 n) (intsAt cb 0 m) 0)
    | _, _ => undef
  out := fun args blks => blks
theorem when_says (hmix : Try.prog.follows .mixedOrders = true) : whenC.Holds Try.prog 17 := by
  intro args blks hf hp
  simp only [whenC] at hp ⊢
  split at hp
  · rename_i s1 n c1 s2 m c2 id ca w1 cb w2
    obtain ⟨⟨a, rfl, hc, hA⟩, ⟨b, rfl, hc2, hB⟩, hl⟩ := hp
    simp only [Alt_iff, Need_iff, ltI_eq, leI_eq, eqI_eq, leN_eq, eqN_eq, decide_eq_true_eq, decide_eq_false_iff_not, decide_true, decide_false, true_and, and_true, Bool.true_eq_false, Bool.false_eq_true, false_implies, true_implies, implies_true, not_true_eq_false, not_false_eq_true, Bool.not_eq_true', Bool.not_eq_false'] at hl
    rw [intsAt_eq hA, u64_eq hB]
    refine ⟨⟨rfl, rfl, trivial⟩, trivial, ?_⟩
    have hL : Loops Try.prog body1310 2 (cutE [cut1310 s1 s2 c1 c2 id ca cb w1 w2 a b]) := Loops.noneE.moreE _ fun x K hq => by
      obtain ⟨h1, h2⟩ := hq
      exact when_loop hmix s1 s2 c1 c2 id ca cb w1 w2 a b hA hB hl K h2 _ _ x.1 x.2 rfl rfl h1
    refine (sure0 hmix).funX F1310 body1310 [] [] Try.func17 rfl (hL.gcX (at0 []) (at0 [])) ?_
    have hw := w1310 s1 s2 c1 c2 id ca cb w1 w2 a b
    unfold hW2 at hw
    rw [hw]
    have hF := hW2_flat (w1 := w1) (w2 := w2) hA.flat hB.flat
    exact ⟨hF, (0, 0), rfl, rfl, rfl, hF, rfl, rfl, rfl⟩
  · exact hp.elim
end Go.Proofs.Ytmgnlkefhmhkhaa

namespace Go.Proofs.Ytmgnlkefhmhkhaa
open Go.RowKit Go.Proofs.Ytmgnlkefhmhkhaa.AM
set_option maxRecDepth 100000
set_option maxHeartbeats 4000000
noncomputable def body1330 : Code := (Try.f5.body).getD .skip
def F1330 : List Nat → Option (List Nat) := fun p => match p with
  | [1] => some [0, 1, 2]
  | [1, 0, 1] => some [0, 1, 2, 26]
  | [1, 0, 1, 0, 1] => some [6]
  | [1, 1] => some [0, 1, 2]
  | [1, 1, 1] => some [0, 1, 2, 7]
  | [1, 0, 1, 1, 1] => some [0, 1, 2, 7, 30]
  | [1, 0, 1, 0, 1, 1, 1] => some [6]
  | [1, 1, 1, 1] => some [0, 1, 2, 7]
  | [1, 0, 1, 1, 1, 1] => some [0, 1, 2, 7, 8]
  | [1, 0, 0, 0, 1, 0, 1, 1, 1, 1] => some [0, 1, 2, 7, 8, 34]
  | [1, 1, 0, 0, 0, 1, 0, 1, 1, 1, 1] => some [0, 1, 2, 7]
  | [1, 0, 0, 1, 0, 1, 1, 1, 1] => some [0, 1, 2, 7, 8]
  | [1, 1, 0, 0, 1, 0, 1, 1, 1, 1] => some [0, 1, 2, 7, 8]
  | [1, 1, 1, 1, 1] => some [0, 1, 2, 7]
  | [1, 1, 1, 1, 1, 1] => some [0, 1, 2, 7, 9]
  | [1, 1, 1, 1, 1, 1, 1] => some [0, 1, 2, 7, 9, 10]
  | [1, 0, 1, 1, 1, 1, 1, 1, 1] => some [0, 1, 2, 7, 9, 10, 11]
  | [1, 0, 0, 0, 1, 0, 1, 1, 1, 1, 1, 1, 1] => some [0, 1, 2, 7, 9, 10, 11, 55]
  | [1, 1, 0, 0, 0, 1, 0, 1, 1, 1, 1, 1, 1, 1] => some [0, 1, 2, 7, 9, 10]
  | [1, 0, 0, 1, 0, 1, 1, 1, 1, 1, 1, 1] => some [0, 1, 2, 7, 9, 10, 11]
  | [1, 0, 0, 0, 1, 0, 0, 1, 0, 1, 1, 1, 1, 1, 1, 1] => some [0, 1, 2, 7, 9, 10, 11, 75]
  | [1, 0, 1, 0, 0, 0, 1, 0, 0, 1, 0, 1, 1, 1, 1, 1, 1, 1] => some [6]
  | [1, 0, 0, 1, 0, 0, 1, 0, 1, 1, 1, 1, 1, 1, 1] => some [0, 1, 2, 7, 9, 10, 11]
  | [1, 0, 1, 0, 0, 1, 0, 0, 1, 0, 1, 1, 1, 1, 1, 1, 1] => some [0, 1, 2, 7, 9, 10, 11, 77]
  | [0, 1, 0, 1, 0, 0, 1, 0, 0, 1, 0, 1, 1, 1, 1, 1, 1, 1] => some [0, 1, 2, 7, 9, 10, 11]
  | [1, 1, 0, 0, 1, 0, 0, 1, 0, 1, 1, 1, 1, 1, 1, 1] => some [0, 1, 2, 7, 9, 10, 11]
  | [1, 1, 1, 0, 0, 1, 0, 0, 1, 0, 1, 1, 1, 1, 1, 1, 1] => some [0, 1, 2, 7, 9, 10, 11, 12, 13]
  | [1, 1, 1, 1, 0, 0, 1, 0, 0, 1, 0, 1, 1, 1, 1, 1, 1, 1] => some [0, 1, 2, 7, 9, 10, 11, 112]
  | [1, 0, 1, 1, 1, 1, 0, 0, 1, 0, 0, 1, 0, 1, 1, 1, 1, 1, 1, 1] => some [6]
  | [1, 1, 0, 0, 1, 0, 1, 1, 1, 1, 1, 1, 1] => some [0, 1, 2, 7, 9, 10, 11]
  | [1, 1, 1, 1, 1, 1, 1, 1] => some [0, 1, 2, 7, 9, 10]
  | [1, 0, 1, 1, 1, 1, 1, 1, 1, 1] => some [0, 1, 2, 7, 9, 10, 14]
  | [1, 0, 0, 0, 1, 0, 1, 1, 1, 1, 1, 1, 1, 1] => some [0, 1, 2, 7, 9, 10, 14, 116]
  | [1, 1, 0, 0, 0, 1, 0, 1, 1, 1, 1, 1, 1, 1, 1] => some [2, 7, 9, 10]
  | [1, 0, 0, 1, 0, 1, 1, 1, 1, 1, 1, 1, 1] => some [0, 1, 2, 7, 9, 10, 14]
  | [1, 0, 0, 1, 0, 0, 1, 0, 1, 1, 1, 1, 1, 1, 1, 1] => some [0, 1, 2, 7, 9, 10, 14, 15, 16]
  | [1, 1, 0, 0, 1, 0, 0, 1, 0, 1, 1, 1, 1, 1, 1, 1, 1] => some [0, 1, 2, 7, 9, 10, 14, 154]
  | [1, 0, 1, 1, 0, 0, 1, 0, 0, 1, 0, 1, 1, 1, 1, 1, 1, 1, 1] => some [6]
  | [1, 1, 0, 0, 1, 0, 1, 1, 1, 1, 1, 1, 1, 1] => some [0, 1, 2, 7, 9, 10, 14]
  | [1, 1, 1, 1, 1, 1, 1, 1, 1] => some [2, 7, 9, 10]
  | [1, 1, 1, 1, 1, 1, 1, 1, 1, 1] => some [6]
  | _ => none
noncomputable def SD : Book := addI Try.prog [(14, Try.f14, body1307), (26, Try.f26, body1319), (10, Try.f10, body1304), (7, Try.f7, body1301)] (bookW [(8, qPutC), (12, qDueC), (32, idxEC), (17, whenC)] (bookOf [(3, trueC), (16, hasC)]))
theorem sureD (hm : Try.prog.follows .mixedOrders = true) : Sure Try.prog SD := Sure.addI ⟨hm, plain, bookW_ok (bookOf_ok (l := [(3, trueC), (16, hasC)]) ⟨runs_says hm, has_says hm, trivial⟩) (l := [(8, qPutC), (12, qDueC), (32, idxEC), (17, whenC)]) ⟨qPut_says hm, qDue_says hm, idxE_says hm, when_says hm, trivial⟩⟩ (l := [(14, Try.f14, body1307), (26, Try.f26, body1319), (10, Try.f10, body1304), (7, Try.f7, body1301)]) ⟨⟨Try.func14, rfl⟩, ⟨Try.func26, rfl⟩, ⟨Try.func10, rfl⟩, ⟨Try.func7, rfl⟩, trivial⟩
structure Ar where
  s1 : Option Nat
  s2 : Option Nat
  n : Nat
  c1 : Nat
  m : Nat
  c2 : Nat
  now : Int
  ca : List Value
  cb : List Value
noncomputable def P1330 (A : Ar) (n : Nat) : List Value := tmps 172 [(0, .slice (some ⟨0,0,A.s1⟩) A.n A.c1), (1, .slice (some ⟨1,0,A.s2⟩) A.m A.c2), (2, .int .u64 A.now), (7, p1 2), (8, .int .i64 n)]
noncomputable def HP (A : Ar) (n : Nat) (cs : List Value) : Heap := hp [.cells A.ca 1 false, .cells A.cb 1 false, .cells [.slice (some ⟨3,0,some 1⟩) n n] 1 true, .cells cs 2 true]
noncomputable def D1330 (A : Ar) (n q i : Nat) : List Value := tmps 172 [(0, .slice (some ⟨0,0,A.s1⟩) A.n A.c1), (1, .slice (some ⟨1,0,A.s2⟩) A.m A.c2), (2, .int .u64 A.now), (7, p1 2), (9, .int .i64 n), (10, .slice (some ⟨3,0,some 1⟩) q q), (11, .int .i64 i)]
noncomputable def E1330 (A : Ar) (n q i : Nat) : List Value := tmps 172 [(0, .slice (some ⟨0,0,A.s1⟩) A.n A.c1), (1, .slice (some ⟨1,0,A.s2⟩) A.m A.c2), (2, .int .u64 A.now), (7, p1 2), (9, .int .i64 n), (10, .slice (some ⟨3,0,some 1⟩) q q), (14, .int .i64 i)]
noncomputable def HD (A : Ar) (n : Nat) (cs ci : List Value) : Heap := hp [.cells A.ca 1 false, .cells A.cb 1 false, .cells [.slice (some ⟨4,0,some 1⟩) n n] 1 true, .cells ci 1 true, .cells cs 2 true]

theorem r1330P (A : Ar) (i n : Nat) (cs : List Value) (K : Post) :
  roundX Try.prog SD noLoop F1330 body1330 2 [2] [] [2] [] [0,1,2,7,8] [0,0,1,0,1,1,1,1] (P1330 A i) (HP A n cs) K = (
Alt (ltI (↑i : Int) (↑A.n : Int))
  (Need (ltI (↑i : Int) (↑A.n : Int))
    (Need (isInt IntKind.i64 ((getO A.ca (0 + (↑i : Int).toNat * 1)).getD undef))
      (Need (ltI (↑i : Int) (↑A.m : Int))
        (Need (isInt IntKind.u64 ((getO A.cb (0 + (↑i : Int).toNat * 1)).getD undef))
          ((nojL [Value.slice (some { block := 1, off := 0, spot := some 1 : Addr }) n n] = true ∧ FlatL cs ∧ True) ∧
            (IsRC cs n n ∧
                IsUpE (resAt cs n) ∧
                  ReOk
                      (intV ((getO A.cb (0 + (↑i : Int).toNat * 1)).getD undef),
                        intV ((getO A.ca (0 + (↑i : Int).toNat * 1)).getD undef)) ∧
                    Need (leN n 999999) True) ∧
              K AE.normal
                (tmps 172
                  [(0, Value.slice (some { block := 0, off := 0, spot := A.s1 : Addr }) A.n A.c1),
                    (1, Value.slice (some { block := 1, off := 0, spot := A.s2 : Addr }) A.m A.c2),
                    (2, Value.int IntKind.u64 A.now), (7, Value.pointer (some { block := 2, off := 0 : Addr })),
                    (8, Value.int IntKind.i64 (wr IntKind.i64 ((↑i : Int) + 1)))])
                (hp
                  [Blk.cells A.ca 1 false, Blk.cells A.cb 1 false,
                    Blk.cells
                      [Value.slice (some { block := 3, off := 0, spot := some 1 : Addr })
                          (putE (intV ((getO A.ca (0 + (↑i : Int).toNat * 1)).getD undef))
                              (intV ((getO A.cb (0 + (↑i : Int).toNat * 1)).getD undef)) (resAt cs n)).length
                          (putE (intV ((getO A.ca (0 + (↑i : Int).toNat * 1)).getD undef))
                              (intV ((getO A.cb (0 + (↑i : Int).toNat * 1)).getD undef)) (resAt cs n)).length]
                      1 true,
                    Blk.cells
                      (reC
                        (putE (intV ((getO A.ca (0 + (↑i : Int).toNat * 1)).getD undef))
                          (intV ((getO A.cb (0 + (↑i : Int).toNat * 1)).getD undef)) (resAt cs n)))
                      2 true]))))))
  (K (AE.exit 0)
    (tmps 172
      [(0, Value.slice (some { block := 0, off := 0, spot := A.s1 : Addr }) A.n A.c1),
        (1, Value.slice (some { block := 1, off := 0, spot := A.s2 : Addr }) A.m A.c2),
        (2, Value.int IntKind.u64 A.now), (7, Value.pointer (some { block := 2, off := 0 : Addr }))])
    (hp
      [Blk.cells A.ca 1 false, Blk.cells A.cb 1 false,
        Blk.cells [Value.slice (some { block := 3, off := 0, spot := some 1 : Addr }) n n] 1 true,
        Blk.cells cs 2 true]))) := by kernel_rfl

theorem r1330z (A : Ar) (n q m : Nat) (cs ci : List Value) (K : Post) :
  roundX Try.prog SD noLoop F1330 body1330 2 [2] [] [2] [] [0,1,2,7,9,10,11] [0,0,1,0,1,1,1,1,1,1,1] (D1330 A n q 0) (HD A m cs ci) K = (
Alt (ltI 0 (↑q : Int))
  (Need (ltI 0 (↑q : Int))
    (Need (isInt IntKind.i64 ((getO ci 0).getD undef))
      ((FlatL A.ca ∧ True) ∧
        (IsE (iE IntKind.i64) (ZP IntKind.i64) A.ca 0 A.n A.c1 ∧
            IsN [Value.int IntKind.i64 (intV ((getO ci 0).getD undef))]) ∧
          Alt (!hasL (intV ((getO ci 0).getD undef)) (intsAt A.ca 0 A.n))
            (K AE.ret (tmps 172 [(6, Value.bool false)]) (hp [Blk.cells A.ca 1 false, Blk.cells A.cb 1 false]))
            (Need (ltI 0 (↑q : Int))
              (Need (isInt IntKind.i64 ((getO ci 0).getD undef))
                ((FlatL A.ca ∧ FlatL A.cb ∧ True) ∧
                  (IsE (iE IntKind.i64) (ZP IntKind.i64) A.ca 0 A.n A.c1 ∧
                      IsE (iE IntKind.u64) (ZP IntKind.u64) A.cb 0 A.m A.c2 ∧ Need (leN A.n A.m) True) ∧
                    Alt (ltI A.now (whenW (intV ((getO ci 0).getD undef)) (intsAt A.ca 0 A.n) (intsAt A.cb 0 A.m) 0))
                      (K AE.ret (tmps 172 [(6, Value.bool false)])
                        (hp [Blk.cells A.ca 1 false, Blk.cells A.cb 1 false]))
                      (K AE.normal
                        (tmps 172
                          [(0, Value.slice (some { block := 0, off := 0, spot := A.s1 : Addr }) A.n A.c1),
                            (1, Value.slice (some { block := 1, off := 0, spot := A.s2 : Addr }) A.m A.c2),
                            (2, Value.int IntKind.u64 A.now), (7, Value.pointer (some { block := 2, off := 0 : Addr })),
                            (9, Value.int IntKind.i64 (↑n : Int)),
                            (10, Value.slice (some { block := 3, off := 0, spot := some 1 : Addr }) q q),
                            (11, Value.int IntKind.i64 1)])
                        (hp
                          [Blk.cells A.ca 1 false, Blk.cells A.cb 1 false,
                            Blk.cells [Value.slice (some { block := 4, off := 0, spot := some 1 : Addr }) m m] 1 true,
                            Blk.cells ci 1 true, Blk.cells cs 2 true]))))))))
  (K (AE.exit 2)
    (tmps 172
      [(0, Value.slice (some { block := 0, off := 0, spot := A.s1 : Addr }) A.n A.c1),
        (1, Value.slice (some { block := 1, off := 0, spot := A.s2 : Addr }) A.m A.c2),
        (2, Value.int IntKind.u64 A.now), (7, Value.pointer (some { block := 2, off := 0 : Addr })),
        (9, Value.int IntKind.i64 (↑n : Int)),
        (10, Value.slice (some { block := 3, off := 0, spot := some 1 : Addr }) q q)])
    (hp
      [Blk.cells A.ca 1 false, Blk.cells A.cb 1 false,
        Blk.cells [Value.slice (some { block := 4, off := 0, spot := some 1 : Addr }) m m] 1 true, Blk.cells ci 1 true,
        Blk.cells cs 2 true]))) := by kernel_rfl

theorem r1330s (A : Ar) (n q m i : Nat) (cs ci : List Value) (K : Post) :
  roundX Try.prog SD noLoop F1330 body1330 2 [2] [] [2] [] [0,1,2,7,9,10,11] [0,0,1,0,1,1,1,1,1,1,1] (D1330 A n q (i + 1)) (HD A m cs ci) K = (
Alt (ltI (↑(i + 1) : Int) (↑q : Int))
  (Need (ltI (↑(i + 1) : Int) (↑q : Int))
    (Need (isInt IntKind.i64 ((getO ci (0 + (↑(i + 1) : Int).toNat * 1)).getD undef))
      ((FlatL A.ca ∧ True) ∧
        (IsE (iE IntKind.i64) (ZP IntKind.i64) A.ca 0 A.n A.c1 ∧
            IsN [Value.int IntKind.i64 (intV ((getO ci (0 + (↑(i + 1) : Int).toNat * 1)).getD undef))]) ∧
          Alt (!hasL (intV ((getO ci (0 + (↑(i + 1) : Int).toNat * 1)).getD undef)) (intsAt A.ca 0 A.n))
            (K AE.ret (tmps 172 [(6, Value.bool false)]) (hp [Blk.cells A.ca 1 false, Blk.cells A.cb 1 false]))
            (Need (ltI (↑(i + 1) : Int) (↑q : Int))
              (Need (isInt IntKind.i64 ((getO ci (0 + (↑(i + 1) : Int).toNat * 1)).getD undef))
                ((FlatL A.ca ∧ FlatL A.cb ∧ True) ∧
                  (IsE (iE IntKind.i64) (ZP IntKind.i64) A.ca 0 A.n A.c1 ∧
                      IsE (iE IntKind.u64) (ZP IntKind.u64) A.cb 0 A.m A.c2 ∧ Need (leN A.n A.m) True) ∧
                    Alt
                      (ltI A.now
                        (whenW (intV ((getO ci (0 + (↑(i + 1) : Int).toNat * 1)).getD undef)) (intsAt A.ca 0 A.n)
                          (intsAt A.cb 0 A.m) 0))
                      (K AE.ret (tmps 172 [(6, Value.bool false)])
                        (hp [Blk.cells A.ca 1 false, Blk.cells A.cb 1 false]))
                      (Need (leI 0 (wr IntKind.i64 ((↑(i + 1) : Int) - 1)))
                        (Need (ltI (wr IntKind.i64 ((↑(i + 1) : Int) - 1)) (↑q : Int))
                          (Need
                            (isInt IntKind.i64
                              ((getO ci (0 + (wr IntKind.i64 ((↑(i + 1) : Int) - 1)).toNat * 1)).getD undef))
                            ((FlatL A.ca ∧ FlatL A.cb ∧ True) ∧
                              (IsE (iE IntKind.i64) (ZP IntKind.i64) A.ca 0 A.n A.c1 ∧
                                  IsE (iE IntKind.u64) (ZP IntKind.u64) A.cb 0 A.m A.c2 ∧ Need (leN A.n A.m) True) ∧
                                Need (ltI (↑(i + 1) : Int) (↑q : Int))
                                  (Need (isInt IntKind.i64 ((getO ci (0 + (↑(i + 1) : Int).toNat * 1)).getD undef))
                                    ((FlatL A.ca ∧ FlatL A.cb ∧ True) ∧
                                      (IsE (iE IntKind.i64) (ZP IntKind.i64) A.ca 0 A.n A.c1 ∧
                                          IsE (iE IntKind.u64) (ZP IntKind.u64) A.cb 0 A.m A.c2 ∧
                                            Need (leN A.n A.m) True) ∧
                                        Need (isInt IntKind.i64 ((getO ci (0 + (↑(i + 1) : Int).toNat * 1)).getD undef))
                                          (Need
                                            (beqV 64
                                              (Value.int IntKind.i64
                                                (intV ((getO ci (0 + (↑(i + 1) : Int).toNat * 1)).getD undef)))
                                              (Value.int IntKind.i64
                                                (intV ((getO ci (0 + (↑(i + 1) : Int).toNat * 1)).getD undef))))
                                            (Need (ltI (↑(i + 1) : Int) (↑q : Int))
                                              (Need
                                                (beqV 64
                                                  (Value.pointer
                                                    (some { block := 3, off := 0 + (↑(i + 1) : Int).toNat * 1 : Addr }))
                                                  (Value.pointer
                                                    (some
                                                      { block := 3, off := 0 + (↑(i + 1) : Int).toNat * 1 : Addr })))
                                                (Need
                                                  (beqV 64 (Value.int IntKind.i64 (↑(i + 1) : Int))
                                                    (Value.int IntKind.i64 (↑(i + 1) : Int)))
                                                  (Need
                                                    (beqV 64
                                                      (Value.slice
                                                        (some { block := 3, off := 0, spot := some 1 : Addr }) q q)
                                                      (Value.slice
                                                        (some { block := 3, off := 0, spot := some 1 : Addr }) q q))
                                                    (Need
                                                      (beqV 64
                                                        (Value.slice
                                                          (some { block := 1, off := 0, spot := A.s2 : Addr }) A.m A.c2)
                                                        (Value.slice
                                                          (some { block := 1, off := 0, spot := A.s2 : Addr }) A.m
                                                          A.c2))
                                                      (Need
                                                        (beqV 64
                                                          (Value.slice
                                                            (some { block := 0, off := 0, spot := A.s1 : Addr }) A.n
                                                            A.c1)
                                                          (Value.slice
                                                            (some { block := 0, off := 0, spot := A.s1 : Addr }) A.n
                                                            A.c1))
                                                        (Alt
                                                          (ltI
                                                            (whenW
                                                              (intV
                                                                ((getO ci (0 + (↑(i + 1) : Int).toNat * 1)).getD undef))
                                                              (intsAt A.ca 0 A.n) (intsAt A.cb 0 A.m) 0)
                                                            (whenW
                                                              (intV
                                                                ((getO ci
                                                                      (0 +
                                                                        (wr IntKind.i64 ((↑(i + 1) : Int) - 1)).toNat *
                                                                          1)).getD
                                                                  undef))
                                                              (intsAt A.ca 0 A.n) (intsAt A.cb 0 A.m) 0))
                                                          (K AE.ret (tmps 172 [(6, Value.bool false)])
                                                            (hp [Blk.cells A.ca 1 false, Blk.cells A.cb 1 false]))
                                                          (Alt
                                                            (eqI
                                                              (whenW
                                                                (intV
                                                                  ((getO ci
                                                                        (0 +
                                                                          (wr IntKind.i64
                                                                                ((↑(i + 1) : Int) - 1)).toNat *
                                                                            1)).getD
                                                                    undef))
                                                                (intsAt A.ca 0 A.n) (intsAt A.cb 0 A.m) 0)
                                                              (whenW
                                                                (intV
                                                                  ((getO ci (0 + (↑(i + 1) : Int).toNat * 1)).getD
                                                                    undef))
                                                                (intsAt A.ca 0 A.n) (intsAt A.cb 0 A.m) 0))
                                                            (Need (leI 0 (wr IntKind.i64 ((↑(i + 1) : Int) - 1)))
                                                              (Need
                                                                (ltI (wr IntKind.i64 ((↑(i + 1) : Int) - 1)) (↑q : Int))
                                                                (Need
                                                                  (isInt IntKind.i64
                                                                    ((getO ci
                                                                          (0 +
                                                                            (wr IntKind.i64
                                                                                  ((↑(i + 1) : Int) - 1)).toNat *
                                                                              1)).getD
                                                                      undef))
                                                                  (Need (ltI (↑(i + 1) : Int) (↑q : Int))
                                                                    (Need
                                                                      (isInt IntKind.i64
                                                                        ((getO ci (0 + (↑(i + 1) : Int).toNat * 1)).getD
                                                                          undef))
                                                                      (Alt
                                                                        (leI
                                                                          (intV
                                                                            ((getO ci
                                                                                  (0 + (↑(i + 1) : Int).toNat * 1)).getD
                                                                              undef))
                                                                          (intV
                                                                            ((getO ci
                                                                                  (0 +
                                                                                    (wr IntKind.i64
                                                                                          ((↑(i + 1) : Int) -
                                                                                            1)).toNat *
                                                                                      1)).getD
                                                                              undef)))
                                                                        (K AE.ret (tmps 172 [(6, Value.bool false)])
                                                                          (hp
                                                                            [Blk.cells A.ca 1 false,
                                                                              Blk.cells A.cb 1 false]))
                                                                        (K AE.normal
                                                                          (tmps 172
                                                                            [(0,
                                                                                Value.slice
                                                                                  (some
                                                                                    { block := 0, off := 0,
                                                                                      spot := A.s1 : Addr })
                                                                                  A.n A.c1),
                                                                              (1,
                                                                                Value.slice
                                                                                  (some
                                                                                    { block := 1, off := 0,
                                                                                      spot := A.s2 : Addr })
                                                                                  A.m A.c2),
                                                                              (2, Value.int IntKind.u64 A.now),
                                                                              (7,
                                                                                Value.pointer
                                                                                  (some
                                                                                    { block := 2, off := 0 : Addr })),
                                                                              (9, Value.int IntKind.i64 (↑n : Int)),
                                                                              (10,
                                                                                Value.slice
                                                                                  (some
                                                                                    { block := 3, off := 0,
                                                                                      spot := some 1 : Addr })
                                                                                  q q),
                                                                              (11,
                                                                                Value.int IntKind.i64
                                                                                  (wr IntKind.i64
                                                                                    ((↑(i + 1) : Int) + 1)))])
                                                                          (hp
                                                                            [Blk.cells A.ca 1 false,
                                                                              Blk.cells A.cb 1 false,
                                                                              Blk.cells
                                                                                [Value.slice
                                                                                    (some
                                                                                      { block := 4, off := 0,
                                                                                        spot := some 1 : Addr })
                                                                                    m m]
                                                                                1 true,
                                                                              Blk.cells ci 1 true,
                                                                              Blk.cells cs 2 true]))))))))
                                                            (K AE.normal
                                                              (tmps 172
                                                                [(0,
                                                                    Value.slice
                                                                      (some
                                                                        { block := 0, off := 0, spot := A.s1 : Addr })
                                                                      A.n A.c1),
                                                                  (1,
                                                                    Value.slice
                                                                      (some
                                                                        { block := 1, off := 0, spot := A.s2 : Addr })
                                                                      A.m A.c2),
                                                                  (2, Value.int IntKind.u64 A.now),
                                                                  (7,
                                                                    Value.pointer
                                                                      (some { block := 2, off := 0 : Addr })),
                                                                  (9, Value.int IntKind.i64 (↑n : Int)),
                                                                  (10,
                                                                    Value.slice
                                                                      (some
                                                                        { block := 3, off := 0, spot := some 1 : Addr })
                                                                      q q),
                                                                  (11,
                                                                    Value.int IntKind.i64
                                                                      (wr IntKind.i64 ((↑(i + 1) : Int) + 1)))])
                                                              (hp
                                                                [Blk.cells A.ca 1 false, Blk.cells A.cb 1 false,
                                                                  Blk.cells
                                                                    [Value.slice
                                                                        (some
                                                                          { block := 4, off := 0, spot := some 1 :
                                                                            Addr })
                                                                        m m]
                                                                    1 true,
                                                                  Blk.cells ci 1 true,
                                                                  Blk.cells cs 2 true])))))))))))))))))))))))
  (K (AE.exit 2)
    (tmps 172
      [(0, Value.slice (some { block := 0, off := 0, spot := A.s1 : Addr }) A.n A.c1),
        (1, Value.slice (some { block := 1, off := 0, spot := A.s2 : Addr }) A.m A.c2),
        (2, Value.int IntKind.u64 A.now), (7, Value.pointer (some { block := 2, off := 0 : Addr })),
        (9, Value.int IntKind.i64 (↑n : Int)),
        (10, Value.slice (some { block := 3, off := 0, spot := some 1 : Addr }) q q)])
    (hp
      [Blk.cells A.ca 1 false, Blk.cells A.cb 1 false,
        Blk.cells [Value.slice (some { block := 4, off := 0, spot := some 1 : Addr }) m m] 1 true, Blk.cells ci 1 true,
        Blk.cells cs 2 true]))) := by kernel_rfl

theorem r1330E (A : Ar) (n q m i : Nat) (cs ci : List Value) (K : Post) :
  roundX Try.prog SD noLoop F1330 body1330 2 [2] [] [2] [] [0,1,2,7,9,10,14] [0,0,1,0,1,1,1,1,1,1,1,1] (E1330 A n q i) (HD A m cs ci) K = (
Alt (ltI (↑i : Int) (↑A.n : Int))
  (Need (ltI (↑i : Int) (↑A.n : Int))
    (Need (isInt IntKind.i64 ((getO A.ca (0 + (↑i : Int).toNat * 1)).getD undef))
      ((FlatL cs ∧ FlatL [Value.int IntKind.i64 (intV ((getO A.ca (0 + (↑i : Int).toNat * 1)).getD undef))] ∧ True) ∧
        (True ∧ IsP reF reG ReOk cs m m ∧ Need (leN m 1000000) True) ∧
          Alt (ltI (idxE (intV ((getO A.ca (0 + (↑i : Int).toNat * 1)).getD undef)) 0 (resAt cs m)) 0)
            (Need (ltI (↑i : Int) (↑A.n : Int))
              (Need (isInt IntKind.i64 ((getO A.ca (0 + (↑i : Int).toNat * 1)).getD undef))
                ((FlatL ci ∧ True) ∧
                  (IsE (iE IntKind.i64) (ZP IntKind.i64) ci 0 q q ∧
                      IsN [Value.int IntKind.i64 (intV ((getO A.ca (0 + (↑i : Int).toNat * 1)).getD undef))]) ∧
                    Alt (false == hasL (intV ((getO A.ca (0 + (↑i : Int).toNat * 1)).getD undef)) (intsAt ci 0 q))
                      (K AE.ret (tmps 172 [(6, Value.bool false)])
                        (hp [Blk.cells A.ca 1 false, Blk.cells A.cb 1 false]))
                      (K AE.normal
                        (tmps 172
                          [(0, Value.slice (some { block := 0, off := 0, spot := A.s1 : Addr }) A.n A.c1),
                            (1, Value.slice (some { block := 1, off := 0, spot := A.s2 : Addr }) A.m A.c2),
                            (2, Value.int IntKind.u64 A.now), (7, Value.pointer (some { block := 2, off := 0 : Addr })),
                            (9, Value.int IntKind.i64 (↑n : Int)),
                            (10, Value.slice (some { block := 3, off := 0, spot := some 1 : Addr }) q q),
                            (14, Value.int IntKind.i64 (wr IntKind.i64 ((↑i : Int) + 1)))])
                        (hp
                          [Blk.cells A.ca 1 false, Blk.cells A.cb 1 false,
                            Blk.cells [Value.slice (some { block := 4, off := 0, spot := some 1 : Addr }) m m] 1 true,
                            Blk.cells ci 1 true, Blk.cells cs 2 true])))))
            (Need (leI 0 (idxE (intV ((getO A.ca (0 + (↑i : Int).toNat * 1)).getD undef)) 0 (resAt cs m)))
              (Need (ltI (idxE (intV ((getO A.ca (0 + (↑i : Int).toNat * 1)).getD undef)) 0 (resAt cs m)) (↑m : Int))
                (Need
                  (isInt IntKind.u64
                    ((getO cs
                          (0 +
                              (idxE (intV ((getO A.ca (0 + (↑i : Int).toNat * 1)).getD undef)) 0 (resAt cs m)).toNat *
                                2 +
                            0)).getD
                      undef))
                  (Need (ltI (↑i : Int) (↑A.n : Int))
                    (Need (isInt IntKind.i64 ((getO A.ca (0 + (↑i : Int).toNat * 1)).getD undef))
                      ((FlatL ci ∧ True) ∧
                        (IsE (iE IntKind.i64) (ZP IntKind.i64) ci 0 q q ∧
                            IsN [Value.int IntKind.i64 (intV ((getO A.ca (0 + (↑i : Int).toNat * 1)).getD undef))]) ∧
                          Alt (true == hasL (intV ((getO A.ca (0 + (↑i : Int).toNat * 1)).getD undef)) (intsAt ci 0 q))
                            (K AE.ret (tmps 172 [(6, Value.bool false)])
                              (hp [Blk.cells A.ca 1 false, Blk.cells A.cb 1 false]))
                            (Need (ltI (↑i : Int) (↑A.n : Int))
                              (Need (isInt IntKind.i64 ((getO A.ca (0 + (↑i : Int).toNat * 1)).getD undef))
                                ((FlatL A.ca ∧ FlatL A.cb ∧ True) ∧
                                  (IsE (iE IntKind.i64) (ZP IntKind.i64) A.ca 0 A.n A.c1 ∧
                                      IsE (iE IntKind.u64) (ZP IntKind.u64) A.cb 0 A.m A.c2 ∧ Need (leN A.n A.m) True) ∧
                                    Alt
                                      (!eqI
                                          (intV
                                            ((getO cs
                                                  (0 +
                                                      (idxE (intV ((getO A.ca (0 + (↑i : Int).toNat * 1)).getD undef)) 0
                                                            (resAt cs m)).toNat *
                                                        2 +
                                                    0)).getD
                                              undef))
                                          (whenW (intV ((getO A.ca (0 + (↑i : Int).toNat * 1)).getD undef))
                                            (intsAt A.ca 0 A.n) (intsAt A.cb 0 A.m) 0))
                                      (K AE.ret (tmps 172 [(6, Value.bool false)])
                                        (hp [Blk.cells A.ca 1 false, Blk.cells A.cb 1 false]))
                                      (Alt
                                        (leI
                                          (intV
                                            ((getO cs
                                                  (0 +
                                                      (idxE (intV ((getO A.ca (0 + (↑i : Int).toNat * 1)).getD undef)) 0
                                                            (resAt cs m)).toNat *
                                                        2 +
                                                    0)).getD
                                              undef))
                                          A.now)
                                        (K AE.ret (tmps 172 [(6, Value.bool false)])
                                          (hp [Blk.cells A.ca 1 false, Blk.cells A.cb 1 false]))
                                        (K AE.normal
                                          (tmps 172
                                            [(0,
                                                Value.slice (some { block := 0, off := 0, spot := A.s1 : Addr }) A.n
                                                  A.c1),
                                              (1,
                                                Value.slice (some { block := 1, off := 0, spot := A.s2 : Addr }) A.m
                                                  A.c2),
                                              (2, Value.int IntKind.u64 A.now),
                                              (7, Value.pointer (some { block := 2, off := 0 : Addr })),
                                              (9, Value.int IntKind.i64 (↑n : Int)),
                                              (10,
                                                Value.slice (some { block := 3, off := 0, spot := some 1 : Addr }) q q),
                                              (14, Value.int IntKind.i64 (wr IntKind.i64 ((↑i : Int) + 1)))])
                                          (hp
                                            [Blk.cells A.ca 1 false, Blk.cells A.cb 1 false,
                                              Blk.cells
                                                [Value.slice (some { block := 4, off := 0, spot := some 1 : Addr }) m m]
                                                1 true,
                                              Blk.cells ci 1 true, Blk.cells cs 2 true])))))))))))))))
  (K (AE.exit 4)
    (tmps 172
      [(2, Value.int IntKind.u64 A.now), (7, Value.pointer (some { block := 2, off := 0 : Addr })),
        (9, Value.int IntKind.i64 (↑n : Int)),
        (10, Value.slice (some { block := 3, off := 0, spot := some 1 : Addr }) q q)])
    (hp
      [Blk.cells A.ca 1 false, Blk.cells A.cb 1 false,
        Blk.cells [Value.slice (some { block := 4, off := 0, spot := some 1 : Addr }) m m] 1 true, Blk.cells ci 1 true,
        Blk.cells cs 2 true]))) := by kernel_rfl

structure ArIs (A : Ar) (a b : List Int) : Prop where
  n : A.n = a.length
  m : A.m = b.length
  ra : ISl A.ca 0 a
  rb : USl A.cb 0 b
  le : a.length ≤ b.length
  c1 : a.length ≤ A.c1
  c2 : b.length ≤ A.c2
  l60 : a.length ≤ 60
structure DueIs (A : Ar) (a b : List Int) (L : List Re) : Prop where
  ar : ArIs A a b
  q : IsQ L
  len : L.length ≤ 60
  ok : ∀ x ∈ L, ReOk x
  mem : ∀ x, x ∈ L ↔ x.2 ∈ a ∧ x.1 = whenW x.2 a b 0
/-- what is there when so many were put -/
def qL (a b : List Int) : Nat → List Re
  | 0 => []
  | k + 1 => putE (a.getD k 0) (b.getD k 0) (qL a b k)
noncomputable def cutP (A : Ar) (a b : List Int) : CutE where
  β := Nat
  p := [0,1,0,1,1,1,1]
  t := fun i => P1330 A i
  h := fun i => HP A (qL a b i).length (reC (qL a b i))
  Q := fun i K => (ArIs A a b ∧ i ≤ A.n) ∧ K (.exit 0) (tmps 172 [(0, .slice (some ⟨0,0,A.s1⟩) A.n A.c1), (1, .slice (some ⟨1,0,A.s2⟩) A.m A.c2), (2, .int .u64 A.now), (7, p1 2)]) (HP A (qL a b A.n).length (reC (qL a b A.n)))
noncomputable def cutD2 (A : Ar) (a b : List Int) (L : List Re) : CutE where
  β := Nat
  p := [0,1,0,1,1,1,1,1,1,1]
  t := fun i => D1330 A L.length (ripeE A.now L).length i
  h := fun i => HD A (restE A.now L).length (reC (restE A.now L)) (iC (ripeE A.now L))
  Q := fun i K => (DueIs A a b L ∧ i ≤ (ripeE A.now L).length) ∧ K (.exit 2) (tmps 172 [(0, .slice (some ⟨0,0,A.s1⟩) A.n A.c1), (1, .slice (some ⟨1,0,A.s2⟩) A.m A.c2), (2, .int .u64 A.now), (7, p1 2), (9, .int .i64 L.length), (10, .slice (some ⟨3,0,some 1⟩) (ripeE A.now L).length (ripeE A.now L).length)]) (HD A (restE A.now L).length (reC (restE A.now L)) (iC (ripeE A.now L)))
noncomputable def cutE2 (A : Ar) (a b : List Int) (L : List Re) : CutE where
  β := Nat
  p := [0,1,0,1,1,1,1,1,1,1,1]
  t := fun i => E1330 A L.length (ripeE A.now L).length i
  h := fun i => HD A (restE A.now L).length (reC (restE A.now L)) (iC (ripeE A.now L))
  Q := fun i K => (DueIs A a b L ∧ i ≤ A.n) ∧ K (.exit 4) (tmps 172 [(2, .int .u64 A.now), (7, p1 2), (9, .int .i64 L.length), (10, .slice (some ⟨3,0,some 1⟩) (ripeE A.now L).length (ripeE A.now L).length)]) (HD A (restE A.now L).length (reC (restE A.now L)) (iC (ripeE A.now L)))

theorem w1330 (A : Ar) (a b : List Int) (K : Value → Heap → Prop) :
  funX Try.prog SD (gcLKX (at0 [2]) (fun p => if beqL p [0,1,0,1,1,1,1] then [.cell 7 0 2] else []) 2 (cutE [cutP A a b, cutD2 A a b (qL a b A.n), cutE2 A a b (qL a b A.n)])) F1330 body1330 Try.f5 [] [] [.slice (some ⟨0,0,A.s1⟩) A.n A.c1, .slice (some ⟨1,0,A.s2⟩) A.m A.c2, .int .u64 A.now] (hp [.cells A.ca 1 false, .cells A.cb 1 false]) K = (
Alt (ltI 60 (↑A.n : Int)) (True ∧ True ∧ K (Value.bool true) (hp [Blk.cells A.ca 1 false, Blk.cells A.cb 1 false]))
  (Alt (ltI (↑A.m : Int) (↑A.n : Int))
    (True ∧ True ∧ K (Value.bool true) (hp [Blk.cells A.ca 1 false, Blk.cells A.cb 1 false]))
    (FlatD [2]
        (hp
          [Blk.cells A.ca 1 false, Blk.cells A.cb 1 false,
            Blk.cells [Value.slice (some { block := 3, off := 0, spot := some 1 : Addr }) 0 0] 1 true,
            Blk.cells [] 2 true]) ∧
      ∃ (b_1 : Nat),
        tmps 172
              [(0, Value.slice (some { block := 0, off := 0, spot := A.s1 : Addr }) A.n A.c1),
                (1, Value.slice (some { block := 1, off := 0, spot := A.s2 : Addr }) A.m A.c2),
                (2, Value.int IntKind.u64 A.now), (7, Value.pointer (some { block := 2, off := 0 : Addr })),
                (8, Value.int IntKind.i64 0)] =
            tmps 172
              [(0, Value.slice (some { block := 0, off := 0, spot := A.s1 : Addr }) A.n A.c1),
                (1, Value.slice (some { block := 1, off := 0, spot := A.s2 : Addr }) A.m A.c2),
                (2, Value.int IntKind.u64 A.now), (7, Value.pointer (some { block := 2, off := 0 : Addr })),
                (8, Value.int IntKind.i64 (↑b_1 : Int))] ∧
          hp
                [Blk.cells A.ca 1 false, Blk.cells A.cb 1 false,
                  Blk.cells [Value.slice (some { block := 3, off := 0, spot := some 1 : Addr }) 0 0] 1 true,
                  Blk.cells [] 2 true] =
              hp
                [Blk.cells A.ca 1 false, Blk.cells A.cb 1 false,
                  Blk.cells
                    [Value.slice (some { block := 3, off := 0, spot := some 1 : Addr }) (qL a b b_1).length
                        (qL a b b_1).length]
                    1 true,
                  Blk.cells (reC (qL a b b_1)) 2 true] ∧
            (ArIs A a b ∧ b_1.le A.n) ∧
              (nojL
                      [Value.slice (some { block := 1, off := 0, spot := some 1 : Addr }) (qL a b A.n).length
                          (qL a b A.n).length] =
                    true ∧
                  FlatL (reC (qL a b A.n)) ∧ True) ∧
                IsRC (reC (qL a b A.n)) (qL a b A.n).length (qL a b A.n).length ∧
                  FlatD [2]
                      (hp
                        [Blk.cells A.ca 1 false, Blk.cells A.cb 1 false,
                          Blk.cells
                            [Value.slice (some { block := 4, off := 0, spot := some 1 : Addr })
                                (restE A.now (resAt (reC (qL a b A.n)) (qL a b A.n).length)).length
                                (restE A.now (resAt (reC (qL a b A.n)) (qL a b A.n).length)).length]
                            1 true,
                          Blk.cells (iC (ripeE A.now (resAt (reC (qL a b A.n)) (qL a b A.n).length))) 1 true,
                          Blk.cells (reC (restE A.now (resAt (reC (qL a b A.n)) (qL a b A.n).length))) 2 true]) ∧
                    ∃ (b_2 : Nat),
                      tmps 172
                            [(0, Value.slice (some { block := 0, off := 0, spot := A.s1 : Addr }) A.n A.c1),
                              (1, Value.slice (some { block := 1, off := 0, spot := A.s2 : Addr }) A.m A.c2),
                              (2, Value.int IntKind.u64 A.now),
                              (7, Value.pointer (some { block := 2, off := 0 : Addr })),
                              (9, Value.int IntKind.i64 (↑(qL a b A.n).length : Int)),
                              (10,
                                Value.slice (some { block := 3, off := 0, spot := some 1 : Addr })
                                  (ripeE A.now (resAt (reC (qL a b A.n)) (qL a b A.n).length)).length
                                  (ripeE A.now (resAt (reC (qL a b A.n)) (qL a b A.n).length)).length),
                              (11, Value.int IntKind.i64 0)] =
                          tmps 172
                            [(0, Value.slice (some { block := 0, off := 0, spot := A.s1 : Addr }) A.n A.c1),
                              (1, Value.slice (some { block := 1, off := 0, spot := A.s2 : Addr }) A.m A.c2),
                              (2, Value.int IntKind.u64 A.now),
                              (7, Value.pointer (some { block := 2, off := 0 : Addr })),
                              (9, Value.int IntKind.i64 (↑(qL a b A.n).length : Int)),
                              (10,
                                Value.slice (some { block := 3, off := 0, spot := some 1 : Addr })
                                  (ripeE A.now (qL a b A.n)).length (ripeE A.now (qL a b A.n)).length),
                              (11, Value.int IntKind.i64 (↑b_2 : Int))] ∧
                        hp
                              [Blk.cells A.ca 1 false, Blk.cells A.cb 1 false,
                                Blk.cells
                                  [Value.slice (some { block := 4, off := 0, spot := some 1 : Addr })
                                      (restE A.now (resAt (reC (qL a b A.n)) (qL a b A.n).length)).length
                                      (restE A.now (resAt (reC (qL a b A.n)) (qL a b A.n).length)).length]
                                  1 true,
                                Blk.cells (iC (ripeE A.now (resAt (reC (qL a b A.n)) (qL a b A.n).length))) 1 true,
                                Blk.cells (reC (restE A.now (resAt (reC (qL a b A.n)) (qL a b A.n).length))) 2 true] =
                            hp
                              [Blk.cells A.ca 1 false, Blk.cells A.cb 1 false,
                                Blk.cells
                                  [Value.slice (some { block := 4, off := 0, spot := some 1 : Addr })
                                      (restE A.now (qL a b A.n)).length (restE A.now (qL a b A.n)).length]
                                  1 true,
                                Blk.cells (iC (ripeE A.now (qL a b A.n))) 1 true,
                                Blk.cells (reC (restE A.now (qL a b A.n))) 2 true] ∧
                          (DueIs A a b (qL a b A.n) ∧ b_2.le (ripeE A.now (qL a b A.n)).length) ∧
                            FlatD [2]
                                (hp
                                  [Blk.cells A.ca 1 false, Blk.cells A.cb 1 false,
                                    Blk.cells
                                      [Value.slice (some { block := 4, off := 0, spot := some 1 : Addr })
                                          (restE A.now (qL a b A.n)).length (restE A.now (qL a b A.n)).length]
                                      1 true,
                                    Blk.cells (iC (ripeE A.now (qL a b A.n))) 1 true,
                                    Blk.cells (reC (restE A.now (qL a b A.n))) 2 true]) ∧
                              ∃ (b_3 : Nat),
                                tmps 172
                                      [(0, Value.slice (some { block := 0, off := 0, spot := A.s1 : Addr }) A.n A.c1),
                                        (1, Value.slice (some { block := 1, off := 0, spot := A.s2 : Addr }) A.m A.c2),
                                        (2, Value.int IntKind.u64 A.now),
                                        (7, Value.pointer (some { block := 2, off := 0 : Addr })),
                                        (9, Value.int IntKind.i64 (↑(qL a b A.n).length : Int)),
                                        (10,
                                          Value.slice (some { block := 3, off := 0, spot := some 1 : Addr })
                                            (ripeE A.now (qL a b A.n)).length (ripeE A.now (qL a b A.n)).length),
                                        (14, Value.int IntKind.i64 0)] =
                                    tmps 172
                                      [(0, Value.slice (some { block := 0, off := 0, spot := A.s1 : Addr }) A.n A.c1),
                                        (1, Value.slice (some { block := 1, off := 0, spot := A.s2 : Addr }) A.m A.c2),
                                        (2, Value.int IntKind.u64 A.now),
                                        (7, Value.pointer (some { block := 2, off := 0 : Addr })),
                                        (9, Value.int IntKind.i64 (↑(qL a b A.n).length : Int)),
                                        (10,
                                          Value.slice (some { block := 3, off := 0, spot := some 1 : Addr })
                                            (ripeE A.now (qL a b A.n)).length (ripeE A.now (qL a b A.n)).length),
                                        (14, Value.int IntKind.i64 (↑b_3 : Int))] ∧
                                  hp
                                        [Blk.cells A.ca 1 false, Blk.cells A.cb 1 false,
                                          Blk.cells
                                            [Value.slice (some { block := 4, off := 0, spot := some 1 : Addr })
                                                (restE A.now (qL a b A.n)).length (restE A.now (qL a b A.n)).length]
                                            1 true,
                                          Blk.cells (iC (ripeE A.now (qL a b A.n))) 1 true,
                                          Blk.cells (reC (restE A.now (qL a b A.n))) 2 true] =
                                      hp
                                        [Blk.cells A.ca 1 false, Blk.cells A.cb 1 false,
                                          Blk.cells
                                            [Value.slice (some { block := 4, off := 0, spot := some 1 : Addr })
                                                (restE A.now (qL a b A.n)).length (restE A.now (qL a b A.n)).length]
                                            1 true,
                                          Blk.cells (iC (ripeE A.now (qL a b A.n))) 1 true,
                                          Blk.cells (reC (restE A.now (qL a b A.n))) 2 true] ∧
                                    (DueIs A a b (qL a b A.n) ∧ b_3.le A.n) ∧
                                      Alt
                                        (eqI (↑(restE A.now (qL a b A.n)).length : Int)
                                          (wr IntKind.i64
                                            ((↑(qL a b A.n).length : Int) -
                                              (↑(ripeE A.now (qL a b A.n)).length : Int))))
                                        ((nojL
                                                [Value.slice (some { block := 1, off := 0, spot := some 1 : Addr })
                                                    (restE A.now (qL a b A.n)).length
                                                    (restE A.now (qL a b A.n)).length] =
                                              true ∧
                                            FlatL (reC (restE A.now (qL a b A.n))) ∧ True) ∧
                                          IsRC (reC (restE A.now (qL a b A.n))) (restE A.now (qL a b A.n)).length
                                              (restE A.now (qL a b A.n)).length ∧
                                            Alt
                                              (eqI
                                                (↑(ripeE A.now
                                                        (resAt (reC (restE A.now (qL a b A.n)))
                                                          (restE A.now (qL a b A.n)).length)).length :
                                                  Int)
                                                0)
                                              (True ∧
                                                True ∧
                                                  K (Value.bool true)
                                                    (hp [Blk.cells A.ca 1 false, Blk.cells A.cb 1 false]))
                                              (K (Value.bool false)
                                                (hp [Blk.cells A.ca 1 false, Blk.cells A.cb 1 false])))
                                        (K (Value.bool false) (hp [Blk.cells A.ca 1 false, Blk.cells A.cb 1 false]))))) := by kernel_rfl

end Go.Proofs.Ytmgnlkefhmhkhaa

namespace Go.Proofs.Ytmgnlkefhmhkhaa
open Go.RowKit Go.Proofs.Ytmgnlkefhmhkhaa.AM
set_option maxRecDepth 100000
set_option maxHeartbeats 4000000
theorem whenW_snoc (id : Int) : ∀ (a b : List Int) (d x : Int), a.length < b.length → whenW id (a ++ [x]) b d = if eqI x id then b.getD a.length 0 else whenW id a b d := by
  intro a
  induction a with
  | nil =>
    intro b d x h
    cases b with
    | nil => simp at h
    | cons y b =>
      simp only [List.nil_append, whenW, List.length_nil]
      cases b <;> simp [whenW]
  | cons z a ih =>
    intro b d x h
    cases b with
    | nil => simp at h
    | cons y b =>
      simp only [List.cons_append, whenW]
      rw [ih b _ x (by simpa using h)]
      simp
theorem mem_insL {i : Nat} {e x : Re} {L : List Re} : x ∈ insL i e L ↔ x = e ∨ x ∈ L := by
  unfold insL
  rw [List.mem_append, List.mem_cons]
  constructor
  · rintro (h | h | h)
    · exact .inr (List.mem_of_mem_take h)
    · exact .inl h
    · exact .inr (List.mem_of_mem_drop h)
  · rintro (h | h)
    · exact .inr (.inl h)
    · rw [← List.take_append_drop i L] at h
      rcases List.mem_append.1 h with h | h
      · exact .inl h
      · exact .inr (.inr h)
theorem mem_dropE {o : Int} {x : Re} : ∀ {L : List Re}, L.Pairwise (fun x y => x.2 ≠ y.2) → (x ∈ dropE o L ↔ x ∈ L ∧ x.2 ≠ o) := by
  intro L
  induction L with
  | nil => intro _; simp [dropE]
  | cons y t ih =>
    intro h
    rw [List.pairwise_cons] at h
    unfold dropE
    by_cases hy : y.2 = o
    · rw [if_pos (eqI_iff.2 hy)]
      refine ⟨fun hx => ⟨List.mem_cons_of_mem _ hx, fun hh => h.1 x hx (hy.trans hh.symm)⟩, fun ⟨hx, hne⟩ => ?_⟩
      rcases List.mem_cons.1 hx with rfl | hx
      · exact absurd hy hne
      · exact hx
    · rw [if_neg (fun hh => hy (eqI_iff.1 hh)), List.mem_cons, List.mem_cons, ih h.2]
      constructor
      · rintro (rfl | ⟨h1, h2⟩)
        · exact ⟨.inl rfl, hy⟩
        · exact ⟨.inr h1, h2⟩
      · rintro ⟨rfl | h1, h2⟩
        · exact .inl rfl
        · exact .inr ⟨h1, h2⟩
structure QIs (a b : List Int) (k : Nat) (L : List Re) : Prop where
  q : IsQ L
  len : L.length ≤ k
  ok : ∀ x ∈ L, ReOk x
  mem : ∀ x, x ∈ L ↔ x.2 ∈ a.take k ∧ x.1 = whenW x.2 (a.take k) b 0
theorem getD_of {l : List Int} {i : Nat} (h : i < l.length) : l[i]? = some (l.getD i 0) := by rw [List.getD_eq_getElem?_getD, List.getElem?_eq_getElem h]; rfl
theorem qL_is {a b : List Int} (hab : a.length ≤ b.length) (ha : ∀ x ∈ a, ZP .i64 x) (hb : ∀ x ∈ b, ZP .u64 x) (hl : a.length ≤ 60) : ∀ k, k ≤ a.length → QIs a b k (qL a b k) := by
  intro k
  induction k with
  | zero => intro _; exact ⟨isQ_nil, Nat.le_refl _, fun x hx => by simp [qL] at hx, fun x => by simp [qL]⟩
  | succ k ih =>
    intro hk
    obtain ⟨q1, q2, q3, q4⟩ := ih (by omega)
    have hxa := getD_of (l := a) (i := k) (by omega)
    have hxb := getD_of (l := b) (i := k) (by omega)
    have he : ReOk (b.getD k 0, a.getD k 0) := ⟨hb _ (List.mem_of_getElem? hxb), ha _ (List.mem_of_getElem? hxa)⟩
    have ht : a.take (k + 1) = a.take k ++ [a.getD k 0] := by rw [List.take_add_one, hxa]; rfl
    have hkl : (a.take k).length = k := by rw [List.length_take]; omega
    refine ⟨isQ_put q1 (by omega), by have := putE_len (a.getD k 0) (b.getD k 0) (qL a b k); have := dropE_len (a.getD k 0) (qL a b k); show (putE _ _ _).length ≤ _; omega, putE_ok he q3, fun x => ?_⟩
    have hw : whenW x.2 (a.take (k + 1)) b 0 = if eqI (a.getD k 0) x.2 then b.getD k 0 else whenW x.2 (a.take k) b 0 := by rw [ht, whenW_snoc _ _ _ _ _ (by omega), hkl]
    show x ∈ insL _ (b.getD k 0, a.getD k 0) (dropE _ _) ↔ _
    rw [mem_insL, mem_dropE q1.ids, q4, hw, ht, List.mem_append, List.mem_singleton]
    by_cases hx : x.2 = a.getD k 0
    · rw [if_pos (eqI_iff.2 hx.symm)]
      constructor
      · rintro (rfl | ⟨_, h⟩)
        · exact ⟨.inr rfl, rfl⟩
        · exact absurd hx h
      · rintro ⟨_, h⟩
        exact .inl (Prod.ext h hx)
    · rw [if_neg (fun hh => hx (eqI_iff.1 hh).symm)]
      constructor
      · rintro (rfl | ⟨⟨h1, h2⟩, _⟩)
        · exact absurd rfl hx
        · exact ⟨.inl h1, h2⟩
      · rintro ⟨h1 | h1, h2⟩
        · exact .inr ⟨⟨h1, h2⟩, hx⟩
        · exact absurd h1 hx
theorem ripe_get {now z : Int} : ∀ {L : List Re} {i : Nat}, (ripeE now L)[i]? = some z → ∃ x, L[i]? = some x ∧ x.2 = z ∧ x.1 ≤ now := by
  intro L
  induction L with
  | nil => intro i h; simp [ripeE] at h
  | cons x t ih =>
    intro i h
    unfold ripeE at h
    split at h
    · rename_i hx
      cases i with
      | zero => simp at h; exact ⟨x, rfl, h, leI_iff.1 hx⟩
      | succ i => exact ih (by simpa using h)
    · simp at h
theorem rest_gt {now : Int} : ∀ {L : List Re}, UpE L → ∀ x ∈ restE now L, now < x.1 := by
  intro L
  induction L with
  | nil => intro _ x hx; simp [restE] at hx
  | cons y t ih =>
    intro h x hx
    unfold UpE at h
    rw [List.pairwise_cons] at h
    unfold restE at hx
    split at hx
    · exact ih h.2 x hx
    · rename_i hy
      have hy : now < y.1 := by
        by_cases q : y.1 ≤ now
        · exact absurd (leI_iff.2 q) hy
        · omega
      rcases List.mem_cons.1 hx with rfl | hx
      · exact hy
      · have := h.1 x hx; rw [cmpE_lt] at this; omega
/-- what is there is ripe, or it stays; never both -/
theorem ripe_or {now : Int} : ∀ {L : List Re} {x : Re}, x ∈ L → x.2 ∈ ripeE now L ∨ x ∈ restE now L := by
  intro L
  induction L with
  | nil => intro x h; simp at h
  | cons y t ih =>
    intro x h
    unfold ripeE restE
    split
    · rcases List.mem_cons.1 h with rfl | h
      · exact .inl List.mem_cons_self
      · rcases ih h with h | h
        · exact .inl (List.mem_cons_of_mem _ h)
        · exact .inr h
    · exact .inr h
theorem ripe_mem {now z : Int} : ∀ {L : List Re}, z ∈ ripeE now L → ∃ x ∈ L, x.2 = z ∧ x.1 ≤ now := by
  intro L h
  obtain ⟨i, hi⟩ := List.mem_iff_getElem?.1 h
  obtain ⟨x, h1, h2, h3⟩ := ripe_get hi
  exact ⟨x, List.mem_of_getElem? h1, h2, h3⟩
end Go.Proofs.Ytmgnlkefhmhkhaa

namespace Go.Proofs.Ytmgnlkefhmhkhaa
open Go.RowKit Go.Proofs.Ytmgnlkefhmhkhaa.AM
set_option maxRecDepth 100000
set_option maxHeartbeats 4000000
theorem hp4_flat {ca cb cs : List Value} {n m : Nat} (h1 : FlatL ca) (h2 : FlatL cb) (h : FlatL cs) : FlatD [2] (hp [.cells ca 1 false, .cells cb 1 false, .cells [.slice (some ⟨3,0,some 1⟩) n m] 1 true, .cells cs 2 true]) := FlatD.hp ⟨h1, h2, rfl, h, trivial⟩
theorem hp5_flat {ca cb cs ci : List Value} {n m : Nat} (h1 : FlatL ca) (h2 : FlatL cb) (h : FlatL cs) (h3 : FlatL ci) : FlatD [2] (hp [.cells ca 1 false, .cells cb 1 false, .cells [.slice (some ⟨4,0,some 1⟩) n m] 1 true, .cells ci 1 true, .cells cs 2 true]) := FlatD.hp ⟨h1, h2, rfl, h3, h, trivial⟩
theorem putD_loop (hmix : Try.prog.follows .mixedOrders = true) (A : Ar) (a b : List Int) (hA : ArIs A a b) (K : Post)
    (hK : K (.exit 0) (tmps 172 [(0, .slice (some ⟨0,0,A.s1⟩) A.n A.c1), (1, .slice (some ⟨1,0,A.s2⟩) A.m A.c2), (2, .int .u64 A.now), (7, p1 2)]) (HP A (qL a b A.n).length (reC (qL a b A.n)))) : ∀ t i, i + t = A.n →
    LSays Try.prog 2 (sub body1330 [0,0,1,0,1,1,1,1]) (P1330 A i) (HP A (qL a b i).length (reC (qL a b i))) K := by
  have hn := hA.n
  have hle := hA.le
  have h60 := hA.l60
  intro t
  induction t with
  | zero =>
    intro i hi
    obtain rfl : i = A.n := by omega
    refine (sureD hmix).roundX F1330 noLoops [2] [] [2] [] [0,1,2,7,8] ?_
    rw [r1330P]
    exact Alt_iff.2 ⟨fun h => absurd (ltI_iff.1 h) (by omega), fun _ => ⟨hp4_flat hA.ra.flat hA.rb.flat (reC_flat _), hK⟩⟩
  | succ t ih =>
    intro i hi
    have hQ := qL_is hA.le hA.ra.ok hA.rb.ok hA.l60 i (by omega)
    have hxa := getD_of (l := a) (i := i) (by omega)
    have hxb := getD_of (l := b) (i := i) (by omega)
    have g0 := hA.ra.cell i _ hxa
    have g1 := hA.rb.cell i _ hxb
    rw [Nat.zero_add] at g0 g1
    have he : ReOk (b.getD i 0, a.getD i 0) := ⟨hA.rb.ok _ (List.mem_of_getElem? hxb), hA.ra.ok _ (List.mem_of_getElem? hxa)⟩
    have hl := hQ.len
    have hup : IsUpE (qL a b i) := ⟨hQ.q.up, hQ.q.len⟩
    have hm := hA.m
    have hnext : putE (a.getD i 0) (b.getD i 0) (qL a b i) = qL a b (i + 1) := rfl
    have hF := hp4_flat (n := (qL a b (i + 1)).length) (m := (qL a b (i + 1)).length) hA.ra.flat hA.rb.flat (reC_flat (qL a b (i + 1)))
    refine (sureD hmix).roundX F1330 noLoops [2] [] [2] [] [0,1,2,7,8] ?_
    rw [r1330P]
    simp only [Nat.zero_add, Nat.mul_one, Int.toNat_natCast, g0, g1, Option.getD_some, show ∀ n, intV (Value.int .u64 n) = n from fun _ => rfl, show ∀ n, intV (Value.int .i64 n) = n from fun _ => rfl, show ∀ n, iE .i64 n = Value.int .i64 n from fun _ => rfl, show ∀ n, iE .u64 n = Value.int .u64 n from fun _ => rfl, reC_at hQ.ok, hnext, reC_flat, rcs hQ.ok (by omega), hup, he, hF, show (i : Int) < (A.n : Int) by omega, show (i : Int) < (A.m : Int) by omega, show (qL a b i).length ≤ 999999 by omega, nx i (by omega), Alt_iff, Need_iff, ltI_eq, leI_eq, eqI_eq, leN_eq, eqN_eq, decide_eq_true_eq, decide_eq_false_iff_not, decide_true, decide_false, true_and, and_true, Bool.true_eq_false, Bool.false_eq_true, false_implies, true_implies, implies_true, not_true_eq_false, not_false_eq_true, Bool.not_eq_true', Bool.not_eq_false', Nat.zero_add, Nat.add_zero, Nat.sub_zero, Nat.zero_mul, Nat.mul_one, Int.toNat_natCast, List.drop_zero, beqV_int, beqV_sl, beqV_str, beqV_bool, beqV_ptr, beqV_flt, beqV_agg, beqV_tuple, List.all_cons, List.all_nil, Bool.and_self, Bool.and_true, Bool.true_and, Nat.le_refl, Int.le_refl, Nat.zero_le, Option.getD_some, isStr, strV, isInt, intV, isBool, boolV, kindEq, at0, isJunk, Option.isSome_some, Option.isSome_none, if_true, if_false, Nat.add_sub_cancel_left, Nat.add_sub_cancel]
    exact ⟨rfl, ih (i + 1) (by omega)⟩
theorem dueD_loop (hmix : Try.prog.follows .mixedOrders = true) (A : Ar) (a b : List Int) (L : List Re) (hD : DueIs A a b L) (K : Post)
    (hK : K (.exit 2) (tmps 172 [(0, .slice (some ⟨0,0,A.s1⟩) A.n A.c1), (1, .slice (some ⟨1,0,A.s2⟩) A.m A.c2), (2, .int .u64 A.now), (7, p1 2), (9, .int .i64 L.length), (10, .slice (some ⟨3,0,some 1⟩) (ripeE A.now L).length (ripeE A.now L).length)]) (HD A (restE A.now L).length (reC (restE A.now L)) (iC (ripeE A.now L)))) : ∀ t i, i + t = (ripeE A.now L).length →
    LSays Try.prog 2 (sub body1330 [0,0,1,0,1,1,1,1,1,1,1]) (D1330 A L.length (ripeE A.now L).length i) (HD A (restE A.now L).length (reC (restE A.now L)) (iC (ripeE A.now L))) K := by
  obtain ⟨hA, hQ, hlen, ok, hmem⟩ := hD
  have hn := hA.n
  have hm := hA.m
  have hle := hA.le
  have hrl := ripeE_len A.now L
  have hF := hp5_flat (n := (restE A.now L).length) (m := (restE A.now L).length) hA.ra.flat hA.rb.flat (reC_flat (restE A.now L)) (iC_flat (ripeE A.now L))
  have hI : IsI A.ca 0 A.n A.c1 := .mk a hn.symm (by have := hA.c1; omega) hA.ra
  have hU : IsU A.cb 0 A.m A.c2 := .mk b hm.symm (by have := hA.c2; omega) hA.rb
  have hia : intsAt A.ca 0 A.n = a := by rw [hn]; exact intsAt_eq hA.ra
  have hib : intsAt A.cb 0 A.m = b := by rw [hm]; exact u64_eq hA.rb
  have hsorted : ∀ (i j : Nat) x y, i < j → L[i]? = some x → L[j]? = some y → cmpE x y < 0 := fun i j x y hab ha hb => by
    obtain ⟨h1, h2⟩ := List.getElem?_eq_some_iff.1 ha
    obtain ⟨h3, h4⟩ := List.getElem?_eq_some_iff.1 hb
    have := List.pairwise_iff_getElem.1 hQ.up i j h1 h3 hab
    rw [h2, h4] at this; exact this
  have look : ∀ i, i < (ripeE A.now L).length → ∃ x, L[i]? = some x ∧ getO (iC (ripeE A.now L)) i = some (.int .i64 x.2) ∧ x.1 ≤ A.now ∧ hasL x.2 a = true ∧ whenW x.2 a b 0 = x.1 ∧ ZP .i64 x.2 := fun i hi => by
    have hz : (ripeE A.now L)[i]? = some (ripeE A.now L)[i] := List.getElem?_eq_getElem hi
    obtain ⟨x, h1, h2, h3⟩ := ripe_get hz
    have hx := (hmem x).1 (List.mem_of_getElem? h1)
    refine ⟨x, h1, ?_, h3, hasL_iff.2 hx.1, hx.2.symm, (ok x (List.mem_of_getElem? h1)).n⟩
    rw [h2]; exact eC_get (iE .i64) _ hz
  intro t
  induction t with
  | zero =>
    intro i hi
    have hge : ¬ ((i : Int) < ((ripeE A.now L).length : Int)) := by omega
    cases i with
    | zero =>
      refine (sureD hmix).roundX F1330 noLoops [2] [] [2] [] [0,1,2,7,9,10,11] ?_
      rw [r1330z]
      exact Alt_iff.2 ⟨fun h => absurd (ltI_iff.1 h) hge, fun _ => ⟨hF, hK⟩⟩
    | succ i =>
      refine (sureD hmix).roundX F1330 noLoops [2] [] [2] [] [0,1,2,7,9,10,11] ?_
      rw [r1330s]
      exact Alt_iff.2 ⟨fun h => absurd (ltI_iff.1 h) hge, fun _ => ⟨hF, hK⟩⟩
  | succ t ih =>
    intro i hi
    obtain ⟨y, y1, y2, y3, y4, y5, y6⟩ := look i (by omega)
    have hYN : IsN [Value.int .i64 y.2] := ⟨y.2, y6⟩
    cases i with
    | zero =>
      refine (sureD hmix).roundX F1330 noLoops [2] [] [2] [] [0,1,2,7,9,10,11] ?_
      rw [r1330z]
      have n1 : wr .i64 (0 + 1 : Int) = ((1 : Nat) : Int) := nx 0 (by omega)
      have := ih 1 (by omega)
      simp only [y2, Option.getD_some, show ∀ n, intV (Value.int .i64 n) = n from fun _ => rfl, hia, hib, y4, y5, hI, hU, hYN, hA.ra.flat, hA.rb.flat, hF, show ¬ (A.now < y.1) by omega, show ((0 : Nat) : Int) < ((ripeE A.now L).length : Int) by omega, show (0 : Int) < ((ripeE A.now L).length : Int) by omega, Bool.not_true, show A.n ≤ A.m by omega, Alt_iff, Need_iff, ltI_eq, leI_eq, eqI_eq, leN_eq, eqN_eq, decide_eq_true_eq, decide_eq_false_iff_not, decide_true, decide_false, true_and, and_true, Bool.true_eq_false, Bool.false_eq_true, false_implies, true_implies, implies_true, not_true_eq_false, not_false_eq_true, Bool.not_eq_true', Bool.not_eq_false', Nat.zero_add, Nat.add_zero, Nat.sub_zero, Nat.zero_mul, Nat.mul_one, Int.toNat_natCast, List.drop_zero, beqV_int, beqV_sl, beqV_str, beqV_bool, beqV_ptr, beqV_flt, beqV_agg, beqV_tuple, List.all_cons, List.all_nil, Bool.and_self, Bool.and_true, Bool.true_and, Nat.le_refl, Int.le_refl, Nat.zero_le, Option.getD_some, isStr, strV, isInt, intV, isBool, boolV, kindEq, at0, isJunk, Option.isSome_some, Option.isSome_none, if_true, if_false, Nat.add_sub_cancel_left, Nat.add_sub_cancel]
      exact this
    | succ i =>
      obtain ⟨x, x1, x2, x3, x4, x5, x6⟩ := look i (by omega)
      have hXN : IsN [Value.int .i64 x.2] := ⟨x.2, x6⟩
      have hxy := cmpE_lt.1 (hsorted i (i + 1) x y (by omega) x1 y1)
      refine (sureD hmix).roundX F1330 noLoops [2] [] [2] [] [0,1,2,7,9,10,11] ?_
      rw [r1330s, pv i (by omega)]
      simp only [Nat.zero_add, Nat.mul_one, Int.toNat_natCast, x2, y2, Option.getD_some, show ∀ n, intV (Value.int .i64 n) = n from fun _ => rfl, hia, hib, y4, y5, x5, hI, hU, hYN, hXN, hA.ra.flat, hA.rb.flat, hF, show ¬ (A.now < y.1) by omega, show ((i + 1 : Nat) : Int) < ((ripeE A.now L).length : Int) by omega, show ((i : Nat) : Int) < ((ripeE A.now L).length : Int) by omega, show (0 : Int) ≤ (i : Int) by omega, show ¬ (y.1 < x.1) by omega, Bool.not_true, show A.n ≤ A.m by omega, nx (i + 1) (by omega), Alt_iff, Need_iff, ltI_eq, leI_eq, eqI_eq, leN_eq, eqN_eq, decide_eq_true_eq, decide_eq_false_iff_not, decide_true, decide_false, true_and, and_true, Bool.true_eq_false, Bool.false_eq_true, false_implies, true_implies, implies_true, not_true_eq_false, not_false_eq_true, Bool.not_eq_true', Bool.not_eq_false', Nat.zero_add, Nat.add_zero, Nat.sub_zero, Nat.zero_mul, Nat.mul_one, Int.toNat_natCast, List.drop_zero, beqV_int, beqV_sl, beqV_str, beqV_bool, beqV_ptr, beqV_flt, beqV_agg, beqV_tuple, List.all_cons, List.all_nil, Bool.and_self, Bool.and_true, Bool.true_and, Nat.le_refl, Int.le_refl, Nat.zero_le, Option.getD_some, isStr, strV, isInt, intV, isBool, boolV, kindEq, at0, isJunk, Option.isSome_some, Option.isSome_none, if_true, if_false, Nat.add_sub_cancel_left, Nat.add_sub_cancel]
      exact ⟨fun h => ⟨fun h2 => by omega, fun _ => ih (i + 1 + 1) (by omega)⟩, fun _ => ih (i + 1 + 1) (by omega)⟩
theorem dueE_loop (hmix : Try.prog.follows .mixedOrders = true) (A : Ar) (a b : List Int) (L : List Re) (hD : DueIs A a b L) (K : Post)
    (hK : K (.exit 4) (tmps 172 [(2, .int .u64 A.now), (7, p1 2), (9, .int .i64 L.length), (10, .slice (some ⟨3,0,some 1⟩) (ripeE A.now L).length (ripeE A.now L).length)]) (HD A (restE A.now L).length (reC (restE A.now L)) (iC (ripeE A.now L)))) : ∀ t i, i + t = A.n →
    LSays Try.prog 2 (sub body1330 [0,0,1,0,1,1,1,1,1,1,1,1]) (E1330 A L.length (ripeE A.now L).length i) (HD A (restE A.now L).length (reC (restE A.now L)) (iC (ripeE A.now L))) K := by
  obtain ⟨hA, hQ, hlen, ok, hmem⟩ := hD
  have hn := hA.n
  have hm := hA.m
  have hle := hA.le
  have h60 := hA.l60
  have hrl := ripeE_len A.now L
  have hF := hp5_flat (n := (restE A.now L).length) (m := (restE A.now L).length) hA.ra.flat hA.rb.flat (reC_flat (restE A.now L)) (iC_flat (ripeE A.now L))
  have hI : IsI A.ca 0 A.n A.c1 := .mk a hn.symm (by have := hA.c1; omega) hA.ra
  have hU : IsU A.cb 0 A.m A.c2 := .mk b hm.symm (by have := hA.c2; omega) hA.rb
  have hia : intsAt A.ca 0 A.n = a := by rw [hn]; exact intsAt_eq hA.ra
  have hib : intsAt A.cb 0 A.m = b := by rw [hm]; exact u64_eq hA.rb
  have hri : ISl (iC (ripeE A.now L)) 0 (ripeE A.now L) := ESl.own flat_i (ripeE_ok ok) (by omega)
  have hRI : IsI (iC (ripeE A.now L)) 0 (ripeE A.now L).length (ripeE A.now L).length := .mk _ rfl (Nat.le_refl _) hri
  have hir : intsAt (iC (ripeE A.now L)) 0 (ripeE A.now L).length = ripeE A.now L := intsAt_eq hri
  have okr : ∀ x ∈ restE A.now L, ReOk x := fun x hx => ok x (restE_mem hx)
  have hsplit : ripeE A.now L = (L.take (ripeE A.now L).length).map (·.2) := by
    have : ∀ M : List Re, ripeE A.now M = (M.take (ripeE A.now M).length).map (·.2) := by
      intro M
      induction M with
      | nil => rfl
      | cons x t ih =>
        unfold ripeE
        split
        · rw [List.length_cons, List.take_succ_cons, List.map_cons, ← ih]
        · rfl
    exact this L
  have hnot : ∀ x ∈ restE A.now L, ¬ x.2 ∈ ripeE A.now L := fun x hx hh => by
    rw [hsplit] at hh
    obtain ⟨y, hy, hyx⟩ := List.mem_map.1 hh
    rw [restE_drop] at hx
    have h2 : (L.take (ripeE A.now L).length ++ L.drop (ripeE A.now L).length).Pairwise (fun x y => x.2 ≠ y.2) := by rw [List.take_append_drop]; exact hQ.ids
    rw [List.pairwise_append] at h2
    exact h2.2.2 y hy x hx hyx
  have hbe : ∀ p q : Bool, p = !q → (q == p) = false := fun p q h => by subst h; cases q <;> rfl
  intro t
  induction t with
  | zero =>
    intro i hi
    have hge : ¬ ((i : Int) < (A.n : Int)) := by omega
    refine (sureD hmix).roundX F1330 noLoops [2] [] [2] [] [0,1,2,7,9,10,14] ?_
    rw [r1330E]
    exact Alt_iff.2 ⟨fun h => absurd (ltI_iff.1 h) hge, fun _ => ⟨hF, hK⟩⟩
  | succ t ih =>
    intro i hi
    have hxa := getD_of (l := a) (i := i) (by omega)
    generalize a.getD i 0 = z at hxa
    have g0 := hA.ra.cell i _ hxa
    rw [Nat.zero_add] at g0
    have hza : z ∈ a := List.mem_of_getElem? hxa
    have hZN : IsN [Value.int .i64 z] := ⟨z, hA.ra.ok _ hza⟩
    have hzL : (whenW z a b 0, z) ∈ L := (hmem _).2 ⟨hza, rfl⟩
    refine (sureD hmix).roundX F1330 noLoops [2] [] [2] [] [0,1,2,7,9,10,14] ?_
    rw [r1330E]
    have hb := ih (i + 1) (by omega)
    rcases idx_when z (restE A.now L) 0 with ⟨q1, q2, q3⟩ | ⟨j, q1, q2, q3⟩
    · have hz : hasL z (ripeE A.now L) = true := by
        rcases ripe_or (now := A.now) hzL with h | h
        · exact hasL_iff.2 h
        · exfalso
          have : ∀ {M : List Re} {x : Re}, x ∈ M → hasE x.2 M = true := by
            intro M
            induction M with
            | nil => intro x hx; simp at hx
            | cons y t ih =>
              intro x hx
              unfold hasE
              split
              · rfl
              · rename_i hy
                rcases List.mem_cons.1 hx with rfl | hx
                · exact absurd (eqI_iff.2 rfl) hy
                · exact ih hx
          have := this h
          rw [q2] at this; cases this
      simp only [Nat.zero_add, Nat.mul_one, Int.toNat_natCast, g0, Option.getD_some, show ∀ n, iE .i64 n = Value.int .i64 n from fun _ => rfl, show ∀ n, intV (Value.int .i64 n) = n from fun _ => rfl, reC_at okr, q1, hia, hib, hir, hz, hI, hU, hRI, hZN, irs okr, reC_flat, iC_flat, int_flat, hA.ra.flat, hA.rb.flat, hF, show (i : Int) < (A.n : Int) by omega, show (-1 : Int) < 0 by decide, show (restE A.now L).length ≤ 1000000 by omega, nx i (by omega), show (false == true) = false from rfl, Alt_iff, Need_iff, ltI_eq, leI_eq, eqI_eq, leN_eq, eqN_eq, decide_eq_true_eq, decide_eq_false_iff_not, decide_true, decide_false, true_and, and_true, Bool.true_eq_false, Bool.false_eq_true, false_implies, true_implies, implies_true, not_true_eq_false, not_false_eq_true, Bool.not_eq_true', Bool.not_eq_false', Nat.zero_add, Nat.add_zero, Nat.sub_zero, Nat.zero_mul, Nat.mul_one, Int.toNat_natCast, List.drop_zero, beqV_int, beqV_sl, beqV_str, beqV_bool, beqV_ptr, beqV_flt, beqV_agg, beqV_tuple, List.all_cons, List.all_nil, Bool.and_self, Bool.and_true, Bool.true_and, Nat.le_refl, Int.le_refl, Nat.zero_le, Option.getD_some, isStr, strV, isInt, intV, isBool, boolV, kindEq, at0, isJunk, Option.isSome_some, Option.isSome_none, if_true, if_false, Nat.add_sub_cancel_left, Nat.add_sub_cancel]
      exact hb
    · rw [Nat.zero_add] at q1
      have hjl := (List.getElem?_eq_some_iff.1 q3).1
      have hjm := List.mem_of_getElem? q3
      have c0 := (reC_row okr).get0 q3
      have hw : whenE z (restE A.now L) = whenW z a b 0 := ((hmem _).1 (restE_mem hjm)).2
      have hgt := rest_gt hQ.up _ hjm
      rw [hw] at c0 hgt
      have hz : hasL z (ripeE A.now L) = false := Bool.eq_false_iff.2 fun hh => hnot _ hjm (hasL_iff.1 hh)
      simp only [Nat.zero_add, Nat.add_zero, Nat.mul_one, Int.toNat_natCast, g0, c0, reF, Option.getD_some, show ∀ n, iE .i64 n = Value.int .i64 n from fun _ => rfl, show ∀ n, intV (Value.int .i64 n) = n from fun _ => rfl, show ∀ n, intV (Value.int .u64 n) = n from fun _ => rfl, reC_at okr, q1, hia, hib, hir, hz, hI, hU, hRI, hZN, irs okr, reC_flat, iC_flat, int_flat, hA.ra.flat, hA.rb.flat, hF, show (i : Int) < (A.n : Int) by omega, show ¬ (j : Int) < 0 by omega, show (0 : Int) ≤ (j : Int) by omega, show (j : Int) < ((restE A.now L).length : Int) by omega, show (restE A.now L).length ≤ 1000000 by omega, nx i (by omega), show (true == false) = false from rfl, show ∀ z : Int, eqI z z = true from fun z => eqI_iff.2 rfl, show ¬ (whenW z a b 0 ≤ A.now) from (by simp only at hgt; omega), show A.n ≤ A.m by omega, Bool.not_true, Alt_iff, Need_iff, ltI_eq, leI_eq, eqI_eq, leN_eq, eqN_eq, decide_eq_true_eq, decide_eq_false_iff_not, decide_true, decide_false, true_and, and_true, Bool.true_eq_false, Bool.false_eq_true, false_implies, true_implies, implies_true, not_true_eq_false, not_false_eq_true, Bool.not_eq_true', Bool.not_eq_false', Nat.zero_add, Nat.add_zero, Nat.sub_zero, Nat.zero_mul, Nat.mul_one, Int.toNat_natCast, List.drop_zero, beqV_int, beqV_sl, beqV_str, beqV_bool, beqV_ptr, beqV_flt, beqV_agg, beqV_tuple, List.all_cons, List.all_nil, Bool.and_self, Bool.and_true, Bool.true_and, Nat.le_refl, Int.le_refl, Nat.zero_le, Option.getD_some, isStr, strV, isInt, intV, isBool, boolV, kindEq, at0, isJunk, Option.isSome_some, Option.isSome_none, if_true, if_false, Nat.add_sub_cancel_left, Nat.add_sub_cancel]
      exact hb
end Go.Proofs.Ytmgnlkefhmhkhaa

namespace Go.Proofs.Ytmgnlkefhmhkhaa
open Go.RowKit Go.Proofs.Ytmgnlkefhmhkhaa.AM
set_option maxRecDepth 100000
set_option maxHeartbeats 4000000
theorem takeN_len {α : Type} {l : List α} {n c : Nat} (h : l.length = c) (hn : n ≤ c) : (l.take n).length = n := by rw [List.length_take]; omega
theorem ripe_rest (now : Int) : ∀ L : List Re, ripeE now (restE now L) = [] := by
  intro L
  induction L with
  | nil => rfl
  | cons x t ih =>
    unfold restE
    split
    · exact ih
    · rename_i h
      unfold ripeE
      rw [if_neg h]
theorem law1330z (hmix : Try.prog.follows .mixedOrders = true) (A : Ar) (a b : List Int) (hn : A.n = a.length) (hm : A.m = b.length) (ra : ISl A.ca 0 a) (rb : USl A.cb 0 b) (c1 : a.length ≤ A.c1) (c2 : b.length ≤ A.c2) :
    FunSays Try.prog 5 [.slice (some ⟨0,0,A.s1⟩) A.n A.c1, .slice (some ⟨1,0,A.s2⟩) A.m A.c2, .int .u64 A.now] (hp [.cells A.ca 1 false, .cells A.cb 1 false]) fun v _ => v = .bool true := by
  have hF : FlatD [] (hp [.cells A.ca 1 false, .cells A.cb 1 false]) := FlatD.hp ⟨ra.flat, rb.flat, trivial⟩
  have hL : Loops Try.prog body1330 2 (cutE [cutP A a b, cutD2 A a b (qL a b A.n), cutE2 A a b (qL a b A.n)]) := by
    refine Loops.moreE (Loops.moreE (Loops.moreE Loops.noneE (cutE2 A a b (qL a b A.n)) fun x K hq => ?_) (cutD2 A a b (qL a b A.n)) fun x K hq => ?_) (cutP A a b) fun x K hq => ?_
    · obtain ⟨⟨h1, h2⟩, h3⟩ := hq
      exact dueE_loop hmix A a b _ h1 K h3 _ _ (Nat.add_sub_of_le h2)
    · obtain ⟨⟨h1, h2⟩, h3⟩ := hq
      exact dueD_loop hmix A a b _ h1 K h3 _ _ (Nat.add_sub_of_le h2)
    · obtain ⟨⟨h1, h2⟩, h3⟩ := hq
      exact putD_loop hmix A a b h1 K h3 _ _ (Nat.add_sub_of_le h2)
  refine (sureD hmix).funX F1330 body1330 [] [] Try.func5 rfl (hL.gcX (at0 [2]) (fun p => if beqL p [0,1,0,1,1,1,1] then [.cell 7 0 2] else [])) ?_
  rw [w1330]
  refine Alt_iff.2 ⟨fun _ => ⟨trivial, trivial, hF, rfl, rfl⟩, fun h60 => Alt_iff.2 ⟨fun _ => ⟨trivial, trivial, hF, rfl, rfl⟩, fun hle => ?_⟩⟩
  have h60 : a.length ≤ 60 := by
    have : ¬ (60 : Int) < (A.n : Int) := fun h => by rw [ltI_iff.2 h] at h60; cases h60
    omega
  have hle : a.length ≤ b.length := by
    have : ¬ (A.m : Int) < (A.n : Int) := fun h => by rw [ltI_iff.2 h] at hle; cases hle
    omega
  have hA : ArIs A a b := ⟨hn, hm, ra, rb, hle, c1, c2, h60⟩
  have hQ := qL_is hle ra.ok rb.ok h60 A.n (by omega)
  have hD : DueIs A a b (qL a b A.n) := ⟨hA, hQ.q, by have := hQ.len; omega, hQ.ok, fun x => by rw [hQ.mem, hn, List.take_length]⟩
  have hl := hD.len
  have ok := hD.ok
  have hrl := ripeE_len A.now (qL a b A.n)
  have okr : ∀ x ∈ restE A.now (qL a b A.n), ReOk x := fun x hx => ok x (restE_mem hx)
  have hF5 := hp5_flat (n := (restE A.now (qL a b A.n)).length) (m := (restE A.now (qL a b A.n)).length) ra.flat rb.flat (reC_flat (restE A.now (qL a b A.n))) (iC_flat (ripeE A.now (qL a b A.n)))
  rw [reC_at ok, reC_at okr, ripe_rest]
  have e1 : wr .i64 (((qL a b A.n).length : Int) - ((ripeE A.now (qL a b A.n)).length : Int)) = ((restE A.now (qL a b A.n)).length : Int) := by rw [wr_i64 _ (by omega) (by omega)]; omega
  rw [e1]
  refine ⟨hp4_flat ra.flat rb.flat (reC_flat []), 0, rfl, rfl, ⟨hA, Nat.zero_le _⟩, ⟨rfl, reC_flat _, trivial⟩, rcs ok (by omega), hF5, 0, rfl, rfl, ⟨hD, Nat.zero_le _⟩, hF5, 0, rfl, rfl, ⟨hD, Nat.zero_le _⟩, ?_⟩
  simp only [show ∀ z : Int, eqI z z = true from fun z => eqI_iff.2 rfl, reC_flat, rcs okr (by omega), hF, List.length_nil, show (((0 : Nat)) : Int) = 0 from rfl, Alt_iff, Need_iff, ltI_eq, leI_eq, eqI_eq, leN_eq, eqN_eq, decide_eq_true_eq, decide_eq_false_iff_not, decide_true, decide_false, true_and, and_true, Bool.true_eq_false, Bool.false_eq_true, false_implies, true_implies, implies_true, not_true_eq_false, not_false_eq_true, Bool.not_eq_true', Bool.not_eq_false', Nat.zero_add, Nat.add_zero, Nat.sub_zero, Nat.zero_mul, Nat.mul_one, Int.toNat_natCast, List.drop_zero, beqV_int, beqV_sl, beqV_str, beqV_bool, beqV_ptr, beqV_flt, beqV_agg, beqV_tuple, List.all_cons, List.all_nil, Bool.and_self, Bool.and_true, Bool.true_and, Nat.le_refl, Int.le_refl, Nat.zero_le, Option.getD_some, isStr, strV, isInt, intV, isBool, boolV, kindEq, at0, isJunk, Option.isSome_some, Option.isSome_none, if_true, if_false, Nat.add_sub_cancel_left, Nat.add_sub_cancel]
  rfl
end Go.Proofs.Ytmgnlkefhmhkhaa
