/- Proved: what functions of the program come to, by their conditions over the abstract machine. Conditions: those that each theorem states. -/
import Derived.Test.YtmgnlkefhmhkhaaCh1
set_option linter.unusedVariables false
set_option linter.unusedSimpArgs false
namespace Go.Proofs.Ytmgnlkefhmhkhaa
open Go.RowKit Go.Proofs.Ytmgnlkefhmhkhaa.AM
set_option maxRecDepth 100000
set_option maxHeartbeats 4000000
noncomputable def body1329 : Code := (Try.f4.body).getD .skip
def F1329 : List Nat → Option (List Nat) := fun p => match p with
  | [1] => some [0, 1]
  | [1, 0, 1] => some [0, 1, 17]
  | [1, 0, 1, 0, 1] => some [4]
  | [1, 1] => some [0, 1]
  | [1, 1, 1] => some [0, 1, 5, 6]
  | [1, 0, 1, 1, 1] => some [0, 1, 5, 6, 23]
  | [1, 0, 1, 0, 1, 1, 1] => some [4]
  | [1, 1, 1, 1] => some [0, 1, 5, 6]
  | [1, 0, 1, 1, 1, 1] => some [0, 1, 5, 6, 7]
  | [1, 0, 0, 0, 1, 0, 1, 1, 1, 1] => some [0, 1, 5, 6, 7, 27]
  | [1, 1, 0, 0, 0, 1, 0, 1, 1, 1, 1] => some [1, 5, 6]
  | [1, 0, 0, 1, 0, 1, 1, 1, 1] => some [0, 1, 5, 6, 7]
  | [1, 0, 0, 0, 1, 0, 0, 1, 0, 1, 1, 1, 1] => some [0, 1, 5, 6, 7, 47]
  | [1, 0, 1, 0, 0, 0, 1, 0, 0, 1, 0, 1, 1, 1, 1] => some [4]
  | [1, 0, 0, 1, 0, 0, 1, 0, 1, 1, 1, 1] => some [1000000, 0, 1, 5, 6, 7]
  | [1, 1, 0, 0, 1, 0, 0, 1, 0, 1, 1, 1, 1] => some [0, 1, 5, 6, 7, 8, 9, 10]
  | [1, 1, 1, 0, 0, 1, 0, 0, 1, 0, 1, 1, 1, 1] => some [0, 1, 5, 6, 7, 98]
  | [1, 0, 1, 1, 1, 0, 0, 1, 0, 0, 1, 0, 1, 1, 1, 1] => some [4]
  | [1, 1, 0, 0, 1, 0, 1, 1, 1, 1] => some [0, 1, 5, 6, 7]
  | [1, 1, 1, 1, 1] => some [1, 5, 6]
  | [1, 1, 1, 1, 1, 1] => some [1, 6, 11, 12]
  | [1, 1, 1, 1, 1, 1, 1] => some [11, 12, 13, 14]
  | [1, 1, 1, 1, 1, 1, 1, 1] => some [4]
  | _ => none
noncomputable def T1329 (s1 : Option Nat) (len k1 : Nat) (id : Int) (i : Nat) : List Value := tmps 122 [(0, .slice (some ⟨0,0,s1⟩) len k1), (1, .int .i64 id), (5, p1 1), (6, p1 2), (7, .int .i64 i)]
noncomputable def H1329 (ca : List Value) (n : Nat) (cs : List Value) (o m : Nat) (ds : List Value) : Heap := hp [.cells ca 3 false, .cells [.slice (some ⟨3,0,some 1⟩) n n] 1 true, .cells [.slice (some ⟨4,o,some 1⟩) m m] 1 true, .cells cs 2 true, .cells ds 2 true]
/-- both queues hold the same -/
structure Both2 (k : Nat) (b : List Re × Nat × List Value) : Prop where
  q : IsQ b.1
  row : DRow b.2.2 b.2.1 b.1
  len : b.1.length ≤ k

theorem y1329 (ca : List Value) (s1 : Option Nat) (len k1 : Nat) (id : Int) (i n : Nat) (cs : List Value) (o m : Nat) (ds : List Value) (K : Post) :
  roundX Try.prog SM noLoop F1329 body1329 1 [1,2] [] [1,2] [] [0,1,5,6,7] [1,0,0,1,0,0,1,0,1,1,1,1] (T1329 s1 len k1 id i) (H1329 ca n cs o m ds) K = (
Alt (eqI (↑n : Int) 0)
  (Alt (!false == ltI 0 (↑m : Int)) (K AE.ret (tmps 122 [(4, Value.bool false)]) (hp [Blk.cells ca 3 false]))
    (K AE.normal
      (tmps 122
        [(0, Value.slice (some { block := 0, off := 0, spot := s1 : Addr }) len k1), (1, Value.int IntKind.i64 id),
          (5, Value.pointer (some { block := 1, off := 0 : Addr })),
          (6, Value.pointer (some { block := 2, off := 0 : Addr })), (7, Value.int IntKind.i64 (↑i : Int))])
      (hp
        [Blk.cells ca 3 false,
          Blk.cells [Value.slice (some { block := 3, off := 0, spot := some 1 : Addr }) n n] 1 true,
          Blk.cells [Value.slice (some { block := 4, off := o, spot := some 1 : Addr }) m m] 1 true,
          Blk.cells cs 2 true, Blk.cells ds 2 true])))
  (Need (ltI 0 (↑n : Int))
    (Need (isInt IntKind.i64 ((getO cs 1).getD undef))
      (Need (ltI 0 (↑n : Int))
        (Need (isInt IntKind.u64 ((getO cs 0).getD undef))
          (Alt (!true == ltI 0 (↑m : Int)) (K AE.ret (tmps 122 [(4, Value.bool false)]) (hp [Blk.cells ca 3 false]))
            (Need (ltI 0 (↑m : Int))
              (Need (isInt IntKind.i64 ((getO ds (o + 0 + 0)).getD undef))
                (Alt (!eqI (intV ((getO cs 1).getD undef)) (intV ((getO ds (o + 0 + 0)).getD undef)))
                  (K AE.ret (tmps 122 [(4, Value.bool false)]) (hp [Blk.cells ca 3 false]))
                  (Need (ltI 0 (↑m : Int))
                    (Need (isInt IntKind.u64 ((getO ds (o + 0 + 1)).getD undef))
                      (Alt (!eqI (intV ((getO cs 0).getD undef)) (intV ((getO ds (o + 0 + 1)).getD undef)))
                        (K AE.ret (tmps 122 [(4, Value.bool false)]) (hp [Blk.cells ca 3 false]))
                        (K AE.normal
                          (tmps 122
                            [(0, Value.slice (some { block := 0, off := 0, spot := s1 : Addr }) len k1),
                              (1, Value.int IntKind.i64 id), (5, Value.pointer (some { block := 1, off := 0 : Addr })),
                              (6, Value.pointer (some { block := 2, off := 0 : Addr })),
                              (7, Value.int IntKind.i64 (↑i : Int))])
                          (hp
                            [Blk.cells ca 3 false,
                              Blk.cells [Value.slice (some { block := 3, off := 0, spot := some 1 : Addr }) n n] 1 true,
                              Blk.cells [Value.slice (some { block := 4, off := o, spot := some 1 : Addr }) m m] 1 true,
                              Blk.cells cs 2 true, Blk.cells ds 2 true])))))))))))))) := by kernel_rfl

noncomputable def cut1329a (ca : List Value) (s1 : Option Nat) (len k1 : Nat) (id : Int) (i : Nat) : CutE where
  β := List Re × Nat × List Value
  p := [1,0,0,1,0,0,1,0,1,1,1,1]
  t := fun _ => T1329 s1 len k1 id i
  h := fun b => H1329 ca b.1.length (reC b.1) b.2.1 b.1.length b.2.2
  Q := fun b K => (Both2 (i + 1) b ∧ i < len) ∧ K .normal (T1329 s1 len k1 id i) (H1329 ca b.1.length (reC b.1) b.2.1 b.1.length b.2.2)

theorem r1329 (ca : List Value) (s1 : Option Nat) (len k1 : Nat) (id : Int) (i n : Nat) (cs : List Value) (o m : Nat) (ds : List Value) (K : Post) :
  roundX Try.prog SM (gcLKX (at0 [1,2]) (at0 []) 1 (cutE [cut1329a ca s1 len k1 id i])) F1329 body1329 1 [1,2] [] [1,2] [] [0,1,5,6,7] [0,0,1,0,1,1,1,1] (T1329 s1 len k1 id i) (H1329 ca n cs o m ds) K = (
Alt (ltI (↑i : Int) (↑len : Int)) (Need (ltI (↑i : Int) (↑len : Int)) (Need (isInt IntKind.u8 ((getO ca (0 + (↑i : Int).toNat * 3)).getD undef)) (Need (isInt IntKind.i64 ((getO ca (0 + (↑i : Int).toNat * 3 + 1)).getD
undef)) (Need (isInt IntKind.u64 ((getO ca (0 + (↑i : Int).toNat * 3 + 1 + 1)).getD undef)) (Alt (eqI ((intV (Value.int IntKind.u8 (intV ((getO ca (0 + (↑i : Int).toNat * 3)).getD undef)))).tmod 3) 0) ((nojL [Value.slice
(some { block := 1, off := 0, spot := some 1 : Addr }) n n] = true ∧ FlatL cs ∧ True) ∧ (IsRC cs n n ∧ IsUpE (resAt cs n) ∧ ReOk (intV (Value.int IntKind.u64 (intV ((getO ca (0 + (↑i : Int).toNat * 3 + 1 + 1)).getD
undef))), intV (Value.int IntKind.i64 (intV ((getO ca (0 + (↑i : Int).toNat * 3 + 1)).getD undef)))) ∧ Need (leN n 999999) True) ∧ (nojL [Value.slice (some { block := 1, off := o, spot := some 1 : Addr }) m m] = true ∧
FlatL ds ∧ True) ∧ (IsDC ds o m m ∧ ReOk (intV (Value.int IntKind.u64 (intV ((getO ca (0 + (↑i : Int).toNat * 3 + 1 + 1)).getD undef))), intV (Value.int IntKind.i64 (intV ((getO ca (0 + (↑i : Int).toNat * 3 + 1)).getD
undef)))) ∧ IsQ (desAt ds o m) ∧ Need (leN m 999999) True) ∧ Need (beqV 64 (Value.int IntKind.i64 (↑(putE (intV (Value.int IntKind.i64 (intV ((getO ca (0 + (↑i : Int).toNat * 3 + 1)).getD undef)))) (intV (Value.int
IntKind.u64 (intV ((getO ca (0 + (↑i : Int).toNat * 3 + 1 + 1)).getD undef)))) (desAt ds o m)).length : Int)) (Value.int IntKind.i64 (↑(putE (intV (Value.int IntKind.i64 (intV ((getO ca (0 + (↑i : Int).toNat * 3 +
1)).getD undef)))) (intV (Value.int IntKind.u64 (intV ((getO ca (0 + (↑i : Int).toNat * 3 + 1 + 1)).getD undef)))) (desAt ds o m)).length : Int))) (Need (beqV 64 (Value.slice (some
{ block := 7, off := 0, spot := some 1 : Addr }) (putE (intV (Value.int IntKind.i64 (intV ((getO ca (0 + (↑i : Int).toNat * 3 + 1)).getD undef)))) (intV (Value.int IntKind.u64 (intV ((getO ca (0 + (↑i : Int).toNat * 3 +
1 + 1)).getD undef)))) (desAt ds o m)).length (putE (intV (Value.int IntKind.i64 (intV ((getO ca (0 + (↑i : Int).toNat * 3 + 1)).getD undef)))) (intV (Value.int IntKind.u64 (intV ((getO ca (0 + (↑i : Int).toNat * 3 + 1 +
1)).getD undef)))) (desAt ds o m)).length) (Value.slice (some { block := 7, off := 0, spot := some 1 : Addr }) (putE (intV (Value.int IntKind.i64 (intV ((getO ca (0 + (↑i : Int).toNat * 3 + 1)).getD undef)))) (intV
(Value.int IntKind.u64 (intV ((getO ca (0 + (↑i : Int).toNat * 3 + 1 + 1)).getD undef)))) (desAt ds o m)).length (putE (intV (Value.int IntKind.i64 (intV ((getO ca (0 + (↑i : Int).toNat * 3 + 1)).getD undef)))) (intV
(Value.int IntKind.u64 (intV ((getO ca (0 + (↑i : Int).toNat * 3 + 1 + 1)).getD undef)))) (desAt ds o m)).length)) (Alt (!eqI (↑(putE (intV (Value.int IntKind.i64 (intV ((getO ca (0 + (↑i : Int).toNat * 3 + 1)).getD
undef)))) (intV (Value.int IntKind.u64 (intV ((getO ca (0 + (↑i : Int).toNat * 3 + 1 + 1)).getD undef)))) (resAt cs n)).length : Int) (↑(putE (intV (Value.int IntKind.i64 (intV ((getO ca (0 + (↑i : Int).toNat * 3 +
1)).getD undef)))) (intV (Value.int IntKind.u64 (intV ((getO ca (0 + (↑i : Int).toNat * 3 + 1 + 1)).getD undef)))) (desAt ds o m)).length : Int)) (K AE.ret (tmps 122 [(4, Value.bool false)]) (hp [Blk.cells ca 3 false]))
(FlatD [1, 2] (hp [Blk.cells ca 3 false, Blk.cells [Value.slice (some { block := 3, off := 0, spot := some 1 : Addr }) (putE (intV (Value.int IntKind.i64 (intV ((getO ca (0 + (↑i : Int).toNat * 3 + 1)).getD undef))))
(intV (Value.int IntKind.u64 (intV ((getO ca (0 + (↑i : Int).toNat * 3 + 1 + 1)).getD undef)))) (resAt cs n)).length (putE (intV (Value.int IntKind.i64 (intV ((getO ca (0 + (↑i : Int).toNat * 3 + 1)).getD undef)))) (intV
(Value.int IntKind.u64 (intV ((getO ca (0 + (↑i : Int).toNat * 3 + 1 + 1)).getD undef)))) (resAt cs n)).length] 1 true, Blk.cells [Value.slice (some { block := 4, off := 0, spot := some 1 : Addr }) (putE (intV (Value.int
IntKind.i64 (intV ((getO ca (0 + (↑i : Int).toNat * 3 + 1)).getD undef)))) (intV (Value.int IntKind.u64 (intV ((getO ca (0 + (↑i : Int).toNat * 3 + 1 + 1)).getD undef)))) (desAt ds o m)).length (putE (intV (Value.int
IntKind.i64 (intV ((getO ca (0 + (↑i : Int).toNat * 3 + 1)).getD undef)))) (intV (Value.int IntKind.u64 (intV ((getO ca (0 + (↑i : Int).toNat * 3 + 1 + 1)).getD undef)))) (desAt ds o m)).length] 1 true, Blk.cells (reC
(putE (intV (Value.int IntKind.i64 (intV ((getO ca (0 + (↑i : Int).toNat * 3 + 1)).getD undef)))) (intV (Value.int IntKind.u64 (intV ((getO ca (0 + (↑i : Int).toNat * 3 + 1 + 1)).getD undef)))) (resAt cs n))) 2 true,
Blk.cells (deC (putE (intV (Value.int IntKind.i64 (intV ((getO ca (0 + (↑i : Int).toNat * 3 + 1)).getD undef)))) (intV (Value.int IntKind.u64 (intV ((getO ca (0 + (↑i : Int).toNat * 3 + 1 + 1)).getD undef)))) (desAt ds o
m))) 2 true]) ∧ ∃ (b : List Re × Nat × List Value), tmps 122 [(0, Value.slice (some { block := 0, off := 0, spot := s1 : Addr }) len k1), (1, Value.int IntKind.i64 id), (5, Value.pointer (some
{ block := 1, off := 0 : Addr })), (6, Value.pointer (some { block := 2, off := 0 : Addr })), (7, Value.int IntKind.i64 (↑i : Int))] = tmps 122 [(0, Value.slice (some { block := 0, off := 0, spot := s1 : Addr }) len k1),
(1, Value.int IntKind.i64 id), (5, Value.pointer (some { block := 1, off := 0 : Addr })), (6, Value.pointer (some { block := 2, off := 0 : Addr })), (7, Value.int IntKind.i64 (↑i : Int))] ∧ hp [Blk.cells ca 3 false,
Blk.cells [Value.slice (some { block := 3, off := 0, spot := some 1 : Addr }) (putE (intV (Value.int IntKind.i64 (intV ((getO ca (0 + (↑i : Int).toNat * 3 + 1)).getD undef)))) (intV (Value.int IntKind.u64 (intV ((getO ca
(0 + (↑i : Int).toNat * 3 + 1 + 1)).getD undef)))) (resAt cs n)).length (putE (intV (Value.int IntKind.i64 (intV ((getO ca (0 + (↑i : Int).toNat * 3 + 1)).getD undef)))) (intV (Value.int IntKind.u64 (intV ((getO ca (0 +
(↑i : Int).toNat * 3 + 1 + 1)).getD undef)))) (resAt cs n)).length] 1 true, Blk.cells [Value.slice (some { block := 4, off := 0, spot := some 1 : Addr }) (putE (intV (Value.int IntKind.i64 (intV ((getO ca (0 + (↑i :
Int).toNat * 3 + 1)).getD undef)))) (intV (Value.int IntKind.u64 (intV ((getO ca (0 + (↑i : Int).toNat * 3 + 1 + 1)).getD undef)))) (desAt ds o m)).length (putE (intV (Value.int IntKind.i64 (intV ((getO ca (0 + (↑i :
Int).toNat * 3 + 1)).getD undef)))) (intV (Value.int IntKind.u64 (intV ((getO ca (0 + (↑i : Int).toNat * 3 + 1 + 1)).getD undef)))) (desAt ds o m)).length] 1 true, Blk.cells (reC (putE (intV (Value.int IntKind.i64 (intV
((getO ca (0 + (↑i : Int).toNat * 3 + 1)).getD undef)))) (intV (Value.int IntKind.u64 (intV ((getO ca (0 + (↑i : Int).toNat * 3 + 1 + 1)).getD undef)))) (resAt cs n))) 2 true, Blk.cells (deC (putE (intV (Value.int
IntKind.i64 (intV ((getO ca (0 + (↑i : Int).toNat * 3 + 1)).getD undef)))) (intV (Value.int IntKind.u64 (intV ((getO ca (0 + (↑i : Int).toNat * 3 + 1 + 1)).getD undef)))) (desAt ds o m))) 2 true] = hp [Blk.cells ca 3
false, Blk.cells [Value.slice (some { block := 3, off := 0, spot := some 1 : Addr }) b.fst.length b.fst.length] 1 true, Blk.cells [Value.slice (some { block := 4, off := b.snd.fst, spot := some 1 : Addr }) b.fst.length
b.fst.length] 1 true, Blk.cells (reC b.fst) 2 true, Blk.cells b.snd.snd 2 true] ∧ (Both2 (i + 1) b ∧ i.succ.le len) ∧ K AE.normal (tmps 122 [(0, Value.slice (some { block := 0, off := 0, spot := s1 : Addr }) len k1), (1,
Value.int IntKind.i64 id), (5, Value.pointer (some { block := 1, off := 0 : Addr })), (6, Value.pointer (some { block := 2, off := 0 : Addr })), (7, Value.int IntKind.i64 (wr IntKind.i64 ((↑i : Int) + 1)))]) (hp
[Blk.cells ca 3 false, Blk.cells [Value.slice (some { block := 3, off := 0, spot := some 1 : Addr }) b.fst.length b.fst.length] 1 true, Blk.cells [Value.slice (some
{ block := 4, off := b.snd.fst, spot := some 1 : Addr }) b.fst.length b.fst.length] 1 true, Blk.cells (reC b.fst) 2 true, Blk.cells b.snd.snd 2 true]))))) (Alt (eqI ((intV (Value.int IntKind.u8 (intV ((getO ca (0 + (↑i :
Int).toNat * 3)).getD undef)))).tmod 3) 1) ((nojL [Value.slice (some { block := 1, off := 0, spot := some 1 : Addr }) n n] = true ∧ FlatL cs ∧ True) ∧ IsRC cs n n ∧ (nojL [Value.slice (some
{ block := 1, off := o, spot := some 1 : Addr }) m m] = true ∧ FlatL ds ∧ True) ∧ IsDC ds o m m ∧ Need (beqV 64 (Value.int IntKind.i64 (intV (Value.int IntKind.i64 (intV ((getO ca (0 + (↑i : Int).toNat * 3 + 1)).getD
undef))))) (Value.int IntKind.i64 (intV (Value.int IntKind.i64 (intV ((getO ca (0 + (↑i : Int).toNat * 3 + 1)).getD undef)))))) (Alt (!hasE (intV (Value.int IntKind.i64 (intV ((getO ca (0 + (↑i : Int).toNat * 3 +
1)).getD undef)))) (resAt cs n) == hasE (intV (Value.int IntKind.i64 (intV ((getO ca (0 + (↑i : Int).toNat * 3 + 1)).getD undef)))) (desAt ds o m)) (K AE.ret (tmps 122 [(4, Value.bool false)]) (hp [Blk.cells ca 3
false])) (Need (beqV 64 (Value.int IntKind.i64 (↑(dropE (intV (Value.int IntKind.i64 (intV ((getO ca (0 + (↑i : Int).toNat * 3 + 1)).getD undef)))) (desAt ds o m)).length : Int)) (Value.int IntKind.i64 (↑(dropE (intV
(Value.int IntKind.i64 (intV ((getO ca (0 + (↑i : Int).toNat * 3 + 1)).getD undef)))) (desAt ds o m)).length : Int))) (Need (beqV 64 (Value.slice (some
{ block := 6, off := dOff (intV (Value.int IntKind.i64 (intV ((getO ca (0 + (↑i : Int).toNat * 3 + 1)).getD undef)))) o (desAt ds o m), spot := some 1 : Addr }) (dropE (intV (Value.int IntKind.i64 (intV ((getO ca (0 +
(↑i : Int).toNat * 3 + 1)).getD undef)))) (desAt ds o m)).length (dropE (intV (Value.int IntKind.i64 (intV ((getO ca (0 + (↑i : Int).toNat * 3 + 1)).getD undef)))) (desAt ds o m)).length) (Value.slice (some
{ block := 6, off := dOff (intV (Value.int IntKind.i64 (intV ((getO ca (0 + (↑i : Int).toNat * 3 + 1)).getD undef)))) o (desAt ds o m), spot := some 1 : Addr }) (dropE (intV (Value.int IntKind.i64 (intV ((getO ca (0 +
(↑i : Int).toNat * 3 + 1)).getD undef)))) (desAt ds o m)).length (dropE (intV (Value.int IntKind.i64 (intV ((getO ca (0 + (↑i : Int).toNat * 3 + 1)).getD undef)))) (desAt ds o m)).length)) (Alt (!eqI (↑(dropE (intV
(Value.int IntKind.i64 (intV ((getO ca (0 + (↑i : Int).toNat * 3 + 1)).getD undef)))) (resAt cs n)).length : Int) (↑(dropE (intV (Value.int IntKind.i64 (intV ((getO ca (0 + (↑i : Int).toNat * 3 + 1)).getD undef))))
(desAt ds o m)).length : Int)) (K AE.ret (tmps 122 [(4, Value.bool false)]) (hp [Blk.cells ca 3 false])) (FlatD [1, 2] (hp [Blk.cells ca 3 false, Blk.cells [Value.slice (some
{ block := 3, off := 0, spot := some 1 : Addr }) (dropE (intV (Value.int IntKind.i64 (intV ((getO ca (0 + (↑i : Int).toNat * 3 + 1)).getD undef)))) (resAt cs n)).length (dropE (intV (Value.int IntKind.i64 (intV ((getO ca
(0 + (↑i : Int).toNat * 3 + 1)).getD undef)))) (resAt cs n)).length] 1 true, Blk.cells [Value.slice (some
{ block := 4, off := dOff (intV (Value.int IntKind.i64 (intV ((getO ca (0 + (↑i : Int).toNat * 3 + 1)).getD undef)))) o (desAt ds o m), spot := some 1 : Addr }) (dropE (intV (Value.int IntKind.i64 (intV ((getO ca (0 +
(↑i : Int).toNat * 3 + 1)).getD undef)))) (desAt ds o m)).length (dropE (intV (Value.int IntKind.i64 (intV ((getO ca (0 + (↑i : Int).toNat * 3 + 1)).getD undef)))) (desAt ds o m)).length] 1 true, Blk.cells (reC (dropE
(intV (Value.int IntKind.i64 (intV ((getO ca (0 + (↑i : Int).toNat * 3 + 1)).getD undef)))) (resAt cs n))) 2 true, Blk.cells (dCs (intV (Value.int IntKind.i64 (intV ((getO ca (0 + (↑i : Int).toNat * 3 + 1)).getD
undef)))) ds (desAt ds o m)) 2 true]) ∧ ∃ (b : List Re × Nat × List Value), tmps 122 [(0, Value.slice (some { block := 0, off := 0, spot := s1 : Addr }) len k1), (1, Value.int IntKind.i64 id), (5, Value.pointer (some
{ block := 1, off := 0 : Addr })), (6, Value.pointer (some { block := 2, off := 0 : Addr })), (7, Value.int IntKind.i64 (↑i : Int))] = tmps 122 [(0, Value.slice (some { block := 0, off := 0, spot := s1 : Addr }) len k1),
(1, Value.int IntKind.i64 id), (5, Value.pointer (some { block := 1, off := 0 : Addr })), (6, Value.pointer (some { block := 2, off := 0 : Addr })), (7, Value.int IntKind.i64 (↑i : Int))] ∧ hp [Blk.cells ca 3 false,
Blk.cells [Value.slice (some { block := 3, off := 0, spot := some 1 : Addr }) (dropE (intV (Value.int IntKind.i64 (intV ((getO ca (0 + (↑i : Int).toNat * 3 + 1)).getD undef)))) (resAt cs n)).length (dropE (intV
(Value.int IntKind.i64 (intV ((getO ca (0 + (↑i : Int).toNat * 3 + 1)).getD undef)))) (resAt cs n)).length] 1 true, Blk.cells [Value.slice (some
{ block := 4, off := dOff (intV (Value.int IntKind.i64 (intV ((getO ca (0 + (↑i : Int).toNat * 3 + 1)).getD undef)))) o (desAt ds o m), spot := some 1 : Addr }) (dropE (intV (Value.int IntKind.i64 (intV ((getO ca (0 +
(↑i : Int).toNat * 3 + 1)).getD undef)))) (desAt ds o m)).length (dropE (intV (Value.int IntKind.i64 (intV ((getO ca (0 + (↑i : Int).toNat * 3 + 1)).getD undef)))) (desAt ds o m)).length] 1 true, Blk.cells (reC (dropE
(intV (Value.int IntKind.i64 (intV ((getO ca (0 + (↑i : Int).toNat * 3 + 1)).getD undef)))) (resAt cs n))) 2 true, Blk.cells (dCs (intV (Value.int IntKind.i64 (intV ((getO ca (0 + (↑i : Int).toNat * 3 + 1)).getD
undef)))) ds (desAt ds o m)) 2 true] = hp [Blk.cells ca 3 false, Blk.cells [Value.slice (some { block := 3, off := 0, spot := some 1 : Addr }) b.fst.length b.fst.length] 1 true, Blk.cells [Value.slice (some
{ block := 4, off := b.snd.fst, spot := some 1 : Addr }) b.fst.length b.fst.length] 1 true, Blk.cells (reC b.fst) 2 true, Blk.cells b.snd.snd 2 true] ∧ (Both2 (i + 1) b ∧ i.succ.le len) ∧ K AE.normal (tmps 122 [(0,
Value.slice (some { block := 0, off := 0, spot := s1 : Addr }) len k1), (1, Value.int IntKind.i64 id), (5, Value.pointer (some { block := 1, off := 0 : Addr })), (6, Value.pointer (some { block := 2, off := 0 : Addr })),
(7, Value.int IntKind.i64 (wr IntKind.i64 ((↑i : Int) + 1)))]) (hp [Blk.cells ca 3 false, Blk.cells [Value.slice (some { block := 3, off := 0, spot := some 1 : Addr }) b.fst.length b.fst.length] 1 true, Blk.cells
[Value.slice (some { block := 4, off := b.snd.fst, spot := some 1 : Addr }) b.fst.length b.fst.length] 1 true, Blk.cells (reC b.fst) 2 true, Blk.cells b.snd.snd 2 true]))))))) ((nojL [Value.slice (some
{ block := 1, off := 0, spot := some 1 : Addr }) n n] = true ∧ FlatL cs ∧ True) ∧ IsRC cs n n ∧ (nojL [Value.slice (some { block := 1, off := o, spot := some 1 : Addr }) m m] = true ∧ FlatL ds ∧ True) ∧ IsDC ds o m m ∧
(FlatL (iC (ripeE (intV (Value.int IntKind.u64 (intV ((getO ca (0 + (↑i : Int).toNat * 3 + 1 + 1)).getD undef)))) (resAt cs n))) ∧ FlatL (iC (ripeE (intV (Value.int IntKind.u64 (intV ((getO ca (0 + (↑i : Int).toNat * 3 +
1 + 1)).getD undef)))) (desAt ds o m))) ∧ True) ∧ (IsE (iE IntKind.i64) (ZP IntKind.i64) (iC (ripeE (intV (Value.int IntKind.u64 (intV ((getO ca (0 + (↑i : Int).toNat * 3 + 1 + 1)).getD undef)))) (resAt cs n))) 0 (ripeE
(intV (Value.int IntKind.u64 (intV ((getO ca (0 + (↑i : Int).toNat * 3 + 1 + 1)).getD undef)))) (resAt cs n)).length (ripeE (intV (Value.int IntKind.u64 (intV ((getO ca (0 + (↑i : Int).toNat * 3 + 1 + 1)).getD undef))))
(resAt cs n)).length ∧ IsE (iE IntKind.i64) (ZP IntKind.i64) (iC (ripeE (intV (Value.int IntKind.u64 (intV ((getO ca (0 + (↑i : Int).toNat * 3 + 1 + 1)).getD undef)))) (desAt ds o m))) 0 (ripeE (intV (Value.int
IntKind.u64 (intV ((getO ca (0 + (↑i : Int).toNat * 3 + 1 + 1)).getD undef)))) (desAt ds o m)).length (ripeE (intV (Value.int IntKind.u64 (intV ((getO ca (0 + (↑i : Int).toNat * 3 + 1 + 1)).getD undef)))) (desAt ds o
m)).length) ∧ Need (beqV 64 (Value.int IntKind.u64 (intV (Value.int IntKind.u64 (intV ((getO ca (0 + (↑i : Int).toNat * 3 + 1 + 1)).getD undef))))) (Value.int IntKind.u64 (intV (Value.int IntKind.u64 (intV ((getO ca (0 +
(↑i : Int).toNat * 3 + 1 + 1)).getD undef)))))) (Alt (!sameI (intsAt (iC (ripeE (intV (Value.int IntKind.u64 (intV ((getO ca (0 + (↑i : Int).toNat * 3 + 1 + 1)).getD undef)))) (resAt cs n))) 0 (ripeE (intV (Value.int
IntKind.u64 (intV ((getO ca (0 + (↑i : Int).toNat * 3 + 1 + 1)).getD undef)))) (resAt cs n)).length) (intsAt (iC (ripeE (intV (Value.int IntKind.u64 (intV ((getO ca (0 + (↑i : Int).toNat * 3 + 1 + 1)).getD undef))))
(desAt ds o m))) 0 (ripeE (intV (Value.int IntKind.u64 (intV ((getO ca (0 + (↑i : Int).toNat * 3 + 1 + 1)).getD undef)))) (desAt ds o m)).length)) (K AE.ret (tmps 122 [(4, Value.bool false)]) (hp [Blk.cells ca 3 false]))
(Need (beqV 64 (Value.int IntKind.i64 (↑(restE (intV (Value.int IntKind.u64 (intV ((getO ca (0 + (↑i : Int).toNat * 3 + 1 + 1)).getD undef)))) (desAt ds o m)).length : Int)) (Value.int IntKind.i64 (↑(restE (intV
(Value.int IntKind.u64 (intV ((getO ca (0 + (↑i : Int).toNat * 3 + 1 + 1)).getD undef)))) (desAt ds o m)).length : Int))) (Need (beqV 64 (Value.slice (some
{ block := 4, off := o + (ripeE (intV (Value.int IntKind.u64 (intV ((getO ca (0 + (↑i : Int).toNat * 3 + 1 + 1)).getD undef)))) (desAt ds o m)).length * 2, spot := some 1 : Addr }) (restE (intV (Value.int IntKind.u64
(intV ((getO ca (0 + (↑i : Int).toNat * 3 + 1 + 1)).getD undef)))) (desAt ds o m)).length (restE (intV (Value.int IntKind.u64 (intV ((getO ca (0 + (↑i : Int).toNat * 3 + 1 + 1)).getD undef)))) (desAt ds o m)).length)
(Value.slice (some { block := 4, off := o + (ripeE (intV (Value.int IntKind.u64 (intV ((getO ca (0 + (↑i : Int).toNat * 3 + 1 + 1)).getD undef)))) (desAt ds o m)).length * 2, spot := some 1 : Addr }) (restE (intV
(Value.int IntKind.u64 (intV ((getO ca (0 + (↑i : Int).toNat * 3 + 1 + 1)).getD undef)))) (desAt ds o m)).length (restE (intV (Value.int IntKind.u64 (intV ((getO ca (0 + (↑i : Int).toNat * 3 + 1 + 1)).getD undef))))
(desAt ds o m)).length)) (Alt (!eqI (↑(restE (intV (Value.int IntKind.u64 (intV ((getO ca (0 + (↑i : Int).toNat * 3 + 1 + 1)).getD undef)))) (resAt cs n)).length : Int) (↑(restE (intV (Value.int IntKind.u64 (intV ((getO
ca (0 + (↑i : Int).toNat * 3 + 1 + 1)).getD undef)))) (desAt ds o m)).length : Int)) (K AE.ret (tmps 122 [(4, Value.bool false)]) (hp [Blk.cells ca 3 false])) (FlatD [1, 2] (hp [Blk.cells ca 3 false, Blk.cells
[Value.slice (some { block := 3, off := 0, spot := some 1 : Addr }) (restE (intV (Value.int IntKind.u64 (intV ((getO ca (0 + (↑i : Int).toNat * 3 + 1 + 1)).getD undef)))) (resAt cs n)).length (restE (intV (Value.int
IntKind.u64 (intV ((getO ca (0 + (↑i : Int).toNat * 3 + 1 + 1)).getD undef)))) (resAt cs n)).length] 1 true, Blk.cells [Value.slice (some
{ block := 4, off := o + (ripeE (intV (Value.int IntKind.u64 (intV ((getO ca (0 + (↑i : Int).toNat * 3 + 1 + 1)).getD undef)))) (desAt ds o m)).length * 2, spot := some 1 : Addr }) (restE (intV (Value.int IntKind.u64
(intV ((getO ca (0 + (↑i : Int).toNat * 3 + 1 + 1)).getD undef)))) (desAt ds o m)).length (restE (intV (Value.int IntKind.u64 (intV ((getO ca (0 + (↑i : Int).toNat * 3 + 1 + 1)).getD undef)))) (desAt ds o m)).length] 1
true, Blk.cells (reC (restE (intV (Value.int IntKind.u64 (intV ((getO ca (0 + (↑i : Int).toNat * 3 + 1 + 1)).getD undef)))) (resAt cs n))) 2 true, Blk.cells ds 2 true]) ∧ ∃ (b : List Re × Nat × List Value), tmps 122 [(0,
Value.slice (some { block := 0, off := 0, spot := s1 : Addr }) len k1), (1, Value.int IntKind.i64 id), (5, Value.pointer (some { block := 1, off := 0 : Addr })), (6, Value.pointer (some { block := 2, off := 0 : Addr })),
(7, Value.int IntKind.i64 (↑i : Int))] = tmps 122 [(0, Value.slice (some { block := 0, off := 0, spot := s1 : Addr }) len k1), (1, Value.int IntKind.i64 id), (5, Value.pointer (some { block := 1, off := 0 : Addr })), (6,
Value.pointer (some { block := 2, off := 0 : Addr })), (7, Value.int IntKind.i64 (↑i : Int))] ∧ hp [Blk.cells ca 3 false, Blk.cells [Value.slice (some { block := 3, off := 0, spot := some 1 : Addr }) (restE (intV
(Value.int IntKind.u64 (intV ((getO ca (0 + (↑i : Int).toNat * 3 + 1 + 1)).getD undef)))) (resAt cs n)).length (restE (intV (Value.int IntKind.u64 (intV ((getO ca (0 + (↑i : Int).toNat * 3 + 1 + 1)).getD undef)))) (resAt
cs n)).length] 1 true, Blk.cells [Value.slice (some
{ block := 4, off := o + (ripeE (intV (Value.int IntKind.u64 (intV ((getO ca (0 + (↑i : Int).toNat * 3 + 1 + 1)).getD undef)))) (desAt ds o m)).length * 2, spot := some 1 : Addr }) (restE (intV (Value.int IntKind.u64
(intV ((getO ca (0 + (↑i : Int).toNat * 3 + 1 + 1)).getD undef)))) (desAt ds o m)).length (restE (intV (Value.int IntKind.u64 (intV ((getO ca (0 + (↑i : Int).toNat * 3 + 1 + 1)).getD undef)))) (desAt ds o m)).length] 1
true, Blk.cells (reC (restE (intV (Value.int IntKind.u64 (intV ((getO ca (0 + (↑i : Int).toNat * 3 + 1 + 1)).getD undef)))) (resAt cs n))) 2 true, Blk.cells ds 2 true] = hp [Blk.cells ca 3 false, Blk.cells [Value.slice
(some { block := 3, off := 0, spot := some 1 : Addr }) b.fst.length b.fst.length] 1 true, Blk.cells [Value.slice (some { block := 4, off := b.snd.fst, spot := some 1 : Addr }) b.fst.length b.fst.length] 1 true, Blk.cells
(reC b.fst) 2 true, Blk.cells b.snd.snd 2 true] ∧ (Both2 (i + 1) b ∧ i.succ.le len) ∧ K AE.normal (tmps 122 [(0, Value.slice (some { block := 0, off := 0, spot := s1 : Addr }) len k1), (1, Value.int IntKind.i64 id), (5,
Value.pointer (some { block := 1, off := 0 : Addr })), (6, Value.pointer (some { block := 2, off := 0 : Addr })), (7, Value.int IntKind.i64 (wr IntKind.i64 ((↑i : Int) + 1)))]) (hp [Blk.cells ca 3 false, Blk.cells
[Value.slice (some { block := 3, off := 0, spot := some 1 : Addr }) b.fst.length b.fst.length] 1 true, Blk.cells [Value.slice (some { block := 4, off := b.snd.fst, spot := some 1 : Addr }) b.fst.length b.fst.length] 1
true, Blk.cells (reC b.fst) 2 true, Blk.cells b.snd.snd 2 true]))))))))))))) (K (AE.exit 0) (tmps 122 [(1, Value.int IntKind.i64 id), (5, Value.pointer (some { block := 1, off := 0 : Addr })), (6, Value.pointer (some
{ block := 2, off := 0 : Addr }))]) (hp [Blk.cells ca 3 false, Blk.cells [Value.slice (some { block := 3, off := 0, spot := some 1 : Addr }) n n] 1 true, Blk.cells [Value.slice (some
{ block := 4, off := o, spot := some 1 : Addr }) m m] 1 true, Blk.cells cs 2 true, Blk.cells ds 2 true]))) := by kernel_rfl

noncomputable def cut1329L (ca : List Value) (s1 : Option Nat) (len k1 : Nat) (id : Int) : CutE where
  β := (List Re × Nat × List Value) × Nat
  p := [0,1,0,1,1,1,1]
  t := fun x => T1329 s1 len k1 id x.2
  h := fun x => H1329 ca x.1.1.length (reC x.1.1) x.1.2.1 x.1.1.length x.1.2.2
  Q := fun x K => (Both2 x.2 x.1 ∧ x.2 ≤ len ∧ len ≤ 100) ∧ ∀ b, Both2 len b → K (.exit 0) (tmps 122 [(1, .int .i64 id), (5, p1 1), (6, p1 2)]) (H1329 ca b.1.length (reC b.1) b.2.1 b.1.length b.2.2)

theorem w1329 (ca : List Value) (s1 : Option Nat) (len k1 : Nat) (id : Int) (K : Value → Heap → Prop) :
  funX Try.prog SM (gcLKX (at0 [1,2]) (at0 [.cell 5 0 2, .cell 6 0 2]) 1 (cutE [cut1329L ca s1 len k1 id])) F1329 body1329 Try.f4 [] [] [.slice (some ⟨0,0,s1⟩) len k1, .int .i64 id] (hp [.cells ca 3 false]) K = (
Alt (ltI 100 (↑len : Int)) (True ∧ True ∧ K (Value.bool true) (hp [Blk.cells ca 3 false]))
  (FlatD [1, 2]
      (hp
        [Blk.cells ca 3 false,
          Blk.cells [Value.slice (some { block := 3, off := 0, spot := some 1 : Addr }) 0 0] 1 true,
          Blk.cells [Value.slice (some { block := 4, off := 0, spot := some 1 : Addr }) 0 0] 1 true,
          Blk.cells [] 2 true, Blk.cells [] 2 true]) ∧
    ∃ (b : (List Re × Nat × List Value) × Nat),
      tmps 122
            [(0, Value.slice (some { block := 0, off := 0, spot := s1 : Addr }) len k1), (1, Value.int IntKind.i64 id),
              (5, Value.pointer (some { block := 1, off := 0 : Addr })),
              (6, Value.pointer (some { block := 2, off := 0 : Addr })), (7, Value.int IntKind.i64 0)] =
          tmps 122
            [(0, Value.slice (some { block := 0, off := 0, spot := s1 : Addr }) len k1), (1, Value.int IntKind.i64 id),
              (5, Value.pointer (some { block := 1, off := 0 : Addr })),
              (6, Value.pointer (some { block := 2, off := 0 : Addr })), (7, Value.int IntKind.i64 (↑b.snd : Int))] ∧
        hp
              [Blk.cells ca 3 false,
                Blk.cells [Value.slice (some { block := 3, off := 0, spot := some 1 : Addr }) 0 0] 1 true,
                Blk.cells [Value.slice (some { block := 4, off := 0, spot := some 1 : Addr }) 0 0] 1 true,
                Blk.cells [] 2 true, Blk.cells [] 2 true] =
            hp
              [Blk.cells ca 3 false,
                Blk.cells
                  [Value.slice (some { block := 3, off := 0, spot := some 1 : Addr }) b.fst.fst.length b.fst.fst.length]
                  1 true,
                Blk.cells
                  [Value.slice (some { block := 4, off := b.fst.snd.fst, spot := some 1 : Addr }) b.fst.fst.length
                      b.fst.fst.length]
                  1 true,
                Blk.cells (reC b.fst.fst) 2 true, Blk.cells b.fst.snd.snd 2 true] ∧
          (Both2 b.snd b.fst ∧ b.snd.le len ∧ len.le 100) ∧
            ∀ (b : List Re × Nat × List Value),
              Both2 len b →
                (FlatL (reC b.fst) ∧ FlatL [Value.int IntKind.i64 id] ∧ True) ∧
                  (True ∧
                      IsP reF reG ReOk (reC b.fst) b.fst.length b.fst.length ∧ Need (leN b.fst.length 1000000) True) ∧
                    Alt (ltI (idxE id 0 (resAt (reC b.fst) b.fst.length)) 0)
                      ((nojL
                              [Value.slice (some { block := 1, off := b.snd.fst, spot := some 1 : Addr }) b.fst.length
                                  b.fst.length] =
                            true ∧
                          FlatL b.snd.snd ∧ True) ∧
                        IsDC b.snd.snd b.snd.fst b.fst.length b.fst.length ∧
                          Alt (eqI 0 (whenE id (desAt b.snd.snd b.snd.fst b.fst.length)))
                            (Alt (false == hasE id (desAt b.snd.snd b.snd.fst b.fst.length))
                              (True ∧ True ∧ K (Value.bool true) (hp [Blk.cells ca 3 false]))
                              (K (Value.bool false) (hp [Blk.cells ca 3 false])))
                            (K (Value.bool false) (hp [Blk.cells ca 3 false])))
                      (Need (leI 0 (idxE id 0 (resAt (reC b.fst) b.fst.length)))
                        (Need (ltI (idxE id 0 (resAt (reC b.fst) b.fst.length)) (↑b.fst.length : Int))
                          (Need
                            (isInt IntKind.u64
                              ((getO (reC b.fst) (0 + (idxE id 0 (resAt (reC b.fst) b.fst.length)).toNat * 2 + 0)).getD
                                undef))
                            ((nojL
                                    [Value.slice (some { block := 1, off := b.snd.fst, spot := some 1 : Addr })
                                        b.fst.length b.fst.length] =
                                  true ∧
                                FlatL b.snd.snd ∧ True) ∧
                              IsDC b.snd.snd b.snd.fst b.fst.length b.fst.length ∧
                                Alt
                                  (eqI
                                    (intV
                                      ((getO (reC b.fst)
                                            (0 + (idxE id 0 (resAt (reC b.fst) b.fst.length)).toNat * 2 + 0)).getD
                                        undef))
                                    (whenE id (desAt b.snd.snd b.snd.fst b.fst.length)))
                                  (Alt (true == hasE id (desAt b.snd.snd b.snd.fst b.fst.length))
                                    (True ∧ True ∧ K (Value.bool true) (hp [Blk.cells ca 3 false]))
                                    (K (Value.bool false) (hp [Blk.cells ca 3 false])))
                                  (K (Value.bool false) (hp [Blk.cells ca 3 false])))))))) := by kernel_rfl

end Go.Proofs.Ytmgnlkefhmhkhaa

namespace Go.Proofs.Ytmgnlkefhmhkhaa
open Go.RowKit Go.Proofs.Ytmgnlkefhmhkhaa.AM
set_option maxRecDepth 100000
set_option maxHeartbeats 4000000
def Steps3 (ca : List Value) (len : Nat) : Prop := ∀ i, i < len → ∃ g id d : Int, getO ca (i * 3) = some (.int .u8 g) ∧ getO ca (i * 3 + 1) = some (.int .i64 id) ∧ getO ca (i * 3 + 1 + 1) = some (.int .u64 d) ∧ ReOk (d, id)
theorem h5_flat {ca cs ds : List Value} {n m o n2 m2 : Nat} (h : FlatL ca) (h2 : FlatL cs) (h3 : FlatL ds) : FlatD [1, 2] (hp [.cells ca 3 false, .cells [.slice (some ⟨3,0,some 1⟩) n n2] 1 true, .cells [.slice (some ⟨4,o,some 1⟩) m m2] 1 true, .cells cs 2 true, .cells ds 2 true]) := FlatD.hp ⟨h, rfl, rfl, h2, h3, trivial⟩
theorem partP (hmix : Try.prog.follows .mixedOrders = true) (ca : List Value) (hca : FlatL ca) (s1 : Option Nat) (len k1 : Nat) (id : Int) (i : Nat) (L : List Re) (o : Nat) (ds : List Value) (ok : ∀ x ∈ L, ReOk x) (hD : DRow ds o L) (K : Post)
    (hK : K .normal (T1329 s1 len k1 id i) (H1329 ca L.length (reC L) o L.length ds)) :
    Says Try.prog 1 (sub body1329 [1,0,0,1,0,0,1,0,1,1,1,1]) (T1329 s1 len k1 id i) (H1329 ca L.length (reC L) o L.length ds) K := by
  refine (sureM hmix).cutN F1329 noLoops [1,2] [] [1,2] [] [0,1,5,6,7] ?_
  rw [y1329]
  have hF := h5_flat (n := L.length) (n2 := L.length) (m := L.length) (m2 := L.length) (o := o) hca (reC_flat L) hD.flat
  cases L with
  | nil => exact Alt_iff.2 ⟨fun _ => Alt_iff.2 ⟨fun h => (by cases h), fun _ => ⟨hF, hK⟩⟩, fun h => (by cases h)⟩
  | cons x t =>
    have g0 : getO (reC (x :: t)) 0 = some (.int .u64 x.1) := rfl
    have g1 : getO (reC (x :: t)) 1 = some (.int .i64 x.2) := rfl
    have hx : (x :: t)[0]? = some x := rfl
    have d0 : getO ds o = some (.int .i64 x.2) := hD.get0 hx
    have d1 : getO ds (o + 1) = some (.int .u64 x.1) := hD.get1 hx
    have hlt : (0 : Int) < ((x :: t).length : Int) := by rw [List.length_cons]; omega
    have hl0 : ¬ ((x :: t).length : Int) = 0 := by rw [List.length_cons]; omega
    have hl1 : ltI 0 ((x :: t).length : Int) = true := ltI_iff.2 hlt
    simp only [g0, g1, Nat.add_zero, d0, d1, hl1, hlt, hl0, hF, show intV (Value.int .u64 x.1) = x.1 from rfl, show intV (Value.int .i64 x.2) = x.2 from rfl, beq_self_eq_true, Bool.not_true, Bool.not_false, Alt_iff, Need_iff, ltI_eq, leI_eq, eqI_eq, leN_eq, eqN_eq, decide_eq_true_eq, decide_eq_false_iff_not, decide_true, decide_false, true_and, and_true, Bool.true_eq_false, Bool.false_eq_true, false_implies, true_implies, implies_true, not_true_eq_false, not_false_eq_true, Bool.not_eq_true', Bool.not_eq_false', Nat.zero_add, Nat.add_zero, Nat.sub_zero, Nat.zero_mul, Nat.mul_one, Int.toNat_natCast, List.drop_zero, beqV_int, beqV_sl, beqV_str, beqV_bool, beqV_ptr, beqV_flt, beqV_agg, beqV_tuple, List.all_cons, List.all_nil, Bool.and_self, Bool.and_true, Bool.true_and, Nat.le_refl, Int.le_refl, Nat.zero_le, Option.getD_some, isStr, strV, isInt, intV, isBool, boolV, kindEq, at0, isJunk, Option.isSome_some, Option.isSome_none, if_true, if_false, Nat.add_sub_cancel_left, Nat.add_sub_cancel]
    exact hK
theorem plays_loop (hmix : Try.prog.follows .mixedOrders = true) (ca : List Value) (hca : FlatL ca) (s1 : Option Nat) (len k1 : Nat) (hlen : len ≤ 100) (hS : Steps3 ca len) (id : Int) (K : Post)
    (hK : ∀ b, Both2 len b → K (.exit 0) (tmps 122 [(1, .int .i64 id), (5, p1 1), (6, p1 2)]) (H1329 ca b.1.length (reC b.1) b.2.1 b.1.length b.2.2)) :
    ∀ (t i : Nat) (b : List Re × Nat × List Value), i + t = len → Both2 i b →
    LSays Try.prog 1 (sub body1329 [0,0,1,0,1,1,1,1]) (T1329 s1 len k1 id i) (H1329 ca b.1.length (reC b.1) b.2.1 b.1.length b.2.2) K := by
  have hL : ∀ i, Loops Try.prog body1329 1 (cutE [cut1329a ca s1 len k1 id i]) := fun i => Loops.noneE.moreE _ fun b K hq => by
    obtain ⟨⟨hB, _⟩, hq⟩ := hq
    exact partP hmix ca hca s1 len k1 id i b.1 b.2.1 b.2.2 hB.row.ok hB.row K hq
  intro t
  induction t with
  | zero =>
    intro i b hi hB
    obtain ⟨L, o, ds⟩ := b
    have hF := h5_flat (n := L.length) (n2 := L.length) (m := L.length) (m2 := L.length) (o := o) hca (reC_flat L) hB.row.flat
    refine (sureM hmix).roundX F1329 ((hL i).gcX (at0 [1,2]) (at0 [])) [1,2] [] [1,2] [] [0,1,5,6,7] ?_
    simp only
    rw [r1329]
    obtain rfl : i = len := by omega
    exact Alt_iff.2 ⟨fun h => absurd (ltI_iff.1 h) (by omega), fun _ => ⟨hF, hK (L, o, ds) hB⟩⟩
  | succ t ih =>
    intro i b hi hB
    obtain ⟨L, o, ds⟩ := b
    obtain ⟨g, id2, d, g0, g1, g2, he⟩ := hS i (by omega)
    have ok := hB.row.ok
    have hD := hB.row
    have hQ := hB.q
    simp only at ok hD hQ
    have hLl : L.length ≤ i := hB.len
    have hrc := rcs ok (by omega)
    have hdc : IsDC ds o L.length L.length := .mk L hD rfl rfl
    have hup : IsUpE L := ⟨hQ.up, hQ.len⟩
    refine (sureM hmix).roundX F1329 ((hL i).gcX (at0 [1,2]) (at0 [])) [1,2] [] [1,2] [] [0,1,5,6,7] ?_
    simp only
    rw [r1329]
    have e1 : ∀ z : Int, eqI z z = true := fun z => eqI_iff.2 rfl
    have e2 : ∀ l : List Int, sameI l l = true := fun l => sameI_iff.2 rfl
    have hrl := ripeE_len d L
    have hie : IsE (iE .i64) (ZP .i64) (iC (ripeE d L)) 0 (ripeE d L).length (ripeE d L).length := IsE.own flat_i (ripeE_ok ok) (by omega)
    have hdl := dropE_len id2 L
    have hpl := putE_len id2 d L
    simp only [Nat.zero_add, Int.toNat_natCast, g0, g1, g2, reC_at ok, hD.at, Option.getD_some, show ∀ n, intV (Value.int .u8 n) = n from fun _ => rfl, show ∀ n, intV (Value.int .u64 n) = n from fun _ => rfl, show ∀ n, intV (Value.int .i64 n) = n from fun _ => rfl, hrc, hdc, hup, hQ, he, e1, e2, hie, iC_flat, nx i (by omega), reC_flat, hD.flat, show (i : Int) < (len : Int) by omega, show L.length ≤ 999999 by omega, Bool.not_true, beq_self_eq_true, Alt_iff, Need_iff, ltI_eq, leI_eq, eqI_eq, leN_eq, eqN_eq, decide_eq_true_eq, decide_eq_false_iff_not, decide_true, decide_false, true_and, and_true, Bool.true_eq_false, Bool.false_eq_true, false_implies, true_implies, implies_true, not_true_eq_false, not_false_eq_true, Bool.not_eq_true', Bool.not_eq_false', Nat.zero_add, Nat.add_zero, Nat.sub_zero, Nat.zero_mul, Nat.mul_one, Int.toNat_natCast, List.drop_zero, beqV_int, beqV_sl, beqV_str, beqV_bool, beqV_ptr, beqV_flt, beqV_agg, beqV_tuple, List.all_cons, List.all_nil, Bool.and_self, Bool.and_true, Bool.true_and, Nat.le_refl, Int.le_refl, Nat.zero_le, Option.getD_some, isStr, strV, isInt, intV, isBool, boolV, kindEq, at0, isJunk, Option.isSome_some, Option.isSome_none, if_true, if_false, Nat.add_sub_cancel_left, Nat.add_sub_cancel]
    have fin : ∀ b : List Re × Nat × List Value, Both2 (i + 1) b → FlatD [1, 2] (hp [.cells ca 3 false, .cells [.slice (some ⟨3,0,some 1⟩) b.1.length b.1.length] 1 true, .cells [.slice (some ⟨4,b.2.1,some 1⟩) b.1.length b.1.length] 1 true, .cells (reC b.1) 2 true, .cells b.2.2 2 true]) := fun b hb => h5_flat hca (reC_flat _) hb.row.flat
    refine ⟨fun h => ?_, fun h => ⟨fun h2 => ?_, fun h2 => ?_⟩⟩
    · have hB2 : Both2 (i + 1) (putE id2 d L, 0, deC (putE id2 d L)) := ⟨isQ_put hQ (by omega), deC_row (putE_ok he ok) (by omega), by show (putE id2 d L).length ≤ i + 1; omega⟩
      exact ⟨rfl, rfl, fin _ hB2, _, rfl, ⟨hB2, by show i < len; omega⟩, fin _ hB2, ih (i + 1) _ (by omega) hB2⟩
    · have hB2 : Both2 (i + 1) (dropE id2 L, dOff id2 o L, dCs id2 ds L) := ⟨isQ_drop hQ, dRow hD, by show (dropE id2 L).length ≤ i + 1; omega⟩
      exact ⟨rfl, rfl, fin _ hB2, _, rfl, ⟨hB2, by show i < len; omega⟩, fin _ hB2, ih (i + 1) _ (by omega) hB2⟩
    · have hB2 : Both2 (i + 1) (restE d L, o + (ripeE d L).length * 2, ds) := ⟨isQ_rest hQ, rest_row hD, by show (restE d L).length ≤ i + 1; omega⟩
      exact ⟨rfl, rfl, fin _ hB2, _, rfl, ⟨hB2, by show i < len; omega⟩, fin _ hB2, ih (i + 1) _ (by omega) hB2⟩
end Go.Proofs.Ytmgnlkefhmhkhaa

namespace Go.Proofs.Ytmgnlkefhmhkhaa
open Go.RowKit Go.Proofs.Ytmgnlkefhmhkhaa.AM
set_option maxRecDepth 100000
set_option maxHeartbeats 4000000
theorem idx_when (o : Int) : ∀ (L : List Re) (i : Nat), (idxE o i L = -1 ∧ hasE o L = false ∧ whenE o L = 0) ∨ ∃ j : Nat, idxE o i L = ((i + j : Nat) : Int) ∧ hasE o L = true ∧ L[j]? = some (whenE o L, o) := by
  intro L
  induction L with
  | nil => intro i; exact .inl ⟨rfl, rfl, rfl⟩
  | cons x t ih =>
    intro i
    by_cases h : eqI x.2 o = true
    · refine .inr ⟨0, by simp [idxE, h], by simp [hasE, h], ?_⟩
      rw [List.getElem?_cons_zero, whenE, if_pos h, ← eqI_iff.1 h]
    · rcases ih (i + 1) with ⟨q1, q2, q3⟩ | ⟨j, q1, q2, q3⟩
      · exact .inl ⟨by rw [idxE, if_neg h, q1], by rw [hasE, if_neg h, q2], by rw [whenE, if_neg h, q3]⟩
      · exact .inr ⟨j + 1, by rw [idxE, if_neg h, q1]; omega, by rw [hasE, if_neg h, q2], by rw [List.getElem?_cons_succ, whenE, if_neg h, q3]⟩
theorem law1329z (hmix : Try.prog.follows .mixedOrders = true) (ca : List Value) (hca : FlatL ca) (len : Nat) (hS : Steps3 ca len) (id : Int) (hid : ZP .i64 id) (s1 : Option Nat) (k1 : Nat) :
    FunSays Try.prog 4 [.slice (some ⟨0,0,s1⟩) len k1, .int .i64 id] (hp [.cells ca 3 false]) fun v _ => v = .bool true := by
  have hF : FlatD [] (hp [.cells ca 3 false]) := FlatD.hp ⟨hca, trivial⟩
  have hL : Loops Try.prog body1329 1 (cutE [cut1329L ca s1 len k1 id]) := Loops.noneE.moreE _ fun x K hq => by
    obtain ⟨⟨h1, h2, h3⟩, h4⟩ := hq
    exact plays_loop hmix ca hca s1 len k1 h3 hS id K h4 (len - x.2) x.2 x.1 (by omega) h1
  refine (sureM hmix).funX F1329 body1329 [] [] Try.func4 rfl (hL.gcX (at0 [1,2]) (at0 [.cell 5 0 2, .cell 6 0 2])) ?_
  rw [w1329]
  refine Alt_iff.2 ⟨fun _ => ⟨trivial, trivial, hF, rfl, rfl⟩, fun h100 => ?_⟩
  have h100 : len ≤ 100 := by
    have : ¬ (100 : Int) < (len : Int) := fun h => by rw [ltI_iff.2 h] at h100; cases h100
    omega
  refine ⟨h5_flat hca (reC_flat []) (deC_flat []), (([], 0, []), 0), rfl, rfl, ⟨⟨isQ_nil, deC_row (L := []) (fun x hx => by simp at hx) (by decide), Nat.le_refl _⟩, Nat.zero_le _, h100⟩, fun b hB => ?_⟩
  obtain ⟨L, o, ds⟩ := b
  have hD := hB.row
  have ok := hB.row.ok
  have hLl : L.length ≤ len := hB.len
  simp only at hD ok ⊢
  have hdc : IsDC ds o L.length L.length := .mk L hD rfl rfl
  rw [reC_at ok, hD.at]
  refine ⟨⟨reC_flat L, int_flat id, trivial⟩, ⟨trivial, irs ok, Need_iff.2 ⟨leN_iff.2 (by omega), trivial⟩⟩, ?_⟩
  rcases idx_when id L 0 with ⟨q1, q2, q3⟩ | ⟨j, q1, q2, q3⟩
  · rw [q1, q2, q3]
    refine Alt_iff.2 ⟨fun _ => ⟨⟨rfl, hD.flat, trivial⟩, hdc, Alt_iff.2 ⟨fun _ => Alt_iff.2 ⟨fun _ => ⟨trivial, trivial, hF, rfl, (by first | rfl | trivial)⟩, fun h => (by cases h)⟩, fun h => (by cases h)⟩⟩, fun h => (by cases h)⟩
  · rw [Nat.zero_add] at q1
    have hjl := (List.getElem?_eq_some_iff.1 q3).1
    have g0 := (reC_row ok).get0 q3
    rw [q1, q2]
    have e1 : ∀ z : Int, eqI z z = true := fun z => eqI_iff.2 rfl
    simp only [Nat.zero_add, Nat.add_zero, Int.toNat_natCast, g0, reF, show ¬ ((j : Int) < 0) by omega, show (0 : Int) ≤ (j : Int) by omega, show (j : Int) < (L.length : Int) by omega, hD.flat, hdc, hF, show ∀ n, intV (Value.int .u64 n) = n from fun _ => rfl, e1, beq_self_eq_true, Alt_iff, Need_iff, ltI_eq, leI_eq, eqI_eq, leN_eq, eqN_eq, decide_eq_true_eq, decide_eq_false_iff_not, decide_true, decide_false, true_and, and_true, Bool.true_eq_false, Bool.false_eq_true, false_implies, true_implies, implies_true, not_true_eq_false, not_false_eq_true, Bool.not_eq_true', Bool.not_eq_false', Nat.zero_add, Nat.add_zero, Nat.sub_zero, Nat.zero_mul, Nat.mul_one, Int.toNat_natCast, List.drop_zero, beqV_int, beqV_sl, beqV_str, beqV_bool, beqV_ptr, beqV_flt, beqV_agg, beqV_tuple, List.all_cons, List.all_nil, Bool.and_self, Bool.and_true, Bool.true_and, Nat.le_refl, Int.le_refl, Nat.zero_le, Option.getD_some, isStr, strV, isInt, intV, isBool, boolV, kindEq, at0, isJunk, Option.isSome_some, Option.isSome_none, if_true, if_false, Nat.add_sub_cancel_left, Nat.add_sub_cancel]
    first | rfl | exact ⟨rfl, rfl⟩ | trivial | skip
theorem flat_at {n : Nat} : ∀ {L : List (List Value)} {i : Nat} {c : List Value}, (∀ c ∈ L, c.length = n) → L[i]? = some c → ∀ j, j < n → L.flatten[i * n + j]? = c[j]? := by
  intro L
  induction L with
  | nil => intro i c _ h; simp at h
  | cons a L ih =>
    intro i c hL h j hj
    have ha : a.length = n := hL a List.mem_cons_self
    cases i with
    | zero =>
      simp at h
      subst h
      rw [Nat.zero_mul, Nat.zero_add, List.flatten_cons, List.getElem?_append_left (by omega)]
    | succ i =>
      rw [List.flatten_cons, List.getElem?_append_right (by rw [Nat.succ_mul]; omega), ha, show (i + 1) * n + j - n = i * n + j by rw [Nat.succ_mul]; omega]
      exact ih (fun c hc => hL c (List.mem_cons_of_mem _ hc)) (by simpa using h) j hj
def GoodStep3 (c : List Value) : Prop := ∃ (g id d : Int), c = [.int .u8 g, .int .i64 id, .int .u64 d] ∧ ReOk (d, id)
theorem steps3_of {L : List (List Value)} {len : Nat} (hl : len ≤ L.length) (h : ∀ c ∈ L, c.length = 3 ∧ GoodStep3 c) : Steps3 L.flatten len ∧ FlatL L.flatten := by
  refine ⟨fun i hi => ?_, ⟨fun x hx => ?_⟩⟩
  · have hc : L[i]? = some L[i] := List.getElem?_eq_getElem (by omega)
    obtain ⟨h1, g, id, d, h2, h3⟩ := h L[i] (List.getElem_mem (by omega))
    rw [h2] at hc
    have e0 := flat_at (n := 3) (fun c hc => (h c hc).1) hc 0 (by omega)
    have e1 := flat_at (n := 3) (fun c hc => (h c hc).1) hc 1 (by omega)
    have e2 := flat_at (n := 3) (fun c hc => (h c hc).1) hc 2 (by omega)
    exact ⟨g, id, d, by rw [getO_eq]; exact e0, by rw [getO_eq]; exact e1, by rw [getO_eq]; exact e2, h3⟩
  · obtain ⟨c, h1, h2⟩ := List.mem_flatten.1 hx
    obtain ⟨_, g, id, d, rfl, _⟩ := h c h1
    simp at h2
    rcases h2 with rfl | rfl | rfl <;> rfl
end Go.Proofs.Ytmgnlkefhmhkhaa
