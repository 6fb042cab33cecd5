/- Proved: what functions of the program come to, by their conditions over the abstract machine. Conditions: those that each theorem states. -/
import Derived.Test.YtabbkoegaoekkaaCh1
set_option linter.unusedVariables false
set_option linter.unusedSimpArgs false
namespace Go.Proofs.Ytabbkoegaoekkaa
open Go.RowKit Go.Proofs.Ytabbkoegaoekkaa.AM
set_option maxRecDepth 100000
set_option maxHeartbeats 4000000
noncomputable def body1922 : Code := (Try.f9.body).getD .skip
def F1922 : List Nat → Option (List Nat) := fun p => match p with
  | [1] => some [0, 1, 2]
  | [1, 0, 0, 1] => some [0, 1, 2, 7]
  | [1, 0, 1, 0, 0, 1] => some [6]
  | [1, 1, 1, 0, 0, 1] => some [0, 1, 2, 15]
  | [1, 0, 1, 1, 1, 0, 0, 1] => some [6]
  | [1, 1, 1, 1, 1, 0, 0, 1] => some [0, 1, 2, 20]
  | [1, 0, 1, 1, 1, 1, 1, 0, 0, 1] => some [6]
  | [1, 1] => some [0, 1, 2]
  | [1, 1, 1] => some []
  | [1, 1, 1, 1] => some [6]
  | _ => none
noncomputable def body1923 : Code := (Try.f10.body).getD .skip
def F1923 : List Nat → Option (List Nat) := fun p => match p with
  | [1] => some [0, 1]
  | [1, 1] => some [0, 6]
  | [1, 0, 1, 1] => some [0, 6, 11]
  | [1, 0, 1, 0, 1, 1] => some [4, 5]
  | [1, 1, 1] => some [0, 6]
  | [1, 1, 1, 1] => some [4, 5]
  | _ => none
noncomputable def body1924 : Code := (Try.f18.body).getD .skip
def F1924 : List Nat → Option (List Nat) := fun p => match p with
  | [1] => some [0, 1, 2]
  | [1, 1] => some [0, 1, 7]
  | [1, 0, 1, 1] => some [0, 1, 7, 24]
  | [1, 0, 1, 0, 1, 1] => some [6]
  | [1, 1, 1] => some [0, 1, 7]
  | [1, 0, 1, 1, 1] => some [0, 7, 32]
  | [1, 0, 1, 0, 1, 1, 1] => some [6]
  | [1, 1, 1, 1] => some [0, 7]
  | [1, 1, 1, 1, 1] => some []
  | [1, 1, 1, 1, 1, 1] => some [6]
  | _ => none
noncomputable def body1925 : Code := (Try.f20.body).getD .skip
def F1925 : List Nat → Option (List Nat) := fun p => match p with
  | [1] => some [0, 3]
  | [1, 1] => some [0, 3, 5]
  | [1, 1, 1] => some [0, 5]
  | [1, 1, 1, 1] => some [4]
  | _ => none
noncomputable def body1930 : Code := (Try.f8.body).getD .skip
def F1930 : List Nat → Option (List Nat) := fun p => match p with
  | [1] => some [0]
  | [1, 1] => some [2]
  | _ => none
noncomputable def body1935 : Code := (Try.f16.body).getD .skip
def F1935 : List Nat → Option (List Nat) := fun p => match p with
  | [1] => some [0]
  | [1, 1] => some [2]
  | _ => none
noncomputable def body1936 : Code := (Try.f29.body).getD .skip
def F1936 : List Nat → Option (List Nat) := fun p => match p with
  | [1] => some [0, 1, 2]
  | [1, 0, 1] => some [0, 1, 2, 9]
  | [1, 0, 1, 0, 1] => some [6]
  | [1, 1] => some [0, 2]
  | [1, 0, 1, 1] => some [0, 2, 13]
  | [1, 0, 1, 0, 1, 1] => some [6]
  | [1, 1, 1] => some [0]
  | [1, 1, 1, 1] => some [6]
  | _ => none
noncomputable def body1937 : Code := (Try.f19.body).getD .skip
def F1937 : List Nat → Option (List Nat) := fun p => match p with
  | [1] => some [0, 1, 2]
  | [1, 1] => some [0, 1, 2, 7, 8]
  | [1, 0, 1, 1] => some [0, 1, 2, 21]
  | [1, 0, 1, 0, 1, 1] => some [6]
  | [1, 1, 1] => some [0, 1, 2]
  | [1, 0, 1, 1, 1] => some [0, 2, 29]
  | [1, 0, 1, 0, 1, 1, 1] => some [6]
  | [1, 1, 1, 1] => some [0, 2]
  | [1, 1, 1, 1, 1] => some []
  | [1, 1, 1, 1, 1, 1] => some [6]
  | _ => none
noncomputable def body1939 : Code := (Try.f22.body).getD .skip
def F1939 : List Nat → Option (List Nat) := fun p => match p with
  | [1] => some [0, 1, 2]
  | [1, 0, 1] => some [0, 1, 2, 15]
  | [1, 0, 1, 0, 1] => some [6]
  | [1, 1] => some [0, 1, 2]
  | [1, 1, 1] => some [0, 1, 2, 8]
  | [1, 0, 1, 1, 1] => some [0, 1, 2, 22]
  | [1, 0, 1, 0, 1, 1, 1] => some [6]
  | [1, 1, 1, 1] => some [0, 1, 2]
  | [1, 0, 1, 1, 1, 1] => some [0, 1, 2, 31]
  | [1, 0, 1, 0, 1, 1, 1, 1] => some [6]
  | [1, 1, 1, 1, 1] => some [0, 1, 2]
  | [1, 1, 1, 1, 1, 1] => some []
  | [1, 1, 1, 1, 1, 1, 1] => some [6]
  | _ => none
noncomputable def body1945 : Code := (Try.f17.body).getD .skip
def F1945 : List Nat → Option (List Nat) := fun p => match p with
  | [1] => some [1]
  | [1, 0, 1] => some [1, 6]
  | [1, 0, 1, 0, 1] => some [2]
  | [1, 1] => some [1]
  | [1, 1, 1] => some [2]
  | _ => none
noncomputable def body1947 : Code := (Try.f6.body).getD .skip
def F1947 : List Nat → Option (List Nat) := fun p => match p with
  | [1] => some [0, 1, 2]
  | [1, 0, 1] => some [0, 1, 2, 18]
  | [1, 0, 1, 0, 1] => some [6]
  | [1, 1] => some [0, 1, 2]
  | [1, 1, 1] => some [1, 2, 7, 8]
  | [1, 0, 1, 1, 1] => some [1, 2, 7, 8, 25]
  | [1, 0, 1, 0, 1, 1, 1] => some [6]
  | [1, 1, 1, 1] => some [1, 2, 7, 8]
  | [1, 0, 1, 1, 1, 1] => some [1, 2, 7, 8, 9]
  | [1, 0, 0, 0, 1, 0, 1, 1, 1, 1] => some [1, 2, 7, 8, 9, 29]
  | [1, 1, 0, 0, 0, 1, 0, 1, 1, 1, 1] => some [2, 7, 8]
  | [1, 0, 0, 1, 0, 1, 1, 1, 1] => some [1, 2, 7, 8, 9]
  | [1, 0, 0, 0, 1, 0, 0, 1, 0, 1, 1, 1, 1] => some [1, 2, 7, 8, 9, 38]
  | [1, 0, 1, 0, 0, 0, 1, 0, 0, 1, 0, 1, 1, 1, 1] => some [6]
  | [1, 0, 0, 1, 0, 0, 1, 0, 1, 1, 1, 1] => some [1, 2, 7, 8, 9]
  | [1, 1, 0, 0, 1, 0, 0, 1, 0, 1, 1, 1, 1] => some [1, 2, 7, 8, 9, 10]
  | [1, 1, 1, 0, 0, 1, 0, 0, 1, 0, 1, 1, 1, 1] => some [1000000, 1, 2, 7, 8, 9, 10]
  | [1, 0, 1, 1, 1, 0, 0, 1, 0, 0, 1, 0, 1, 1, 1, 1] => some [1, 2, 7, 8, 9, 10, 50]
  | [1, 0, 1, 0, 1, 1, 1, 0, 0, 1, 0, 0, 1, 0, 1, 1, 1, 1] => some [1, 2, 7, 8, 9, 10, 50, 68]
  | [1, 1, 1, 0, 1, 0, 1, 1, 1, 0, 0, 1, 0, 0, 1, 0, 1, 1, 1, 1] => some [1, 2, 7, 8, 9, 10, 87]
  | [1, 1, 1, 1, 0, 0, 1, 0, 0, 1, 0, 1, 1, 1, 1] => some [1000000, 1, 2, 7, 8, 9, 10, 11]
  | [1, 1, 1, 1, 1, 0, 0, 1, 0, 0, 1, 0, 1, 1, 1, 1] => some [1, 2, 7, 8, 9, 10, 11, 12, 13]
  | [1, 1, 1, 1, 1, 1, 0, 0, 1, 0, 0, 1, 0, 1, 1, 1, 1] => some [1, 2, 7, 8, 9, 11, 12, 13, 14, 15]
  | [1, 1, 1, 1, 1, 1, 1, 0, 0, 1, 0, 0, 1, 0, 1, 1, 1, 1] => some [1, 2, 7, 8, 9, 145]
  | [1, 0, 1, 1, 1, 1, 1, 1, 1, 0, 0, 1, 0, 0, 1, 0, 1, 1, 1, 1] => some [6]
  | [1, 1, 0, 0, 1, 0, 1, 1, 1, 1] => some [1, 2, 7, 8, 9]
  | [1, 1, 1, 1, 1] => some [2, 7, 8]
  | [1, 1, 1, 1, 1, 1] => some [6]
  | _ => none
noncomputable def S1947o (hm : Try.prog.follows .mixedOrders = true) : Book := bookS [(15, ofX.summ (of_says hm)), (30, delX.summ (del_says hm)), (32, dfX.summ (df_says hm)), (14, tokX.summ (tok_says hm)), (21, rdropX.summ (rdrop_says hm)), (25, rofX.summ (rof_says hm)), (31, cutRX.summ (cutR_says hm)), (34, putX.summ (put_says hm))] (bookW [(26, placeC), (23, ownC), (24, sameSC)] (bookOf [(3, trueC), (11, isTC), (13, isTC)]))
noncomputable def S1947 (hm : Try.prog.follows .mixedOrders = true) : Book := addI Try.prog [(9, Try.f9, body1922), (10, Try.f10, body1923), (18, Try.f18, body1924), (20, Try.f20, body1925), (8, Try.f8, body1930), (16, Try.f16, body1935), (29, Try.f29, body1936), (19, Try.f19, body1937), (22, Try.f22, body1939), (17, Try.f17, body1945)] (S1947o hm)
noncomputable def p1 (b : Nat) : Value := .pointer (some ⟨b,0,none⟩)
noncomputable def T1947 (s1 : Option Nat) (len k1 : Nat) (owner : Int) (i : Nat) : List Value := tmps 156 [(1, .slice (some ⟨0,0,s1⟩) len k1), (2, .int .i64 owner), (7, p1 1), (8, p1 2), (9, .int .i64 i)]
noncomputable def T1947x (s1 : Option Nat) (len k1 : Nat) (owner : Int) (i : Nat) (x : ByteArray) : List Value := tmps 156 [(1, .slice (some ⟨0,0,s1⟩) len k1), (2, .int .i64 owner), (7, p1 1), (8, p1 2), (9, .int .i64 i), (10, .string x)]
noncomputable def T1947c (s1 : Option Nat) (len k1 : Nat) (owner : Int) (i : Nat) (x : ByteArray) : List Value := tmps 156 [(1, .slice (some ⟨0,0,s1⟩) len k1), (2, .int .i64 owner), (7, p1 1), (8, p1 2), (9, .int .i64 i), (10, .string x), (11, .bool true)]
noncomputable def H1947 (ca : List Value) (mo mr : Int) (m k m2 k2 : Nat) (cy cz : List Value) : Heap := hp [.cells ca 4 false, .cells [.int .i64 mo, .slice (some ⟨3,0,some 1⟩) m k] 2 true, .cells [.int .i64 mr, .slice (some ⟨4,0,some 1⟩) m2 k2] 2 true, .cells cy 2 true, .cells cz 2 true]

theorem y1947c (hm : Try.prog.follows .mixedOrders = true) (ca : List Value) (s1 : Option Nat) (len k1 : Nat) (owner : Int) (i : Nat) (x : ByteArray) (mo mr : Int) (m k m2 k2 : Nat) (cy cz : List Value) (K : Post) :
  roundX Try.prog (S1947 hm) noLoop F1947 body1947 1 [1,2] [] [1,2] [] [1,2,7,8,9] [1,1,1,1,0,0,1,0,0,1,0,1,1,1,1] (T1947c s1 len k1 owner i x) (H1947 ca mo mr m k m2 k2 cy cz) K = (
(nojL [Value.int IntKind.i64 mo, Value.slice (some { block := 1, off := 0, spot := some 1 : Addr }) m k] = true ∧
    FlatL cy ∧ True) ∧
  (IsP tkF tkG TkOk cy m k ∧ Need (leN m 1000000) True) ∧
    Alt (ltI (placeF x 0 (-1) (tksAt cy m)) 0)
      ((nojL [Value.int IntKind.i64 mr, Value.slice (some { block := 1, off := 0, spot := some 1 : Addr }) m2 k2] =
            true ∧
          FlatL cz ∧ True) ∧
        (IsP tkF tkG TkOk cz m2 k2 ∧ Need (leN m2 1000000) True) ∧
          Alt (!eqI 0 ((ownR x (tksAt cz m2)).getD 0))
            (K AE.ret (tmps 156 [(6, Value.bool false)]) (hp [Blk.cells ca 4 false]))
            (Alt (!false == (ownR x (tksAt cz m2)).isSome)
              (K AE.ret (tmps 156 [(6, Value.bool false)]) (hp [Blk.cells ca 4 false]))
              (Need (ltI (↑i : Int) (↑len : Int))
                (Need (isInt IntKind.i64 ((getO ca (0 + (↑i : Int).toNat * 4 + 1)).getD undef))
                  ((nojL
                          [Value.int IntKind.i64 mo,
                            Value.slice (some { block := 1, off := 0, spot := some 1 : Addr }) m k] =
                        true ∧
                      FlatL cy ∧ True) ∧
                    (IsP tkF tkG TkOk cy m k ∧ Need (leN m 1000000) True) ∧
                      ∀ (x : List Value × Nat),
                        IsS (srt (ofL (intV ((getO ca (0 + (↑i : Int).toNat * 4 + 1)).getD undef)) (tksAt cy m))) x.fst
                            (ofL (intV ((getO ca (0 + (↑i : Int).toNat * 4 + 1)).getD undef)) (tksAt cy m)).length
                            x.snd →
                          Need (ltI (↑i : Int) (↑len : Int))
                            (Need (isInt IntKind.i64 ((getO ca (0 + (↑i : Int).toNat * 4 + 1)).getD undef))
                              ((nojL
                                      [Value.int IntKind.i64 mr,
                                        Value.slice (some { block := 1, off := 0, spot := some 1 : Addr }) m2 k2] =
                                    true ∧
                                  FlatL cz ∧ True) ∧
                                (IsP tkF tkG TkOk cz m2 k2 ∧ Need (leN m2 1000000) True) ∧
                                  ∀ (x_1 : List Value),
                                    IsS (ofL (intV ((getO ca (0 + (↑i : Int).toNat * 4 + 1)).getD undef)) (tksAt cz m2))
                                        x_1
                                        (ofL (intV ((getO ca (0 + (↑i : Int).toNat * 4 + 1)).getD undef))
                                            (tksAt cz m2)).length
                                        (ofL (intV ((getO ca (0 + (↑i : Int).toNat * 4 + 1)).getD undef))
                                            (tksAt cz m2)).length →
                                      (FlatL x.fst ∧ FlatL x_1 ∧ True) ∧
                                        (IsSs x.fst
                                              (ofL (intV ((getO ca (0 + (↑i : Int).toNat * 4 + 1)).getD undef))
                                                  (tksAt cy m)).length
                                              x.snd ∧
                                            IsSs x_1
                                              (ofL (intV ((getO ca (0 + (↑i : Int).toNat * 4 + 1)).getD undef))
                                                  (tksAt cz m2)).length
                                              (ofL (intV ((getO ca (0 + (↑i : Int).toNat * 4 + 1)).getD undef))
                                                  (tksAt cz m2)).length) ∧
                                          Need (isInt IntKind.i64 ((getO ca (0 + (↑i : Int).toNat * 4 + 1)).getD undef))
                                            (Need
                                              (beqV 64
                                                (Value.int IntKind.i64
                                                  (intV ((getO ca (0 + (↑i : Int).toNat * 4 + 1)).getD undef)))
                                                (Value.int IntKind.i64
                                                  (intV ((getO ca (0 + (↑i : Int).toNat * 4 + 1)).getD undef))))
                                              (Need
                                                (beqV 64
                                                  (Value.pointer
                                                    (some { block := 0, off := 0 + (↑i : Int).toNat * 4 + 1 : Addr }))
                                                  (Value.pointer
                                                    (some { block := 0, off := 0 + (↑i : Int).toNat * 4 + 1 : Addr })))
                                                (Need (ltI (↑i : Int) (↑len : Int))
                                                  (Need
                                                    (beqV 64
                                                      (Value.pointer
                                                        (some { block := 0, off := 0 + (↑i : Int).toNat * 4 : Addr }))
                                                      (Value.pointer
                                                        (some { block := 0, off := 0 + (↑i : Int).toNat * 4 : Addr })))
                                                    (Need
                                                      (beqV 64 (Value.int IntKind.i64 (↑i : Int))
                                                        (Value.int IntKind.i64 (↑i : Int)))
                                                      (Need
                                                        (beqV 64
                                                          (Value.slice
                                                            (some { block := 0, off := 0, spot := s1 : Addr }) len k1)
                                                          (Value.slice
                                                            (some { block := 0, off := 0, spot := s1 : Addr }) len k1))
                                                        (Alt
                                                          (!sameSt
                                                              (strsAt x.fst
                                                                (ofL
                                                                    (intV
                                                                      ((getO ca (0 + (↑i : Int).toNat * 4 + 1)).getD
                                                                        undef))
                                                                    (tksAt cy m)).length)
                                                              (strsAt x_1
                                                                (ofL
                                                                    (intV
                                                                      ((getO ca (0 + (↑i : Int).toNat * 4 + 1)).getD
                                                                        undef))
                                                                    (tksAt cz m2)).length))
                                                          (K AE.ret (tmps 156 [(6, Value.bool false)])
                                                            (hp [Blk.cells ca 4 false]))
                                                          (K AE.normal
                                                            (tmps 156
                                                              [(1,
                                                                  Value.slice
                                                                    (some { block := 0, off := 0, spot := s1 : Addr })
                                                                    len k1),
                                                                (2, Value.int IntKind.i64 owner),
                                                                (7,
                                                                  Value.pointer (some { block := 1, off := 0 : Addr })),
                                                                (8,
                                                                  Value.pointer (some { block := 2, off := 0 : Addr })),
                                                                (9, Value.int IntKind.i64 (↑i : Int))])
                                                            (hp
                                                              [Blk.cells ca 4 false,
                                                                Blk.cells
                                                                  [Value.int IntKind.i64 mo,
                                                                    Value.slice
                                                                      (some
                                                                        { block := 3, off := 0, spot := some 1 : Addr })
                                                                      m k]
                                                                  2 true,
                                                                Blk.cells
                                                                  [Value.int IntKind.i64 mr,
                                                                    Value.slice
                                                                      (some
                                                                        { block := 4, off := 0, spot := some 1 : Addr })
                                                                      m2 k2]
                                                                  2 true,
                                                                Blk.cells cy 2 true,
                                                                Blk.cells cz 2 true]))))))))))))))))
      (Need (leI 0 (placeF x 0 (-1) (tksAt cy m)))
        (Need (ltI (placeF x 0 (-1) (tksAt cy m)) (↑m : Int))
          (Need (isInt IntKind.i64 ((getO cy (0 + (placeF x 0 (-1) (tksAt cy m)).toNat * 2 + 1)).getD undef))
            ((nojL
                    [Value.int IntKind.i64 mr,
                      Value.slice (some { block := 1, off := 0, spot := some 1 : Addr }) m2 k2] =
                  true ∧
                FlatL cz ∧ True) ∧
              (IsP tkF tkG TkOk cz m2 k2 ∧ Need (leN m2 1000000) True) ∧
                Alt
                  (!eqI (intV ((getO cy (0 + (placeF x 0 (-1) (tksAt cy m)).toNat * 2 + 1)).getD undef))
                      ((ownR x (tksAt cz m2)).getD 0))
                  (K AE.ret (tmps 156 [(6, Value.bool false)]) (hp [Blk.cells ca 4 false]))
                  (Alt (!true == (ownR x (tksAt cz m2)).isSome)
                    (K AE.ret (tmps 156 [(6, Value.bool false)]) (hp [Blk.cells ca 4 false]))
                    (Need (ltI (↑i : Int) (↑len : Int))
                      (Need (isInt IntKind.i64 ((getO ca (0 + (↑i : Int).toNat * 4 + 1)).getD undef))
                        ((nojL
                                [Value.int IntKind.i64 mo,
                                  Value.slice (some { block := 1, off := 0, spot := some 1 : Addr }) m k] =
                              true ∧
                            FlatL cy ∧ True) ∧
                          (IsP tkF tkG TkOk cy m k ∧ Need (leN m 1000000) True) ∧
                            ∀ (x : List Value × Nat),
                              IsS (srt (ofL (intV ((getO ca (0 + (↑i : Int).toNat * 4 + 1)).getD undef)) (tksAt cy m)))
                                  x.fst
                                  (ofL (intV ((getO ca (0 + (↑i : Int).toNat * 4 + 1)).getD undef)) (tksAt cy m)).length
                                  x.snd →
                                Need (ltI (↑i : Int) (↑len : Int))
                                  (Need (isInt IntKind.i64 ((getO ca (0 + (↑i : Int).toNat * 4 + 1)).getD undef))
                                    ((nojL
                                            [Value.int IntKind.i64 mr,
                                              Value.slice (some { block := 1, off := 0, spot := some 1 : Addr }) m2
                                                k2] =
                                          true ∧
                                        FlatL cz ∧ True) ∧
                                      (IsP tkF tkG TkOk cz m2 k2 ∧ Need (leN m2 1000000) True) ∧
                                        ∀ (x_1 : List Value),
                                          IsS
                                              (ofL (intV ((getO ca (0 + (↑i : Int).toNat * 4 + 1)).getD undef))
                                                (tksAt cz m2))
                                              x_1
                                              (ofL (intV ((getO ca (0 + (↑i : Int).toNat * 4 + 1)).getD undef))
                                                  (tksAt cz m2)).length
                                              (ofL (intV ((getO ca (0 + (↑i : Int).toNat * 4 + 1)).getD undef))
                                                  (tksAt cz m2)).length →
                                            (FlatL x.fst ∧ FlatL x_1 ∧ True) ∧
                                              (IsSs x.fst
                                                    (ofL (intV ((getO ca (0 + (↑i : Int).toNat * 4 + 1)).getD undef))
                                                        (tksAt cy m)).length
                                                    x.snd ∧
                                                  IsSs x_1
                                                    (ofL (intV ((getO ca (0 + (↑i : Int).toNat * 4 + 1)).getD undef))
                                                        (tksAt cz m2)).length
                                                    (ofL (intV ((getO ca (0 + (↑i : Int).toNat * 4 + 1)).getD undef))
                                                        (tksAt cz m2)).length) ∧
                                                Need
                                                  (isInt IntKind.i64
                                                    ((getO ca (0 + (↑i : Int).toNat * 4 + 1)).getD undef))
                                                  (Need
                                                    (beqV 64
                                                      (Value.int IntKind.i64
                                                        (intV ((getO ca (0 + (↑i : Int).toNat * 4 + 1)).getD undef)))
                                                      (Value.int IntKind.i64
                                                        (intV ((getO ca (0 + (↑i : Int).toNat * 4 + 1)).getD undef))))
                                                    (Need
                                                      (beqV 64
                                                        (Value.pointer
                                                          (some
                                                            { block := 0, off := 0 + (↑i : Int).toNat * 4 + 1 : Addr }))
                                                        (Value.pointer
                                                          (some
                                                            { block := 0, off := 0 + (↑i : Int).toNat * 4 + 1 :
                                                              Addr })))
                                                      (Need (ltI (↑i : Int) (↑len : Int))
                                                        (Need
                                                          (beqV 64
                                                            (Value.pointer
                                                              (some
                                                                { block := 0, off := 0 + (↑i : Int).toNat * 4 : Addr }))
                                                            (Value.pointer
                                                              (some
                                                                { block := 0, off := 0 + (↑i : Int).toNat * 4 :
                                                                  Addr })))
                                                          (Need
                                                            (beqV 64 (Value.int IntKind.i64 (↑i : Int))
                                                              (Value.int IntKind.i64 (↑i : Int)))
                                                            (Need
                                                              (beqV 64
                                                                (Value.slice
                                                                  (some { block := 0, off := 0, spot := s1 : Addr }) len
                                                                  k1)
                                                                (Value.slice
                                                                  (some { block := 0, off := 0, spot := s1 : Addr }) len
                                                                  k1))
                                                              (Alt
                                                                (!sameSt
                                                                    (strsAt x.fst
                                                                      (ofL
                                                                          (intV
                                                                            ((getO ca
                                                                                  (0 + (↑i : Int).toNat * 4 + 1)).getD
                                                                              undef))
                                                                          (tksAt cy m)).length)
                                                                    (strsAt x_1
                                                                      (ofL
                                                                          (intV
                                                                            ((getO ca
                                                                                  (0 + (↑i : Int).toNat * 4 + 1)).getD
                                                                              undef))
                                                                          (tksAt cz m2)).length))
                                                                (K AE.ret (tmps 156 [(6, Value.bool false)])
                                                                  (hp [Blk.cells ca 4 false]))
                                                                (K AE.normal
                                                                  (tmps 156
                                                                    [(1,
                                                                        Value.slice
                                                                          (some
                                                                            { block := 0, off := 0, spot := s1 : Addr })
                                                                          len k1),
                                                                      (2, Value.int IntKind.i64 owner),
                                                                      (7,
                                                                        Value.pointer
                                                                          (some { block := 1, off := 0 : Addr })),
                                                                      (8,
                                                                        Value.pointer
                                                                          (some { block := 2, off := 0 : Addr })),
                                                                      (9, Value.int IntKind.i64 (↑i : Int))])
                                                                  (hp
                                                                    [Blk.cells ca 4 false,
                                                                      Blk.cells
                                                                        [Value.int IntKind.i64 mo,
                                                                          Value.slice
                                                                            (some
                                                                              { block := 3, off := 0, spot := some 1 :
                                                                                Addr })
                                                                            m k]
                                                                        2 true,
                                                                      Blk.cells
                                                                        [Value.int IntKind.i64 mr,
                                                                          Value.slice
                                                                            (some
                                                                              { block := 4, off := 0, spot := some 1 :
                                                                                Addr })
                                                                            m2 k2]
                                                                        2 true,
                                                                      Blk.cells cy 2 true,
                                                                      Blk.cells cz 2 true])))))))))))))))))))) := by kernel_rfl

structure St19 where
  L : List Tk
  M : List Tk
  cy : List Value
  m : Nat
  k : Nat
  cz : List Value
  m2 : Nat
  k2 : Nat
def ltT (x y : Tk) : Prop := ltS x.1 y.1 = true
/-- the table and the plain list hold the same -/
structure Tok2 (n : Nat) (b : St19) : Prop where
  y : TSl b.cy b.L
  z : TSl b.cz b.M
  em : b.m = b.L.length
  em2 : b.m2 = b.M.length
  hk : b.m ≤ b.k
  hk2 : b.m2 ≤ b.k2
  perm : b.L.Perm b.M
  sort : b.M.Pairwise ltT
  len : b.L.length ≤ n
noncomputable def cut1947c (ca : List Value) (s1 : Option Nat) (len k1 : Nat) (owner : Int) (i : Nat) (x : ByteArray) (mo mr : Int) : CutE where
  β := St19
  p := [1,1,1,1,0,0,1,0,0,1,0,1,1,1,1]
  t := fun _ => T1947c s1 len k1 owner i x
  h := fun b => H1947 ca mo mr b.m b.k b.m2 b.k2 b.cy b.cz
  Q := fun b K => Tok2 (i + 1) b ∧ K .normal (T1947 s1 len k1 owner i) (H1947 ca mo mr b.m b.k b.m2 b.k2 b.cy b.cz)

theorem y1947a (hm : Try.prog.follows .mixedOrders = true) (ca : List Value) (s1 : Option Nat) (len k1 : Nat) (owner : Int) (i : Nat) (x : ByteArray) (mo mr : Int) (m k m2 k2 : Nat) (cy cz : List Value) (K : Post) :
  roundX Try.prog (S1947 hm) (gcLKX (at0 [1,2]) (at0 [.cell 7 1 2, .cell 8 1 2]) 1 (cutE [cut1947c ca s1 len k1 owner i x mo mr])) F1947 body1947 1 [1,2] [] [1,2] [] [1,2,7,8,9] [1,1,1,0,0,1,0,0,1,0,1,1,1,1] (T1947x s1 len k1 owner i x) (H1947 ca mo mr m k m2 k2 cy cz) K = (
Need (ltI (↑i : Int) (↑len : Int)) (Need (isInt IntKind.u8 ((getO ca (0 + (↑i : Int).toNat * 4 + 0)).getD undef)) (Alt (eqI ((intV ((getO ca (0 + (↑i : Int).toNat * 4 + 0)).getD undef)).tmod 5) 3) (Need (ltI (↑i : Int)
(↑len : Int)) (Need (isInt IntKind.i64 ((getO ca (0 + (↑i : Int).toNat * 4 + 1)).getD undef)) ((nojL [Value.int IntKind.i64 mo, Value.slice (some { block := 1, off := 0, spot := some 1 : Addr }) m k] = true ∧ FlatL cy ∧
True) ∧ (IsP tkF tkG TkOk cy m k ∧ Need (leN m 1000000) True) ∧ Alt (ltI (placeF x 0 (-1) (tksAt cy m)) 0) (Need (ltI (↑i : Int) (↑len : Int)) (Need (isInt IntKind.i64 ((getO ca (0 + (↑i : Int).toNat * 4 + 1)).getD
undef)) ((nojL [Value.int IntKind.i64 mr, Value.slice (some { block := 1, off := 0, spot := some 1 : Addr }) m2 k2] = true ∧ FlatL cz ∧ True) ∧ (IsP tkF tkG TkOk cz m2 k2 ∧ Need (leN m2 1000000) True) ∧ Alt (!(ownR x
(tksAt cz m2)).isSome) (Need (beqV 64 (Value.string x) (Value.string x)) (Need (isInt IntKind.i64 ((getO ca (0 + (↑i : Int).toNat * 4 + 1)).getD undef)) (Need (beqV 64 (Value.int IntKind.i64 (intV ((getO ca (0 + (↑i :
Int).toNat * 4 + 1)).getD undef))) (Value.int IntKind.i64 (intV ((getO ca (0 + (↑i : Int).toNat * 4 + 1)).getD undef)))) (Need (beqV 64 (Value.pointer (some { block := 0, off := 0 + (↑i : Int).toNat * 4 + 1 : Addr }))
(Value.pointer (some { block := 0, off := 0 + (↑i : Int).toNat * 4 + 1 : Addr }))) (Need (ltI (↑i : Int) (↑len : Int)) (Need (beqV 64 (Value.pointer (some { block := 0, off := 0 + (↑i : Int).toNat * 4 : Addr }))
(Value.pointer (some { block := 0, off := 0 + (↑i : Int).toNat * 4 : Addr }))) (Need (beqV 64 (Value.int IntKind.i64 (↑i : Int)) (Value.int IntKind.i64 (↑i : Int))) (Need (beqV 64 (Value.slice (some
{ block := 0, off := 0, spot := s1 : Addr }) len k1) (Value.slice (some { block := 0, off := 0, spot := s1 : Addr }) len k1)) (FlatD [1, 2] (hp [Blk.cells ca 4 false, Blk.cells [Value.int IntKind.i64 mo, Value.slice
(some { block := 3, off := 0, spot := some 1 : Addr }) m k] 2 true, Blk.cells [Value.int IntKind.i64 mr, Value.slice (some { block := 4, off := 0, spot := some 1 : Addr }) m2 k2] 2 true, Blk.cells cy 2 true, Blk.cells cz
2 true]) ∧ ∃ (b : St19), tmps 156 [(1, Value.slice (some { block := 0, off := 0, spot := s1 : Addr }) len k1), (2, Value.int IntKind.i64 owner), (7, Value.pointer (some { block := 1, off := 0 : Addr })), (8,
Value.pointer (some { block := 2, off := 0 : Addr })), (9, Value.int IntKind.i64 (↑i : Int)), (10, Value.string x), (11, Value.bool true)] = tmps 156 [(1, Value.slice (some { block := 0, off := 0, spot := s1 : Addr })
len k1), (2, Value.int IntKind.i64 owner), (7, Value.pointer (some { block := 1, off := 0 : Addr })), (8, Value.pointer (some { block := 2, off := 0 : Addr })), (9, Value.int IntKind.i64 (↑i : Int)), (10, Value.string
x), (11, Value.bool true)] ∧ hp [Blk.cells ca 4 false, Blk.cells [Value.int IntKind.i64 mo, Value.slice (some { block := 3, off := 0, spot := some 1 : Addr }) m k] 2 true, Blk.cells [Value.int IntKind.i64 mr, Value.slice
(some { block := 4, off := 0, spot := some 1 : Addr }) m2 k2] 2 true, Blk.cells cy 2 true, Blk.cells cz 2 true] = hp [Blk.cells ca 4 false, Blk.cells [Value.int IntKind.i64 mo, Value.slice (some
{ block := 3, off := 0, spot := some 1 : Addr }) b.m b.k] 2 true, Blk.cells [Value.int IntKind.i64 mr, Value.slice (some { block := 4, off := 0, spot := some 1 : Addr }) b.m2 b.k2] 2 true, Blk.cells b.cy 2 true,
Blk.cells b.cz 2 true] ∧ Tok2 (i + 1) b ∧ K AE.normal (tmps 156 [(1, Value.slice (some { block := 0, off := 0, spot := s1 : Addr }) len k1), (2, Value.int IntKind.i64 owner), (7, Value.pointer (some
{ block := 1, off := 0 : Addr })), (8, Value.pointer (some { block := 2, off := 0 : Addr })), (9, Value.int IntKind.i64 (↑i : Int))]) (hp [Blk.cells ca 4 false, Blk.cells [Value.int IntKind.i64 mo, Value.slice (some
{ block := 3, off := 0, spot := some 1 : Addr }) b.m b.k] 2 true, Blk.cells [Value.int IntKind.i64 mr, Value.slice (some { block := 4, off := 0, spot := some 1 : Addr }) b.m2 b.k2] 2 true, Blk.cells b.cy 2 true,
Blk.cells b.cz 2 true])))))))))) (Alt (!eqI ((ownR x (tksAt cz m2)).getD 0) (intV ((getO ca (0 + (↑i : Int).toNat * 4 + 1)).getD undef))) (Need (beqV 64 (Value.string x) (Value.string x)) (Need (isInt IntKind.i64 ((getO
ca (0 + (↑i : Int).toNat * 4 + 1)).getD undef)) (Need (beqV 64 (Value.int IntKind.i64 (intV ((getO ca (0 + (↑i : Int).toNat * 4 + 1)).getD undef))) (Value.int IntKind.i64 (intV ((getO ca (0 + (↑i : Int).toNat * 4 +
1)).getD undef)))) (Need (beqV 64 (Value.pointer (some { block := 0, off := 0 + (↑i : Int).toNat * 4 + 1 : Addr })) (Value.pointer (some { block := 0, off := 0 + (↑i : Int).toNat * 4 + 1 : Addr }))) (Need (ltI (↑i : Int)
(↑len : Int)) (Need (beqV 64 (Value.pointer (some { block := 0, off := 0 + (↑i : Int).toNat * 4 : Addr })) (Value.pointer (some { block := 0, off := 0 + (↑i : Int).toNat * 4 : Addr }))) (Need (beqV 64 (Value.int
IntKind.i64 (↑i : Int)) (Value.int IntKind.i64 (↑i : Int))) (Need (beqV 64 (Value.slice (some { block := 0, off := 0, spot := s1 : Addr }) len k1) (Value.slice (some { block := 0, off := 0, spot := s1 : Addr }) len k1))
(FlatD [1, 2] (hp [Blk.cells ca 4 false, Blk.cells [Value.int IntKind.i64 mo, Value.slice (some { block := 3, off := 0, spot := some 1 : Addr }) m k] 2 true, Blk.cells [Value.int IntKind.i64 mr, Value.slice (some
{ block := 4, off := 0, spot := some 1 : Addr }) m2 k2] 2 true, Blk.cells cy 2 true, Blk.cells cz 2 true]) ∧ ∃ (b : St19), tmps 156 [(1, Value.slice (some { block := 0, off := 0, spot := s1 : Addr }) len k1), (2,
Value.int IntKind.i64 owner), (7, Value.pointer (some { block := 1, off := 0 : Addr })), (8, Value.pointer (some { block := 2, off := 0 : Addr })), (9, Value.int IntKind.i64 (↑i : Int)), (10, Value.string x), (11,
Value.bool true)] = tmps 156 [(1, Value.slice (some { block := 0, off := 0, spot := s1 : Addr }) len k1), (2, Value.int IntKind.i64 owner), (7, Value.pointer (some { block := 1, off := 0 : Addr })), (8, Value.pointer
(some { block := 2, off := 0 : Addr })), (9, Value.int IntKind.i64 (↑i : Int)), (10, Value.string x), (11, Value.bool true)] ∧ hp [Blk.cells ca 4 false, Blk.cells [Value.int IntKind.i64 mo, Value.slice (some
{ block := 3, off := 0, spot := some 1 : Addr }) m k] 2 true, Blk.cells [Value.int IntKind.i64 mr, Value.slice (some { block := 4, off := 0, spot := some 1 : Addr }) m2 k2] 2 true, Blk.cells cy 2 true, Blk.cells cz 2
true] = hp [Blk.cells ca 4 false, Blk.cells [Value.int IntKind.i64 mo, Value.slice (some { block := 3, off := 0, spot := some 1 : Addr }) b.m b.k] 2 true, Blk.cells [Value.int IntKind.i64 mr, Value.slice (some
{ block := 4, off := 0, spot := some 1 : Addr }) b.m2 b.k2] 2 true, Blk.cells b.cy 2 true, Blk.cells b.cz 2 true] ∧ Tok2 (i + 1) b ∧ K AE.normal (tmps 156 [(1, Value.slice (some
{ block := 0, off := 0, spot := s1 : Addr }) len k1), (2, Value.int IntKind.i64 owner), (7, Value.pointer (some { block := 1, off := 0 : Addr })), (8, Value.pointer (some { block := 2, off := 0 : Addr })), (9, Value.int
IntKind.i64 (↑i : Int))]) (hp [Blk.cells ca 4 false, Blk.cells [Value.int IntKind.i64 mo, Value.slice (some { block := 3, off := 0, spot := some 1 : Addr }) b.m b.k] 2 true, Blk.cells [Value.int IntKind.i64 mr,
Value.slice (some { block := 4, off := 0, spot := some 1 : Addr }) b.m2 b.k2] 2 true, Blk.cells b.cy 2 true, Blk.cells b.cz 2 true])))))))))) (Alt (eqI (intV ((getO ca (0 + (↑i : Int).toNat * 4 + 1)).getD undef)) 0)
((nojL [Value.int IntKind.i64 mr, Value.slice (some { block := 1, off := 0, spot := some 1 : Addr }) m2 k2] = true ∧ FlatL cz ∧ True) ∧ (IsP tkF tkG TkOk cz m2 k2 ∧ Need (leN m2 1000000) True) ∧ ∀ (x_1 : List Value), IsS
(ofL 0 (tksAt cz m2)) x_1 (ofL 0 (tksAt cz m2)).length (ofL 0 (tksAt cz m2)).length → Alt (eqI (↑(ofL 0 (tksAt cz m2)).length : Int) 1) (Need (beqV 64 (Value.string x) (Value.string x)) (Need (isInt IntKind.i64 ((getO ca
(0 + (↑i : Int).toNat * 4 + 1)).getD undef)) (Need (beqV 64 (Value.int IntKind.i64 (intV ((getO ca (0 + (↑i : Int).toNat * 4 + 1)).getD undef))) (Value.int IntKind.i64 (intV ((getO ca (0 + (↑i : Int).toNat * 4 + 1)).getD
undef)))) (Need (beqV 64 (Value.pointer (some { block := 0, off := 0 + (↑i : Int).toNat * 4 + 1 : Addr })) (Value.pointer (some { block := 0, off := 0 + (↑i : Int).toNat * 4 + 1 : Addr }))) (Need (ltI (↑i : Int) (↑len :
Int)) (Need (beqV 64 (Value.pointer (some { block := 0, off := 0 + (↑i : Int).toNat * 4 : Addr })) (Value.pointer (some { block := 0, off := 0 + (↑i : Int).toNat * 4 : Addr }))) (Need (beqV 64 (Value.int IntKind.i64 (↑i
: Int)) (Value.int IntKind.i64 (↑i : Int))) (Need (beqV 64 (Value.slice (some { block := 0, off := 0, spot := s1 : Addr }) len k1) (Value.slice (some { block := 0, off := 0, spot := s1 : Addr }) len k1)) (FlatD [1, 2]
(hp [Blk.cells ca 4 false, Blk.cells [Value.int IntKind.i64 mo, Value.slice (some { block := 3, off := 0, spot := some 1 : Addr }) m k] 2 true, Blk.cells [Value.int IntKind.i64 mr, Value.slice (some
{ block := 4, off := 0, spot := some 1 : Addr }) m2 k2] 2 true, Blk.cells cy 2 true, Blk.cells cz 2 true]) ∧ ∃ (b : St19), tmps 156 [(1, Value.slice (some { block := 0, off := 0, spot := s1 : Addr }) len k1), (2,
Value.int IntKind.i64 owner), (7, Value.pointer (some { block := 1, off := 0 : Addr })), (8, Value.pointer (some { block := 2, off := 0 : Addr })), (9, Value.int IntKind.i64 (↑i : Int)), (10, Value.string x), (11,
Value.bool false)] = tmps 156 [(1, Value.slice (some { block := 0, off := 0, spot := s1 : Addr }) len k1), (2, Value.int IntKind.i64 owner), (7, Value.pointer (some { block := 1, off := 0 : Addr })), (8, Value.pointer
(some { block := 2, off := 0 : Addr })), (9, Value.int IntKind.i64 (↑i : Int)), (10, Value.string x), (11, Value.bool true)] ∧ hp [Blk.cells ca 4 false, Blk.cells [Value.int IntKind.i64 mo, Value.slice (some
{ block := 3, off := 0, spot := some 1 : Addr }) m k] 2 true, Blk.cells [Value.int IntKind.i64 mr, Value.slice (some { block := 4, off := 0, spot := some 1 : Addr }) m2 k2] 2 true, Blk.cells cy 2 true, Blk.cells cz 2
true] = hp [Blk.cells ca 4 false, Blk.cells [Value.int IntKind.i64 mo, Value.slice (some { block := 3, off := 0, spot := some 1 : Addr }) b.m b.k] 2 true, Blk.cells [Value.int IntKind.i64 mr, Value.slice (some
{ block := 4, off := 0, spot := some 1 : Addr }) b.m2 b.k2] 2 true, Blk.cells b.cy 2 true, Blk.cells b.cz 2 true] ∧ Tok2 (i + 1) b ∧ K AE.normal (tmps 156 [(1, Value.slice (some
{ block := 0, off := 0, spot := s1 : Addr }) len k1), (2, Value.int IntKind.i64 owner), (7, Value.pointer (some { block := 1, off := 0 : Addr })), (8, Value.pointer (some { block := 2, off := 0 : Addr })), (9, Value.int
IntKind.i64 (↑i : Int))]) (hp [Blk.cells ca 4 false, Blk.cells [Value.int IntKind.i64 mo, Value.slice (some { block := 3, off := 0, spot := some 1 : Addr }) b.m b.k] 2 true, Blk.cells [Value.int IntKind.i64 mr,
Value.slice (some { block := 4, off := 0, spot := some 1 : Addr }) b.m2 b.k2] 2 true, Blk.cells b.cy 2 true, Blk.cells b.cz 2 true])))))))))) ((nojL [Value.int IntKind.i64 mr, Value.slice (some
{ block := 1, off := 0, spot := some 1 : Addr }) m2 k2] = true ∧ FlatL cz ∧ True) ∧ (IsP tkF tkG TkOk cz m2 k2 ∧ Need (leN m2 1000000) True) ∧ ∀ (x_2 : List Value), IsTE (cutR x (tksAt cz m2)) x_2 (cutR x (tksAt cz
m2)).length (cutR x (tksAt cz m2)).length → Need (beqV 64 (Value.string x) (Value.string x)) (Need (isInt IntKind.i64 ((getO ca (0 + (↑i : Int).toNat * 4 + 1)).getD undef)) (Need (beqV 64 (Value.int IntKind.i64 (intV
((getO ca (0 + (↑i : Int).toNat * 4 + 1)).getD undef))) (Value.int IntKind.i64 (intV ((getO ca (0 + (↑i : Int).toNat * 4 + 1)).getD undef)))) (Need (beqV 64 (Value.pointer (some
{ block := 0, off := 0 + (↑i : Int).toNat * 4 + 1 : Addr })) (Value.pointer (some { block := 0, off := 0 + (↑i : Int).toNat * 4 + 1 : Addr }))) (Need (ltI (↑i : Int) (↑len : Int)) (Need (beqV 64 (Value.pointer (some
{ block := 0, off := 0 + (↑i : Int).toNat * 4 : Addr })) (Value.pointer (some { block := 0, off := 0 + (↑i : Int).toNat * 4 : Addr }))) (Need (beqV 64 (Value.int IntKind.i64 (↑i : Int)) (Value.int IntKind.i64 (↑i :
Int))) (Need (beqV 64 (Value.slice (some { block := 0, off := 0, spot := s1 : Addr }) len k1) (Value.slice (some { block := 0, off := 0, spot := s1 : Addr }) len k1)) (FlatD [1, 2] (hp [Blk.cells ca 4 false, Blk.cells
[Value.int IntKind.i64 mo, Value.slice (some { block := 3, off := 0, spot := some 1 : Addr }) m k] 2 true, Blk.cells [Value.int IntKind.i64 mr, Value.slice (some { block := 4, off := 0, spot := some 1 : Addr }) (cutR x
(tksAt cz m2)).length (cutR x (tksAt cz m2)).length] 2 true, Blk.cells cy 2 true, Blk.cells x_2 2 true]) ∧ ∃ (b : St19), tmps 156 [(1, Value.slice (some { block := 0, off := 0, spot := s1 : Addr }) len k1), (2, Value.int
IntKind.i64 owner), (7, Value.pointer (some { block := 1, off := 0 : Addr })), (8, Value.pointer (some { block := 2, off := 0 : Addr })), (9, Value.int IntKind.i64 (↑i : Int)), (10, Value.string x), (11, Value.bool
false)] = tmps 156 [(1, Value.slice (some { block := 0, off := 0, spot := s1 : Addr }) len k1), (2, Value.int IntKind.i64 owner), (7, Value.pointer (some { block := 1, off := 0 : Addr })), (8, Value.pointer (some
{ block := 2, off := 0 : Addr })), (9, Value.int IntKind.i64 (↑i : Int)), (10, Value.string x), (11, Value.bool true)] ∧ hp [Blk.cells ca 4 false, Blk.cells [Value.int IntKind.i64 mo, Value.slice (some
{ block := 3, off := 0, spot := some 1 : Addr }) m k] 2 true, Blk.cells [Value.int IntKind.i64 mr, Value.slice (some { block := 4, off := 0, spot := some 1 : Addr }) (cutR x (tksAt cz m2)).length (cutR x (tksAt cz
m2)).length] 2 true, Blk.cells cy 2 true, Blk.cells x_2 2 true] = hp [Blk.cells ca 4 false, Blk.cells [Value.int IntKind.i64 mo, Value.slice (some { block := 3, off := 0, spot := some 1 : Addr }) b.m b.k] 2 true,
Blk.cells [Value.int IntKind.i64 mr, Value.slice (some { block := 4, off := 0, spot := some 1 : Addr }) b.m2 b.k2] 2 true, Blk.cells b.cy 2 true, Blk.cells b.cz 2 true] ∧ Tok2 (i + 1) b ∧ K AE.normal (tmps 156 [(1,
Value.slice (some { block := 0, off := 0, spot := s1 : Addr }) len k1), (2, Value.int IntKind.i64 owner), (7, Value.pointer (some { block := 1, off := 0 : Addr })), (8, Value.pointer (some
{ block := 2, off := 0 : Addr })), (9, Value.int IntKind.i64 (↑i : Int))]) (hp [Blk.cells ca 4 false, Blk.cells [Value.int IntKind.i64 mo, Value.slice (some { block := 3, off := 0, spot := some 1 : Addr }) b.m b.k] 2
true, Blk.cells [Value.int IntKind.i64 mr, Value.slice (some { block := 4, off := 0, spot := some 1 : Addr }) b.m2 b.k2] 2 true, Blk.cells b.cy 2 true, Blk.cells b.cz 2 true]))))))))))) ((nojL [Value.int IntKind.i64 mr,
Value.slice (some { block := 1, off := 0, spot := some 1 : Addr }) m2 k2] = true ∧ FlatL cz ∧ True) ∧ (IsP tkF tkG TkOk cz m2 k2 ∧ Need (leN m2 1000000) True) ∧ ∀ (x_1 : List Value), IsTE (cutR x (tksAt cz m2)) x_1 (cutR
x (tksAt cz m2)).length (cutR x (tksAt cz m2)).length → Need (beqV 64 (Value.string x) (Value.string x)) (Need (isInt IntKind.i64 ((getO ca (0 + (↑i : Int).toNat * 4 + 1)).getD undef)) (Need (beqV 64 (Value.int
IntKind.i64 (intV ((getO ca (0 + (↑i : Int).toNat * 4 + 1)).getD undef))) (Value.int IntKind.i64 (intV ((getO ca (0 + (↑i : Int).toNat * 4 + 1)).getD undef)))) (Need (beqV 64 (Value.pointer (some
{ block := 0, off := 0 + (↑i : Int).toNat * 4 + 1 : Addr })) (Value.pointer (some { block := 0, off := 0 + (↑i : Int).toNat * 4 + 1 : Addr }))) (Need (ltI (↑i : Int) (↑len : Int)) (Need (beqV 64 (Value.pointer (some
{ block := 0, off := 0 + (↑i : Int).toNat * 4 : Addr })) (Value.pointer (some { block := 0, off := 0 + (↑i : Int).toNat * 4 : Addr }))) (Need (beqV 64 (Value.int IntKind.i64 (↑i : Int)) (Value.int IntKind.i64 (↑i :
Int))) (Need (beqV 64 (Value.slice (some { block := 0, off := 0, spot := s1 : Addr }) len k1) (Value.slice (some { block := 0, off := 0, spot := s1 : Addr }) len k1)) (FlatD [1, 2] (hp [Blk.cells ca 4 false, Blk.cells
[Value.int IntKind.i64 mo, Value.slice (some { block := 3, off := 0, spot := some 1 : Addr }) m k] 2 true, Blk.cells [Value.int IntKind.i64 mr, Value.slice (some { block := 4, off := 0, spot := some 1 : Addr }) (cutR x
(tksAt cz m2)).length (cutR x (tksAt cz m2)).length] 2 true, Blk.cells cy 2 true, Blk.cells x_1 2 true]) ∧ ∃ (b : St19), tmps 156 [(1, Value.slice (some { block := 0, off := 0, spot := s1 : Addr }) len k1), (2, Value.int
IntKind.i64 owner), (7, Value.pointer (some { block := 1, off := 0 : Addr })), (8, Value.pointer (some { block := 2, off := 0 : Addr })), (9, Value.int IntKind.i64 (↑i : Int)), (10, Value.string x), (11, Value.bool
false)] = tmps 156 [(1, Value.slice (some { block := 0, off := 0, spot := s1 : Addr }) len k1), (2, Value.int IntKind.i64 owner), (7, Value.pointer (some { block := 1, off := 0 : Addr })), (8, Value.pointer (some
{ block := 2, off := 0 : Addr })), (9, Value.int IntKind.i64 (↑i : Int)), (10, Value.string x), (11, Value.bool true)] ∧ hp [Blk.cells ca 4 false, Blk.cells [Value.int IntKind.i64 mo, Value.slice (some
{ block := 3, off := 0, spot := some 1 : Addr }) m k] 2 true, Blk.cells [Value.int IntKind.i64 mr, Value.slice (some { block := 4, off := 0, spot := some 1 : Addr }) (cutR x (tksAt cz m2)).length (cutR x (tksAt cz
m2)).length] 2 true, Blk.cells cy 2 true, Blk.cells x_1 2 true] = hp [Blk.cells ca 4 false, Blk.cells [Value.int IntKind.i64 mo, Value.slice (some { block := 3, off := 0, spot := some 1 : Addr }) b.m b.k] 2 true,
Blk.cells [Value.int IntKind.i64 mr, Value.slice (some { block := 4, off := 0, spot := some 1 : Addr }) b.m2 b.k2] 2 true, Blk.cells b.cy 2 true, Blk.cells b.cz 2 true] ∧ Tok2 (i + 1) b ∧ K AE.normal (tmps 156 [(1,
Value.slice (some { block := 0, off := 0, spot := s1 : Addr }) len k1), (2, Value.int IntKind.i64 owner), (7, Value.pointer (some { block := 1, off := 0 : Addr })), (8, Value.pointer (some
{ block := 2, off := 0 : Addr })), (9, Value.int IntKind.i64 (↑i : Int))]) (hp [Blk.cells ca 4 false, Blk.cells [Value.int IntKind.i64 mo, Value.slice (some { block := 3, off := 0, spot := some 1 : Addr }) b.m b.k] 2
true, Blk.cells [Value.int IntKind.i64 mr, Value.slice (some { block := 4, off := 0, spot := some 1 : Addr }) b.m2 b.k2] 2 true, Blk.cells b.cy 2 true, Blk.cells b.cz 2 true]))))))))))))))) (Need (leI 0 (placeF x 0 (-1)
(tksAt cy m))) (Need (ltI (placeF x 0 (-1) (tksAt cy m)) (↑m : Int)) (Need (isInt IntKind.i64 ((getO cy (0 + (placeF x 0 (-1) (tksAt cy m)).toNat * 2 + 1)).getD undef)) (Alt (!eqI (intV ((getO cy (0 + (placeF x 0 (-1)
(tksAt cy m)).toNat * 2 + 1)).getD undef)) (intV ((getO ca (0 + (↑i : Int).toNat * 4 + 1)).getD undef))) (Need (ltI (↑i : Int) (↑len : Int)) (Need (isInt IntKind.i64 ((getO ca (0 + (↑i : Int).toNat * 4 + 1)).getD undef))
((nojL [Value.int IntKind.i64 mr, Value.slice (some { block := 1, off := 0, spot := some 1 : Addr }) m2 k2] = true ∧ FlatL cz ∧ True) ∧ (IsP tkF tkG TkOk cz m2 k2 ∧ Need (leN m2 1000000) True) ∧ Alt (!(ownR x (tksAt cz
m2)).isSome) (Need (beqV 64 (Value.string x) (Value.string x)) (Need (isInt IntKind.i64 ((getO ca (0 + (↑i : Int).toNat * 4 + 1)).getD undef)) (Need (beqV 64 (Value.int IntKind.i64 (intV ((getO ca (0 + (↑i : Int).toNat *
4 + 1)).getD undef))) (Value.int IntKind.i64 (intV ((getO ca (0 + (↑i : Int).toNat * 4 + 1)).getD undef)))) (Need (beqV 64 (Value.pointer (some { block := 0, off := 0 + (↑i : Int).toNat * 4 + 1 : Addr })) (Value.pointer
(some { block := 0, off := 0 + (↑i : Int).toNat * 4 + 1 : Addr }))) (Need (ltI (↑i : Int) (↑len : Int)) (Need (beqV 64 (Value.pointer (some { block := 0, off := 0 + (↑i : Int).toNat * 4 : Addr })) (Value.pointer (some
{ block := 0, off := 0 + (↑i : Int).toNat * 4 : Addr }))) (Need (beqV 64 (Value.int IntKind.i64 (↑i : Int)) (Value.int IntKind.i64 (↑i : Int))) (Need (beqV 64 (Value.slice (some
{ block := 0, off := 0, spot := s1 : Addr }) len k1) (Value.slice (some { block := 0, off := 0, spot := s1 : Addr }) len k1)) (FlatD [1, 2] (hp [Blk.cells ca 4 false, Blk.cells [Value.int IntKind.i64 mo, Value.slice
(some { block := 3, off := 0, spot := some 1 : Addr }) m k] 2 true, Blk.cells [Value.int IntKind.i64 mr, Value.slice (some { block := 4, off := 0, spot := some 1 : Addr }) m2 k2] 2 true, Blk.cells cy 2 true, Blk.cells cz
2 true]) ∧ ∃ (b : St19), tmps 156 [(1, Value.slice (some { block := 0, off := 0, spot := s1 : Addr }) len k1), (2, Value.int IntKind.i64 owner), (7, Value.pointer (some { block := 1, off := 0 : Addr })), (8,
Value.pointer (some { block := 2, off := 0 : Addr })), (9, Value.int IntKind.i64 (↑i : Int)), (10, Value.string x), (11, Value.bool true)] = tmps 156 [(1, Value.slice (some { block := 0, off := 0, spot := s1 : Addr })
len k1), (2, Value.int IntKind.i64 owner), (7, Value.pointer (some { block := 1, off := 0 : Addr })), (8, Value.pointer (some { block := 2, off := 0 : Addr })), (9, Value.int IntKind.i64 (↑i : Int)), (10, Value.string
x), (11, Value.bool true)] ∧ hp [Blk.cells ca 4 false, Blk.cells [Value.int IntKind.i64 mo, Value.slice (some { block := 3, off := 0, spot := some 1 : Addr }) m k] 2 true, Blk.cells [Value.int IntKind.i64 mr, Value.slice
(some { block := 4, off := 0, spot := some 1 : Addr }) m2 k2] 2 true, Blk.cells cy 2 true, Blk.cells cz 2 true] = hp [Blk.cells ca 4 false, Blk.cells [Value.int IntKind.i64 mo, Value.slice (some
{ block := 3, off := 0, spot := some 1 : Addr }) b.m b.k] 2 true, Blk.cells [Value.int IntKind.i64 mr, Value.slice (some { block := 4, off := 0, spot := some 1 : Addr }) b.m2 b.k2] 2 true, Blk.cells b.cy 2 true,
Blk.cells b.cz 2 true] ∧ Tok2 (i + 1) b ∧ K AE.normal (tmps 156 [(1, Value.slice (some { block := 0, off := 0, spot := s1 : Addr }) len k1), (2, Value.int IntKind.i64 owner), (7, Value.pointer (some
{ block := 1, off := 0 : Addr })), (8, Value.pointer (some { block := 2, off := 0 : Addr })), (9, Value.int IntKind.i64 (↑i : Int))]) (hp [Blk.cells ca 4 false, Blk.cells [Value.int IntKind.i64 mo, Value.slice (some
{ block := 3, off := 0, spot := some 1 : Addr }) b.m b.k] 2 true, Blk.cells [Value.int IntKind.i64 mr, Value.slice (some { block := 4, off := 0, spot := some 1 : Addr }) b.m2 b.k2] 2 true, Blk.cells b.cy 2 true,
Blk.cells b.cz 2 true])))))))))) (Alt (!eqI ((ownR x (tksAt cz m2)).getD 0) (intV ((getO ca (0 + (↑i : Int).toNat * 4 + 1)).getD undef))) (Need (beqV 64 (Value.string x) (Value.string x)) (Need (isInt IntKind.i64 ((getO
ca (0 + (↑i : Int).toNat * 4 + 1)).getD undef)) (Need (beqV 64 (Value.int IntKind.i64 (intV ((getO ca (0 + (↑i : Int).toNat * 4 + 1)).getD undef))) (Value.int IntKind.i64 (intV ((getO ca (0 + (↑i : Int).toNat * 4 +
1)).getD undef)))) (Need (beqV 64 (Value.pointer (some { block := 0, off := 0 + (↑i : Int).toNat * 4 + 1 : Addr })) (Value.pointer (some { block := 0, off := 0 + (↑i : Int).toNat * 4 + 1 : Addr }))) (Need (ltI (↑i : Int)
(↑len : Int)) (Need (beqV 64 (Value.pointer (some { block := 0, off := 0 + (↑i : Int).toNat * 4 : Addr })) (Value.pointer (some { block := 0, off := 0 + (↑i : Int).toNat * 4 : Addr }))) (Need (beqV 64 (Value.int
IntKind.i64 (↑i : Int)) (Value.int IntKind.i64 (↑i : Int))) (Need (beqV 64 (Value.slice (some { block := 0, off := 0, spot := s1 : Addr }) len k1) (Value.slice (some { block := 0, off := 0, spot := s1 : Addr }) len k1))
(FlatD [1, 2] (hp [Blk.cells ca 4 false, Blk.cells [Value.int IntKind.i64 mo, Value.slice (some { block := 3, off := 0, spot := some 1 : Addr }) m k] 2 true, Blk.cells [Value.int IntKind.i64 mr, Value.slice (some
{ block := 4, off := 0, spot := some 1 : Addr }) m2 k2] 2 true, Blk.cells cy 2 true, Blk.cells cz 2 true]) ∧ ∃ (b : St19), tmps 156 [(1, Value.slice (some { block := 0, off := 0, spot := s1 : Addr }) len k1), (2,
Value.int IntKind.i64 owner), (7, Value.pointer (some { block := 1, off := 0 : Addr })), (8, Value.pointer (some { block := 2, off := 0 : Addr })), (9, Value.int IntKind.i64 (↑i : Int)), (10, Value.string x), (11,
Value.bool true)] = tmps 156 [(1, Value.slice (some { block := 0, off := 0, spot := s1 : Addr }) len k1), (2, Value.int IntKind.i64 owner), (7, Value.pointer (some { block := 1, off := 0 : Addr })), (8, Value.pointer
(some { block := 2, off := 0 : Addr })), (9, Value.int IntKind.i64 (↑i : Int)), (10, Value.string x), (11, Value.bool true)] ∧ hp [Blk.cells ca 4 false, Blk.cells [Value.int IntKind.i64 mo, Value.slice (some
{ block := 3, off := 0, spot := some 1 : Addr }) m k] 2 true, Blk.cells [Value.int IntKind.i64 mr, Value.slice (some { block := 4, off := 0, spot := some 1 : Addr }) m2 k2] 2 true, Blk.cells cy 2 true, Blk.cells cz 2
true] = hp [Blk.cells ca 4 false, Blk.cells [Value.int IntKind.i64 mo, Value.slice (some { block := 3, off := 0, spot := some 1 : Addr }) b.m b.k] 2 true, Blk.cells [Value.int IntKind.i64 mr, Value.slice (some
{ block := 4, off := 0, spot := some 1 : Addr }) b.m2 b.k2] 2 true, Blk.cells b.cy 2 true, Blk.cells b.cz 2 true] ∧ Tok2 (i + 1) b ∧ K AE.normal (tmps 156 [(1, Value.slice (some
{ block := 0, off := 0, spot := s1 : Addr }) len k1), (2, Value.int IntKind.i64 owner), (7, Value.pointer (some { block := 1, off := 0 : Addr })), (8, Value.pointer (some { block := 2, off := 0 : Addr })), (9, Value.int
IntKind.i64 (↑i : Int))]) (hp [Blk.cells ca 4 false, Blk.cells [Value.int IntKind.i64 mo, Value.slice (some { block := 3, off := 0, spot := some 1 : Addr }) b.m b.k] 2 true, Blk.cells [Value.int IntKind.i64 mr,
Value.slice (some { block := 4, off := 0, spot := some 1 : Addr }) b.m2 b.k2] 2 true, Blk.cells b.cy 2 true, Blk.cells b.cz 2 true])))))))))) (Alt (eqI (intV ((getO ca (0 + (↑i : Int).toNat * 4 + 1)).getD undef)) 0)
((nojL [Value.int IntKind.i64 mr, Value.slice (some { block := 1, off := 0, spot := some 1 : Addr }) m2 k2] = true ∧ FlatL cz ∧ True) ∧ (IsP tkF tkG TkOk cz m2 k2 ∧ Need (leN m2 1000000) True) ∧ ∀ (x_1 : List Value), IsS
(ofL 0 (tksAt cz m2)) x_1 (ofL 0 (tksAt cz m2)).length (ofL 0 (tksAt cz m2)).length → Alt (eqI (↑(ofL 0 (tksAt cz m2)).length : Int) 1) (Need (beqV 64 (Value.string x) (Value.string x)) (Need (isInt IntKind.i64 ((getO ca
(0 + (↑i : Int).toNat * 4 + 1)).getD undef)) (Need (beqV 64 (Value.int IntKind.i64 (intV ((getO ca (0 + (↑i : Int).toNat * 4 + 1)).getD undef))) (Value.int IntKind.i64 (intV ((getO ca (0 + (↑i : Int).toNat * 4 + 1)).getD
undef)))) (Need (beqV 64 (Value.pointer (some { block := 0, off := 0 + (↑i : Int).toNat * 4 + 1 : Addr })) (Value.pointer (some { block := 0, off := 0 + (↑i : Int).toNat * 4 + 1 : Addr }))) (Need (ltI (↑i : Int) (↑len :
Int)) (Need (beqV 64 (Value.pointer (some { block := 0, off := 0 + (↑i : Int).toNat * 4 : Addr })) (Value.pointer (some { block := 0, off := 0 + (↑i : Int).toNat * 4 : Addr }))) (Need (beqV 64 (Value.int IntKind.i64 (↑i
: Int)) (Value.int IntKind.i64 (↑i : Int))) (Need (beqV 64 (Value.slice (some { block := 0, off := 0, spot := s1 : Addr }) len k1) (Value.slice (some { block := 0, off := 0, spot := s1 : Addr }) len k1)) (FlatD [1, 2]
(hp [Blk.cells ca 4 false, Blk.cells [Value.int IntKind.i64 mo, Value.slice (some { block := 3, off := 0, spot := some 1 : Addr }) m k] 2 true, Blk.cells [Value.int IntKind.i64 mr, Value.slice (some
{ block := 4, off := 0, spot := some 1 : Addr }) m2 k2] 2 true, Blk.cells cy 2 true, Blk.cells cz 2 true]) ∧ ∃ (b : St19), tmps 156 [(1, Value.slice (some { block := 0, off := 0, spot := s1 : Addr }) len k1), (2,
Value.int IntKind.i64 owner), (7, Value.pointer (some { block := 1, off := 0 : Addr })), (8, Value.pointer (some { block := 2, off := 0 : Addr })), (9, Value.int IntKind.i64 (↑i : Int)), (10, Value.string x), (11,
Value.bool false)] = tmps 156 [(1, Value.slice (some { block := 0, off := 0, spot := s1 : Addr }) len k1), (2, Value.int IntKind.i64 owner), (7, Value.pointer (some { block := 1, off := 0 : Addr })), (8, Value.pointer
(some { block := 2, off := 0 : Addr })), (9, Value.int IntKind.i64 (↑i : Int)), (10, Value.string x), (11, Value.bool true)] ∧ hp [Blk.cells ca 4 false, Blk.cells [Value.int IntKind.i64 mo, Value.slice (some
{ block := 3, off := 0, spot := some 1 : Addr }) m k] 2 true, Blk.cells [Value.int IntKind.i64 mr, Value.slice (some { block := 4, off := 0, spot := some 1 : Addr }) m2 k2] 2 true, Blk.cells cy 2 true, Blk.cells cz 2
true] = hp [Blk.cells ca 4 false, Blk.cells [Value.int IntKind.i64 mo, Value.slice (some { block := 3, off := 0, spot := some 1 : Addr }) b.m b.k] 2 true, Blk.cells [Value.int IntKind.i64 mr, Value.slice (some
{ block := 4, off := 0, spot := some 1 : Addr }) b.m2 b.k2] 2 true, Blk.cells b.cy 2 true, Blk.cells b.cz 2 true] ∧ Tok2 (i + 1) b ∧ K AE.normal (tmps 156 [(1, Value.slice (some
{ block := 0, off := 0, spot := s1 : Addr }) len k1), (2, Value.int IntKind.i64 owner), (7, Value.pointer (some { block := 1, off := 0 : Addr })), (8, Value.pointer (some { block := 2, off := 0 : Addr })), (9, Value.int
IntKind.i64 (↑i : Int))]) (hp [Blk.cells ca 4 false, Blk.cells [Value.int IntKind.i64 mo, Value.slice (some { block := 3, off := 0, spot := some 1 : Addr }) b.m b.k] 2 true, Blk.cells [Value.int IntKind.i64 mr,
Value.slice (some { block := 4, off := 0, spot := some 1 : Addr }) b.m2 b.k2] 2 true, Blk.cells b.cy 2 true, Blk.cells b.cz 2 true])))))))))) ((nojL [Value.int IntKind.i64 mr, Value.slice (some
{ block := 1, off := 0, spot := some 1 : Addr }) m2 k2] = true ∧ FlatL cz ∧ True) ∧ (IsP tkF tkG TkOk cz m2 k2 ∧ Need (leN m2 1000000) True) ∧ ∀ (x_2 : List Value), IsTE (cutR x (tksAt cz m2)) x_2 (cutR x (tksAt cz
m2)).length (cutR x (tksAt cz m2)).length → Need (beqV 64 (Value.string x) (Value.string x)) (Need (isInt IntKind.i64 ((getO ca (0 + (↑i : Int).toNat * 4 + 1)).getD undef)) (Need (beqV 64 (Value.int IntKind.i64 (intV
((getO ca (0 + (↑i : Int).toNat * 4 + 1)).getD undef))) (Value.int IntKind.i64 (intV ((getO ca (0 + (↑i : Int).toNat * 4 + 1)).getD undef)))) (Need (beqV 64 (Value.pointer (some
{ block := 0, off := 0 + (↑i : Int).toNat * 4 + 1 : Addr })) (Value.pointer (some { block := 0, off := 0 + (↑i : Int).toNat * 4 + 1 : Addr }))) (Need (ltI (↑i : Int) (↑len : Int)) (Need (beqV 64 (Value.pointer (some
{ block := 0, off := 0 + (↑i : Int).toNat * 4 : Addr })) (Value.pointer (some { block := 0, off := 0 + (↑i : Int).toNat * 4 : Addr }))) (Need (beqV 64 (Value.int IntKind.i64 (↑i : Int)) (Value.int IntKind.i64 (↑i :
Int))) (Need (beqV 64 (Value.slice (some { block := 0, off := 0, spot := s1 : Addr }) len k1) (Value.slice (some { block := 0, off := 0, spot := s1 : Addr }) len k1)) (FlatD [1, 2] (hp [Blk.cells ca 4 false, Blk.cells
[Value.int IntKind.i64 mo, Value.slice (some { block := 3, off := 0, spot := some 1 : Addr }) m k] 2 true, Blk.cells [Value.int IntKind.i64 mr, Value.slice (some { block := 4, off := 0, spot := some 1 : Addr }) (cutR x
(tksAt cz m2)).length (cutR x (tksAt cz m2)).length] 2 true, Blk.cells cy 2 true, Blk.cells x_2 2 true]) ∧ ∃ (b : St19), tmps 156 [(1, Value.slice (some { block := 0, off := 0, spot := s1 : Addr }) len k1), (2, Value.int
IntKind.i64 owner), (7, Value.pointer (some { block := 1, off := 0 : Addr })), (8, Value.pointer (some { block := 2, off := 0 : Addr })), (9, Value.int IntKind.i64 (↑i : Int)), (10, Value.string x), (11, Value.bool
false)] = tmps 156 [(1, Value.slice (some { block := 0, off := 0, spot := s1 : Addr }) len k1), (2, Value.int IntKind.i64 owner), (7, Value.pointer (some { block := 1, off := 0 : Addr })), (8, Value.pointer (some
{ block := 2, off := 0 : Addr })), (9, Value.int IntKind.i64 (↑i : Int)), (10, Value.string x), (11, Value.bool true)] ∧ hp [Blk.cells ca 4 false, Blk.cells [Value.int IntKind.i64 mo, Value.slice (some
{ block := 3, off := 0, spot := some 1 : Addr }) m k] 2 true, Blk.cells [Value.int IntKind.i64 mr, Value.slice (some { block := 4, off := 0, spot := some 1 : Addr }) (cutR x (tksAt cz m2)).length (cutR x (tksAt cz
m2)).length] 2 true, Blk.cells cy 2 true, Blk.cells x_2 2 true] = hp [Blk.cells ca 4 false, Blk.cells [Value.int IntKind.i64 mo, Value.slice (some { block := 3, off := 0, spot := some 1 : Addr }) b.m b.k] 2 true,
Blk.cells [Value.int IntKind.i64 mr, Value.slice (some { block := 4, off := 0, spot := some 1 : Addr }) b.m2 b.k2] 2 true, Blk.cells b.cy 2 true, Blk.cells b.cz 2 true] ∧ Tok2 (i + 1) b ∧ K AE.normal (tmps 156 [(1,
Value.slice (some { block := 0, off := 0, spot := s1 : Addr }) len k1), (2, Value.int IntKind.i64 owner), (7, Value.pointer (some { block := 1, off := 0 : Addr })), (8, Value.pointer (some
{ block := 2, off := 0 : Addr })), (9, Value.int IntKind.i64 (↑i : Int))]) (hp [Blk.cells ca 4 false, Blk.cells [Value.int IntKind.i64 mo, Value.slice (some { block := 3, off := 0, spot := some 1 : Addr }) b.m b.k] 2
true, Blk.cells [Value.int IntKind.i64 mr, Value.slice (some { block := 4, off := 0, spot := some 1 : Addr }) b.m2 b.k2] 2 true, Blk.cells b.cy 2 true, Blk.cells b.cz 2 true]))))))))))) ((nojL [Value.int IntKind.i64 mr,
Value.slice (some { block := 1, off := 0, spot := some 1 : Addr }) m2 k2] = true ∧ FlatL cz ∧ True) ∧ (IsP tkF tkG TkOk cz m2 k2 ∧ Need (leN m2 1000000) True) ∧ ∀ (x_1 : List Value), IsTE (cutR x (tksAt cz m2)) x_1 (cutR
x (tksAt cz m2)).length (cutR x (tksAt cz m2)).length → Need (beqV 64 (Value.string x) (Value.string x)) (Need (isInt IntKind.i64 ((getO ca (0 + (↑i : Int).toNat * 4 + 1)).getD undef)) (Need (beqV 64 (Value.int
IntKind.i64 (intV ((getO ca (0 + (↑i : Int).toNat * 4 + 1)).getD undef))) (Value.int IntKind.i64 (intV ((getO ca (0 + (↑i : Int).toNat * 4 + 1)).getD undef)))) (Need (beqV 64 (Value.pointer (some
{ block := 0, off := 0 + (↑i : Int).toNat * 4 + 1 : Addr })) (Value.pointer (some { block := 0, off := 0 + (↑i : Int).toNat * 4 + 1 : Addr }))) (Need (ltI (↑i : Int) (↑len : Int)) (Need (beqV 64 (Value.pointer (some
{ block := 0, off := 0 + (↑i : Int).toNat * 4 : Addr })) (Value.pointer (some { block := 0, off := 0 + (↑i : Int).toNat * 4 : Addr }))) (Need (beqV 64 (Value.int IntKind.i64 (↑i : Int)) (Value.int IntKind.i64 (↑i :
Int))) (Need (beqV 64 (Value.slice (some { block := 0, off := 0, spot := s1 : Addr }) len k1) (Value.slice (some { block := 0, off := 0, spot := s1 : Addr }) len k1)) (FlatD [1, 2] (hp [Blk.cells ca 4 false, Blk.cells
[Value.int IntKind.i64 mo, Value.slice (some { block := 3, off := 0, spot := some 1 : Addr }) m k] 2 true, Blk.cells [Value.int IntKind.i64 mr, Value.slice (some { block := 4, off := 0, spot := some 1 : Addr }) (cutR x
(tksAt cz m2)).length (cutR x (tksAt cz m2)).length] 2 true, Blk.cells cy 2 true, Blk.cells x_1 2 true]) ∧ ∃ (b : St19), tmps 156 [(1, Value.slice (some { block := 0, off := 0, spot := s1 : Addr }) len k1), (2, Value.int
IntKind.i64 owner), (7, Value.pointer (some { block := 1, off := 0 : Addr })), (8, Value.pointer (some { block := 2, off := 0 : Addr })), (9, Value.int IntKind.i64 (↑i : Int)), (10, Value.string x), (11, Value.bool
false)] = tmps 156 [(1, Value.slice (some { block := 0, off := 0, spot := s1 : Addr }) len k1), (2, Value.int IntKind.i64 owner), (7, Value.pointer (some { block := 1, off := 0 : Addr })), (8, Value.pointer (some
{ block := 2, off := 0 : Addr })), (9, Value.int IntKind.i64 (↑i : Int)), (10, Value.string x), (11, Value.bool true)] ∧ hp [Blk.cells ca 4 false, Blk.cells [Value.int IntKind.i64 mo, Value.slice (some
{ block := 3, off := 0, spot := some 1 : Addr }) m k] 2 true, Blk.cells [Value.int IntKind.i64 mr, Value.slice (some { block := 4, off := 0, spot := some 1 : Addr }) (cutR x (tksAt cz m2)).length (cutR x (tksAt cz
m2)).length] 2 true, Blk.cells cy 2 true, Blk.cells x_1 2 true] = hp [Blk.cells ca 4 false, Blk.cells [Value.int IntKind.i64 mo, Value.slice (some { block := 3, off := 0, spot := some 1 : Addr }) b.m b.k] 2 true,
Blk.cells [Value.int IntKind.i64 mr, Value.slice (some { block := 4, off := 0, spot := some 1 : Addr }) b.m2 b.k2] 2 true, Blk.cells b.cy 2 true, Blk.cells b.cz 2 true] ∧ Tok2 (i + 1) b ∧ K AE.normal (tmps 156 [(1,
Value.slice (some { block := 0, off := 0, spot := s1 : Addr }) len k1), (2, Value.int IntKind.i64 owner), (7, Value.pointer (some { block := 1, off := 0 : Addr })), (8, Value.pointer (some
{ block := 2, off := 0 : Addr })), (9, Value.int IntKind.i64 (↑i : Int))]) (hp [Blk.cells ca 4 false, Blk.cells [Value.int IntKind.i64 mo, Value.slice (some { block := 3, off := 0, spot := some 1 : Addr }) b.m b.k] 2
true, Blk.cells [Value.int IntKind.i64 mr, Value.slice (some { block := 4, off := 0, spot := some 1 : Addr }) b.m2 b.k2] 2 true, Blk.cells b.cy 2 true, Blk.cells b.cz 2 true]))))))))))))))) (Alt (eqI (intV ((getO ca (0 +
(↑i : Int).toNat * 4 + 1)).getD undef)) 0) ((nojL [Value.int IntKind.i64 mo, Value.slice (some { block := 1, off := 0, spot := some 1 : Addr }) m k] = true ∧ FlatL cy ∧ True) ∧ (IsP tkF tkG TkOk cy m k ∧ Need (leN m
1000000) True) ∧ ∀ (x_1 : List Value × Nat), IsS (srt (ofL 0 (tksAt cy m))) x_1.fst (ofL 0 (tksAt cy m)).length x_1.snd → Alt (eqI (↑(ofL 0 (tksAt cy m)).length : Int) 1) (Need (ltI (↑i : Int) (↑len : Int)) (Need (isInt
IntKind.i64 ((getO ca (0 + (↑i : Int).toNat * 4 + 1)).getD undef)) ((nojL [Value.int IntKind.i64 mr, Value.slice (some { block := 1, off := 0, spot := some 1 : Addr }) m2 k2] = true ∧ FlatL cz ∧ True) ∧ (IsP tkF tkG TkOk
cz m2 k2 ∧ Need (leN m2 1000000) True) ∧ Alt (!(ownR x (tksAt cz m2)).isSome) (Need (beqV 64 (Value.string x) (Value.string x)) (Need (isInt IntKind.i64 ((getO ca (0 + (↑i : Int).toNat * 4 + 1)).getD undef)) (Need (beqV
64 (Value.int IntKind.i64 (intV ((getO ca (0 + (↑i : Int).toNat * 4 + 1)).getD undef))) (Value.int IntKind.i64 (intV ((getO ca (0 + (↑i : Int).toNat * 4 + 1)).getD undef)))) (Need (beqV 64 (Value.pointer (some
{ block := 0, off := 0 + (↑i : Int).toNat * 4 + 1 : Addr })) (Value.pointer (some { block := 0, off := 0 + (↑i : Int).toNat * 4 + 1 : Addr }))) (Need (ltI (↑i : Int) (↑len : Int)) (Need (beqV 64 (Value.pointer (some
{ block := 0, off := 0 + (↑i : Int).toNat * 4 : Addr })) (Value.pointer (some { block := 0, off := 0 + (↑i : Int).toNat * 4 : Addr }))) (Need (beqV 64 (Value.int IntKind.i64 (↑i : Int)) (Value.int IntKind.i64 (↑i :
Int))) (Need (beqV 64 (Value.slice (some { block := 0, off := 0, spot := s1 : Addr }) len k1) (Value.slice (some { block := 0, off := 0, spot := s1 : Addr }) len k1)) (FlatD [1, 2] (hp [Blk.cells ca 4 false, Blk.cells
[Value.int IntKind.i64 mo, Value.slice (some { block := 3, off := 0, spot := some 1 : Addr }) m k] 2 true, Blk.cells [Value.int IntKind.i64 mr, Value.slice (some { block := 4, off := 0, spot := some 1 : Addr }) m2 k2] 2
true, Blk.cells cy 2 true, Blk.cells cz 2 true]) ∧ ∃ (b : St19), tmps 156 [(1, Value.slice (some { block := 0, off := 0, spot := s1 : Addr }) len k1), (2, Value.int IntKind.i64 owner), (7, Value.pointer (some
{ block := 1, off := 0 : Addr })), (8, Value.pointer (some { block := 2, off := 0 : Addr })), (9, Value.int IntKind.i64 (↑i : Int)), (10, Value.string x), (11, Value.bool false)] = tmps 156 [(1, Value.slice (some
{ block := 0, off := 0, spot := s1 : Addr }) len k1), (2, Value.int IntKind.i64 owner), (7, Value.pointer (some { block := 1, off := 0 : Addr })), (8, Value.pointer (some { block := 2, off := 0 : Addr })), (9, Value.int
IntKind.i64 (↑i : Int)), (10, Value.string x), (11, Value.bool true)] ∧ hp [Blk.cells ca 4 false, Blk.cells [Value.int IntKind.i64 mo, Value.slice (some { block := 3, off := 0, spot := some 1 : Addr }) m k] 2 true,
Blk.cells [Value.int IntKind.i64 mr, Value.slice (some { block := 4, off := 0, spot := some 1 : Addr }) m2 k2] 2 true, Blk.cells cy 2 true, Blk.cells cz 2 true] = hp [Blk.cells ca 4 false, Blk.cells [Value.int
IntKind.i64 mo, Value.slice (some { block := 3, off := 0, spot := some 1 : Addr }) b.m b.k] 2 true, Blk.cells [Value.int IntKind.i64 mr, Value.slice (some { block := 4, off := 0, spot := some 1 : Addr }) b.m2 b.k2] 2
true, Blk.cells b.cy 2 true, Blk.cells b.cz 2 true] ∧ Tok2 (i + 1) b ∧ K AE.normal (tmps 156 [(1, Value.slice (some { block := 0, off := 0, spot := s1 : Addr }) len k1), (2, Value.int IntKind.i64 owner), (7,
Value.pointer (some { block := 1, off := 0 : Addr })), (8, Value.pointer (some { block := 2, off := 0 : Addr })), (9, Value.int IntKind.i64 (↑i : Int))]) (hp [Blk.cells ca 4 false, Blk.cells [Value.int IntKind.i64 mo,
Value.slice (some { block := 3, off := 0, spot := some 1 : Addr }) b.m b.k] 2 true, Blk.cells [Value.int IntKind.i64 mr, Value.slice (some { block := 4, off := 0, spot := some 1 : Addr }) b.m2 b.k2] 2 true, Blk.cells
b.cy 2 true, Blk.cells b.cz 2 true])))))))))) (Alt (!eqI ((ownR x (tksAt cz m2)).getD 0) (intV ((getO ca (0 + (↑i : Int).toNat * 4 + 1)).getD undef))) (Need (beqV 64 (Value.string x) (Value.string x)) (Need (isInt
IntKind.i64 ((getO ca (0 + (↑i : Int).toNat * 4 + 1)).getD undef)) (Need (beqV 64 (Value.int IntKind.i64 (intV ((getO ca (0 + (↑i : Int).toNat * 4 + 1)).getD undef))) (Value.int IntKind.i64 (intV ((getO ca (0 + (↑i :
Int).toNat * 4 + 1)).getD undef)))) (Need (beqV 64 (Value.pointer (some { block := 0, off := 0 + (↑i : Int).toNat * 4 + 1 : Addr })) (Value.pointer (some { block := 0, off := 0 + (↑i : Int).toNat * 4 + 1 : Addr })))
(Need (ltI (↑i : Int) (↑len : Int)) (Need (beqV 64 (Value.pointer (some { block := 0, off := 0 + (↑i : Int).toNat * 4 : Addr })) (Value.pointer (some { block := 0, off := 0 + (↑i : Int).toNat * 4 : Addr }))) (Need (beqV
64 (Value.int IntKind.i64 (↑i : Int)) (Value.int IntKind.i64 (↑i : Int))) (Need (beqV 64 (Value.slice (some { block := 0, off := 0, spot := s1 : Addr }) len k1) (Value.slice (some
{ block := 0, off := 0, spot := s1 : Addr }) len k1)) (FlatD [1, 2] (hp [Blk.cells ca 4 false, Blk.cells [Value.int IntKind.i64 mo, Value.slice (some { block := 3, off := 0, spot := some 1 : Addr }) m k] 2 true,
Blk.cells [Value.int IntKind.i64 mr, Value.slice (some { block := 4, off := 0, spot := some 1 : Addr }) m2 k2] 2 true, Blk.cells cy 2 true, Blk.cells cz 2 true]) ∧ ∃ (b : St19), tmps 156 [(1, Value.slice (some
{ block := 0, off := 0, spot := s1 : Addr }) len k1), (2, Value.int IntKind.i64 owner), (7, Value.pointer (some { block := 1, off := 0 : Addr })), (8, Value.pointer (some { block := 2, off := 0 : Addr })), (9, Value.int
IntKind.i64 (↑i : Int)), (10, Value.string x), (11, Value.bool false)] = tmps 156 [(1, Value.slice (some { block := 0, off := 0, spot := s1 : Addr }) len k1), (2, Value.int IntKind.i64 owner), (7, Value.pointer (some
{ block := 1, off := 0 : Addr })), (8, Value.pointer (some { block := 2, off := 0 : Addr })), (9, Value.int IntKind.i64 (↑i : Int)), (10, Value.string x), (11, Value.bool true)] ∧ hp [Blk.cells ca 4 false, Blk.cells
[Value.int IntKind.i64 mo, Value.slice (some { block := 3, off := 0, spot := some 1 : Addr }) m k] 2 true, Blk.cells [Value.int IntKind.i64 mr, Value.slice (some { block := 4, off := 0, spot := some 1 : Addr }) m2 k2] 2
true, Blk.cells cy 2 true, Blk.cells cz 2 true] = hp [Blk.cells ca 4 false, Blk.cells [Value.int IntKind.i64 mo, Value.slice (some { block := 3, off := 0, spot := some 1 : Addr }) b.m b.k] 2 true, Blk.cells [Value.int
IntKind.i64 mr, Value.slice (some { block := 4, off := 0, spot := some 1 : Addr }) b.m2 b.k2] 2 true, Blk.cells b.cy 2 true, Blk.cells b.cz 2 true] ∧ Tok2 (i + 1) b ∧ K AE.normal (tmps 156 [(1, Value.slice (some
{ block := 0, off := 0, spot := s1 : Addr }) len k1), (2, Value.int IntKind.i64 owner), (7, Value.pointer (some { block := 1, off := 0 : Addr })), (8, Value.pointer (some { block := 2, off := 0 : Addr })), (9, Value.int
IntKind.i64 (↑i : Int))]) (hp [Blk.cells ca 4 false, Blk.cells [Value.int IntKind.i64 mo, Value.slice (some { block := 3, off := 0, spot := some 1 : Addr }) b.m b.k] 2 true, Blk.cells [Value.int IntKind.i64 mr,
Value.slice (some { block := 4, off := 0, spot := some 1 : Addr }) b.m2 b.k2] 2 true, Blk.cells b.cy 2 true, Blk.cells b.cz 2 true])))))))))) (Alt (eqI (intV ((getO ca (0 + (↑i : Int).toNat * 4 + 1)).getD undef)) 0)
((nojL [Value.int IntKind.i64 mr, Value.slice (some { block := 1, off := 0, spot := some 1 : Addr }) m2 k2] = true ∧ FlatL cz ∧ True) ∧ (IsP tkF tkG TkOk cz m2 k2 ∧ Need (leN m2 1000000) True) ∧ ∀ (x_2 : List Value), IsS
(ofL 0 (tksAt cz m2)) x_2 (ofL 0 (tksAt cz m2)).length (ofL 0 (tksAt cz m2)).length → Alt (eqI (↑(ofL 0 (tksAt cz m2)).length : Int) 1) (Need (beqV 64 (Value.string x) (Value.string x)) (Need (isInt IntKind.i64 ((getO ca
(0 + (↑i : Int).toNat * 4 + 1)).getD undef)) (Need (beqV 64 (Value.int IntKind.i64 (intV ((getO ca (0 + (↑i : Int).toNat * 4 + 1)).getD undef))) (Value.int IntKind.i64 (intV ((getO ca (0 + (↑i : Int).toNat * 4 + 1)).getD
undef)))) (Need (beqV 64 (Value.pointer (some { block := 0, off := 0 + (↑i : Int).toNat * 4 + 1 : Addr })) (Value.pointer (some { block := 0, off := 0 + (↑i : Int).toNat * 4 + 1 : Addr }))) (Need (ltI (↑i : Int) (↑len :
Int)) (Need (beqV 64 (Value.pointer (some { block := 0, off := 0 + (↑i : Int).toNat * 4 : Addr })) (Value.pointer (some { block := 0, off := 0 + (↑i : Int).toNat * 4 : Addr }))) (Need (beqV 64 (Value.int IntKind.i64 (↑i
: Int)) (Value.int IntKind.i64 (↑i : Int))) (Need (beqV 64 (Value.slice (some { block := 0, off := 0, spot := s1 : Addr }) len k1) (Value.slice (some { block := 0, off := 0, spot := s1 : Addr }) len k1)) (FlatD [1, 2]
(hp [Blk.cells ca 4 false, Blk.cells [Value.int IntKind.i64 mo, Value.slice (some { block := 3, off := 0, spot := some 1 : Addr }) m k] 2 true, Blk.cells [Value.int IntKind.i64 mr, Value.slice (some
{ block := 4, off := 0, spot := some 1 : Addr }) m2 k2] 2 true, Blk.cells cy 2 true, Blk.cells cz 2 true]) ∧ ∃ (b : St19), tmps 156 [(1, Value.slice (some { block := 0, off := 0, spot := s1 : Addr }) len k1), (2,
Value.int IntKind.i64 owner), (7, Value.pointer (some { block := 1, off := 0 : Addr })), (8, Value.pointer (some { block := 2, off := 0 : Addr })), (9, Value.int IntKind.i64 (↑i : Int)), (10, Value.string x), (11,
Value.bool true)] = tmps 156 [(1, Value.slice (some { block := 0, off := 0, spot := s1 : Addr }) len k1), (2, Value.int IntKind.i64 owner), (7, Value.pointer (some { block := 1, off := 0 : Addr })), (8, Value.pointer
(some { block := 2, off := 0 : Addr })), (9, Value.int IntKind.i64 (↑i : Int)), (10, Value.string x), (11, Value.bool true)] ∧ hp [Blk.cells ca 4 false, Blk.cells [Value.int IntKind.i64 mo, Value.slice (some
{ block := 3, off := 0, spot := some 1 : Addr }) m k] 2 true, Blk.cells [Value.int IntKind.i64 mr, Value.slice (some { block := 4, off := 0, spot := some 1 : Addr }) m2 k2] 2 true, Blk.cells cy 2 true, Blk.cells cz 2
true] = hp [Blk.cells ca 4 false, Blk.cells [Value.int IntKind.i64 mo, Value.slice (some { block := 3, off := 0, spot := some 1 : Addr }) b.m b.k] 2 true, Blk.cells [Value.int IntKind.i64 mr, Value.slice (some
{ block := 4, off := 0, spot := some 1 : Addr }) b.m2 b.k2] 2 true, Blk.cells b.cy 2 true, Blk.cells b.cz 2 true] ∧ Tok2 (i + 1) b ∧ K AE.normal (tmps 156 [(1, Value.slice (some
{ block := 0, off := 0, spot := s1 : Addr }) len k1), (2, Value.int IntKind.i64 owner), (7, Value.pointer (some { block := 1, off := 0 : Addr })), (8, Value.pointer (some { block := 2, off := 0 : Addr })), (9, Value.int
IntKind.i64 (↑i : Int))]) (hp [Blk.cells ca 4 false, Blk.cells [Value.int IntKind.i64 mo, Value.slice (some { block := 3, off := 0, spot := some 1 : Addr }) b.m b.k] 2 true, Blk.cells [Value.int IntKind.i64 mr,
Value.slice (some { block := 4, off := 0, spot := some 1 : Addr }) b.m2 b.k2] 2 true, Blk.cells b.cy 2 true, Blk.cells b.cz 2 true])))))))))) ((nojL [Value.int IntKind.i64 mr, Value.slice (some
{ block := 1, off := 0, spot := some 1 : Addr }) m2 k2] = true ∧ FlatL cz ∧ True) ∧ (IsP tkF tkG TkOk cz m2 k2 ∧ Need (leN m2 1000000) True) ∧ ∀ (x_3 : List Value), IsTE (cutR x (tksAt cz m2)) x_3 (cutR x (tksAt cz
m2)).length (cutR x (tksAt cz m2)).length → Need (beqV 64 (Value.string x) (Value.string x)) (Need (isInt IntKind.i64 ((getO ca (0 + (↑i : Int).toNat * 4 + 1)).getD undef)) (Need (beqV 64 (Value.int IntKind.i64 (intV
((getO ca (0 + (↑i : Int).toNat * 4 + 1)).getD undef))) (Value.int IntKind.i64 (intV ((getO ca (0 + (↑i : Int).toNat * 4 + 1)).getD undef)))) (Need (beqV 64 (Value.pointer (some
{ block := 0, off := 0 + (↑i : Int).toNat * 4 + 1 : Addr })) (Value.pointer (some { block := 0, off := 0 + (↑i : Int).toNat * 4 + 1 : Addr }))) (Need (ltI (↑i : Int) (↑len : Int)) (Need (beqV 64 (Value.pointer (some
{ block := 0, off := 0 + (↑i : Int).toNat * 4 : Addr })) (Value.pointer (some { block := 0, off := 0 + (↑i : Int).toNat * 4 : Addr }))) (Need (beqV 64 (Value.int IntKind.i64 (↑i : Int)) (Value.int IntKind.i64 (↑i :
Int))) (Need (beqV 64 (Value.slice (some { block := 0, off := 0, spot := s1 : Addr }) len k1) (Value.slice (some { block := 0, off := 0, spot := s1 : Addr }) len k1)) (FlatD [1, 2] (hp [Blk.cells ca 4 false, Blk.cells
[Value.int IntKind.i64 mo, Value.slice (some { block := 3, off := 0, spot := some 1 : Addr }) m k] 2 true, Blk.cells [Value.int IntKind.i64 mr, Value.slice (some { block := 4, off := 0, spot := some 1 : Addr }) (cutR x
(tksAt cz m2)).length (cutR x (tksAt cz m2)).length] 2 true, Blk.cells cy 2 true, Blk.cells x_3 2 true]) ∧ ∃ (b : St19), tmps 156 [(1, Value.slice (some { block := 0, off := 0, spot := s1 : Addr }) len k1), (2, Value.int
IntKind.i64 owner), (7, Value.pointer (some { block := 1, off := 0 : Addr })), (8, Value.pointer (some { block := 2, off := 0 : Addr })), (9, Value.int IntKind.i64 (↑i : Int)), (10, Value.string x), (11, Value.bool
false)] = tmps 156 [(1, Value.slice (some { block := 0, off := 0, spot := s1 : Addr }) len k1), (2, Value.int IntKind.i64 owner), (7, Value.pointer (some { block := 1, off := 0 : Addr })), (8, Value.pointer (some
{ block := 2, off := 0 : Addr })), (9, Value.int IntKind.i64 (↑i : Int)), (10, Value.string x), (11, Value.bool true)] ∧ hp [Blk.cells ca 4 false, Blk.cells [Value.int IntKind.i64 mo, Value.slice (some
{ block := 3, off := 0, spot := some 1 : Addr }) m k] 2 true, Blk.cells [Value.int IntKind.i64 mr, Value.slice (some { block := 4, off := 0, spot := some 1 : Addr }) (cutR x (tksAt cz m2)).length (cutR x (tksAt cz
m2)).length] 2 true, Blk.cells cy 2 true, Blk.cells x_3 2 true] = hp [Blk.cells ca 4 false, Blk.cells [Value.int IntKind.i64 mo, Value.slice (some { block := 3, off := 0, spot := some 1 : Addr }) b.m b.k] 2 true,
Blk.cells [Value.int IntKind.i64 mr, Value.slice (some { block := 4, off := 0, spot := some 1 : Addr }) b.m2 b.k2] 2 true, Blk.cells b.cy 2 true, Blk.cells b.cz 2 true] ∧ Tok2 (i + 1) b ∧ K AE.normal (tmps 156 [(1,
Value.slice (some { block := 0, off := 0, spot := s1 : Addr }) len k1), (2, Value.int IntKind.i64 owner), (7, Value.pointer (some { block := 1, off := 0 : Addr })), (8, Value.pointer (some
{ block := 2, off := 0 : Addr })), (9, Value.int IntKind.i64 (↑i : Int))]) (hp [Blk.cells ca 4 false, Blk.cells [Value.int IntKind.i64 mo, Value.slice (some { block := 3, off := 0, spot := some 1 : Addr }) b.m b.k] 2
true, Blk.cells [Value.int IntKind.i64 mr, Value.slice (some { block := 4, off := 0, spot := some 1 : Addr }) b.m2 b.k2] 2 true, Blk.cells b.cy 2 true, Blk.cells b.cz 2 true]))))))))))) ((nojL [Value.int IntKind.i64 mr,
Value.slice (some { block := 1, off := 0, spot := some 1 : Addr }) m2 k2] = true ∧ FlatL cz ∧ True) ∧ (IsP tkF tkG TkOk cz m2 k2 ∧ Need (leN m2 1000000) True) ∧ ∀ (x_2 : List Value), IsTE (cutR x (tksAt cz m2)) x_2 (cutR
x (tksAt cz m2)).length (cutR x (tksAt cz m2)).length → Need (beqV 64 (Value.string x) (Value.string x)) (Need (isInt IntKind.i64 ((getO ca (0 + (↑i : Int).toNat * 4 + 1)).getD undef)) (Need (beqV 64 (Value.int
IntKind.i64 (intV ((getO ca (0 + (↑i : Int).toNat * 4 + 1)).getD undef))) (Value.int IntKind.i64 (intV ((getO ca (0 + (↑i : Int).toNat * 4 + 1)).getD undef)))) (Need (beqV 64 (Value.pointer (some
{ block := 0, off := 0 + (↑i : Int).toNat * 4 + 1 : Addr })) (Value.pointer (some { block := 0, off := 0 + (↑i : Int).toNat * 4 + 1 : Addr }))) (Need (ltI (↑i : Int) (↑len : Int)) (Need (beqV 64 (Value.pointer (some
{ block := 0, off := 0 + (↑i : Int).toNat * 4 : Addr })) (Value.pointer (some { block := 0, off := 0 + (↑i : Int).toNat * 4 : Addr }))) (Need (beqV 64 (Value.int IntKind.i64 (↑i : Int)) (Value.int IntKind.i64 (↑i :
Int))) (Need (beqV 64 (Value.slice (some { block := 0, off := 0, spot := s1 : Addr }) len k1) (Value.slice (some { block := 0, off := 0, spot := s1 : Addr }) len k1)) (FlatD [1, 2] (hp [Blk.cells ca 4 false, Blk.cells
[Value.int IntKind.i64 mo, Value.slice (some { block := 3, off := 0, spot := some 1 : Addr }) m k] 2 true, Blk.cells [Value.int IntKind.i64 mr, Value.slice (some { block := 4, off := 0, spot := some 1 : Addr }) (cutR x
(tksAt cz m2)).length (cutR x (tksAt cz m2)).length] 2 true, Blk.cells cy 2 true, Blk.cells x_2 2 true]) ∧ ∃ (b : St19), tmps 156 [(1, Value.slice (some { block := 0, off := 0, spot := s1 : Addr }) len k1), (2, Value.int
IntKind.i64 owner), (7, Value.pointer (some { block := 1, off := 0 : Addr })), (8, Value.pointer (some { block := 2, off := 0 : Addr })), (9, Value.int IntKind.i64 (↑i : Int)), (10, Value.string x), (11, Value.bool
false)] = tmps 156 [(1, Value.slice (some { block := 0, off := 0, spot := s1 : Addr }) len k1), (2, Value.int IntKind.i64 owner), (7, Value.pointer (some { block := 1, off := 0 : Addr })), (8, Value.pointer (some
{ block := 2, off := 0 : Addr })), (9, Value.int IntKind.i64 (↑i : Int)), (10, Value.string x), (11, Value.bool true)] ∧ hp [Blk.cells ca 4 false, Blk.cells [Value.int IntKind.i64 mo, Value.slice (some
{ block := 3, off := 0, spot := some 1 : Addr }) m k] 2 true, Blk.cells [Value.int IntKind.i64 mr, Value.slice (some { block := 4, off := 0, spot := some 1 : Addr }) (cutR x (tksAt cz m2)).length (cutR x (tksAt cz
m2)).length] 2 true, Blk.cells cy 2 true, Blk.cells x_2 2 true] = hp [Blk.cells ca 4 false, Blk.cells [Value.int IntKind.i64 mo, Value.slice (some { block := 3, off := 0, spot := some 1 : Addr }) b.m b.k] 2 true,
Blk.cells [Value.int IntKind.i64 mr, Value.slice (some { block := 4, off := 0, spot := some 1 : Addr }) b.m2 b.k2] 2 true, Blk.cells b.cy 2 true, Blk.cells b.cz 2 true] ∧ Tok2 (i + 1) b ∧ K AE.normal (tmps 156 [(1,
Value.slice (some { block := 0, off := 0, spot := s1 : Addr }) len k1), (2, Value.int IntKind.i64 owner), (7, Value.pointer (some { block := 1, off := 0 : Addr })), (8, Value.pointer (some
{ block := 2, off := 0 : Addr })), (9, Value.int IntKind.i64 (↑i : Int))]) (hp [Blk.cells ca 4 false, Blk.cells [Value.int IntKind.i64 mo, Value.slice (some { block := 3, off := 0, spot := some 1 : Addr }) b.m b.k] 2
true, Blk.cells [Value.int IntKind.i64 mr, Value.slice (some { block := 4, off := 0, spot := some 1 : Addr }) b.m2 b.k2] 2 true, Blk.cells b.cy 2 true, Blk.cells b.cz 2 true]))))))))))))))) ((FlatL cy ∧ True) ∧ (IsP tkF
tkG TkOk cy m k ∧ Need (leI 0 (placeF x 0 (-1) (tksAt cy m))) (Need (ltI (placeF x 0 (-1) (tksAt cy m)) (↑m : Int)) (Need (eqI (wr IntKind.i64 (placeF x 0 (-1) (tksAt cy m) + 1)) (placeF x 0 (-1) (tksAt cy m) + 1)) (Need
(leN m 1000000) True)))) ∧ ∀ (x_2 : List Value × Nat), IsTL ((tksAt cy m).eraseIdx (placeF x 0 (-1) (tksAt cy m)).toNat) x_2.fst (m - 1) x_2.snd → Need (ltI (↑i : Int) (↑len : Int)) (Need (isInt IntKind.i64 ((getO ca (0
+ (↑i : Int).toNat * 4 + 1)).getD undef)) ((nojL [Value.int IntKind.i64 mr, Value.slice (some { block := 1, off := 0, spot := some 1 : Addr }) m2 k2] = true ∧ FlatL cz ∧ True) ∧ (IsP tkF tkG TkOk cz m2 k2 ∧ Need (leN m2
1000000) True) ∧ Alt (!(ownR x (tksAt cz m2)).isSome) (Need (beqV 64 (Value.string x) (Value.string x)) (Need (isInt IntKind.i64 ((getO ca (0 + (↑i : Int).toNat * 4 + 1)).getD undef)) (Need (beqV 64 (Value.int
IntKind.i64 (intV ((getO ca (0 + (↑i : Int).toNat * 4 + 1)).getD undef))) (Value.int IntKind.i64 (intV ((getO ca (0 + (↑i : Int).toNat * 4 + 1)).getD undef)))) (Need (beqV 64 (Value.pointer (some
{ block := 0, off := 0 + (↑i : Int).toNat * 4 + 1 : Addr })) (Value.pointer (some { block := 0, off := 0 + (↑i : Int).toNat * 4 + 1 : Addr }))) (Need (ltI (↑i : Int) (↑len : Int)) (Need (beqV 64 (Value.pointer (some
{ block := 0, off := 0 + (↑i : Int).toNat * 4 : Addr })) (Value.pointer (some { block := 0, off := 0 + (↑i : Int).toNat * 4 : Addr }))) (Need (beqV 64 (Value.int IntKind.i64 (↑i : Int)) (Value.int IntKind.i64 (↑i :
Int))) (Need (beqV 64 (Value.slice (some { block := 0, off := 0, spot := s1 : Addr }) len k1) (Value.slice (some { block := 0, off := 0, spot := s1 : Addr }) len k1)) (FlatD [1, 2] (hp [Blk.cells ca 4 false, Blk.cells
[Value.int IntKind.i64 mo, Value.slice (some { block := 3, off := 0, spot := some 1 : Addr }) (m - 1) x_2.snd] 2 true, Blk.cells [Value.int IntKind.i64 mr, Value.slice (some
{ block := 4, off := 0, spot := some 1 : Addr }) m2 k2] 2 true, Blk.cells x_2.fst 2 true, Blk.cells cz 2 true]) ∧ ∃ (b : St19), tmps 156 [(1, Value.slice (some { block := 0, off := 0, spot := s1 : Addr }) len k1), (2,
Value.int IntKind.i64 owner), (7, Value.pointer (some { block := 1, off := 0 : Addr })), (8, Value.pointer (some { block := 2, off := 0 : Addr })), (9, Value.int IntKind.i64 (↑i : Int)), (10, Value.string x), (11,
Value.bool false)] = tmps 156 [(1, Value.slice (some { block := 0, off := 0, spot := s1 : Addr }) len k1), (2, Value.int IntKind.i64 owner), (7, Value.pointer (some { block := 1, off := 0 : Addr })), (8, Value.pointer
(some { block := 2, off := 0 : Addr })), (9, Value.int IntKind.i64 (↑i : Int)), (10, Value.string x), (11, Value.bool true)] ∧ hp [Blk.cells ca 4 false, Blk.cells [Value.int IntKind.i64 mo, Value.slice (some
{ block := 3, off := 0, spot := some 1 : Addr }) (m - 1) x_2.snd] 2 true, Blk.cells [Value.int IntKind.i64 mr, Value.slice (some { block := 4, off := 0, spot := some 1 : Addr }) m2 k2] 2 true, Blk.cells x_2.fst 2 true,
Blk.cells cz 2 true] = hp [Blk.cells ca 4 false, Blk.cells [Value.int IntKind.i64 mo, Value.slice (some { block := 3, off := 0, spot := some 1 : Addr }) b.m b.k] 2 true, Blk.cells [Value.int IntKind.i64 mr, Value.slice
(some { block := 4, off := 0, spot := some 1 : Addr }) b.m2 b.k2] 2 true, Blk.cells b.cy 2 true, Blk.cells b.cz 2 true] ∧ Tok2 (i + 1) b ∧ K AE.normal (tmps 156 [(1, Value.slice (some
{ block := 0, off := 0, spot := s1 : Addr }) len k1), (2, Value.int IntKind.i64 owner), (7, Value.pointer (some { block := 1, off := 0 : Addr })), (8, Value.pointer (some { block := 2, off := 0 : Addr })), (9, Value.int
IntKind.i64 (↑i : Int))]) (hp [Blk.cells ca 4 false, Blk.cells [Value.int IntKind.i64 mo, Value.slice (some { block := 3, off := 0, spot := some 1 : Addr }) b.m b.k] 2 true, Blk.cells [Value.int IntKind.i64 mr,
Value.slice (some { block := 4, off := 0, spot := some 1 : Addr }) b.m2 b.k2] 2 true, Blk.cells b.cy 2 true, Blk.cells b.cz 2 true])))))))))) (Alt (!eqI ((ownR x (tksAt cz m2)).getD 0) (intV ((getO ca (0 + (↑i :
Int).toNat * 4 + 1)).getD undef))) (Need (beqV 64 (Value.string x) (Value.string x)) (Need (isInt IntKind.i64 ((getO ca (0 + (↑i : Int).toNat * 4 + 1)).getD undef)) (Need (beqV 64 (Value.int IntKind.i64 (intV ((getO ca
(0 + (↑i : Int).toNat * 4 + 1)).getD undef))) (Value.int IntKind.i64 (intV ((getO ca (0 + (↑i : Int).toNat * 4 + 1)).getD undef)))) (Need (beqV 64 (Value.pointer (some
{ block := 0, off := 0 + (↑i : Int).toNat * 4 + 1 : Addr })) (Value.pointer (some { block := 0, off := 0 + (↑i : Int).toNat * 4 + 1 : Addr }))) (Need (ltI (↑i : Int) (↑len : Int)) (Need (beqV 64 (Value.pointer (some
{ block := 0, off := 0 + (↑i : Int).toNat * 4 : Addr })) (Value.pointer (some { block := 0, off := 0 + (↑i : Int).toNat * 4 : Addr }))) (Need (beqV 64 (Value.int IntKind.i64 (↑i : Int)) (Value.int IntKind.i64 (↑i :
Int))) (Need (beqV 64 (Value.slice (some { block := 0, off := 0, spot := s1 : Addr }) len k1) (Value.slice (some { block := 0, off := 0, spot := s1 : Addr }) len k1)) (FlatD [1, 2] (hp [Blk.cells ca 4 false, Blk.cells
[Value.int IntKind.i64 mo, Value.slice (some { block := 3, off := 0, spot := some 1 : Addr }) (m - 1) x_2.snd] 2 true, Blk.cells [Value.int IntKind.i64 mr, Value.slice (some
{ block := 4, off := 0, spot := some 1 : Addr }) m2 k2] 2 true, Blk.cells x_2.fst 2 true, Blk.cells cz 2 true]) ∧ ∃ (b : St19), tmps 156 [(1, Value.slice (some { block := 0, off := 0, spot := s1 : Addr }) len k1), (2,
Value.int IntKind.i64 owner), (7, Value.pointer (some { block := 1, off := 0 : Addr })), (8, Value.pointer (some { block := 2, off := 0 : Addr })), (9, Value.int IntKind.i64 (↑i : Int)), (10, Value.string x), (11,
Value.bool false)] = tmps 156 [(1, Value.slice (some { block := 0, off := 0, spot := s1 : Addr }) len k1), (2, Value.int IntKind.i64 owner), (7, Value.pointer (some { block := 1, off := 0 : Addr })), (8, Value.pointer
(some { block := 2, off := 0 : Addr })), (9, Value.int IntKind.i64 (↑i : Int)), (10, Value.string x), (11, Value.bool true)] ∧ hp [Blk.cells ca 4 false, Blk.cells [Value.int IntKind.i64 mo, Value.slice (some
{ block := 3, off := 0, spot := some 1 : Addr }) (m - 1) x_2.snd] 2 true, Blk.cells [Value.int IntKind.i64 mr, Value.slice (some { block := 4, off := 0, spot := some 1 : Addr }) m2 k2] 2 true, Blk.cells x_2.fst 2 true,
Blk.cells cz 2 true] = hp [Blk.cells ca 4 false, Blk.cells [Value.int IntKind.i64 mo, Value.slice (some { block := 3, off := 0, spot := some 1 : Addr }) b.m b.k] 2 true, Blk.cells [Value.int IntKind.i64 mr, Value.slice
(some { block := 4, off := 0, spot := some 1 : Addr }) b.m2 b.k2] 2 true, Blk.cells b.cy 2 true, Blk.cells b.cz 2 true] ∧ Tok2 (i + 1) b ∧ K AE.normal (tmps 156 [(1, Value.slice (some
{ block := 0, off := 0, spot := s1 : Addr }) len k1), (2, Value.int IntKind.i64 owner), (7, Value.pointer (some { block := 1, off := 0 : Addr })), (8, Value.pointer (some { block := 2, off := 0 : Addr })), (9, Value.int
IntKind.i64 (↑i : Int))]) (hp [Blk.cells ca 4 false, Blk.cells [Value.int IntKind.i64 mo, Value.slice (some { block := 3, off := 0, spot := some 1 : Addr }) b.m b.k] 2 true, Blk.cells [Value.int IntKind.i64 mr,
Value.slice (some { block := 4, off := 0, spot := some 1 : Addr }) b.m2 b.k2] 2 true, Blk.cells b.cy 2 true, Blk.cells b.cz 2 true])))))))))) (Alt (eqI (intV ((getO ca (0 + (↑i : Int).toNat * 4 + 1)).getD undef)) 0)
((nojL [Value.int IntKind.i64 mr, Value.slice (some { block := 1, off := 0, spot := some 1 : Addr }) m2 k2] = true ∧ FlatL cz ∧ True) ∧ (IsP tkF tkG TkOk cz m2 k2 ∧ Need (leN m2 1000000) True) ∧ ∀ (x_3 : List Value), IsS
(ofL 0 (tksAt cz m2)) x_3 (ofL 0 (tksAt cz m2)).length (ofL 0 (tksAt cz m2)).length → Alt (eqI (↑(ofL 0 (tksAt cz m2)).length : Int) 1) (Need (beqV 64 (Value.string x) (Value.string x)) (Need (isInt IntKind.i64 ((getO ca
(0 + (↑i : Int).toNat * 4 + 1)).getD undef)) (Need (beqV 64 (Value.int IntKind.i64 (intV ((getO ca (0 + (↑i : Int).toNat * 4 + 1)).getD undef))) (Value.int IntKind.i64 (intV ((getO ca (0 + (↑i : Int).toNat * 4 + 1)).getD
undef)))) (Need (beqV 64 (Value.pointer (some { block := 0, off := 0 + (↑i : Int).toNat * 4 + 1 : Addr })) (Value.pointer (some { block := 0, off := 0 + (↑i : Int).toNat * 4 + 1 : Addr }))) (Need (ltI (↑i : Int) (↑len :
Int)) (Need (beqV 64 (Value.pointer (some { block := 0, off := 0 + (↑i : Int).toNat * 4 : Addr })) (Value.pointer (some { block := 0, off := 0 + (↑i : Int).toNat * 4 : Addr }))) (Need (beqV 64 (Value.int IntKind.i64 (↑i
: Int)) (Value.int IntKind.i64 (↑i : Int))) (Need (beqV 64 (Value.slice (some { block := 0, off := 0, spot := s1 : Addr }) len k1) (Value.slice (some { block := 0, off := 0, spot := s1 : Addr }) len k1)) (FlatD [1, 2]
(hp [Blk.cells ca 4 false, Blk.cells [Value.int IntKind.i64 mo, Value.slice (some { block := 3, off := 0, spot := some 1 : Addr }) (m - 1) x_2.snd] 2 true, Blk.cells [Value.int IntKind.i64 mr, Value.slice (some
{ block := 4, off := 0, spot := some 1 : Addr }) m2 k2] 2 true, Blk.cells x_2.fst 2 true, Blk.cells cz 2 true]) ∧ ∃ (b : St19), tmps 156 [(1, Value.slice (some { block := 0, off := 0, spot := s1 : Addr }) len k1), (2,
Value.int IntKind.i64 owner), (7, Value.pointer (some { block := 1, off := 0 : Addr })), (8, Value.pointer (some { block := 2, off := 0 : Addr })), (9, Value.int IntKind.i64 (↑i : Int)), (10, Value.string x), (11,
Value.bool false)] = tmps 156 [(1, Value.slice (some { block := 0, off := 0, spot := s1 : Addr }) len k1), (2, Value.int IntKind.i64 owner), (7, Value.pointer (some { block := 1, off := 0 : Addr })), (8, Value.pointer
(some { block := 2, off := 0 : Addr })), (9, Value.int IntKind.i64 (↑i : Int)), (10, Value.string x), (11, Value.bool true)] ∧ hp [Blk.cells ca 4 false, Blk.cells [Value.int IntKind.i64 mo, Value.slice (some
{ block := 3, off := 0, spot := some 1 : Addr }) (m - 1) x_2.snd] 2 true, Blk.cells [Value.int IntKind.i64 mr, Value.slice (some { block := 4, off := 0, spot := some 1 : Addr }) m2 k2] 2 true, Blk.cells x_2.fst 2 true,
Blk.cells cz 2 true] = hp [Blk.cells ca 4 false, Blk.cells [Value.int IntKind.i64 mo, Value.slice (some { block := 3, off := 0, spot := some 1 : Addr }) b.m b.k] 2 true, Blk.cells [Value.int IntKind.i64 mr, Value.slice
(some { block := 4, off := 0, spot := some 1 : Addr }) b.m2 b.k2] 2 true, Blk.cells b.cy 2 true, Blk.cells b.cz 2 true] ∧ Tok2 (i + 1) b ∧ K AE.normal (tmps 156 [(1, Value.slice (some
{ block := 0, off := 0, spot := s1 : Addr }) len k1), (2, Value.int IntKind.i64 owner), (7, Value.pointer (some { block := 1, off := 0 : Addr })), (8, Value.pointer (some { block := 2, off := 0 : Addr })), (9, Value.int
IntKind.i64 (↑i : Int))]) (hp [Blk.cells ca 4 false, Blk.cells [Value.int IntKind.i64 mo, Value.slice (some { block := 3, off := 0, spot := some 1 : Addr }) b.m b.k] 2 true, Blk.cells [Value.int IntKind.i64 mr,
Value.slice (some { block := 4, off := 0, spot := some 1 : Addr }) b.m2 b.k2] 2 true, Blk.cells b.cy 2 true, Blk.cells b.cz 2 true])))))))))) ((nojL [Value.int IntKind.i64 mr, Value.slice (some
{ block := 1, off := 0, spot := some 1 : Addr }) m2 k2] = true ∧ FlatL cz ∧ True) ∧ (IsP tkF tkG TkOk cz m2 k2 ∧ Need (leN m2 1000000) True) ∧ ∀ (x_4 : List Value), IsTE (cutR x (tksAt cz m2)) x_4 (cutR x (tksAt cz
m2)).length (cutR x (tksAt cz m2)).length → Need (beqV 64 (Value.string x) (Value.string x)) (Need (isInt IntKind.i64 ((getO ca (0 + (↑i : Int).toNat * 4 + 1)).getD undef)) (Need (beqV 64 (Value.int IntKind.i64 (intV
((getO ca (0 + (↑i : Int).toNat * 4 + 1)).getD undef))) (Value.int IntKind.i64 (intV ((getO ca (0 + (↑i : Int).toNat * 4 + 1)).getD undef)))) (Need (beqV 64 (Value.pointer (some
{ block := 0, off := 0 + (↑i : Int).toNat * 4 + 1 : Addr })) (Value.pointer (some { block := 0, off := 0 + (↑i : Int).toNat * 4 + 1 : Addr }))) (Need (ltI (↑i : Int) (↑len : Int)) (Need (beqV 64 (Value.pointer (some
{ block := 0, off := 0 + (↑i : Int).toNat * 4 : Addr })) (Value.pointer (some { block := 0, off := 0 + (↑i : Int).toNat * 4 : Addr }))) (Need (beqV 64 (Value.int IntKind.i64 (↑i : Int)) (Value.int IntKind.i64 (↑i :
Int))) (Need (beqV 64 (Value.slice (some { block := 0, off := 0, spot := s1 : Addr }) len k1) (Value.slice (some { block := 0, off := 0, spot := s1 : Addr }) len k1)) (FlatD [1, 2] (hp [Blk.cells ca 4 false, Blk.cells
[Value.int IntKind.i64 mo, Value.slice (some { block := 3, off := 0, spot := some 1 : Addr }) (m - 1) x_2.snd] 2 true, Blk.cells [Value.int IntKind.i64 mr, Value.slice (some
{ block := 4, off := 0, spot := some 1 : Addr }) (cutR x (tksAt cz m2)).length (cutR x (tksAt cz m2)).length] 2 true, Blk.cells x_2.fst 2 true, Blk.cells x_4 2 true]) ∧ ∃ (b : St19), tmps 156 [(1, Value.slice (some
{ block := 0, off := 0, spot := s1 : Addr }) len k1), (2, Value.int IntKind.i64 owner), (7, Value.pointer (some { block := 1, off := 0 : Addr })), (8, Value.pointer (some { block := 2, off := 0 : Addr })), (9, Value.int
IntKind.i64 (↑i : Int)), (10, Value.string x), (11, Value.bool true)] = tmps 156 [(1, Value.slice (some { block := 0, off := 0, spot := s1 : Addr }) len k1), (2, Value.int IntKind.i64 owner), (7, Value.pointer (some
{ block := 1, off := 0 : Addr })), (8, Value.pointer (some { block := 2, off := 0 : Addr })), (9, Value.int IntKind.i64 (↑i : Int)), (10, Value.string x), (11, Value.bool true)] ∧ hp [Blk.cells ca 4 false, Blk.cells
[Value.int IntKind.i64 mo, Value.slice (some { block := 3, off := 0, spot := some 1 : Addr }) (m - 1) x_2.snd] 2 true, Blk.cells [Value.int IntKind.i64 mr, Value.slice (some
{ block := 4, off := 0, spot := some 1 : Addr }) (cutR x (tksAt cz m2)).length (cutR x (tksAt cz m2)).length] 2 true, Blk.cells x_2.fst 2 true, Blk.cells x_4 2 true] = hp [Blk.cells ca 4 false, Blk.cells [Value.int
IntKind.i64 mo, Value.slice (some { block := 3, off := 0, spot := some 1 : Addr }) b.m b.k] 2 true, Blk.cells [Value.int IntKind.i64 mr, Value.slice (some { block := 4, off := 0, spot := some 1 : Addr }) b.m2 b.k2] 2
true, Blk.cells b.cy 2 true, Blk.cells b.cz 2 true] ∧ Tok2 (i + 1) b ∧ K AE.normal (tmps 156 [(1, Value.slice (some { block := 0, off := 0, spot := s1 : Addr }) len k1), (2, Value.int IntKind.i64 owner), (7,
Value.pointer (some { block := 1, off := 0 : Addr })), (8, Value.pointer (some { block := 2, off := 0 : Addr })), (9, Value.int IntKind.i64 (↑i : Int))]) (hp [Blk.cells ca 4 false, Blk.cells [Value.int IntKind.i64 mo,
Value.slice (some { block := 3, off := 0, spot := some 1 : Addr }) b.m b.k] 2 true, Blk.cells [Value.int IntKind.i64 mr, Value.slice (some { block := 4, off := 0, spot := some 1 : Addr }) b.m2 b.k2] 2 true, Blk.cells
b.cy 2 true, Blk.cells b.cz 2 true]))))))))))) ((nojL [Value.int IntKind.i64 mr, Value.slice (some { block := 1, off := 0, spot := some 1 : Addr }) m2 k2] = true ∧ FlatL cz ∧ True) ∧ (IsP tkF tkG TkOk cz m2 k2 ∧ Need
(leN m2 1000000) True) ∧ ∀ (x_3 : List Value), IsTE (cutR x (tksAt cz m2)) x_3 (cutR x (tksAt cz m2)).length (cutR x (tksAt cz m2)).length → Need (beqV 64 (Value.string x) (Value.string x)) (Need (isInt IntKind.i64
((getO ca (0 + (↑i : Int).toNat * 4 + 1)).getD undef)) (Need (beqV 64 (Value.int IntKind.i64 (intV ((getO ca (0 + (↑i : Int).toNat * 4 + 1)).getD undef))) (Value.int IntKind.i64 (intV ((getO ca (0 + (↑i : Int).toNat * 4
+ 1)).getD undef)))) (Need (beqV 64 (Value.pointer (some { block := 0, off := 0 + (↑i : Int).toNat * 4 + 1 : Addr })) (Value.pointer (some { block := 0, off := 0 + (↑i : Int).toNat * 4 + 1 : Addr }))) (Need (ltI (↑i :
Int) (↑len : Int)) (Need (beqV 64 (Value.pointer (some { block := 0, off := 0 + (↑i : Int).toNat * 4 : Addr })) (Value.pointer (some { block := 0, off := 0 + (↑i : Int).toNat * 4 : Addr }))) (Need (beqV 64 (Value.int
IntKind.i64 (↑i : Int)) (Value.int IntKind.i64 (↑i : Int))) (Need (beqV 64 (Value.slice (some { block := 0, off := 0, spot := s1 : Addr }) len k1) (Value.slice (some { block := 0, off := 0, spot := s1 : Addr }) len k1))
(FlatD [1, 2] (hp [Blk.cells ca 4 false, Blk.cells [Value.int IntKind.i64 mo, Value.slice (some { block := 3, off := 0, spot := some 1 : Addr }) (m - 1) x_2.snd] 2 true, Blk.cells [Value.int IntKind.i64 mr, Value.slice
(some { block := 4, off := 0, spot := some 1 : Addr }) (cutR x (tksAt cz m2)).length (cutR x (tksAt cz m2)).length] 2 true, Blk.cells x_2.fst 2 true, Blk.cells x_3 2 true]) ∧ ∃ (b : St19), tmps 156 [(1, Value.slice (some
{ block := 0, off := 0, spot := s1 : Addr }) len k1), (2, Value.int IntKind.i64 owner), (7, Value.pointer (some { block := 1, off := 0 : Addr })), (8, Value.pointer (some { block := 2, off := 0 : Addr })), (9, Value.int
IntKind.i64 (↑i : Int)), (10, Value.string x), (11, Value.bool true)] = tmps 156 [(1, Value.slice (some { block := 0, off := 0, spot := s1 : Addr }) len k1), (2, Value.int IntKind.i64 owner), (7, Value.pointer (some
{ block := 1, off := 0 : Addr })), (8, Value.pointer (some { block := 2, off := 0 : Addr })), (9, Value.int IntKind.i64 (↑i : Int)), (10, Value.string x), (11, Value.bool true)] ∧ hp [Blk.cells ca 4 false, Blk.cells
[Value.int IntKind.i64 mo, Value.slice (some { block := 3, off := 0, spot := some 1 : Addr }) (m - 1) x_2.snd] 2 true, Blk.cells [Value.int IntKind.i64 mr, Value.slice (some
{ block := 4, off := 0, spot := some 1 : Addr }) (cutR x (tksAt cz m2)).length (cutR x (tksAt cz m2)).length] 2 true, Blk.cells x_2.fst 2 true, Blk.cells x_3 2 true] = hp [Blk.cells ca 4 false, Blk.cells [Value.int
IntKind.i64 mo, Value.slice (some { block := 3, off := 0, spot := some 1 : Addr }) b.m b.k] 2 true, Blk.cells [Value.int IntKind.i64 mr, Value.slice (some { block := 4, off := 0, spot := some 1 : Addr }) b.m2 b.k2] 2
true, Blk.cells b.cy 2 true, Blk.cells b.cz 2 true] ∧ Tok2 (i + 1) b ∧ K AE.normal (tmps 156 [(1, Value.slice (some { block := 0, off := 0, spot := s1 : Addr }) len k1), (2, Value.int IntKind.i64 owner), (7,
Value.pointer (some { block := 1, off := 0 : Addr })), (8, Value.pointer (some { block := 2, off := 0 : Addr })), (9, Value.int IntKind.i64 (↑i : Int))]) (hp [Blk.cells ca 4 false, Blk.cells [Value.int IntKind.i64 mo,
Value.slice (some { block := 3, off := 0, spot := some 1 : Addr }) b.m b.k] 2 true, Blk.cells [Value.int IntKind.i64 mr, Value.slice (some { block := 4, off := 0, spot := some 1 : Addr }) b.m2 b.k2] 2 true, Blk.cells
b.cy 2 true, Blk.cells b.cz 2 true])))))))))))))))) ((FlatL cy ∧ True) ∧ (IsP tkF tkG TkOk cy m k ∧ Need (leI 0 (placeF x 0 (-1) (tksAt cy m))) (Need (ltI (placeF x 0 (-1) (tksAt cy m)) (↑m : Int)) (Need (eqI (wr
IntKind.i64 (placeF x 0 (-1) (tksAt cy m) + 1)) (placeF x 0 (-1) (tksAt cy m) + 1)) (Need (leN m 1000000) True)))) ∧ ∀ (x_1 : List Value × Nat), IsTL ((tksAt cy m).eraseIdx (placeF x 0 (-1) (tksAt cy m)).toNat) x_1.fst
(m - 1) x_1.snd → Need (ltI (↑i : Int) (↑len : Int)) (Need (isInt IntKind.i64 ((getO ca (0 + (↑i : Int).toNat * 4 + 1)).getD undef)) ((nojL [Value.int IntKind.i64 mr, Value.slice (some
{ block := 1, off := 0, spot := some 1 : Addr }) m2 k2] = true ∧ FlatL cz ∧ True) ∧ (IsP tkF tkG TkOk cz m2 k2 ∧ Need (leN m2 1000000) True) ∧ Alt (!(ownR x (tksAt cz m2)).isSome) (Need (beqV 64 (Value.string x)
(Value.string x)) (Need (isInt IntKind.i64 ((getO ca (0 + (↑i : Int).toNat * 4 + 1)).getD undef)) (Need (beqV 64 (Value.int IntKind.i64 (intV ((getO ca (0 + (↑i : Int).toNat * 4 + 1)).getD undef))) (Value.int IntKind.i64
(intV ((getO ca (0 + (↑i : Int).toNat * 4 + 1)).getD undef)))) (Need (beqV 64 (Value.pointer (some { block := 0, off := 0 + (↑i : Int).toNat * 4 + 1 : Addr })) (Value.pointer (some
{ block := 0, off := 0 + (↑i : Int).toNat * 4 + 1 : Addr }))) (Need (ltI (↑i : Int) (↑len : Int)) (Need (beqV 64 (Value.pointer (some { block := 0, off := 0 + (↑i : Int).toNat * 4 : Addr })) (Value.pointer (some
{ block := 0, off := 0 + (↑i : Int).toNat * 4 : Addr }))) (Need (beqV 64 (Value.int IntKind.i64 (↑i : Int)) (Value.int IntKind.i64 (↑i : Int))) (Need (beqV 64 (Value.slice (some
{ block := 0, off := 0, spot := s1 : Addr }) len k1) (Value.slice (some { block := 0, off := 0, spot := s1 : Addr }) len k1)) (FlatD [1, 2] (hp [Blk.cells ca 4 false, Blk.cells [Value.int IntKind.i64 mo, Value.slice
(some { block := 3, off := 0, spot := some 1 : Addr }) (m - 1) x_1.snd] 2 true, Blk.cells [Value.int IntKind.i64 mr, Value.slice (some { block := 4, off := 0, spot := some 1 : Addr }) m2 k2] 2 true, Blk.cells x_1.fst 2
true, Blk.cells cz 2 true]) ∧ ∃ (b : St19), tmps 156 [(1, Value.slice (some { block := 0, off := 0, spot := s1 : Addr }) len k1), (2, Value.int IntKind.i64 owner), (7, Value.pointer (some
{ block := 1, off := 0 : Addr })), (8, Value.pointer (some { block := 2, off := 0 : Addr })), (9, Value.int IntKind.i64 (↑i : Int)), (10, Value.string x), (11, Value.bool false)] = tmps 156 [(1, Value.slice (some
{ block := 0, off := 0, spot := s1 : Addr }) len k1), (2, Value.int IntKind.i64 owner), (7, Value.pointer (some { block := 1, off := 0 : Addr })), (8, Value.pointer (some { block := 2, off := 0 : Addr })), (9, Value.int
IntKind.i64 (↑i : Int)), (10, Value.string x), (11, Value.bool true)] ∧ hp [Blk.cells ca 4 false, Blk.cells [Value.int IntKind.i64 mo, Value.slice (some { block := 3, off := 0, spot := some 1 : Addr }) (m - 1) x_1.snd] 2
true, Blk.cells [Value.int IntKind.i64 mr, Value.slice (some { block := 4, off := 0, spot := some 1 : Addr }) m2 k2] 2 true, Blk.cells x_1.fst 2 true, Blk.cells cz 2 true] = hp [Blk.cells ca 4 false, Blk.cells [Value.int
IntKind.i64 mo, Value.slice (some { block := 3, off := 0, spot := some 1 : Addr }) b.m b.k] 2 true, Blk.cells [Value.int IntKind.i64 mr, Value.slice (some { block := 4, off := 0, spot := some 1 : Addr }) b.m2 b.k2] 2
true, Blk.cells b.cy 2 true, Blk.cells b.cz 2 true] ∧ Tok2 (i + 1) b ∧ K AE.normal (tmps 156 [(1, Value.slice (some { block := 0, off := 0, spot := s1 : Addr }) len k1), (2, Value.int IntKind.i64 owner), (7,
Value.pointer (some { block := 1, off := 0 : Addr })), (8, Value.pointer (some { block := 2, off := 0 : Addr })), (9, Value.int IntKind.i64 (↑i : Int))]) (hp [Blk.cells ca 4 false, Blk.cells [Value.int IntKind.i64 mo,
Value.slice (some { block := 3, off := 0, spot := some 1 : Addr }) b.m b.k] 2 true, Blk.cells [Value.int IntKind.i64 mr, Value.slice (some { block := 4, off := 0, spot := some 1 : Addr }) b.m2 b.k2] 2 true, Blk.cells
b.cy 2 true, Blk.cells b.cz 2 true])))))))))) (Alt (!eqI ((ownR x (tksAt cz m2)).getD 0) (intV ((getO ca (0 + (↑i : Int).toNat * 4 + 1)).getD undef))) (Need (beqV 64 (Value.string x) (Value.string x)) (Need (isInt
IntKind.i64 ((getO ca (0 + (↑i : Int).toNat * 4 + 1)).getD undef)) (Need (beqV 64 (Value.int IntKind.i64 (intV ((getO ca (0 + (↑i : Int).toNat * 4 + 1)).getD undef))) (Value.int IntKind.i64 (intV ((getO ca (0 + (↑i :
Int).toNat * 4 + 1)).getD undef)))) (Need (beqV 64 (Value.pointer (some { block := 0, off := 0 + (↑i : Int).toNat * 4 + 1 : Addr })) (Value.pointer (some { block := 0, off := 0 + (↑i : Int).toNat * 4 + 1 : Addr })))
(Need (ltI (↑i : Int) (↑len : Int)) (Need (beqV 64 (Value.pointer (some { block := 0, off := 0 + (↑i : Int).toNat * 4 : Addr })) (Value.pointer (some { block := 0, off := 0 + (↑i : Int).toNat * 4 : Addr }))) (Need (beqV
64 (Value.int IntKind.i64 (↑i : Int)) (Value.int IntKind.i64 (↑i : Int))) (Need (beqV 64 (Value.slice (some { block := 0, off := 0, spot := s1 : Addr }) len k1) (Value.slice (some
{ block := 0, off := 0, spot := s1 : Addr }) len k1)) (FlatD [1, 2] (hp [Blk.cells ca 4 false, Blk.cells [Value.int IntKind.i64 mo, Value.slice (some { block := 3, off := 0, spot := some 1 : Addr }) (m - 1) x_1.snd] 2
true, Blk.cells [Value.int IntKind.i64 mr, Value.slice (some { block := 4, off := 0, spot := some 1 : Addr }) m2 k2] 2 true, Blk.cells x_1.fst 2 true, Blk.cells cz 2 true]) ∧ ∃ (b : St19), tmps 156 [(1, Value.slice (some
{ block := 0, off := 0, spot := s1 : Addr }) len k1), (2, Value.int IntKind.i64 owner), (7, Value.pointer (some { block := 1, off := 0 : Addr })), (8, Value.pointer (some { block := 2, off := 0 : Addr })), (9, Value.int
IntKind.i64 (↑i : Int)), (10, Value.string x), (11, Value.bool false)] = tmps 156 [(1, Value.slice (some { block := 0, off := 0, spot := s1 : Addr }) len k1), (2, Value.int IntKind.i64 owner), (7, Value.pointer (some
{ block := 1, off := 0 : Addr })), (8, Value.pointer (some { block := 2, off := 0 : Addr })), (9, Value.int IntKind.i64 (↑i : Int)), (10, Value.string x), (11, Value.bool true)] ∧ hp [Blk.cells ca 4 false, Blk.cells
[Value.int IntKind.i64 mo, Value.slice (some { block := 3, off := 0, spot := some 1 : Addr }) (m - 1) x_1.snd] 2 true, Blk.cells [Value.int IntKind.i64 mr, Value.slice (some
{ block := 4, off := 0, spot := some 1 : Addr }) m2 k2] 2 true, Blk.cells x_1.fst 2 true, Blk.cells cz 2 true] = hp [Blk.cells ca 4 false, Blk.cells [Value.int IntKind.i64 mo, Value.slice (some
{ block := 3, off := 0, spot := some 1 : Addr }) b.m b.k] 2 true, Blk.cells [Value.int IntKind.i64 mr, Value.slice (some { block := 4, off := 0, spot := some 1 : Addr }) b.m2 b.k2] 2 true, Blk.cells b.cy 2 true,
Blk.cells b.cz 2 true] ∧ Tok2 (i + 1) b ∧ K AE.normal (tmps 156 [(1, Value.slice (some { block := 0, off := 0, spot := s1 : Addr }) len k1), (2, Value.int IntKind.i64 owner), (7, Value.pointer (some
{ block := 1, off := 0 : Addr })), (8, Value.pointer (some { block := 2, off := 0 : Addr })), (9, Value.int IntKind.i64 (↑i : Int))]) (hp [Blk.cells ca 4 false, Blk.cells [Value.int IntKind.i64 mo, Value.slice (some
{ block := 3, off := 0, spot := some 1 : Addr }) b.m b.k] 2 true, Blk.cells [Value.int IntKind.i64 mr, Value.slice (some { block := 4, off := 0, spot := some 1 : Addr }) b.m2 b.k2] 2 true, Blk.cells b.cy 2 true,
Blk.cells b.cz 2 true])))))))))) (Alt (eqI (intV ((getO ca (0 + (↑i : Int).toNat * 4 + 1)).getD undef)) 0) ((nojL [Value.int IntKind.i64 mr, Value.slice (some { block := 1, off := 0, spot := some 1 : Addr }) m2 k2] =
true ∧ FlatL cz ∧ True) ∧ (IsP tkF tkG TkOk cz m2 k2 ∧ Need (leN m2 1000000) True) ∧ ∀ (x_2 : List Value), IsS (ofL 0 (tksAt cz m2)) x_2 (ofL 0 (tksAt cz m2)).length (ofL 0 (tksAt cz m2)).length → Alt (eqI (↑(ofL 0
(tksAt cz m2)).length : Int) 1) (Need (beqV 64 (Value.string x) (Value.string x)) (Need (isInt IntKind.i64 ((getO ca (0 + (↑i : Int).toNat * 4 + 1)).getD undef)) (Need (beqV 64 (Value.int IntKind.i64 (intV ((getO ca (0 +
(↑i : Int).toNat * 4 + 1)).getD undef))) (Value.int IntKind.i64 (intV ((getO ca (0 + (↑i : Int).toNat * 4 + 1)).getD undef)))) (Need (beqV 64 (Value.pointer (some
{ block := 0, off := 0 + (↑i : Int).toNat * 4 + 1 : Addr })) (Value.pointer (some { block := 0, off := 0 + (↑i : Int).toNat * 4 + 1 : Addr }))) (Need (ltI (↑i : Int) (↑len : Int)) (Need (beqV 64 (Value.pointer (some
{ block := 0, off := 0 + (↑i : Int).toNat * 4 : Addr })) (Value.pointer (some { block := 0, off := 0 + (↑i : Int).toNat * 4 : Addr }))) (Need (beqV 64 (Value.int IntKind.i64 (↑i : Int)) (Value.int IntKind.i64 (↑i :
Int))) (Need (beqV 64 (Value.slice (some { block := 0, off := 0, spot := s1 : Addr }) len k1) (Value.slice (some { block := 0, off := 0, spot := s1 : Addr }) len k1)) (FlatD [1, 2] (hp [Blk.cells ca 4 false, Blk.cells
[Value.int IntKind.i64 mo, Value.slice (some { block := 3, off := 0, spot := some 1 : Addr }) (m - 1) x_1.snd] 2 true, Blk.cells [Value.int IntKind.i64 mr, Value.slice (some
{ block := 4, off := 0, spot := some 1 : Addr }) m2 k2] 2 true, Blk.cells x_1.fst 2 true, Blk.cells cz 2 true]) ∧ ∃ (b : St19), tmps 156 [(1, Value.slice (some { block := 0, off := 0, spot := s1 : Addr }) len k1), (2,
Value.int IntKind.i64 owner), (7, Value.pointer (some { block := 1, off := 0 : Addr })), (8, Value.pointer (some { block := 2, off := 0 : Addr })), (9, Value.int IntKind.i64 (↑i : Int)), (10, Value.string x), (11,
Value.bool false)] = tmps 156 [(1, Value.slice (some { block := 0, off := 0, spot := s1 : Addr }) len k1), (2, Value.int IntKind.i64 owner), (7, Value.pointer (some { block := 1, off := 0 : Addr })), (8, Value.pointer
(some { block := 2, off := 0 : Addr })), (9, Value.int IntKind.i64 (↑i : Int)), (10, Value.string x), (11, Value.bool true)] ∧ hp [Blk.cells ca 4 false, Blk.cells [Value.int IntKind.i64 mo, Value.slice (some
{ block := 3, off := 0, spot := some 1 : Addr }) (m - 1) x_1.snd] 2 true, Blk.cells [Value.int IntKind.i64 mr, Value.slice (some { block := 4, off := 0, spot := some 1 : Addr }) m2 k2] 2 true, Blk.cells x_1.fst 2 true,
Blk.cells cz 2 true] = hp [Blk.cells ca 4 false, Blk.cells [Value.int IntKind.i64 mo, Value.slice (some { block := 3, off := 0, spot := some 1 : Addr }) b.m b.k] 2 true, Blk.cells [Value.int IntKind.i64 mr, Value.slice
(some { block := 4, off := 0, spot := some 1 : Addr }) b.m2 b.k2] 2 true, Blk.cells b.cy 2 true, Blk.cells b.cz 2 true] ∧ Tok2 (i + 1) b ∧ K AE.normal (tmps 156 [(1, Value.slice (some
{ block := 0, off := 0, spot := s1 : Addr }) len k1), (2, Value.int IntKind.i64 owner), (7, Value.pointer (some { block := 1, off := 0 : Addr })), (8, Value.pointer (some { block := 2, off := 0 : Addr })), (9, Value.int
IntKind.i64 (↑i : Int))]) (hp [Blk.cells ca 4 false, Blk.cells [Value.int IntKind.i64 mo, Value.slice (some { block := 3, off := 0, spot := some 1 : Addr }) b.m b.k] 2 true, Blk.cells [Value.int IntKind.i64 mr,
Value.slice (some { block := 4, off := 0, spot := some 1 : Addr }) b.m2 b.k2] 2 true, Blk.cells b.cy 2 true, Blk.cells b.cz 2 true])))))))))) ((nojL [Value.int IntKind.i64 mr, Value.slice (some
{ block := 1, off := 0, spot := some 1 : Addr }) m2 k2] = true ∧ FlatL cz ∧ True) ∧ (IsP tkF tkG TkOk cz m2 k2 ∧ Need (leN m2 1000000) True) ∧ ∀ (x_3 : List Value), IsTE (cutR x (tksAt cz m2)) x_3 (cutR x (tksAt cz
m2)).length (cutR x (tksAt cz m2)).length → Need (beqV 64 (Value.string x) (Value.string x)) (Need (isInt IntKind.i64 ((getO ca (0 + (↑i : Int).toNat * 4 + 1)).getD undef)) (Need (beqV 64 (Value.int IntKind.i64 (intV
((getO ca (0 + (↑i : Int).toNat * 4 + 1)).getD undef))) (Value.int IntKind.i64 (intV ((getO ca (0 + (↑i : Int).toNat * 4 + 1)).getD undef)))) (Need (beqV 64 (Value.pointer (some
{ block := 0, off := 0 + (↑i : Int).toNat * 4 + 1 : Addr })) (Value.pointer (some { block := 0, off := 0 + (↑i : Int).toNat * 4 + 1 : Addr }))) (Need (ltI (↑i : Int) (↑len : Int)) (Need (beqV 64 (Value.pointer (some
{ block := 0, off := 0 + (↑i : Int).toNat * 4 : Addr })) (Value.pointer (some { block := 0, off := 0 + (↑i : Int).toNat * 4 : Addr }))) (Need (beqV 64 (Value.int IntKind.i64 (↑i : Int)) (Value.int IntKind.i64 (↑i :
Int))) (Need (beqV 64 (Value.slice (some { block := 0, off := 0, spot := s1 : Addr }) len k1) (Value.slice (some { block := 0, off := 0, spot := s1 : Addr }) len k1)) (FlatD [1, 2] (hp [Blk.cells ca 4 false, Blk.cells
[Value.int IntKind.i64 mo, Value.slice (some { block := 3, off := 0, spot := some 1 : Addr }) (m - 1) x_1.snd] 2 true, Blk.cells [Value.int IntKind.i64 mr, Value.slice (some
{ block := 4, off := 0, spot := some 1 : Addr }) (cutR x (tksAt cz m2)).length (cutR x (tksAt cz m2)).length] 2 true, Blk.cells x_1.fst 2 true, Blk.cells x_3 2 true]) ∧ ∃ (b : St19), tmps 156 [(1, Value.slice (some
{ block := 0, off := 0, spot := s1 : Addr }) len k1), (2, Value.int IntKind.i64 owner), (7, Value.pointer (some { block := 1, off := 0 : Addr })), (8, Value.pointer (some { block := 2, off := 0 : Addr })), (9, Value.int
IntKind.i64 (↑i : Int)), (10, Value.string x), (11, Value.bool true)] = tmps 156 [(1, Value.slice (some { block := 0, off := 0, spot := s1 : Addr }) len k1), (2, Value.int IntKind.i64 owner), (7, Value.pointer (some
{ block := 1, off := 0 : Addr })), (8, Value.pointer (some { block := 2, off := 0 : Addr })), (9, Value.int IntKind.i64 (↑i : Int)), (10, Value.string x), (11, Value.bool true)] ∧ hp [Blk.cells ca 4 false, Blk.cells
[Value.int IntKind.i64 mo, Value.slice (some { block := 3, off := 0, spot := some 1 : Addr }) (m - 1) x_1.snd] 2 true, Blk.cells [Value.int IntKind.i64 mr, Value.slice (some
{ block := 4, off := 0, spot := some 1 : Addr }) (cutR x (tksAt cz m2)).length (cutR x (tksAt cz m2)).length] 2 true, Blk.cells x_1.fst 2 true, Blk.cells x_3 2 true] = hp [Blk.cells ca 4 false, Blk.cells [Value.int
IntKind.i64 mo, Value.slice (some { block := 3, off := 0, spot := some 1 : Addr }) b.m b.k] 2 true, Blk.cells [Value.int IntKind.i64 mr, Value.slice (some { block := 4, off := 0, spot := some 1 : Addr }) b.m2 b.k2] 2
true, Blk.cells b.cy 2 true, Blk.cells b.cz 2 true] ∧ Tok2 (i + 1) b ∧ K AE.normal (tmps 156 [(1, Value.slice (some { block := 0, off := 0, spot := s1 : Addr }) len k1), (2, Value.int IntKind.i64 owner), (7,
Value.pointer (some { block := 1, off := 0 : Addr })), (8, Value.pointer (some { block := 2, off := 0 : Addr })), (9, Value.int IntKind.i64 (↑i : Int))]) (hp [Blk.cells ca 4 false, Blk.cells [Value.int IntKind.i64 mo,
Value.slice (some { block := 3, off := 0, spot := some 1 : Addr }) b.m b.k] 2 true, Blk.cells [Value.int IntKind.i64 mr, Value.slice (some { block := 4, off := 0, spot := some 1 : Addr }) b.m2 b.k2] 2 true, Blk.cells
b.cy 2 true, Blk.cells b.cz 2 true]))))))))))) ((nojL [Value.int IntKind.i64 mr, Value.slice (some { block := 1, off := 0, spot := some 1 : Addr }) m2 k2] = true ∧ FlatL cz ∧ True) ∧ (IsP tkF tkG TkOk cz m2 k2 ∧ Need
(leN m2 1000000) True) ∧ ∀ (x_2 : List Value), IsTE (cutR x (tksAt cz m2)) x_2 (cutR x (tksAt cz m2)).length (cutR x (tksAt cz m2)).length → Need (beqV 64 (Value.string x) (Value.string x)) (Need (isInt IntKind.i64
((getO ca (0 + (↑i : Int).toNat * 4 + 1)).getD undef)) (Need (beqV 64 (Value.int IntKind.i64 (intV ((getO ca (0 + (↑i : Int).toNat * 4 + 1)).getD undef))) (Value.int IntKind.i64 (intV ((getO ca (0 + (↑i : Int).toNat * 4
+ 1)).getD undef)))) (Need (beqV 64 (Value.pointer (some { block := 0, off := 0 + (↑i : Int).toNat * 4 + 1 : Addr })) (Value.pointer (some { block := 0, off := 0 + (↑i : Int).toNat * 4 + 1 : Addr }))) (Need (ltI (↑i :
Int) (↑len : Int)) (Need (beqV 64 (Value.pointer (some { block := 0, off := 0 + (↑i : Int).toNat * 4 : Addr })) (Value.pointer (some { block := 0, off := 0 + (↑i : Int).toNat * 4 : Addr }))) (Need (beqV 64 (Value.int
IntKind.i64 (↑i : Int)) (Value.int IntKind.i64 (↑i : Int))) (Need (beqV 64 (Value.slice (some { block := 0, off := 0, spot := s1 : Addr }) len k1) (Value.slice (some { block := 0, off := 0, spot := s1 : Addr }) len k1))
(FlatD [1, 2] (hp [Blk.cells ca 4 false, Blk.cells [Value.int IntKind.i64 mo, Value.slice (some { block := 3, off := 0, spot := some 1 : Addr }) (m - 1) x_1.snd] 2 true, Blk.cells [Value.int IntKind.i64 mr, Value.slice
(some { block := 4, off := 0, spot := some 1 : Addr }) (cutR x (tksAt cz m2)).length (cutR x (tksAt cz m2)).length] 2 true, Blk.cells x_1.fst 2 true, Blk.cells x_2 2 true]) ∧ ∃ (b : St19), tmps 156 [(1, Value.slice (some
{ block := 0, off := 0, spot := s1 : Addr }) len k1), (2, Value.int IntKind.i64 owner), (7, Value.pointer (some { block := 1, off := 0 : Addr })), (8, Value.pointer (some { block := 2, off := 0 : Addr })), (9, Value.int
IntKind.i64 (↑i : Int)), (10, Value.string x), (11, Value.bool true)] = tmps 156 [(1, Value.slice (some { block := 0, off := 0, spot := s1 : Addr }) len k1), (2, Value.int IntKind.i64 owner), (7, Value.pointer (some
{ block := 1, off := 0 : Addr })), (8, Value.pointer (some { block := 2, off := 0 : Addr })), (9, Value.int IntKind.i64 (↑i : Int)), (10, Value.string x), (11, Value.bool true)] ∧ hp [Blk.cells ca 4 false, Blk.cells
[Value.int IntKind.i64 mo, Value.slice (some { block := 3, off := 0, spot := some 1 : Addr }) (m - 1) x_1.snd] 2 true, Blk.cells [Value.int IntKind.i64 mr, Value.slice (some
{ block := 4, off := 0, spot := some 1 : Addr }) (cutR x (tksAt cz m2)).length (cutR x (tksAt cz m2)).length] 2 true, Blk.cells x_1.fst 2 true, Blk.cells x_2 2 true] = hp [Blk.cells ca 4 false, Blk.cells [Value.int
IntKind.i64 mo, Value.slice (some { block := 3, off := 0, spot := some 1 : Addr }) b.m b.k] 2 true, Blk.cells [Value.int IntKind.i64 mr, Value.slice (some { block := 4, off := 0, spot := some 1 : Addr }) b.m2 b.k2] 2
true, Blk.cells b.cy 2 true, Blk.cells b.cz 2 true] ∧ Tok2 (i + 1) b ∧ K AE.normal (tmps 156 [(1, Value.slice (some { block := 0, off := 0, spot := s1 : Addr }) len k1), (2, Value.int IntKind.i64 owner), (7,
Value.pointer (some { block := 1, off := 0 : Addr })), (8, Value.pointer (some { block := 2, off := 0 : Addr })), (9, Value.int IntKind.i64 (↑i : Int))]) (hp [Blk.cells ca 4 false, Blk.cells [Value.int IntKind.i64 mo,
Value.slice (some { block := 3, off := 0, spot := some 1 : Addr }) b.m b.k] 2 true, Blk.cells [Value.int IntKind.i64 mr, Value.slice (some { block := 4, off := 0, spot := some 1 : Addr }) b.m2 b.k2] 2 true, Blk.cells
b.cy 2 true, Blk.cells b.cz 2 true]))))))))))))))))))))))) (Alt (eqI ((intV ((getO ca (0 + (↑i : Int).toNat * 4 + 0)).getD undef)).tmod 5) 4) (Need (ltI (↑i : Int) (↑len : Int)) (Need (isInt IntKind.i64 ((getO ca (0 +
(↑i : Int).toNat * 4 + 1)).getD undef)) ((FlatL cy ∧ FlatL [Value.int IntKind.i64 (intV ((getO ca (0 + (↑i : Int).toNat * 4 + 1)).getD undef))] ∧ True) ∧ (True ∧ IsP tkF tkG TkOk cy m k ∧ Need (leN m 1000000) True) ∧ ∀
(x_1 : List Value), IsTL (dropL (intV ((getO ca (0 + (↑i : Int).toNat * 4 + 1)).getD undef)) (tksAt cy m)) x_1 (dropL (intV ((getO ca (0 + (↑i : Int).toNat * 4 + 1)).getD undef)) (tksAt cy m)).length k → Need (ltI (↑i :
Int) (↑len : Int)) (Need (isInt IntKind.i64 ((getO ca (0 + (↑i : Int).toNat * 4 + 1)).getD undef)) ((nojL [Value.int IntKind.i64 mr, Value.slice (some { block := 1, off := 0, spot := some 1 : Addr }) m2 k2] = true ∧
FlatL cz ∧ True) ∧ (IsP tkF tkG TkOk cz m2 k2 ∧ Need (leN m2 1000000) True) ∧ ∀ (x_2 : List Value × Nat), IsTL (cutAll (ofL (intV ((getO ca (0 + (↑i : Int).toNat * 4 + 1)).getD undef)) (tksAt cz m2)) (tksAt cz m2))
x_2.fst (cutAll (ofL (intV ((getO ca (0 + (↑i : Int).toNat * 4 + 1)).getD undef)) (tksAt cz m2)) (tksAt cz m2)).length x_2.snd → Need (isInt IntKind.i64 ((getO ca (0 + (↑i : Int).toNat * 4 + 1)).getD undef)) (Need (beqV
64 (Value.int IntKind.i64 (intV ((getO ca (0 + (↑i : Int).toNat * 4 + 1)).getD undef))) (Value.int IntKind.i64 (intV ((getO ca (0 + (↑i : Int).toNat * 4 + 1)).getD undef)))) (Need (beqV 64 (Value.pointer (some
{ block := 0, off := 0 + (↑i : Int).toNat * 4 + 1 : Addr })) (Value.pointer (some { block := 0, off := 0 + (↑i : Int).toNat * 4 + 1 : Addr }))) (Need (ltI (↑i : Int) (↑len : Int)) (Need (beqV 64 (Value.pointer (some
{ block := 0, off := 0 + (↑i : Int).toNat * 4 : Addr })) (Value.pointer (some { block := 0, off := 0 + (↑i : Int).toNat * 4 : Addr }))) (Need (beqV 64 (Value.int IntKind.i64 (↑i : Int)) (Value.int IntKind.i64 (↑i :
Int))) (Need (beqV 64 (Value.slice (some { block := 0, off := 0, spot := s1 : Addr }) len k1) (Value.slice (some { block := 0, off := 0, spot := s1 : Addr }) len k1)) (FlatD [1, 2] (hp [Blk.cells ca 4 false, Blk.cells
[Value.int IntKind.i64 mo, Value.slice (some { block := 3, off := 0, spot := some 1 : Addr }) (dropL (intV ((getO ca (0 + (↑i : Int).toNat * 4 + 1)).getD undef)) (tksAt cy m)).length k] 2 true, Blk.cells [Value.int
IntKind.i64 mr, Value.slice (some { block := 4, off := 0, spot := some 1 : Addr }) (cutAll (ofL (intV ((getO ca (0 + (↑i : Int).toNat * 4 + 1)).getD undef)) (tksAt cz m2)) (tksAt cz m2)).length x_2.snd] 2 true, Blk.cells
x_1 2 true, Blk.cells x_2.fst 2 true]) ∧ ∃ (b : St19), tmps 156 [(1, Value.slice (some { block := 0, off := 0, spot := s1 : Addr }) len k1), (2, Value.int IntKind.i64 owner), (7, Value.pointer (some
{ block := 1, off := 0 : Addr })), (8, Value.pointer (some { block := 2, off := 0 : Addr })), (9, Value.int IntKind.i64 (↑i : Int)), (10, Value.string x), (11, Value.bool (eqI (wr IntKind.i64 ((↑m : Int) - (↑(dropL (intV
((getO ca (0 + (↑i : Int).toNat * 4 + 1)).getD undef)) (tksAt cy m)).length : Int))) (↑(ofL (intV ((getO ca (0 + (↑i : Int).toNat * 4 + 1)).getD undef)) (tksAt cz m2)).length : Int)))] = tmps 156 [(1, Value.slice (some
{ block := 0, off := 0, spot := s1 : Addr }) len k1), (2, Value.int IntKind.i64 owner), (7, Value.pointer (some { block := 1, off := 0 : Addr })), (8, Value.pointer (some { block := 2, off := 0 : Addr })), (9, Value.int
IntKind.i64 (↑i : Int)), (10, Value.string x), (11, Value.bool true)] ∧ hp [Blk.cells ca 4 false, Blk.cells [Value.int IntKind.i64 mo, Value.slice (some { block := 3, off := 0, spot := some 1 : Addr }) (dropL (intV
((getO ca (0 + (↑i : Int).toNat * 4 + 1)).getD undef)) (tksAt cy m)).length k] 2 true, Blk.cells [Value.int IntKind.i64 mr, Value.slice (some { block := 4, off := 0, spot := some 1 : Addr }) (cutAll (ofL (intV ((getO ca
(0 + (↑i : Int).toNat * 4 + 1)).getD undef)) (tksAt cz m2)) (tksAt cz m2)).length x_2.snd] 2 true, Blk.cells x_1 2 true, Blk.cells x_2.fst 2 true] = hp [Blk.cells ca 4 false, Blk.cells [Value.int IntKind.i64 mo,
Value.slice (some { block := 3, off := 0, spot := some 1 : Addr }) b.m b.k] 2 true, Blk.cells [Value.int IntKind.i64 mr, Value.slice (some { block := 4, off := 0, spot := some 1 : Addr }) b.m2 b.k2] 2 true, Blk.cells
b.cy 2 true, Blk.cells b.cz 2 true] ∧ Tok2 (i + 1) b ∧ K AE.normal (tmps 156 [(1, Value.slice (some { block := 0, off := 0, spot := s1 : Addr }) len k1), (2, Value.int IntKind.i64 owner), (7, Value.pointer (some
{ block := 1, off := 0 : Addr })), (8, Value.pointer (some { block := 2, off := 0 : Addr })), (9, Value.int IntKind.i64 (↑i : Int))]) (hp [Blk.cells ca 4 false, Blk.cells [Value.int IntKind.i64 mo, Value.slice (some
{ block := 3, off := 0, spot := some 1 : Addr }) b.m b.k] 2 true, Blk.cells [Value.int IntKind.i64 mr, Value.slice (some { block := 4, off := 0, spot := some 1 : Addr }) b.m2 b.k2] 2 true, Blk.cells b.cy 2 true,
Blk.cells b.cz 2 true]))))))))))))) (Need (ltI (↑i : Int) (↑len : Int)) (Need (isInt IntKind.i64 ((getO ca (0 + (↑i : Int).toNat * 4 + 1)).getD undef)) (Alt (ltI (intV ((getO ca (0 + (↑i : Int).toNat * 4 + 1)).getD
undef)) 0) (Need (ltI (↑i : Int) (↑len : Int)) (Need (isInt IntKind.i64 ((getO ca (0 + (↑i : Int).toNat * 4 + 1)).getD undef)) (Alt (ltI (intV ((getO ca (0 + (↑i : Int).toNat * 4 + 1)).getD undef)) 0) (Need (beqV 64
(Value.string x) (Value.string x)) (Need (isInt IntKind.i64 ((getO ca (0 + (↑i : Int).toNat * 4 + 1)).getD undef)) (Need (beqV 64 (Value.int IntKind.i64 (intV ((getO ca (0 + (↑i : Int).toNat * 4 + 1)).getD undef)))
(Value.int IntKind.i64 (intV ((getO ca (0 + (↑i : Int).toNat * 4 + 1)).getD undef)))) (Need (beqV 64 (Value.pointer (some { block := 0, off := 0 + (↑i : Int).toNat * 4 + 1 : Addr })) (Value.pointer (some
{ block := 0, off := 0 + (↑i : Int).toNat * 4 + 1 : Addr }))) (Need (ltI (↑i : Int) (↑len : Int)) (Need (beqV 64 (Value.pointer (some { block := 0, off := 0 + (↑i : Int).toNat * 4 : Addr })) (Value.pointer (some
{ block := 0, off := 0 + (↑i : Int).toNat * 4 : Addr }))) (Need (beqV 64 (Value.int IntKind.i64 (↑i : Int)) (Value.int IntKind.i64 (↑i : Int))) (Need (beqV 64 (Value.slice (some
{ block := 0, off := 0, spot := s1 : Addr }) len k1) (Value.slice (some { block := 0, off := 0, spot := s1 : Addr }) len k1)) (FlatD [1, 2] (hp [Blk.cells ca 4 false, Blk.cells [Value.int IntKind.i64 mo, Value.slice
(some { block := 3, off := 0, spot := some 1 : Addr }) m k] 2 true, Blk.cells [Value.int IntKind.i64 mr, Value.slice (some { block := 4, off := 0, spot := some 1 : Addr }) m2 k2] 2 true, Blk.cells cy 2 true, Blk.cells cz
2 true]) ∧ ∃ (b : St19), tmps 156 [(1, Value.slice (some { block := 0, off := 0, spot := s1 : Addr }) len k1), (2, Value.int IntKind.i64 owner), (7, Value.pointer (some { block := 1, off := 0 : Addr })), (8,
Value.pointer (some { block := 2, off := 0 : Addr })), (9, Value.int IntKind.i64 (↑i : Int)), (10, Value.string x), (11, Value.bool true)] = tmps 156 [(1, Value.slice (some { block := 0, off := 0, spot := s1 : Addr })
len k1), (2, Value.int IntKind.i64 owner), (7, Value.pointer (some { block := 1, off := 0 : Addr })), (8, Value.pointer (some { block := 2, off := 0 : Addr })), (9, Value.int IntKind.i64 (↑i : Int)), (10, Value.string
x), (11, Value.bool true)] ∧ hp [Blk.cells ca 4 false, Blk.cells [Value.int IntKind.i64 mo, Value.slice (some { block := 3, off := 0, spot := some 1 : Addr }) m k] 2 true, Blk.cells [Value.int IntKind.i64 mr, Value.slice
(some { block := 4, off := 0, spot := some 1 : Addr }) m2 k2] 2 true, Blk.cells cy 2 true, Blk.cells cz 2 true] = hp [Blk.cells ca 4 false, Blk.cells [Value.int IntKind.i64 mo, Value.slice (some
{ block := 3, off := 0, spot := some 1 : Addr }) b.m b.k] 2 true, Blk.cells [Value.int IntKind.i64 mr, Value.slice (some { block := 4, off := 0, spot := some 1 : Addr }) b.m2 b.k2] 2 true, Blk.cells b.cy 2 true,
Blk.cells b.cz 2 true] ∧ Tok2 (i + 1) b ∧ K AE.normal (tmps 156 [(1, Value.slice (some { block := 0, off := 0, spot := s1 : Addr }) len k1), (2, Value.int IntKind.i64 owner), (7, Value.pointer (some
{ block := 1, off := 0 : Addr })), (8, Value.pointer (some { block := 2, off := 0 : Addr })), (9, Value.int IntKind.i64 (↑i : Int))]) (hp [Blk.cells ca 4 false, Blk.cells [Value.int IntKind.i64 mo, Value.slice (some
{ block := 3, off := 0, spot := some 1 : Addr }) b.m b.k] 2 true, Blk.cells [Value.int IntKind.i64 mr, Value.slice (some { block := 4, off := 0, spot := some 1 : Addr }) b.m2 b.k2] 2 true, Blk.cells b.cy 2 true,
Blk.cells b.cz 2 true])))))))))) (True ∧ True ∧ Alt (!(leI 4 (↑x.size : Int) && leI (↑x.size : Int) 16)) (Need (beqV 64 (Value.string x) (Value.string x)) (Need (isInt IntKind.i64 ((getO ca (0 + (↑i : Int).toNat * 4 +
1)).getD undef)) (Need (beqV 64 (Value.int IntKind.i64 (intV ((getO ca (0 + (↑i : Int).toNat * 4 + 1)).getD undef))) (Value.int IntKind.i64 (intV ((getO ca (0 + (↑i : Int).toNat * 4 + 1)).getD undef)))) (Need (beqV 64
(Value.pointer (some { block := 0, off := 0 + (↑i : Int).toNat * 4 + 1 : Addr })) (Value.pointer (some { block := 0, off := 0 + (↑i : Int).toNat * 4 + 1 : Addr }))) (Need (ltI (↑i : Int) (↑len : Int)) (Need (beqV 64
(Value.pointer (some { block := 0, off := 0 + (↑i : Int).toNat * 4 : Addr })) (Value.pointer (some { block := 0, off := 0 + (↑i : Int).toNat * 4 : Addr }))) (Need (beqV 64 (Value.int IntKind.i64 (↑i : Int)) (Value.int
IntKind.i64 (↑i : Int))) (Need (beqV 64 (Value.slice (some { block := 0, off := 0, spot := s1 : Addr }) len k1) (Value.slice (some { block := 0, off := 0, spot := s1 : Addr }) len k1)) (FlatD [1, 2] (hp [Blk.cells ca 4
false, Blk.cells [Value.int IntKind.i64 mo, Value.slice (some { block := 3, off := 0, spot := some 1 : Addr }) m k] 2 true, Blk.cells [Value.int IntKind.i64 mr, Value.slice (some
{ block := 4, off := 0, spot := some 1 : Addr }) m2 k2] 2 true, Blk.cells cy 2 true, Blk.cells cz 2 true]) ∧ ∃ (b : St19), tmps 156 [(1, Value.slice (some { block := 0, off := 0, spot := s1 : Addr }) len k1), (2,
Value.int IntKind.i64 owner), (7, Value.pointer (some { block := 1, off := 0 : Addr })), (8, Value.pointer (some { block := 2, off := 0 : Addr })), (9, Value.int IntKind.i64 (↑i : Int)), (10, Value.string x), (11,
Value.bool true)] = tmps 156 [(1, Value.slice (some { block := 0, off := 0, spot := s1 : Addr }) len k1), (2, Value.int IntKind.i64 owner), (7, Value.pointer (some { block := 1, off := 0 : Addr })), (8, Value.pointer
(some { block := 2, off := 0 : Addr })), (9, Value.int IntKind.i64 (↑i : Int)), (10, Value.string x), (11, Value.bool true)] ∧ hp [Blk.cells ca 4 false, Blk.cells [Value.int IntKind.i64 mo, Value.slice (some
{ block := 3, off := 0, spot := some 1 : Addr }) m k] 2 true, Blk.cells [Value.int IntKind.i64 mr, Value.slice (some { block := 4, off := 0, spot := some 1 : Addr }) m2 k2] 2 true, Blk.cells cy 2 true, Blk.cells cz 2
true] = hp [Blk.cells ca 4 false, Blk.cells [Value.int IntKind.i64 mo, Value.slice (some { block := 3, off := 0, spot := some 1 : Addr }) b.m b.k] 2 true, Blk.cells [Value.int IntKind.i64 mr, Value.slice (some
{ block := 4, off := 0, spot := some 1 : Addr }) b.m2 b.k2] 2 true, Blk.cells b.cy 2 true, Blk.cells b.cz 2 true] ∧ Tok2 (i + 1) b ∧ K AE.normal (tmps 156 [(1, Value.slice (some
{ block := 0, off := 0, spot := s1 : Addr }) len k1), (2, Value.int IntKind.i64 owner), (7, Value.pointer (some { block := 1, off := 0 : Addr })), (8, Value.pointer (some { block := 2, off := 0 : Addr })), (9, Value.int
IntKind.i64 (↑i : Int))]) (hp [Blk.cells ca 4 false, Blk.cells [Value.int IntKind.i64 mo, Value.slice (some { block := 3, off := 0, spot := some 1 : Addr }) b.m b.k] 2 true, Blk.cells [Value.int IntKind.i64 mr,
Value.slice (some { block := 4, off := 0, spot := some 1 : Addr }) b.m2 b.k2] 2 true, Blk.cells b.cy 2 true, Blk.cells b.cz 2 true])))))))))) ((nojL [Value.int IntKind.i64 mr, Value.slice (some
{ block := 1, off := 0, spot := some 1 : Addr }) m2 k2] = true ∧ FlatL cz ∧ True) ∧ (IsP tkF tkG TkOk cz m2 k2 ∧ Need (leN m2 1000000) True) ∧ Alt (ownR x (tksAt cz m2)).isSome (Need (beqV 64 (Value.string x)
(Value.string x)) (Need (isInt IntKind.i64 ((getO ca (0 + (↑i : Int).toNat * 4 + 1)).getD undef)) (Need (beqV 64 (Value.int IntKind.i64 (intV ((getO ca (0 + (↑i : Int).toNat * 4 + 1)).getD undef))) (Value.int IntKind.i64
(intV ((getO ca (0 + (↑i : Int).toNat * 4 + 1)).getD undef)))) (Need (beqV 64 (Value.pointer (some { block := 0, off := 0 + (↑i : Int).toNat * 4 + 1 : Addr })) (Value.pointer (some
{ block := 0, off := 0 + (↑i : Int).toNat * 4 + 1 : Addr }))) (Need (ltI (↑i : Int) (↑len : Int)) (Need (beqV 64 (Value.pointer (some { block := 0, off := 0 + (↑i : Int).toNat * 4 : Addr })) (Value.pointer (some
{ block := 0, off := 0 + (↑i : Int).toNat * 4 : Addr }))) (Need (beqV 64 (Value.int IntKind.i64 (↑i : Int)) (Value.int IntKind.i64 (↑i : Int))) (Need (beqV 64 (Value.slice (some
{ block := 0, off := 0, spot := s1 : Addr }) len k1) (Value.slice (some { block := 0, off := 0, spot := s1 : Addr }) len k1)) (FlatD [1, 2] (hp [Blk.cells ca 4 false, Blk.cells [Value.int IntKind.i64 mo, Value.slice
(some { block := 3, off := 0, spot := some 1 : Addr }) m k] 2 true, Blk.cells [Value.int IntKind.i64 mr, Value.slice (some { block := 4, off := 0, spot := some 1 : Addr }) m2 k2] 2 true, Blk.cells cy 2 true, Blk.cells cz
2 true]) ∧ ∃ (b : St19), tmps 156 [(1, Value.slice (some { block := 0, off := 0, spot := s1 : Addr }) len k1), (2, Value.int IntKind.i64 owner), (7, Value.pointer (some { block := 1, off := 0 : Addr })), (8,
Value.pointer (some { block := 2, off := 0 : Addr })), (9, Value.int IntKind.i64 (↑i : Int)), (10, Value.string x), (11, Value.bool false)] = tmps 156 [(1, Value.slice (some { block := 0, off := 0, spot := s1 : Addr })
len k1), (2, Value.int IntKind.i64 owner), (7, Value.pointer (some { block := 1, off := 0 : Addr })), (8, Value.pointer (some { block := 2, off := 0 : Addr })), (9, Value.int IntKind.i64 (↑i : Int)), (10, Value.string
x), (11, Value.bool true)] ∧ hp [Blk.cells ca 4 false, Blk.cells [Value.int IntKind.i64 mo, Value.slice (some { block := 3, off := 0, spot := some 1 : Addr }) m k] 2 true, Blk.cells [Value.int IntKind.i64 mr, Value.slice
(some { block := 4, off := 0, spot := some 1 : Addr }) m2 k2] 2 true, Blk.cells cy 2 true, Blk.cells cz 2 true] = hp [Blk.cells ca 4 false, Blk.cells [Value.int IntKind.i64 mo, Value.slice (some
{ block := 3, off := 0, spot := some 1 : Addr }) b.m b.k] 2 true, Blk.cells [Value.int IntKind.i64 mr, Value.slice (some { block := 4, off := 0, spot := some 1 : Addr }) b.m2 b.k2] 2 true, Blk.cells b.cy 2 true,
Blk.cells b.cz 2 true] ∧ Tok2 (i + 1) b ∧ K AE.normal (tmps 156 [(1, Value.slice (some { block := 0, off := 0, spot := s1 : Addr }) len k1), (2, Value.int IntKind.i64 owner), (7, Value.pointer (some
{ block := 1, off := 0 : Addr })), (8, Value.pointer (some { block := 2, off := 0 : Addr })), (9, Value.int IntKind.i64 (↑i : Int))]) (hp [Blk.cells ca 4 false, Blk.cells [Value.int IntKind.i64 mo, Value.slice (some
{ block := 3, off := 0, spot := some 1 : Addr }) b.m b.k] 2 true, Blk.cells [Value.int IntKind.i64 mr, Value.slice (some { block := 4, off := 0, spot := some 1 : Addr }) b.m2 b.k2] 2 true, Blk.cells b.cy 2 true,
Blk.cells b.cz 2 true])))))))))) ((nojL [Value.int IntKind.i64 mr, Value.slice (some { block := 1, off := 0, spot := some 1 : Addr }) m2 k2] = true ∧ FlatL cz ∧ True) ∧ (IsP tkF tkG TkOk cz m2 k2 ∧ Need (leN m2 1000000)
True) ∧ ∀ (x_1 : List Value), IsS (ofL (intV ((getO ca (0 + (↑i : Int).toNat * 4 + 1)).getD undef)) (tksAt cz m2)) x_1 (ofL (intV ((getO ca (0 + (↑i : Int).toNat * 4 + 1)).getD undef)) (tksAt cz m2)).length (ofL (intV
((getO ca (0 + (↑i : Int).toNat * 4 + 1)).getD undef)) (tksAt cz m2)).length → Need (beqV 64 (Value.int IntKind.i64 (intV (Value.int IntKind.i64 mr))) (Value.int IntKind.i64 (intV (Value.int IntKind.i64 mr)))) (Alt (leI
(intV (Value.int IntKind.i64 mr)) (↑(ofL (intV ((getO ca (0 + (↑i : Int).toNat * 4 + 1)).getD undef)) (tksAt cz m2)).length : Int)) (Need (beqV 64 (Value.string x) (Value.string x)) (Need (isInt IntKind.i64 ((getO ca (0
+ (↑i : Int).toNat * 4 + 1)).getD undef)) (Need (beqV 64 (Value.int IntKind.i64 (intV ((getO ca (0 + (↑i : Int).toNat * 4 + 1)).getD undef))) (Value.int IntKind.i64 (intV ((getO ca (0 + (↑i : Int).toNat * 4 + 1)).getD
undef)))) (Need (beqV 64 (Value.pointer (some { block := 0, off := 0 + (↑i : Int).toNat * 4 + 1 : Addr })) (Value.pointer (some { block := 0, off := 0 + (↑i : Int).toNat * 4 + 1 : Addr }))) (Need (ltI (↑i : Int) (↑len :
Int)) (Need (beqV 64 (Value.pointer (some { block := 0, off := 0 + (↑i : Int).toNat * 4 : Addr })) (Value.pointer (some { block := 0, off := 0 + (↑i : Int).toNat * 4 : Addr }))) (Need (beqV 64 (Value.int IntKind.i64 (↑i
: Int)) (Value.int IntKind.i64 (↑i : Int))) (Need (beqV 64 (Value.slice (some { block := 0, off := 0, spot := s1 : Addr }) len k1) (Value.slice (some { block := 0, off := 0, spot := s1 : Addr }) len k1)) (FlatD [1, 2]
(hp [Blk.cells ca 4 false, Blk.cells [Value.int IntKind.i64 mo, Value.slice (some { block := 3, off := 0, spot := some 1 : Addr }) m k] 2 true, Blk.cells [Value.int IntKind.i64 mr, Value.slice (some
{ block := 4, off := 0, spot := some 1 : Addr }) m2 k2] 2 true, Blk.cells cy 2 true, Blk.cells cz 2 true]) ∧ ∃ (b : St19), tmps 156 [(1, Value.slice (some { block := 0, off := 0, spot := s1 : Addr }) len k1), (2,
Value.int IntKind.i64 owner), (7, Value.pointer (some { block := 1, off := 0 : Addr })), (8, Value.pointer (some { block := 2, off := 0 : Addr })), (9, Value.int IntKind.i64 (↑i : Int)), (10, Value.string x), (11,
Value.bool false)] = tmps 156 [(1, Value.slice (some { block := 0, off := 0, spot := s1 : Addr }) len k1), (2, Value.int IntKind.i64 owner), (7, Value.pointer (some { block := 1, off := 0 : Addr })), (8, Value.pointer
(some { block := 2, off := 0 : Addr })), (9, Value.int IntKind.i64 (↑i : Int)), (10, Value.string x), (11, Value.bool true)] ∧ hp [Blk.cells ca 4 false, Blk.cells [Value.int IntKind.i64 mo, Value.slice (some
{ block := 3, off := 0, spot := some 1 : Addr }) m k] 2 true, Blk.cells [Value.int IntKind.i64 mr, Value.slice (some { block := 4, off := 0, spot := some 1 : Addr }) m2 k2] 2 true, Blk.cells cy 2 true, Blk.cells cz 2
true] = hp [Blk.cells ca 4 false, Blk.cells [Value.int IntKind.i64 mo, Value.slice (some { block := 3, off := 0, spot := some 1 : Addr }) b.m b.k] 2 true, Blk.cells [Value.int IntKind.i64 mr, Value.slice (some
{ block := 4, off := 0, spot := some 1 : Addr }) b.m2 b.k2] 2 true, Blk.cells b.cy 2 true, Blk.cells b.cz 2 true] ∧ Tok2 (i + 1) b ∧ K AE.normal (tmps 156 [(1, Value.slice (some
{ block := 0, off := 0, spot := s1 : Addr }) len k1), (2, Value.int IntKind.i64 owner), (7, Value.pointer (some { block := 1, off := 0 : Addr })), (8, Value.pointer (some { block := 2, off := 0 : Addr })), (9, Value.int
IntKind.i64 (↑i : Int))]) (hp [Blk.cells ca 4 false, Blk.cells [Value.int IntKind.i64 mo, Value.slice (some { block := 3, off := 0, spot := some 1 : Addr }) b.m b.k] 2 true, Blk.cells [Value.int IntKind.i64 mr,
Value.slice (some { block := 4, off := 0, spot := some 1 : Addr }) b.m2 b.k2] 2 true, Blk.cells b.cy 2 true, Blk.cells b.cz 2 true])))))))))) ((nojL [Value.int IntKind.i64 mr, Value.slice (some
{ block := 1, off := 0, spot := some 1 : Addr }) m2 k2] = true ∧ FlatL cz ∧ True) ∧ (IsP tkF tkG TkOk cz m2 k2 ∧ OkP (intV ((getO ca (0 + (↑i : Int).toNat * 4 + 1)).getD undef)) x ∧ Need (leN m2 1000000) True) ∧ ∀ (x_2 :
List Value), IsTL (putT (intV ((getO ca (0 + (↑i : Int).toNat * 4 + 1)).getD undef)) x (tksAt cz m2)) x_2 (m2 + 1) (m2 + 1) → Need (beqV 64 (Value.string x) (Value.string x)) (Need (isInt IntKind.i64 ((getO ca (0 + (↑i :
Int).toNat * 4 + 1)).getD undef)) (Need (beqV 64 (Value.int IntKind.i64 (intV ((getO ca (0 + (↑i : Int).toNat * 4 + 1)).getD undef))) (Value.int IntKind.i64 (intV ((getO ca (0 + (↑i : Int).toNat * 4 + 1)).getD undef))))
(Need (beqV 64 (Value.pointer (some { block := 0, off := 0 + (↑i : Int).toNat * 4 + 1 : Addr })) (Value.pointer (some { block := 0, off := 0 + (↑i : Int).toNat * 4 + 1 : Addr }))) (Need (ltI (↑i : Int) (↑len : Int))
(Need (beqV 64 (Value.pointer (some { block := 0, off := 0 + (↑i : Int).toNat * 4 : Addr })) (Value.pointer (some { block := 0, off := 0 + (↑i : Int).toNat * 4 : Addr }))) (Need (beqV 64 (Value.int IntKind.i64 (↑i :
Int)) (Value.int IntKind.i64 (↑i : Int))) (Need (beqV 64 (Value.slice (some { block := 0, off := 0, spot := s1 : Addr }) len k1) (Value.slice (some { block := 0, off := 0, spot := s1 : Addr }) len k1)) (FlatD [1, 2] (hp
[Blk.cells ca 4 false, Blk.cells [Value.int IntKind.i64 mo, Value.slice (some { block := 3, off := 0, spot := some 1 : Addr }) m k] 2 true, Blk.cells [Value.int IntKind.i64 mr, Value.slice (some
{ block := 4, off := 0, spot := some 1 : Addr }) (m2 + 1) (m2 + 1)] 2 true, Blk.cells cy 2 true, Blk.cells x_2 2 true]) ∧ ∃ (b : St19), tmps 156 [(1, Value.slice (some { block := 0, off := 0, spot := s1 : Addr }) len
k1), (2, Value.int IntKind.i64 owner), (7, Value.pointer (some { block := 1, off := 0 : Addr })), (8, Value.pointer (some { block := 2, off := 0 : Addr })), (9, Value.int IntKind.i64 (↑i : Int)), (10, Value.string x),
(11, Value.bool false)] = tmps 156 [(1, Value.slice (some { block := 0, off := 0, spot := s1 : Addr }) len k1), (2, Value.int IntKind.i64 owner), (7, Value.pointer (some { block := 1, off := 0 : Addr })), (8,
Value.pointer (some { block := 2, off := 0 : Addr })), (9, Value.int IntKind.i64 (↑i : Int)), (10, Value.string x), (11, Value.bool true)] ∧ hp [Blk.cells ca 4 false, Blk.cells [Value.int IntKind.i64 mo, Value.slice
(some { block := 3, off := 0, spot := some 1 : Addr }) m k] 2 true, Blk.cells [Value.int IntKind.i64 mr, Value.slice (some { block := 4, off := 0, spot := some 1 : Addr }) (m2 + 1) (m2 + 1)] 2 true, Blk.cells cy 2 true,
Blk.cells x_2 2 true] = hp [Blk.cells ca 4 false, Blk.cells [Value.int IntKind.i64 mo, Value.slice (some { block := 3, off := 0, spot := some 1 : Addr }) b.m b.k] 2 true, Blk.cells [Value.int IntKind.i64 mr, Value.slice
(some { block := 4, off := 0, spot := some 1 : Addr }) b.m2 b.k2] 2 true, Blk.cells b.cy 2 true, Blk.cells b.cz 2 true] ∧ Tok2 (i + 1) b ∧ K AE.normal (tmps 156 [(1, Value.slice (some
{ block := 0, off := 0, spot := s1 : Addr }) len k1), (2, Value.int IntKind.i64 owner), (7, Value.pointer (some { block := 1, off := 0 : Addr })), (8, Value.pointer (some { block := 2, off := 0 : Addr })), (9, Value.int
IntKind.i64 (↑i : Int))]) (hp [Blk.cells ca 4 false, Blk.cells [Value.int IntKind.i64 mo, Value.slice (some { block := 3, off := 0, spot := some 1 : Addr }) b.m b.k] 2 true, Blk.cells [Value.int IntKind.i64 mr,
Value.slice (some { block := 4, off := 0, spot := some 1 : Addr }) b.m2 b.k2] 2 true, Blk.cells b.cy 2 true, Blk.cells b.cz 2 true]))))))))))))))))) (True ∧ True ∧ Alt (!(leI 4 (↑x.size : Int) && leI (↑x.size : Int) 16))
(Need (ltI (↑i : Int) (↑len : Int)) (Need (isInt IntKind.i64 ((getO ca (0 + (↑i : Int).toNat * 4 + 1)).getD undef)) (Alt (ltI (intV ((getO ca (0 + (↑i : Int).toNat * 4 + 1)).getD undef)) 0) (Need (beqV 64 (Value.string
x) (Value.string x)) (Need (isInt IntKind.i64 ((getO ca (0 + (↑i : Int).toNat * 4 + 1)).getD undef)) (Need (beqV 64 (Value.int IntKind.i64 (intV ((getO ca (0 + (↑i : Int).toNat * 4 + 1)).getD undef))) (Value.int
IntKind.i64 (intV ((getO ca (0 + (↑i : Int).toNat * 4 + 1)).getD undef)))) (Need (beqV 64 (Value.pointer (some { block := 0, off := 0 + (↑i : Int).toNat * 4 + 1 : Addr })) (Value.pointer (some
{ block := 0, off := 0 + (↑i : Int).toNat * 4 + 1 : Addr }))) (Need (ltI (↑i : Int) (↑len : Int)) (Need (beqV 64 (Value.pointer (some { block := 0, off := 0 + (↑i : Int).toNat * 4 : Addr })) (Value.pointer (some
{ block := 0, off := 0 + (↑i : Int).toNat * 4 : Addr }))) (Need (beqV 64 (Value.int IntKind.i64 (↑i : Int)) (Value.int IntKind.i64 (↑i : Int))) (Need (beqV 64 (Value.slice (some
{ block := 0, off := 0, spot := s1 : Addr }) len k1) (Value.slice (some { block := 0, off := 0, spot := s1 : Addr }) len k1)) (FlatD [1, 2] (hp [Blk.cells ca 4 false, Blk.cells [Value.int IntKind.i64 mo, Value.slice
(some { block := 3, off := 0, spot := some 1 : Addr }) m k] 2 true, Blk.cells [Value.int IntKind.i64 mr, Value.slice (some { block := 4, off := 0, spot := some 1 : Addr }) m2 k2] 2 true, Blk.cells cy 2 true, Blk.cells cz
2 true]) ∧ ∃ (b : St19), tmps 156 [(1, Value.slice (some { block := 0, off := 0, spot := s1 : Addr }) len k1), (2, Value.int IntKind.i64 owner), (7, Value.pointer (some { block := 1, off := 0 : Addr })), (8,
Value.pointer (some { block := 2, off := 0 : Addr })), (9, Value.int IntKind.i64 (↑i : Int)), (10, Value.string x), (11, Value.bool true)] = tmps 156 [(1, Value.slice (some { block := 0, off := 0, spot := s1 : Addr })
len k1), (2, Value.int IntKind.i64 owner), (7, Value.pointer (some { block := 1, off := 0 : Addr })), (8, Value.pointer (some { block := 2, off := 0 : Addr })), (9, Value.int IntKind.i64 (↑i : Int)), (10, Value.string
x), (11, Value.bool true)] ∧ hp [Blk.cells ca 4 false, Blk.cells [Value.int IntKind.i64 mo, Value.slice (some { block := 3, off := 0, spot := some 1 : Addr }) m k] 2 true, Blk.cells [Value.int IntKind.i64 mr, Value.slice
(some { block := 4, off := 0, spot := some 1 : Addr }) m2 k2] 2 true, Blk.cells cy 2 true, Blk.cells cz 2 true] = hp [Blk.cells ca 4 false, Blk.cells [Value.int IntKind.i64 mo, Value.slice (some
{ block := 3, off := 0, spot := some 1 : Addr }) b.m b.k] 2 true, Blk.cells [Value.int IntKind.i64 mr, Value.slice (some { block := 4, off := 0, spot := some 1 : Addr }) b.m2 b.k2] 2 true, Blk.cells b.cy 2 true,
Blk.cells b.cz 2 true] ∧ Tok2 (i + 1) b ∧ K AE.normal (tmps 156 [(1, Value.slice (some { block := 0, off := 0, spot := s1 : Addr }) len k1), (2, Value.int IntKind.i64 owner), (7, Value.pointer (some
{ block := 1, off := 0 : Addr })), (8, Value.pointer (some { block := 2, off := 0 : Addr })), (9, Value.int IntKind.i64 (↑i : Int))]) (hp [Blk.cells ca 4 false, Blk.cells [Value.int IntKind.i64 mo, Value.slice (some
{ block := 3, off := 0, spot := some 1 : Addr }) b.m b.k] 2 true, Blk.cells [Value.int IntKind.i64 mr, Value.slice (some { block := 4, off := 0, spot := some 1 : Addr }) b.m2 b.k2] 2 true, Blk.cells b.cy 2 true,
Blk.cells b.cz 2 true])))))))))) (True ∧ True ∧ Alt (!(leI 4 (↑x.size : Int) && leI (↑x.size : Int) 16)) (Need (beqV 64 (Value.string x) (Value.string x)) (Need (isInt IntKind.i64 ((getO ca (0 + (↑i : Int).toNat * 4 +
1)).getD undef)) (Need (beqV 64 (Value.int IntKind.i64 (intV ((getO ca (0 + (↑i : Int).toNat * 4 + 1)).getD undef))) (Value.int IntKind.i64 (intV ((getO ca (0 + (↑i : Int).toNat * 4 + 1)).getD undef)))) (Need (beqV 64
(Value.pointer (some { block := 0, off := 0 + (↑i : Int).toNat * 4 + 1 : Addr })) (Value.pointer (some { block := 0, off := 0 + (↑i : Int).toNat * 4 + 1 : Addr }))) (Need (ltI (↑i : Int) (↑len : Int)) (Need (beqV 64
(Value.pointer (some { block := 0, off := 0 + (↑i : Int).toNat * 4 : Addr })) (Value.pointer (some { block := 0, off := 0 + (↑i : Int).toNat * 4 : Addr }))) (Need (beqV 64 (Value.int IntKind.i64 (↑i : Int)) (Value.int
IntKind.i64 (↑i : Int))) (Need (beqV 64 (Value.slice (some { block := 0, off := 0, spot := s1 : Addr }) len k1) (Value.slice (some { block := 0, off := 0, spot := s1 : Addr }) len k1)) (FlatD [1, 2] (hp [Blk.cells ca 4
false, Blk.cells [Value.int IntKind.i64 mo, Value.slice (some { block := 3, off := 0, spot := some 1 : Addr }) m k] 2 true, Blk.cells [Value.int IntKind.i64 mr, Value.slice (some
{ block := 4, off := 0, spot := some 1 : Addr }) m2 k2] 2 true, Blk.cells cy 2 true, Blk.cells cz 2 true]) ∧ ∃ (b : St19), tmps 156 [(1, Value.slice (some { block := 0, off := 0, spot := s1 : Addr }) len k1), (2,
Value.int IntKind.i64 owner), (7, Value.pointer (some { block := 1, off := 0 : Addr })), (8, Value.pointer (some { block := 2, off := 0 : Addr })), (9, Value.int IntKind.i64 (↑i : Int)), (10, Value.string x), (11,
Value.bool true)] = tmps 156 [(1, Value.slice (some { block := 0, off := 0, spot := s1 : Addr }) len k1), (2, Value.int IntKind.i64 owner), (7, Value.pointer (some { block := 1, off := 0 : Addr })), (8, Value.pointer
(some { block := 2, off := 0 : Addr })), (9, Value.int IntKind.i64 (↑i : Int)), (10, Value.string x), (11, Value.bool true)] ∧ hp [Blk.cells ca 4 false, Blk.cells [Value.int IntKind.i64 mo, Value.slice (some
{ block := 3, off := 0, spot := some 1 : Addr }) m k] 2 true, Blk.cells [Value.int IntKind.i64 mr, Value.slice (some { block := 4, off := 0, spot := some 1 : Addr }) m2 k2] 2 true, Blk.cells cy 2 true, Blk.cells cz 2
true] = hp [Blk.cells ca 4 false, Blk.cells [Value.int IntKind.i64 mo, Value.slice (some { block := 3, off := 0, spot := some 1 : Addr }) b.m b.k] 2 true, Blk.cells [Value.int IntKind.i64 mr, Value.slice (some
{ block := 4, off := 0, spot := some 1 : Addr }) b.m2 b.k2] 2 true, Blk.cells b.cy 2 true, Blk.cells b.cz 2 true] ∧ Tok2 (i + 1) b ∧ K AE.normal (tmps 156 [(1, Value.slice (some
{ block := 0, off := 0, spot := s1 : Addr }) len k1), (2, Value.int IntKind.i64 owner), (7, Value.pointer (some { block := 1, off := 0 : Addr })), (8, Value.pointer (some { block := 2, off := 0 : Addr })), (9, Value.int
IntKind.i64 (↑i : Int))]) (hp [Blk.cells ca 4 false, Blk.cells [Value.int IntKind.i64 mo, Value.slice (some { block := 3, off := 0, spot := some 1 : Addr }) b.m b.k] 2 true, Blk.cells [Value.int IntKind.i64 mr,
Value.slice (some { block := 4, off := 0, spot := some 1 : Addr }) b.m2 b.k2] 2 true, Blk.cells b.cy 2 true, Blk.cells b.cz 2 true])))))))))) ((nojL [Value.int IntKind.i64 mr, Value.slice (some
{ block := 1, off := 0, spot := some 1 : Addr }) m2 k2] = true ∧ FlatL cz ∧ True) ∧ (IsP tkF tkG TkOk cz m2 k2 ∧ Need (leN m2 1000000) True) ∧ Alt (ownR x (tksAt cz m2)).isSome (Need (beqV 64 (Value.string x)
(Value.string x)) (Need (isInt IntKind.i64 ((getO ca (0 + (↑i : Int).toNat * 4 + 1)).getD undef)) (Need (beqV 64 (Value.int IntKind.i64 (intV ((getO ca (0 + (↑i : Int).toNat * 4 + 1)).getD undef))) (Value.int IntKind.i64
(intV ((getO ca (0 + (↑i : Int).toNat * 4 + 1)).getD undef)))) (Need (beqV 64 (Value.pointer (some { block := 0, off := 0 + (↑i : Int).toNat * 4 + 1 : Addr })) (Value.pointer (some
{ block := 0, off := 0 + (↑i : Int).toNat * 4 + 1 : Addr }))) (Need (ltI (↑i : Int) (↑len : Int)) (Need (beqV 64 (Value.pointer (some { block := 0, off := 0 + (↑i : Int).toNat * 4 : Addr })) (Value.pointer (some
{ block := 0, off := 0 + (↑i : Int).toNat * 4 : Addr }))) (Need (beqV 64 (Value.int IntKind.i64 (↑i : Int)) (Value.int IntKind.i64 (↑i : Int))) (Need (beqV 64 (Value.slice (some
{ block := 0, off := 0, spot := s1 : Addr }) len k1) (Value.slice (some { block := 0, off := 0, spot := s1 : Addr }) len k1)) (FlatD [1, 2] (hp [Blk.cells ca 4 false, Blk.cells [Value.int IntKind.i64 mo, Value.slice
(some { block := 3, off := 0, spot := some 1 : Addr }) m k] 2 true, Blk.cells [Value.int IntKind.i64 mr, Value.slice (some { block := 4, off := 0, spot := some 1 : Addr }) m2 k2] 2 true, Blk.cells cy 2 true, Blk.cells cz
2 true]) ∧ ∃ (b : St19), tmps 156 [(1, Value.slice (some { block := 0, off := 0, spot := s1 : Addr }) len k1), (2, Value.int IntKind.i64 owner), (7, Value.pointer (some { block := 1, off := 0 : Addr })), (8,
Value.pointer (some { block := 2, off := 0 : Addr })), (9, Value.int IntKind.i64 (↑i : Int)), (10, Value.string x), (11, Value.bool false)] = tmps 156 [(1, Value.slice (some { block := 0, off := 0, spot := s1 : Addr })
len k1), (2, Value.int IntKind.i64 owner), (7, Value.pointer (some { block := 1, off := 0 : Addr })), (8, Value.pointer (some { block := 2, off := 0 : Addr })), (9, Value.int IntKind.i64 (↑i : Int)), (10, Value.string
x), (11, Value.bool true)] ∧ hp [Blk.cells ca 4 false, Blk.cells [Value.int IntKind.i64 mo, Value.slice (some { block := 3, off := 0, spot := some 1 : Addr }) m k] 2 true, Blk.cells [Value.int IntKind.i64 mr, Value.slice
(some { block := 4, off := 0, spot := some 1 : Addr }) m2 k2] 2 true, Blk.cells cy 2 true, Blk.cells cz 2 true] = hp [Blk.cells ca 4 false, Blk.cells [Value.int IntKind.i64 mo, Value.slice (some
{ block := 3, off := 0, spot := some 1 : Addr }) b.m b.k] 2 true, Blk.cells [Value.int IntKind.i64 mr, Value.slice (some { block := 4, off := 0, spot := some 1 : Addr }) b.m2 b.k2] 2 true, Blk.cells b.cy 2 true,
Blk.cells b.cz 2 true] ∧ Tok2 (i + 1) b ∧ K AE.normal (tmps 156 [(1, Value.slice (some { block := 0, off := 0, spot := s1 : Addr }) len k1), (2, Value.int IntKind.i64 owner), (7, Value.pointer (some
{ block := 1, off := 0 : Addr })), (8, Value.pointer (some { block := 2, off := 0 : Addr })), (9, Value.int IntKind.i64 (↑i : Int))]) (hp [Blk.cells ca 4 false, Blk.cells [Value.int IntKind.i64 mo, Value.slice (some
{ block := 3, off := 0, spot := some 1 : Addr }) b.m b.k] 2 true, Blk.cells [Value.int IntKind.i64 mr, Value.slice (some { block := 4, off := 0, spot := some 1 : Addr }) b.m2 b.k2] 2 true, Blk.cells b.cy 2 true,
Blk.cells b.cz 2 true])))))))))) ((nojL [Value.int IntKind.i64 mr, Value.slice (some { block := 1, off := 0, spot := some 1 : Addr }) m2 k2] = true ∧ FlatL cz ∧ True) ∧ (IsP tkF tkG TkOk cz m2 k2 ∧ Need (leN m2 1000000)
True) ∧ ∀ (x_1 : List Value), IsS (ofL (intV ((getO ca (0 + (↑i : Int).toNat * 4 + 1)).getD undef)) (tksAt cz m2)) x_1 (ofL (intV ((getO ca (0 + (↑i : Int).toNat * 4 + 1)).getD undef)) (tksAt cz m2)).length (ofL (intV
((getO ca (0 + (↑i : Int).toNat * 4 + 1)).getD undef)) (tksAt cz m2)).length → Need (beqV 64 (Value.int IntKind.i64 (intV (Value.int IntKind.i64 mr))) (Value.int IntKind.i64 (intV (Value.int IntKind.i64 mr)))) (Alt (leI
(intV (Value.int IntKind.i64 mr)) (↑(ofL (intV ((getO ca (0 + (↑i : Int).toNat * 4 + 1)).getD undef)) (tksAt cz m2)).length : Int)) (Need (beqV 64 (Value.string x) (Value.string x)) (Need (isInt IntKind.i64 ((getO ca (0
+ (↑i : Int).toNat * 4 + 1)).getD undef)) (Need (beqV 64 (Value.int IntKind.i64 (intV ((getO ca (0 + (↑i : Int).toNat * 4 + 1)).getD undef))) (Value.int IntKind.i64 (intV ((getO ca (0 + (↑i : Int).toNat * 4 + 1)).getD
undef)))) (Need (beqV 64 (Value.pointer (some { block := 0, off := 0 + (↑i : Int).toNat * 4 + 1 : Addr })) (Value.pointer (some { block := 0, off := 0 + (↑i : Int).toNat * 4 + 1 : Addr }))) (Need (ltI (↑i : Int) (↑len :
Int)) (Need (beqV 64 (Value.pointer (some { block := 0, off := 0 + (↑i : Int).toNat * 4 : Addr })) (Value.pointer (some { block := 0, off := 0 + (↑i : Int).toNat * 4 : Addr }))) (Need (beqV 64 (Value.int IntKind.i64 (↑i
: Int)) (Value.int IntKind.i64 (↑i : Int))) (Need (beqV 64 (Value.slice (some { block := 0, off := 0, spot := s1 : Addr }) len k1) (Value.slice (some { block := 0, off := 0, spot := s1 : Addr }) len k1)) (FlatD [1, 2]
(hp [Blk.cells ca 4 false, Blk.cells [Value.int IntKind.i64 mo, Value.slice (some { block := 3, off := 0, spot := some 1 : Addr }) m k] 2 true, Blk.cells [Value.int IntKind.i64 mr, Value.slice (some
{ block := 4, off := 0, spot := some 1 : Addr }) m2 k2] 2 true, Blk.cells cy 2 true, Blk.cells cz 2 true]) ∧ ∃ (b : St19), tmps 156 [(1, Value.slice (some { block := 0, off := 0, spot := s1 : Addr }) len k1), (2,
Value.int IntKind.i64 owner), (7, Value.pointer (some { block := 1, off := 0 : Addr })), (8, Value.pointer (some { block := 2, off := 0 : Addr })), (9, Value.int IntKind.i64 (↑i : Int)), (10, Value.string x), (11,
Value.bool false)] = tmps 156 [(1, Value.slice (some { block := 0, off := 0, spot := s1 : Addr }) len k1), (2, Value.int IntKind.i64 owner), (7, Value.pointer (some { block := 1, off := 0 : Addr })), (8, Value.pointer
(some { block := 2, off := 0 : Addr })), (9, Value.int IntKind.i64 (↑i : Int)), (10, Value.string x), (11, Value.bool true)] ∧ hp [Blk.cells ca 4 false, Blk.cells [Value.int IntKind.i64 mo, Value.slice (some
{ block := 3, off := 0, spot := some 1 : Addr }) m k] 2 true, Blk.cells [Value.int IntKind.i64 mr, Value.slice (some { block := 4, off := 0, spot := some 1 : Addr }) m2 k2] 2 true, Blk.cells cy 2 true, Blk.cells cz 2
true] = hp [Blk.cells ca 4 false, Blk.cells [Value.int IntKind.i64 mo, Value.slice (some { block := 3, off := 0, spot := some 1 : Addr }) b.m b.k] 2 true, Blk.cells [Value.int IntKind.i64 mr, Value.slice (some
{ block := 4, off := 0, spot := some 1 : Addr }) b.m2 b.k2] 2 true, Blk.cells b.cy 2 true, Blk.cells b.cz 2 true] ∧ Tok2 (i + 1) b ∧ K AE.normal (tmps 156 [(1, Value.slice (some
{ block := 0, off := 0, spot := s1 : Addr }) len k1), (2, Value.int IntKind.i64 owner), (7, Value.pointer (some { block := 1, off := 0 : Addr })), (8, Value.pointer (some { block := 2, off := 0 : Addr })), (9, Value.int
IntKind.i64 (↑i : Int))]) (hp [Blk.cells ca 4 false, Blk.cells [Value.int IntKind.i64 mo, Value.slice (some { block := 3, off := 0, spot := some 1 : Addr }) b.m b.k] 2 true, Blk.cells [Value.int IntKind.i64 mr,
Value.slice (some { block := 4, off := 0, spot := some 1 : Addr }) b.m2 b.k2] 2 true, Blk.cells b.cy 2 true, Blk.cells b.cz 2 true])))))))))) ((nojL [Value.int IntKind.i64 mr, Value.slice (some
{ block := 1, off := 0, spot := some 1 : Addr }) m2 k2] = true ∧ FlatL cz ∧ True) ∧ (IsP tkF tkG TkOk cz m2 k2 ∧ OkP (intV ((getO ca (0 + (↑i : Int).toNat * 4 + 1)).getD undef)) x ∧ Need (leN m2 1000000) True) ∧ ∀ (x_2 :
List Value), IsTL (putT (intV ((getO ca (0 + (↑i : Int).toNat * 4 + 1)).getD undef)) x (tksAt cz m2)) x_2 (m2 + 1) (m2 + 1) → Need (beqV 64 (Value.string x) (Value.string x)) (Need (isInt IntKind.i64 ((getO ca (0 + (↑i :
Int).toNat * 4 + 1)).getD undef)) (Need (beqV 64 (Value.int IntKind.i64 (intV ((getO ca (0 + (↑i : Int).toNat * 4 + 1)).getD undef))) (Value.int IntKind.i64 (intV ((getO ca (0 + (↑i : Int).toNat * 4 + 1)).getD undef))))
(Need (beqV 64 (Value.pointer (some { block := 0, off := 0 + (↑i : Int).toNat * 4 + 1 : Addr })) (Value.pointer (some { block := 0, off := 0 + (↑i : Int).toNat * 4 + 1 : Addr }))) (Need (ltI (↑i : Int) (↑len : Int))
(Need (beqV 64 (Value.pointer (some { block := 0, off := 0 + (↑i : Int).toNat * 4 : Addr })) (Value.pointer (some { block := 0, off := 0 + (↑i : Int).toNat * 4 : Addr }))) (Need (beqV 64 (Value.int IntKind.i64 (↑i :
Int)) (Value.int IntKind.i64 (↑i : Int))) (Need (beqV 64 (Value.slice (some { block := 0, off := 0, spot := s1 : Addr }) len k1) (Value.slice (some { block := 0, off := 0, spot := s1 : Addr }) len k1)) (FlatD [1, 2] (hp
[Blk.cells ca 4 false, Blk.cells [Value.int IntKind.i64 mo, Value.slice (some { block := 3, off := 0, spot := some 1 : Addr }) m k] 2 true, Blk.cells [Value.int IntKind.i64 mr, Value.slice (some
{ block := 4, off := 0, spot := some 1 : Addr }) (m2 + 1) (m2 + 1)] 2 true, Blk.cells cy 2 true, Blk.cells x_2 2 true]) ∧ ∃ (b : St19), tmps 156 [(1, Value.slice (some { block := 0, off := 0, spot := s1 : Addr }) len
k1), (2, Value.int IntKind.i64 owner), (7, Value.pointer (some { block := 1, off := 0 : Addr })), (8, Value.pointer (some { block := 2, off := 0 : Addr })), (9, Value.int IntKind.i64 (↑i : Int)), (10, Value.string x),
(11, Value.bool false)] = tmps 156 [(1, Value.slice (some { block := 0, off := 0, spot := s1 : Addr }) len k1), (2, Value.int IntKind.i64 owner), (7, Value.pointer (some { block := 1, off := 0 : Addr })), (8,
Value.pointer (some { block := 2, off := 0 : Addr })), (9, Value.int IntKind.i64 (↑i : Int)), (10, Value.string x), (11, Value.bool true)] ∧ hp [Blk.cells ca 4 false, Blk.cells [Value.int IntKind.i64 mo, Value.slice
(some { block := 3, off := 0, spot := some 1 : Addr }) m k] 2 true, Blk.cells [Value.int IntKind.i64 mr, Value.slice (some { block := 4, off := 0, spot := some 1 : Addr }) (m2 + 1) (m2 + 1)] 2 true, Blk.cells cy 2 true,
Blk.cells x_2 2 true] = hp [Blk.cells ca 4 false, Blk.cells [Value.int IntKind.i64 mo, Value.slice (some { block := 3, off := 0, spot := some 1 : Addr }) b.m b.k] 2 true, Blk.cells [Value.int IntKind.i64 mr, Value.slice
(some { block := 4, off := 0, spot := some 1 : Addr }) b.m2 b.k2] 2 true, Blk.cells b.cy 2 true, Blk.cells b.cz 2 true] ∧ Tok2 (i + 1) b ∧ K AE.normal (tmps 156 [(1, Value.slice (some
{ block := 0, off := 0, spot := s1 : Addr }) len k1), (2, Value.int IntKind.i64 owner), (7, Value.pointer (some { block := 1, off := 0 : Addr })), (8, Value.pointer (some { block := 2, off := 0 : Addr })), (9, Value.int
IntKind.i64 (↑i : Int))]) (hp [Blk.cells ca 4 false, Blk.cells [Value.int IntKind.i64 mo, Value.slice (some { block := 3, off := 0, spot := some 1 : Addr }) b.m b.k] 2 true, Blk.cells [Value.int IntKind.i64 mr,
Value.slice (some { block := 4, off := 0, spot := some 1 : Addr }) b.m2 b.k2] 2 true, Blk.cells b.cy 2 true, Blk.cells b.cz 2 true]))))))))))))))))) ((nojL [Value.int IntKind.i64 mo, Value.slice (some
{ block := 1, off := 0, spot := some 1 : Addr }) m k] = true ∧ FlatL cy ∧ True) ∧ (IsP tkF tkG TkOk cy m k ∧ Need (leN m 1000000) True) ∧ Alt (leI 0 (placeF x 0 (-1) (tksAt cy m))) (Need (ltI (↑i : Int) (↑len : Int))
(Need (isInt IntKind.i64 ((getO ca (0 + (↑i : Int).toNat * 4 + 1)).getD undef)) (Alt (ltI (intV ((getO ca (0 + (↑i : Int).toNat * 4 + 1)).getD undef)) 0) (Need (beqV 64 (Value.string x) (Value.string x)) (Need (isInt
IntKind.i64 ((getO ca (0 + (↑i : Int).toNat * 4 + 1)).getD undef)) (Need (beqV 64 (Value.int IntKind.i64 (intV ((getO ca (0 + (↑i : Int).toNat * 4 + 1)).getD undef))) (Value.int IntKind.i64 (intV ((getO ca (0 + (↑i :
Int).toNat * 4 + 1)).getD undef)))) (Need (beqV 64 (Value.pointer (some { block := 0, off := 0 + (↑i : Int).toNat * 4 + 1 : Addr })) (Value.pointer (some { block := 0, off := 0 + (↑i : Int).toNat * 4 + 1 : Addr })))
(Need (ltI (↑i : Int) (↑len : Int)) (Need (beqV 64 (Value.pointer (some { block := 0, off := 0 + (↑i : Int).toNat * 4 : Addr })) (Value.pointer (some { block := 0, off := 0 + (↑i : Int).toNat * 4 : Addr }))) (Need (beqV
64 (Value.int IntKind.i64 (↑i : Int)) (Value.int IntKind.i64 (↑i : Int))) (Need (beqV 64 (Value.slice (some { block := 0, off := 0, spot := s1 : Addr }) len k1) (Value.slice (some
{ block := 0, off := 0, spot := s1 : Addr }) len k1)) (FlatD [1, 2] (hp [Blk.cells ca 4 false, Blk.cells [Value.int IntKind.i64 mo, Value.slice (some { block := 3, off := 0, spot := some 1 : Addr }) m k] 2 true,
Blk.cells [Value.int IntKind.i64 mr, Value.slice (some { block := 4, off := 0, spot := some 1 : Addr }) m2 k2] 2 true, Blk.cells cy 2 true, Blk.cells cz 2 true]) ∧ ∃ (b : St19), tmps 156 [(1, Value.slice (some
{ block := 0, off := 0, spot := s1 : Addr }) len k1), (2, Value.int IntKind.i64 owner), (7, Value.pointer (some { block := 1, off := 0 : Addr })), (8, Value.pointer (some { block := 2, off := 0 : Addr })), (9, Value.int
IntKind.i64 (↑i : Int)), (10, Value.string x), (11, Value.bool false)] = tmps 156 [(1, Value.slice (some { block := 0, off := 0, spot := s1 : Addr }) len k1), (2, Value.int IntKind.i64 owner), (7, Value.pointer (some
{ block := 1, off := 0 : Addr })), (8, Value.pointer (some { block := 2, off := 0 : Addr })), (9, Value.int IntKind.i64 (↑i : Int)), (10, Value.string x), (11, Value.bool true)] ∧ hp [Blk.cells ca 4 false, Blk.cells
[Value.int IntKind.i64 mo, Value.slice (some { block := 3, off := 0, spot := some 1 : Addr }) m k] 2 true, Blk.cells [Value.int IntKind.i64 mr, Value.slice (some { block := 4, off := 0, spot := some 1 : Addr }) m2 k2] 2
true, Blk.cells cy 2 true, Blk.cells cz 2 true] = hp [Blk.cells ca 4 false, Blk.cells [Value.int IntKind.i64 mo, Value.slice (some { block := 3, off := 0, spot := some 1 : Addr }) b.m b.k] 2 true, Blk.cells [Value.int
IntKind.i64 mr, Value.slice (some { block := 4, off := 0, spot := some 1 : Addr }) b.m2 b.k2] 2 true, Blk.cells b.cy 2 true, Blk.cells b.cz 2 true] ∧ Tok2 (i + 1) b ∧ K AE.normal (tmps 156 [(1, Value.slice (some
{ block := 0, off := 0, spot := s1 : Addr }) len k1), (2, Value.int IntKind.i64 owner), (7, Value.pointer (some { block := 1, off := 0 : Addr })), (8, Value.pointer (some { block := 2, off := 0 : Addr })), (9, Value.int
IntKind.i64 (↑i : Int))]) (hp [Blk.cells ca 4 false, Blk.cells [Value.int IntKind.i64 mo, Value.slice (some { block := 3, off := 0, spot := some 1 : Addr }) b.m b.k] 2 true, Blk.cells [Value.int IntKind.i64 mr,
Value.slice (some { block := 4, off := 0, spot := some 1 : Addr }) b.m2 b.k2] 2 true, Blk.cells b.cy 2 true, Blk.cells b.cz 2 true])))))))))) (True ∧ True ∧ Alt (!(leI 4 (↑x.size : Int) && leI (↑x.size : Int) 16)) (Need
(beqV 64 (Value.string x) (Value.string x)) (Need (isInt IntKind.i64 ((getO ca (0 + (↑i : Int).toNat * 4 + 1)).getD undef)) (Need (beqV 64 (Value.int IntKind.i64 (intV ((getO ca (0 + (↑i : Int).toNat * 4 + 1)).getD
undef))) (Value.int IntKind.i64 (intV ((getO ca (0 + (↑i : Int).toNat * 4 + 1)).getD undef)))) (Need (beqV 64 (Value.pointer (some { block := 0, off := 0 + (↑i : Int).toNat * 4 + 1 : Addr })) (Value.pointer (some
{ block := 0, off := 0 + (↑i : Int).toNat * 4 + 1 : Addr }))) (Need (ltI (↑i : Int) (↑len : Int)) (Need (beqV 64 (Value.pointer (some { block := 0, off := 0 + (↑i : Int).toNat * 4 : Addr })) (Value.pointer (some
{ block := 0, off := 0 + (↑i : Int).toNat * 4 : Addr }))) (Need (beqV 64 (Value.int IntKind.i64 (↑i : Int)) (Value.int IntKind.i64 (↑i : Int))) (Need (beqV 64 (Value.slice (some
{ block := 0, off := 0, spot := s1 : Addr }) len k1) (Value.slice (some { block := 0, off := 0, spot := s1 : Addr }) len k1)) (FlatD [1, 2] (hp [Blk.cells ca 4 false, Blk.cells [Value.int IntKind.i64 mo, Value.slice
(some { block := 3, off := 0, spot := some 1 : Addr }) m k] 2 true, Blk.cells [Value.int IntKind.i64 mr, Value.slice (some { block := 4, off := 0, spot := some 1 : Addr }) m2 k2] 2 true, Blk.cells cy 2 true, Blk.cells cz
2 true]) ∧ ∃ (b : St19), tmps 156 [(1, Value.slice (some { block := 0, off := 0, spot := s1 : Addr }) len k1), (2, Value.int IntKind.i64 owner), (7, Value.pointer (some { block := 1, off := 0 : Addr })), (8,
Value.pointer (some { block := 2, off := 0 : Addr })), (9, Value.int IntKind.i64 (↑i : Int)), (10, Value.string x), (11, Value.bool false)] = tmps 156 [(1, Value.slice (some { block := 0, off := 0, spot := s1 : Addr })
len k1), (2, Value.int IntKind.i64 owner), (7, Value.pointer (some { block := 1, off := 0 : Addr })), (8, Value.pointer (some { block := 2, off := 0 : Addr })), (9, Value.int IntKind.i64 (↑i : Int)), (10, Value.string
x), (11, Value.bool true)] ∧ hp [Blk.cells ca 4 false, Blk.cells [Value.int IntKind.i64 mo, Value.slice (some { block := 3, off := 0, spot := some 1 : Addr }) m k] 2 true, Blk.cells [Value.int IntKind.i64 mr, Value.slice
(some { block := 4, off := 0, spot := some 1 : Addr }) m2 k2] 2 true, Blk.cells cy 2 true, Blk.cells cz 2 true] = hp [Blk.cells ca 4 false, Blk.cells [Value.int IntKind.i64 mo, Value.slice (some
{ block := 3, off := 0, spot := some 1 : Addr }) b.m b.k] 2 true, Blk.cells [Value.int IntKind.i64 mr, Value.slice (some { block := 4, off := 0, spot := some 1 : Addr }) b.m2 b.k2] 2 true, Blk.cells b.cy 2 true,
Blk.cells b.cz 2 true] ∧ Tok2 (i + 1) b ∧ K AE.normal (tmps 156 [(1, Value.slice (some { block := 0, off := 0, spot := s1 : Addr }) len k1), (2, Value.int IntKind.i64 owner), (7, Value.pointer (some
{ block := 1, off := 0 : Addr })), (8, Value.pointer (some { block := 2, off := 0 : Addr })), (9, Value.int IntKind.i64 (↑i : Int))]) (hp [Blk.cells ca 4 false, Blk.cells [Value.int IntKind.i64 mo, Value.slice (some
{ block := 3, off := 0, spot := some 1 : Addr }) b.m b.k] 2 true, Blk.cells [Value.int IntKind.i64 mr, Value.slice (some { block := 4, off := 0, spot := some 1 : Addr }) b.m2 b.k2] 2 true, Blk.cells b.cy 2 true,
Blk.cells b.cz 2 true])))))))))) ((nojL [Value.int IntKind.i64 mr, Value.slice (some { block := 1, off := 0, spot := some 1 : Addr }) m2 k2] = true ∧ FlatL cz ∧ True) ∧ (IsP tkF tkG TkOk cz m2 k2 ∧ Need (leN m2 1000000)
True) ∧ Alt (ownR x (tksAt cz m2)).isSome (Need (beqV 64 (Value.string x) (Value.string x)) (Need (isInt IntKind.i64 ((getO ca (0 + (↑i : Int).toNat * 4 + 1)).getD undef)) (Need (beqV 64 (Value.int IntKind.i64 (intV
((getO ca (0 + (↑i : Int).toNat * 4 + 1)).getD undef))) (Value.int IntKind.i64 (intV ((getO ca (0 + (↑i : Int).toNat * 4 + 1)).getD undef)))) (Need (beqV 64 (Value.pointer (some
{ block := 0, off := 0 + (↑i : Int).toNat * 4 + 1 : Addr })) (Value.pointer (some { block := 0, off := 0 + (↑i : Int).toNat * 4 + 1 : Addr }))) (Need (ltI (↑i : Int) (↑len : Int)) (Need (beqV 64 (Value.pointer (some
{ block := 0, off := 0 + (↑i : Int).toNat * 4 : Addr })) (Value.pointer (some { block := 0, off := 0 + (↑i : Int).toNat * 4 : Addr }))) (Need (beqV 64 (Value.int IntKind.i64 (↑i : Int)) (Value.int IntKind.i64 (↑i :
Int))) (Need (beqV 64 (Value.slice (some { block := 0, off := 0, spot := s1 : Addr }) len k1) (Value.slice (some { block := 0, off := 0, spot := s1 : Addr }) len k1)) (FlatD [1, 2] (hp [Blk.cells ca 4 false, Blk.cells
[Value.int IntKind.i64 mo, Value.slice (some { block := 3, off := 0, spot := some 1 : Addr }) m k] 2 true, Blk.cells [Value.int IntKind.i64 mr, Value.slice (some { block := 4, off := 0, spot := some 1 : Addr }) m2 k2] 2
true, Blk.cells cy 2 true, Blk.cells cz 2 true]) ∧ ∃ (b : St19), tmps 156 [(1, Value.slice (some { block := 0, off := 0, spot := s1 : Addr }) len k1), (2, Value.int IntKind.i64 owner), (7, Value.pointer (some
{ block := 1, off := 0 : Addr })), (8, Value.pointer (some { block := 2, off := 0 : Addr })), (9, Value.int IntKind.i64 (↑i : Int)), (10, Value.string x), (11, Value.bool true)] = tmps 156 [(1, Value.slice (some
{ block := 0, off := 0, spot := s1 : Addr }) len k1), (2, Value.int IntKind.i64 owner), (7, Value.pointer (some { block := 1, off := 0 : Addr })), (8, Value.pointer (some { block := 2, off := 0 : Addr })), (9, Value.int
IntKind.i64 (↑i : Int)), (10, Value.string x), (11, Value.bool true)] ∧ hp [Blk.cells ca 4 false, Blk.cells [Value.int IntKind.i64 mo, Value.slice (some { block := 3, off := 0, spot := some 1 : Addr }) m k] 2 true,
Blk.cells [Value.int IntKind.i64 mr, Value.slice (some { block := 4, off := 0, spot := some 1 : Addr }) m2 k2] 2 true, Blk.cells cy 2 true, Blk.cells cz 2 true] = hp [Blk.cells ca 4 false, Blk.cells [Value.int
IntKind.i64 mo, Value.slice (some { block := 3, off := 0, spot := some 1 : Addr }) b.m b.k] 2 true, Blk.cells [Value.int IntKind.i64 mr, Value.slice (some { block := 4, off := 0, spot := some 1 : Addr }) b.m2 b.k2] 2
true, Blk.cells b.cy 2 true, Blk.cells b.cz 2 true] ∧ Tok2 (i + 1) b ∧ K AE.normal (tmps 156 [(1, Value.slice (some { block := 0, off := 0, spot := s1 : Addr }) len k1), (2, Value.int IntKind.i64 owner), (7,
Value.pointer (some { block := 1, off := 0 : Addr })), (8, Value.pointer (some { block := 2, off := 0 : Addr })), (9, Value.int IntKind.i64 (↑i : Int))]) (hp [Blk.cells ca 4 false, Blk.cells [Value.int IntKind.i64 mo,
Value.slice (some { block := 3, off := 0, spot := some 1 : Addr }) b.m b.k] 2 true, Blk.cells [Value.int IntKind.i64 mr, Value.slice (some { block := 4, off := 0, spot := some 1 : Addr }) b.m2 b.k2] 2 true, Blk.cells
b.cy 2 true, Blk.cells b.cz 2 true])))))))))) ((nojL [Value.int IntKind.i64 mr, Value.slice (some { block := 1, off := 0, spot := some 1 : Addr }) m2 k2] = true ∧ FlatL cz ∧ True) ∧ (IsP tkF tkG TkOk cz m2 k2 ∧ Need (leN
m2 1000000) True) ∧ ∀ (x_1 : List Value), IsS (ofL (intV ((getO ca (0 + (↑i : Int).toNat * 4 + 1)).getD undef)) (tksAt cz m2)) x_1 (ofL (intV ((getO ca (0 + (↑i : Int).toNat * 4 + 1)).getD undef)) (tksAt cz m2)).length
(ofL (intV ((getO ca (0 + (↑i : Int).toNat * 4 + 1)).getD undef)) (tksAt cz m2)).length → Need (beqV 64 (Value.int IntKind.i64 (intV (Value.int IntKind.i64 mr))) (Value.int IntKind.i64 (intV (Value.int IntKind.i64 mr))))
(Alt (leI (intV (Value.int IntKind.i64 mr)) (↑(ofL (intV ((getO ca (0 + (↑i : Int).toNat * 4 + 1)).getD undef)) (tksAt cz m2)).length : Int)) (Need (beqV 64 (Value.string x) (Value.string x)) (Need (isInt IntKind.i64
((getO ca (0 + (↑i : Int).toNat * 4 + 1)).getD undef)) (Need (beqV 64 (Value.int IntKind.i64 (intV ((getO ca (0 + (↑i : Int).toNat * 4 + 1)).getD undef))) (Value.int IntKind.i64 (intV ((getO ca (0 + (↑i : Int).toNat * 4
+ 1)).getD undef)))) (Need (beqV 64 (Value.pointer (some { block := 0, off := 0 + (↑i : Int).toNat * 4 + 1 : Addr })) (Value.pointer (some { block := 0, off := 0 + (↑i : Int).toNat * 4 + 1 : Addr }))) (Need (ltI (↑i :
Int) (↑len : Int)) (Need (beqV 64 (Value.pointer (some { block := 0, off := 0 + (↑i : Int).toNat * 4 : Addr })) (Value.pointer (some { block := 0, off := 0 + (↑i : Int).toNat * 4 : Addr }))) (Need (beqV 64 (Value.int
IntKind.i64 (↑i : Int)) (Value.int IntKind.i64 (↑i : Int))) (Need (beqV 64 (Value.slice (some { block := 0, off := 0, spot := s1 : Addr }) len k1) (Value.slice (some { block := 0, off := 0, spot := s1 : Addr }) len k1))
(FlatD [1, 2] (hp [Blk.cells ca 4 false, Blk.cells [Value.int IntKind.i64 mo, Value.slice (some { block := 3, off := 0, spot := some 1 : Addr }) m k] 2 true, Blk.cells [Value.int IntKind.i64 mr, Value.slice (some
{ block := 4, off := 0, spot := some 1 : Addr }) m2 k2] 2 true, Blk.cells cy 2 true, Blk.cells cz 2 true]) ∧ ∃ (b : St19), tmps 156 [(1, Value.slice (some { block := 0, off := 0, spot := s1 : Addr }) len k1), (2,
Value.int IntKind.i64 owner), (7, Value.pointer (some { block := 1, off := 0 : Addr })), (8, Value.pointer (some { block := 2, off := 0 : Addr })), (9, Value.int IntKind.i64 (↑i : Int)), (10, Value.string x), (11,
Value.bool false)] = tmps 156 [(1, Value.slice (some { block := 0, off := 0, spot := s1 : Addr }) len k1), (2, Value.int IntKind.i64 owner), (7, Value.pointer (some { block := 1, off := 0 : Addr })), (8, Value.pointer
(some { block := 2, off := 0 : Addr })), (9, Value.int IntKind.i64 (↑i : Int)), (10, Value.string x), (11, Value.bool true)] ∧ hp [Blk.cells ca 4 false, Blk.cells [Value.int IntKind.i64 mo, Value.slice (some
{ block := 3, off := 0, spot := some 1 : Addr }) m k] 2 true, Blk.cells [Value.int IntKind.i64 mr, Value.slice (some { block := 4, off := 0, spot := some 1 : Addr }) m2 k2] 2 true, Blk.cells cy 2 true, Blk.cells cz 2
true] = hp [Blk.cells ca 4 false, Blk.cells [Value.int IntKind.i64 mo, Value.slice (some { block := 3, off := 0, spot := some 1 : Addr }) b.m b.k] 2 true, Blk.cells [Value.int IntKind.i64 mr, Value.slice (some
{ block := 4, off := 0, spot := some 1 : Addr }) b.m2 b.k2] 2 true, Blk.cells b.cy 2 true, Blk.cells b.cz 2 true] ∧ Tok2 (i + 1) b ∧ K AE.normal (tmps 156 [(1, Value.slice (some
{ block := 0, off := 0, spot := s1 : Addr }) len k1), (2, Value.int IntKind.i64 owner), (7, Value.pointer (some { block := 1, off := 0 : Addr })), (8, Value.pointer (some { block := 2, off := 0 : Addr })), (9, Value.int
IntKind.i64 (↑i : Int))]) (hp [Blk.cells ca 4 false, Blk.cells [Value.int IntKind.i64 mo, Value.slice (some { block := 3, off := 0, spot := some 1 : Addr }) b.m b.k] 2 true, Blk.cells [Value.int IntKind.i64 mr,
Value.slice (some { block := 4, off := 0, spot := some 1 : Addr }) b.m2 b.k2] 2 true, Blk.cells b.cy 2 true, Blk.cells b.cz 2 true])))))))))) ((nojL [Value.int IntKind.i64 mr, Value.slice (some
{ block := 1, off := 0, spot := some 1 : Addr }) m2 k2] = true ∧ FlatL cz ∧ True) ∧ (IsP tkF tkG TkOk cz m2 k2 ∧ OkP (intV ((getO ca (0 + (↑i : Int).toNat * 4 + 1)).getD undef)) x ∧ Need (leN m2 1000000) True) ∧ ∀ (x_2 :
List Value), IsTL (putT (intV ((getO ca (0 + (↑i : Int).toNat * 4 + 1)).getD undef)) x (tksAt cz m2)) x_2 (m2 + 1) (m2 + 1) → Need (beqV 64 (Value.string x) (Value.string x)) (Need (isInt IntKind.i64 ((getO ca (0 + (↑i :
Int).toNat * 4 + 1)).getD undef)) (Need (beqV 64 (Value.int IntKind.i64 (intV ((getO ca (0 + (↑i : Int).toNat * 4 + 1)).getD undef))) (Value.int IntKind.i64 (intV ((getO ca (0 + (↑i : Int).toNat * 4 + 1)).getD undef))))
(Need (beqV 64 (Value.pointer (some { block := 0, off := 0 + (↑i : Int).toNat * 4 + 1 : Addr })) (Value.pointer (some { block := 0, off := 0 + (↑i : Int).toNat * 4 + 1 : Addr }))) (Need (ltI (↑i : Int) (↑len : Int))
(Need (beqV 64 (Value.pointer (some { block := 0, off := 0 + (↑i : Int).toNat * 4 : Addr })) (Value.pointer (some { block := 0, off := 0 + (↑i : Int).toNat * 4 : Addr }))) (Need (beqV 64 (Value.int IntKind.i64 (↑i :
Int)) (Value.int IntKind.i64 (↑i : Int))) (Need (beqV 64 (Value.slice (some { block := 0, off := 0, spot := s1 : Addr }) len k1) (Value.slice (some { block := 0, off := 0, spot := s1 : Addr }) len k1)) (FlatD [1, 2] (hp
[Blk.cells ca 4 false, Blk.cells [Value.int IntKind.i64 mo, Value.slice (some { block := 3, off := 0, spot := some 1 : Addr }) m k] 2 true, Blk.cells [Value.int IntKind.i64 mr, Value.slice (some
{ block := 4, off := 0, spot := some 1 : Addr }) (m2 + 1) (m2 + 1)] 2 true, Blk.cells cy 2 true, Blk.cells x_2 2 true]) ∧ ∃ (b : St19), tmps 156 [(1, Value.slice (some { block := 0, off := 0, spot := s1 : Addr }) len
k1), (2, Value.int IntKind.i64 owner), (7, Value.pointer (some { block := 1, off := 0 : Addr })), (8, Value.pointer (some { block := 2, off := 0 : Addr })), (9, Value.int IntKind.i64 (↑i : Int)), (10, Value.string x),
(11, Value.bool false)] = tmps 156 [(1, Value.slice (some { block := 0, off := 0, spot := s1 : Addr }) len k1), (2, Value.int IntKind.i64 owner), (7, Value.pointer (some { block := 1, off := 0 : Addr })), (8,
Value.pointer (some { block := 2, off := 0 : Addr })), (9, Value.int IntKind.i64 (↑i : Int)), (10, Value.string x), (11, Value.bool true)] ∧ hp [Blk.cells ca 4 false, Blk.cells [Value.int IntKind.i64 mo, Value.slice
(some { block := 3, off := 0, spot := some 1 : Addr }) m k] 2 true, Blk.cells [Value.int IntKind.i64 mr, Value.slice (some { block := 4, off := 0, spot := some 1 : Addr }) (m2 + 1) (m2 + 1)] 2 true, Blk.cells cy 2 true,
Blk.cells x_2 2 true] = hp [Blk.cells ca 4 false, Blk.cells [Value.int IntKind.i64 mo, Value.slice (some { block := 3, off := 0, spot := some 1 : Addr }) b.m b.k] 2 true, Blk.cells [Value.int IntKind.i64 mr, Value.slice
(some { block := 4, off := 0, spot := some 1 : Addr }) b.m2 b.k2] 2 true, Blk.cells b.cy 2 true, Blk.cells b.cz 2 true] ∧ Tok2 (i + 1) b ∧ K AE.normal (tmps 156 [(1, Value.slice (some
{ block := 0, off := 0, spot := s1 : Addr }) len k1), (2, Value.int IntKind.i64 owner), (7, Value.pointer (some { block := 1, off := 0 : Addr })), (8, Value.pointer (some { block := 2, off := 0 : Addr })), (9, Value.int
IntKind.i64 (↑i : Int))]) (hp [Blk.cells ca 4 false, Blk.cells [Value.int IntKind.i64 mo, Value.slice (some { block := 3, off := 0, spot := some 1 : Addr }) b.m b.k] 2 true, Blk.cells [Value.int IntKind.i64 mr,
Value.slice (some { block := 4, off := 0, spot := some 1 : Addr }) b.m2 b.k2] 2 true, Blk.cells b.cy 2 true, Blk.cells b.cz 2 true]))))))))))))))))) ((nojL [Value.int IntKind.i64 mo, Value.slice (some
{ block := 1, off := 0, spot := some 1 : Addr }) m k] = true ∧ FlatL cy ∧ True) ∧ (IsP tkF tkG TkOk cy m k ∧ Need (leN m 1000000) True) ∧ ∀ (x_1 : List Value × Nat), IsS (srt (ofL (intV ((getO ca (0 + (↑i : Int).toNat *
4 + 1)).getD undef)) (tksAt cy m))) x_1.fst (ofL (intV ((getO ca (0 + (↑i : Int).toNat * 4 + 1)).getD undef)) (tksAt cy m)).length x_1.snd → Need (beqV 64 (Value.int IntKind.i64 (intV (Value.int IntKind.i64 mo)))
(Value.int IntKind.i64 (intV (Value.int IntKind.i64 mo)))) (Alt (leI (intV (Value.int IntKind.i64 mo)) (↑(ofL (intV ((getO ca (0 + (↑i : Int).toNat * 4 + 1)).getD undef)) (tksAt cy m)).length : Int)) (Need (ltI (↑i :
Int) (↑len : Int)) (Need (isInt IntKind.i64 ((getO ca (0 + (↑i : Int).toNat * 4 + 1)).getD undef)) (Alt (ltI (intV ((getO ca (0 + (↑i : Int).toNat * 4 + 1)).getD undef)) 0) (Need (beqV 64 (Value.string x) (Value.string
x)) (Need (isInt IntKind.i64 ((getO ca (0 + (↑i : Int).toNat * 4 + 1)).getD undef)) (Need (beqV 64 (Value.int IntKind.i64 (intV ((getO ca (0 + (↑i : Int).toNat * 4 + 1)).getD undef))) (Value.int IntKind.i64 (intV ((getO
ca (0 + (↑i : Int).toNat * 4 + 1)).getD undef)))) (Need (beqV 64 (Value.pointer (some { block := 0, off := 0 + (↑i : Int).toNat * 4 + 1 : Addr })) (Value.pointer (some
{ block := 0, off := 0 + (↑i : Int).toNat * 4 + 1 : Addr }))) (Need (ltI (↑i : Int) (↑len : Int)) (Need (beqV 64 (Value.pointer (some { block := 0, off := 0 + (↑i : Int).toNat * 4 : Addr })) (Value.pointer (some
{ block := 0, off := 0 + (↑i : Int).toNat * 4 : Addr }))) (Need (beqV 64 (Value.int IntKind.i64 (↑i : Int)) (Value.int IntKind.i64 (↑i : Int))) (Need (beqV 64 (Value.slice (some
{ block := 0, off := 0, spot := s1 : Addr }) len k1) (Value.slice (some { block := 0, off := 0, spot := s1 : Addr }) len k1)) (FlatD [1, 2] (hp [Blk.cells ca 4 false, Blk.cells [Value.int IntKind.i64 mo, Value.slice
(some { block := 3, off := 0, spot := some 1 : Addr }) m k] 2 true, Blk.cells [Value.int IntKind.i64 mr, Value.slice (some { block := 4, off := 0, spot := some 1 : Addr }) m2 k2] 2 true, Blk.cells cy 2 true, Blk.cells cz
2 true]) ∧ ∃ (b : St19), tmps 156 [(1, Value.slice (some { block := 0, off := 0, spot := s1 : Addr }) len k1), (2, Value.int IntKind.i64 owner), (7, Value.pointer (some { block := 1, off := 0 : Addr })), (8,
Value.pointer (some { block := 2, off := 0 : Addr })), (9, Value.int IntKind.i64 (↑i : Int)), (10, Value.string x), (11, Value.bool false)] = tmps 156 [(1, Value.slice (some { block := 0, off := 0, spot := s1 : Addr })
len k1), (2, Value.int IntKind.i64 owner), (7, Value.pointer (some { block := 1, off := 0 : Addr })), (8, Value.pointer (some { block := 2, off := 0 : Addr })), (9, Value.int IntKind.i64 (↑i : Int)), (10, Value.string
x), (11, Value.bool true)] ∧ hp [Blk.cells ca 4 false, Blk.cells [Value.int IntKind.i64 mo, Value.slice (some { block := 3, off := 0, spot := some 1 : Addr }) m k] 2 true, Blk.cells [Value.int IntKind.i64 mr, Value.slice
(some { block := 4, off := 0, spot := some 1 : Addr }) m2 k2] 2 true, Blk.cells cy 2 true, Blk.cells cz 2 true] = hp [Blk.cells ca 4 false, Blk.cells [Value.int IntKind.i64 mo, Value.slice (some
{ block := 3, off := 0, spot := some 1 : Addr }) b.m b.k] 2 true, Blk.cells [Value.int IntKind.i64 mr, Value.slice (some { block := 4, off := 0, spot := some 1 : Addr }) b.m2 b.k2] 2 true, Blk.cells b.cy 2 true,
Blk.cells b.cz 2 true] ∧ Tok2 (i + 1) b ∧ K AE.normal (tmps 156 [(1, Value.slice (some { block := 0, off := 0, spot := s1 : Addr }) len k1), (2, Value.int IntKind.i64 owner), (7, Value.pointer (some
{ block := 1, off := 0 : Addr })), (8, Value.pointer (some { block := 2, off := 0 : Addr })), (9, Value.int IntKind.i64 (↑i : Int))]) (hp [Blk.cells ca 4 false, Blk.cells [Value.int IntKind.i64 mo, Value.slice (some
{ block := 3, off := 0, spot := some 1 : Addr }) b.m b.k] 2 true, Blk.cells [Value.int IntKind.i64 mr, Value.slice (some { block := 4, off := 0, spot := some 1 : Addr }) b.m2 b.k2] 2 true, Blk.cells b.cy 2 true,
Blk.cells b.cz 2 true])))))))))) (True ∧ True ∧ Alt (!(leI 4 (↑x.size : Int) && leI (↑x.size : Int) 16)) (Need (beqV 64 (Value.string x) (Value.string x)) (Need (isInt IntKind.i64 ((getO ca (0 + (↑i : Int).toNat * 4 +
1)).getD undef)) (Need (beqV 64 (Value.int IntKind.i64 (intV ((getO ca (0 + (↑i : Int).toNat * 4 + 1)).getD undef))) (Value.int IntKind.i64 (intV ((getO ca (0 + (↑i : Int).toNat * 4 + 1)).getD undef)))) (Need (beqV 64
(Value.pointer (some { block := 0, off := 0 + (↑i : Int).toNat * 4 + 1 : Addr })) (Value.pointer (some { block := 0, off := 0 + (↑i : Int).toNat * 4 + 1 : Addr }))) (Need (ltI (↑i : Int) (↑len : Int)) (Need (beqV 64
(Value.pointer (some { block := 0, off := 0 + (↑i : Int).toNat * 4 : Addr })) (Value.pointer (some { block := 0, off := 0 + (↑i : Int).toNat * 4 : Addr }))) (Need (beqV 64 (Value.int IntKind.i64 (↑i : Int)) (Value.int
IntKind.i64 (↑i : Int))) (Need (beqV 64 (Value.slice (some { block := 0, off := 0, spot := s1 : Addr }) len k1) (Value.slice (some { block := 0, off := 0, spot := s1 : Addr }) len k1)) (FlatD [1, 2] (hp [Blk.cells ca 4
false, Blk.cells [Value.int IntKind.i64 mo, Value.slice (some { block := 3, off := 0, spot := some 1 : Addr }) m k] 2 true, Blk.cells [Value.int IntKind.i64 mr, Value.slice (some
{ block := 4, off := 0, spot := some 1 : Addr }) m2 k2] 2 true, Blk.cells cy 2 true, Blk.cells cz 2 true]) ∧ ∃ (b : St19), tmps 156 [(1, Value.slice (some { block := 0, off := 0, spot := s1 : Addr }) len k1), (2,
Value.int IntKind.i64 owner), (7, Value.pointer (some { block := 1, off := 0 : Addr })), (8, Value.pointer (some { block := 2, off := 0 : Addr })), (9, Value.int IntKind.i64 (↑i : Int)), (10, Value.string x), (11,
Value.bool false)] = tmps 156 [(1, Value.slice (some { block := 0, off := 0, spot := s1 : Addr }) len k1), (2, Value.int IntKind.i64 owner), (7, Value.pointer (some { block := 1, off := 0 : Addr })), (8, Value.pointer
(some { block := 2, off := 0 : Addr })), (9, Value.int IntKind.i64 (↑i : Int)), (10, Value.string x), (11, Value.bool true)] ∧ hp [Blk.cells ca 4 false, Blk.cells [Value.int IntKind.i64 mo, Value.slice (some
{ block := 3, off := 0, spot := some 1 : Addr }) m k] 2 true, Blk.cells [Value.int IntKind.i64 mr, Value.slice (some { block := 4, off := 0, spot := some 1 : Addr }) m2 k2] 2 true, Blk.cells cy 2 true, Blk.cells cz 2
true] = hp [Blk.cells ca 4 false, Blk.cells [Value.int IntKind.i64 mo, Value.slice (some { block := 3, off := 0, spot := some 1 : Addr }) b.m b.k] 2 true, Blk.cells [Value.int IntKind.i64 mr, Value.slice (some
{ block := 4, off := 0, spot := some 1 : Addr }) b.m2 b.k2] 2 true, Blk.cells b.cy 2 true, Blk.cells b.cz 2 true] ∧ Tok2 (i + 1) b ∧ K AE.normal (tmps 156 [(1, Value.slice (some
{ block := 0, off := 0, spot := s1 : Addr }) len k1), (2, Value.int IntKind.i64 owner), (7, Value.pointer (some { block := 1, off := 0 : Addr })), (8, Value.pointer (some { block := 2, off := 0 : Addr })), (9, Value.int
IntKind.i64 (↑i : Int))]) (hp [Blk.cells ca 4 false, Blk.cells [Value.int IntKind.i64 mo, Value.slice (some { block := 3, off := 0, spot := some 1 : Addr }) b.m b.k] 2 true, Blk.cells [Value.int IntKind.i64 mr,
Value.slice (some { block := 4, off := 0, spot := some 1 : Addr }) b.m2 b.k2] 2 true, Blk.cells b.cy 2 true, Blk.cells b.cz 2 true])))))))))) ((nojL [Value.int IntKind.i64 mr, Value.slice (some
{ block := 1, off := 0, spot := some 1 : Addr }) m2 k2] = true ∧ FlatL cz ∧ True) ∧ (IsP tkF tkG TkOk cz m2 k2 ∧ Need (leN m2 1000000) True) ∧ Alt (ownR x (tksAt cz m2)).isSome (Need (beqV 64 (Value.string x)
(Value.string x)) (Need (isInt IntKind.i64 ((getO ca (0 + (↑i : Int).toNat * 4 + 1)).getD undef)) (Need (beqV 64 (Value.int IntKind.i64 (intV ((getO ca (0 + (↑i : Int).toNat * 4 + 1)).getD undef))) (Value.int IntKind.i64
(intV ((getO ca (0 + (↑i : Int).toNat * 4 + 1)).getD undef)))) (Need (beqV 64 (Value.pointer (some { block := 0, off := 0 + (↑i : Int).toNat * 4 + 1 : Addr })) (Value.pointer (some
{ block := 0, off := 0 + (↑i : Int).toNat * 4 + 1 : Addr }))) (Need (ltI (↑i : Int) (↑len : Int)) (Need (beqV 64 (Value.pointer (some { block := 0, off := 0 + (↑i : Int).toNat * 4 : Addr })) (Value.pointer (some
{ block := 0, off := 0 + (↑i : Int).toNat * 4 : Addr }))) (Need (beqV 64 (Value.int IntKind.i64 (↑i : Int)) (Value.int IntKind.i64 (↑i : Int))) (Need (beqV 64 (Value.slice (some
{ block := 0, off := 0, spot := s1 : Addr }) len k1) (Value.slice (some { block := 0, off := 0, spot := s1 : Addr }) len k1)) (FlatD [1, 2] (hp [Blk.cells ca 4 false, Blk.cells [Value.int IntKind.i64 mo, Value.slice
(some { block := 3, off := 0, spot := some 1 : Addr }) m k] 2 true, Blk.cells [Value.int IntKind.i64 mr, Value.slice (some { block := 4, off := 0, spot := some 1 : Addr }) m2 k2] 2 true, Blk.cells cy 2 true, Blk.cells cz
2 true]) ∧ ∃ (b : St19), tmps 156 [(1, Value.slice (some { block := 0, off := 0, spot := s1 : Addr }) len k1), (2, Value.int IntKind.i64 owner), (7, Value.pointer (some { block := 1, off := 0 : Addr })), (8,
Value.pointer (some { block := 2, off := 0 : Addr })), (9, Value.int IntKind.i64 (↑i : Int)), (10, Value.string x), (11, Value.bool false)] = tmps 156 [(1, Value.slice (some { block := 0, off := 0, spot := s1 : Addr })
len k1), (2, Value.int IntKind.i64 owner), (7, Value.pointer (some { block := 1, off := 0 : Addr })), (8, Value.pointer (some { block := 2, off := 0 : Addr })), (9, Value.int IntKind.i64 (↑i : Int)), (10, Value.string
x), (11, Value.bool true)] ∧ hp [Blk.cells ca 4 false, Blk.cells [Value.int IntKind.i64 mo, Value.slice (some { block := 3, off := 0, spot := some 1 : Addr }) m k] 2 true, Blk.cells [Value.int IntKind.i64 mr, Value.slice
(some { block := 4, off := 0, spot := some 1 : Addr }) m2 k2] 2 true, Blk.cells cy 2 true, Blk.cells cz 2 true] = hp [Blk.cells ca 4 false, Blk.cells [Value.int IntKind.i64 mo, Value.slice (some
{ block := 3, off := 0, spot := some 1 : Addr }) b.m b.k] 2 true, Blk.cells [Value.int IntKind.i64 mr, Value.slice (some { block := 4, off := 0, spot := some 1 : Addr }) b.m2 b.k2] 2 true, Blk.cells b.cy 2 true,
Blk.cells b.cz 2 true] ∧ Tok2 (i + 1) b ∧ K AE.normal (tmps 156 [(1, Value.slice (some { block := 0, off := 0, spot := s1 : Addr }) len k1), (2, Value.int IntKind.i64 owner), (7, Value.pointer (some
{ block := 1, off := 0 : Addr })), (8, Value.pointer (some { block := 2, off := 0 : Addr })), (9, Value.int IntKind.i64 (↑i : Int))]) (hp [Blk.cells ca 4 false, Blk.cells [Value.int IntKind.i64 mo, Value.slice (some
{ block := 3, off := 0, spot := some 1 : Addr }) b.m b.k] 2 true, Blk.cells [Value.int IntKind.i64 mr, Value.slice (some { block := 4, off := 0, spot := some 1 : Addr }) b.m2 b.k2] 2 true, Blk.cells b.cy 2 true,
Blk.cells b.cz 2 true])))))))))) ((nojL [Value.int IntKind.i64 mr, Value.slice (some { block := 1, off := 0, spot := some 1 : Addr }) m2 k2] = true ∧ FlatL cz ∧ True) ∧ (IsP tkF tkG TkOk cz m2 k2 ∧ Need (leN m2 1000000)
True) ∧ ∀ (x_2 : List Value), IsS (ofL (intV ((getO ca (0 + (↑i : Int).toNat * 4 + 1)).getD undef)) (tksAt cz m2)) x_2 (ofL (intV ((getO ca (0 + (↑i : Int).toNat * 4 + 1)).getD undef)) (tksAt cz m2)).length (ofL (intV
((getO ca (0 + (↑i : Int).toNat * 4 + 1)).getD undef)) (tksAt cz m2)).length → Need (beqV 64 (Value.int IntKind.i64 (intV (Value.int IntKind.i64 mr))) (Value.int IntKind.i64 (intV (Value.int IntKind.i64 mr)))) (Alt (leI
(intV (Value.int IntKind.i64 mr)) (↑(ofL (intV ((getO ca (0 + (↑i : Int).toNat * 4 + 1)).getD undef)) (tksAt cz m2)).length : Int)) (Need (beqV 64 (Value.string x) (Value.string x)) (Need (isInt IntKind.i64 ((getO ca (0
+ (↑i : Int).toNat * 4 + 1)).getD undef)) (Need (beqV 64 (Value.int IntKind.i64 (intV ((getO ca (0 + (↑i : Int).toNat * 4 + 1)).getD undef))) (Value.int IntKind.i64 (intV ((getO ca (0 + (↑i : Int).toNat * 4 + 1)).getD
undef)))) (Need (beqV 64 (Value.pointer (some { block := 0, off := 0 + (↑i : Int).toNat * 4 + 1 : Addr })) (Value.pointer (some { block := 0, off := 0 + (↑i : Int).toNat * 4 + 1 : Addr }))) (Need (ltI (↑i : Int) (↑len :
Int)) (Need (beqV 64 (Value.pointer (some { block := 0, off := 0 + (↑i : Int).toNat * 4 : Addr })) (Value.pointer (some { block := 0, off := 0 + (↑i : Int).toNat * 4 : Addr }))) (Need (beqV 64 (Value.int IntKind.i64 (↑i
: Int)) (Value.int IntKind.i64 (↑i : Int))) (Need (beqV 64 (Value.slice (some { block := 0, off := 0, spot := s1 : Addr }) len k1) (Value.slice (some { block := 0, off := 0, spot := s1 : Addr }) len k1)) (FlatD [1, 2]
(hp [Blk.cells ca 4 false, Blk.cells [Value.int IntKind.i64 mo, Value.slice (some { block := 3, off := 0, spot := some 1 : Addr }) m k] 2 true, Blk.cells [Value.int IntKind.i64 mr, Value.slice (some
{ block := 4, off := 0, spot := some 1 : Addr }) m2 k2] 2 true, Blk.cells cy 2 true, Blk.cells cz 2 true]) ∧ ∃ (b : St19), tmps 156 [(1, Value.slice (some { block := 0, off := 0, spot := s1 : Addr }) len k1), (2,
Value.int IntKind.i64 owner), (7, Value.pointer (some { block := 1, off := 0 : Addr })), (8, Value.pointer (some { block := 2, off := 0 : Addr })), (9, Value.int IntKind.i64 (↑i : Int)), (10, Value.string x), (11,
Value.bool true)] = tmps 156 [(1, Value.slice (some { block := 0, off := 0, spot := s1 : Addr }) len k1), (2, Value.int IntKind.i64 owner), (7, Value.pointer (some { block := 1, off := 0 : Addr })), (8, Value.pointer
(some { block := 2, off := 0 : Addr })), (9, Value.int IntKind.i64 (↑i : Int)), (10, Value.string x), (11, Value.bool true)] ∧ hp [Blk.cells ca 4 false, Blk.cells [Value.int IntKind.i64 mo, Value.slice (some
{ block := 3, off := 0, spot := some 1 : Addr }) m k] 2 true, Blk.cells [Value.int IntKind.i64 mr, Value.slice (some { block := 4, off := 0, spot := some 1 : Addr }) m2 k2] 2 true, Blk.cells cy 2 true, Blk.cells cz 2
true] = hp [Blk.cells ca 4 false, Blk.cells [Value.int IntKind.i64 mo, Value.slice (some { block := 3, off := 0, spot := some 1 : Addr }) b.m b.k] 2 true, Blk.cells [Value.int IntKind.i64 mr, Value.slice (some
{ block := 4, off := 0, spot := some 1 : Addr }) b.m2 b.k2] 2 true, Blk.cells b.cy 2 true, Blk.cells b.cz 2 true] ∧ Tok2 (i + 1) b ∧ K AE.normal (tmps 156 [(1, Value.slice (some
{ block := 0, off := 0, spot := s1 : Addr }) len k1), (2, Value.int IntKind.i64 owner), (7, Value.pointer (some { block := 1, off := 0 : Addr })), (8, Value.pointer (some { block := 2, off := 0 : Addr })), (9, Value.int
IntKind.i64 (↑i : Int))]) (hp [Blk.cells ca 4 false, Blk.cells [Value.int IntKind.i64 mo, Value.slice (some { block := 3, off := 0, spot := some 1 : Addr }) b.m b.k] 2 true, Blk.cells [Value.int IntKind.i64 mr,
Value.slice (some { block := 4, off := 0, spot := some 1 : Addr }) b.m2 b.k2] 2 true, Blk.cells b.cy 2 true, Blk.cells b.cz 2 true])))))))))) ((nojL [Value.int IntKind.i64 mr, Value.slice (some
{ block := 1, off := 0, spot := some 1 : Addr }) m2 k2] = true ∧ FlatL cz ∧ True) ∧ (IsP tkF tkG TkOk cz m2 k2 ∧ OkP (intV ((getO ca (0 + (↑i : Int).toNat * 4 + 1)).getD undef)) x ∧ Need (leN m2 1000000) True) ∧ ∀ (x_3 :
List Value), IsTL (putT (intV ((getO ca (0 + (↑i : Int).toNat * 4 + 1)).getD undef)) x (tksAt cz m2)) x_3 (m2 + 1) (m2 + 1) → Need (beqV 64 (Value.string x) (Value.string x)) (Need (isInt IntKind.i64 ((getO ca (0 + (↑i :
Int).toNat * 4 + 1)).getD undef)) (Need (beqV 64 (Value.int IntKind.i64 (intV ((getO ca (0 + (↑i : Int).toNat * 4 + 1)).getD undef))) (Value.int IntKind.i64 (intV ((getO ca (0 + (↑i : Int).toNat * 4 + 1)).getD undef))))
(Need (beqV 64 (Value.pointer (some { block := 0, off := 0 + (↑i : Int).toNat * 4 + 1 : Addr })) (Value.pointer (some { block := 0, off := 0 + (↑i : Int).toNat * 4 + 1 : Addr }))) (Need (ltI (↑i : Int) (↑len : Int))
(Need (beqV 64 (Value.pointer (some { block := 0, off := 0 + (↑i : Int).toNat * 4 : Addr })) (Value.pointer (some { block := 0, off := 0 + (↑i : Int).toNat * 4 : Addr }))) (Need (beqV 64 (Value.int IntKind.i64 (↑i :
Int)) (Value.int IntKind.i64 (↑i : Int))) (Need (beqV 64 (Value.slice (some { block := 0, off := 0, spot := s1 : Addr }) len k1) (Value.slice (some { block := 0, off := 0, spot := s1 : Addr }) len k1)) (FlatD [1, 2] (hp
[Blk.cells ca 4 false, Blk.cells [Value.int IntKind.i64 mo, Value.slice (some { block := 3, off := 0, spot := some 1 : Addr }) m k] 2 true, Blk.cells [Value.int IntKind.i64 mr, Value.slice (some
{ block := 4, off := 0, spot := some 1 : Addr }) (m2 + 1) (m2 + 1)] 2 true, Blk.cells cy 2 true, Blk.cells x_3 2 true]) ∧ ∃ (b : St19), tmps 156 [(1, Value.slice (some { block := 0, off := 0, spot := s1 : Addr }) len
k1), (2, Value.int IntKind.i64 owner), (7, Value.pointer (some { block := 1, off := 0 : Addr })), (8, Value.pointer (some { block := 2, off := 0 : Addr })), (9, Value.int IntKind.i64 (↑i : Int)), (10, Value.string x),
(11, Value.bool false)] = tmps 156 [(1, Value.slice (some { block := 0, off := 0, spot := s1 : Addr }) len k1), (2, Value.int IntKind.i64 owner), (7, Value.pointer (some { block := 1, off := 0 : Addr })), (8,
Value.pointer (some { block := 2, off := 0 : Addr })), (9, Value.int IntKind.i64 (↑i : Int)), (10, Value.string x), (11, Value.bool true)] ∧ hp [Blk.cells ca 4 false, Blk.cells [Value.int IntKind.i64 mo, Value.slice
(some { block := 3, off := 0, spot := some 1 : Addr }) m k] 2 true, Blk.cells [Value.int IntKind.i64 mr, Value.slice (some { block := 4, off := 0, spot := some 1 : Addr }) (m2 + 1) (m2 + 1)] 2 true, Blk.cells cy 2 true,
Blk.cells x_3 2 true] = hp [Blk.cells ca 4 false, Blk.cells [Value.int IntKind.i64 mo, Value.slice (some { block := 3, off := 0, spot := some 1 : Addr }) b.m b.k] 2 true, Blk.cells [Value.int IntKind.i64 mr, Value.slice
(some { block := 4, off := 0, spot := some 1 : Addr }) b.m2 b.k2] 2 true, Blk.cells b.cy 2 true, Blk.cells b.cz 2 true] ∧ Tok2 (i + 1) b ∧ K AE.normal (tmps 156 [(1, Value.slice (some
{ block := 0, off := 0, spot := s1 : Addr }) len k1), (2, Value.int IntKind.i64 owner), (7, Value.pointer (some { block := 1, off := 0 : Addr })), (8, Value.pointer (some { block := 2, off := 0 : Addr })), (9, Value.int
IntKind.i64 (↑i : Int))]) (hp [Blk.cells ca 4 false, Blk.cells [Value.int IntKind.i64 mo, Value.slice (some { block := 3, off := 0, spot := some 1 : Addr }) b.m b.k] 2 true, Blk.cells [Value.int IntKind.i64 mr,
Value.slice (some { block := 4, off := 0, spot := some 1 : Addr }) b.m2 b.k2] 2 true, Blk.cells b.cy 2 true, Blk.cells b.cz 2 true]))))))))))))))))) (Need (leN (0 + m * 2) cy.length) (Need (leN ((m + 1) * 24)
1099511627776) (Need (leN (m + 1) 1099511627776) (Need (ltI (↑i : Int) (↑len : Int)) (Need (isInt IntKind.i64 ((getO ca (0 + (↑i : Int).toNat * 4 + 1)).getD undef)) (Alt (ltI (intV ((getO ca (0 + (↑i : Int).toNat * 4 +
1)).getD undef)) 0) (Need (beqV 64 (Value.string x) (Value.string x)) (Need (isInt IntKind.i64 ((getO ca (0 + (↑i : Int).toNat * 4 + 1)).getD undef)) (Need (beqV 64 (Value.int IntKind.i64 (intV ((getO ca (0 + (↑i :
Int).toNat * 4 + 1)).getD undef))) (Value.int IntKind.i64 (intV ((getO ca (0 + (↑i : Int).toNat * 4 + 1)).getD undef)))) (Need (beqV 64 (Value.pointer (some { block := 0, off := 0 + (↑i : Int).toNat * 4 + 1 : Addr }))
(Value.pointer (some { block := 0, off := 0 + (↑i : Int).toNat * 4 + 1 : Addr }))) (Need (ltI (↑i : Int) (↑len : Int)) (Need (beqV 64 (Value.pointer (some { block := 0, off := 0 + (↑i : Int).toNat * 4 : Addr }))
(Value.pointer (some { block := 0, off := 0 + (↑i : Int).toNat * 4 : Addr }))) (Need (beqV 64 (Value.int IntKind.i64 (↑i : Int)) (Value.int IntKind.i64 (↑i : Int))) (Need (beqV 64 (Value.slice (some
{ block := 0, off := 0, spot := s1 : Addr }) len k1) (Value.slice (some { block := 0, off := 0, spot := s1 : Addr }) len k1)) (FlatD [1, 2] (hp [Blk.cells ca 4 false, Blk.cells [Value.int IntKind.i64 mo, Value.slice
(some { block := 3, off := 0, spot := some 1 : Addr }) (m + 1) (m + 1)] 2 true, Blk.cells [Value.int IntKind.i64 mr, Value.slice (some { block := 4, off := 0, spot := some 1 : Addr }) m2 k2] 2 true, Blk.cells (List.take
(m * 2) (List.drop 0 cy) ++ [Value.string x, Value.int IntKind.i64 (intV ((getO ca (0 + (↑i : Int).toNat * 4 + 1)).getD undef))]) 2 true, Blk.cells cz 2 true]) ∧ ∃ (b : St19), tmps 156 [(1, Value.slice (some
{ block := 0, off := 0, spot := s1 : Addr }) len k1), (2, Value.int IntKind.i64 owner), (7, Value.pointer (some { block := 1, off := 0 : Addr })), (8, Value.pointer (some { block := 2, off := 0 : Addr })), (9, Value.int
IntKind.i64 (↑i : Int)), (10, Value.string x), (11, Value.bool false)] = tmps 156 [(1, Value.slice (some { block := 0, off := 0, spot := s1 : Addr }) len k1), (2, Value.int IntKind.i64 owner), (7, Value.pointer (some
{ block := 1, off := 0 : Addr })), (8, Value.pointer (some { block := 2, off := 0 : Addr })), (9, Value.int IntKind.i64 (↑i : Int)), (10, Value.string x), (11, Value.bool true)] ∧ hp [Blk.cells ca 4 false, Blk.cells
[Value.int IntKind.i64 mo, Value.slice (some { block := 3, off := 0, spot := some 1 : Addr }) (m + 1) (m + 1)] 2 true, Blk.cells [Value.int IntKind.i64 mr, Value.slice (some
{ block := 4, off := 0, spot := some 1 : Addr }) m2 k2] 2 true, Blk.cells (List.take (m * 2) (List.drop 0 cy) ++ [Value.string x, Value.int IntKind.i64 (intV ((getO ca (0 + (↑i : Int).toNat * 4 + 1)).getD undef))]) 2
true, Blk.cells cz 2 true] = hp [Blk.cells ca 4 false, Blk.cells [Value.int IntKind.i64 mo, Value.slice (some { block := 3, off := 0, spot := some 1 : Addr }) b.m b.k] 2 true, Blk.cells [Value.int IntKind.i64 mr,
Value.slice (some { block := 4, off := 0, spot := some 1 : Addr }) b.m2 b.k2] 2 true, Blk.cells b.cy 2 true, Blk.cells b.cz 2 true] ∧ Tok2 (i + 1) b ∧ K AE.normal (tmps 156 [(1, Value.slice (some
{ block := 0, off := 0, spot := s1 : Addr }) len k1), (2, Value.int IntKind.i64 owner), (7, Value.pointer (some { block := 1, off := 0 : Addr })), (8, Value.pointer (some { block := 2, off := 0 : Addr })), (9, Value.int
IntKind.i64 (↑i : Int))]) (hp [Blk.cells ca 4 false, Blk.cells [Value.int IntKind.i64 mo, Value.slice (some { block := 3, off := 0, spot := some 1 : Addr }) b.m b.k] 2 true, Blk.cells [Value.int IntKind.i64 mr,
Value.slice (some { block := 4, off := 0, spot := some 1 : Addr }) b.m2 b.k2] 2 true, Blk.cells b.cy 2 true, Blk.cells b.cz 2 true])))))))))) (True ∧ True ∧ Alt (!(leI 4 (↑x.size : Int) && leI (↑x.size : Int) 16)) (Need
(beqV 64 (Value.string x) (Value.string x)) (Need (isInt IntKind.i64 ((getO ca (0 + (↑i : Int).toNat * 4 + 1)).getD undef)) (Need (beqV 64 (Value.int IntKind.i64 (intV ((getO ca (0 + (↑i : Int).toNat * 4 + 1)).getD
undef))) (Value.int IntKind.i64 (intV ((getO ca (0 + (↑i : Int).toNat * 4 + 1)).getD undef)))) (Need (beqV 64 (Value.pointer (some { block := 0, off := 0 + (↑i : Int).toNat * 4 + 1 : Addr })) (Value.pointer (some
{ block := 0, off := 0 + (↑i : Int).toNat * 4 + 1 : Addr }))) (Need (ltI (↑i : Int) (↑len : Int)) (Need (beqV 64 (Value.pointer (some { block := 0, off := 0 + (↑i : Int).toNat * 4 : Addr })) (Value.pointer (some
{ block := 0, off := 0 + (↑i : Int).toNat * 4 : Addr }))) (Need (beqV 64 (Value.int IntKind.i64 (↑i : Int)) (Value.int IntKind.i64 (↑i : Int))) (Need (beqV 64 (Value.slice (some
{ block := 0, off := 0, spot := s1 : Addr }) len k1) (Value.slice (some { block := 0, off := 0, spot := s1 : Addr }) len k1)) (FlatD [1, 2] (hp [Blk.cells ca 4 false, Blk.cells [Value.int IntKind.i64 mo, Value.slice
(some { block := 3, off := 0, spot := some 1 : Addr }) (m + 1) (m + 1)] 2 true, Blk.cells [Value.int IntKind.i64 mr, Value.slice (some { block := 4, off := 0, spot := some 1 : Addr }) m2 k2] 2 true, Blk.cells (List.take
(m * 2) (List.drop 0 cy) ++ [Value.string x, Value.int IntKind.i64 (intV ((getO ca (0 + (↑i : Int).toNat * 4 + 1)).getD undef))]) 2 true, Blk.cells cz 2 true]) ∧ ∃ (b : St19), tmps 156 [(1, Value.slice (some
{ block := 0, off := 0, spot := s1 : Addr }) len k1), (2, Value.int IntKind.i64 owner), (7, Value.pointer (some { block := 1, off := 0 : Addr })), (8, Value.pointer (some { block := 2, off := 0 : Addr })), (9, Value.int
IntKind.i64 (↑i : Int)), (10, Value.string x), (11, Value.bool false)] = tmps 156 [(1, Value.slice (some { block := 0, off := 0, spot := s1 : Addr }) len k1), (2, Value.int IntKind.i64 owner), (7, Value.pointer (some
{ block := 1, off := 0 : Addr })), (8, Value.pointer (some { block := 2, off := 0 : Addr })), (9, Value.int IntKind.i64 (↑i : Int)), (10, Value.string x), (11, Value.bool true)] ∧ hp [Blk.cells ca 4 false, Blk.cells
[Value.int IntKind.i64 mo, Value.slice (some { block := 3, off := 0, spot := some 1 : Addr }) (m + 1) (m + 1)] 2 true, Blk.cells [Value.int IntKind.i64 mr, Value.slice (some
{ block := 4, off := 0, spot := some 1 : Addr }) m2 k2] 2 true, Blk.cells (List.take (m * 2) (List.drop 0 cy) ++ [Value.string x, Value.int IntKind.i64 (intV ((getO ca (0 + (↑i : Int).toNat * 4 + 1)).getD undef))]) 2
true, Blk.cells cz 2 true] = hp [Blk.cells ca 4 false, Blk.cells [Value.int IntKind.i64 mo, Value.slice (some { block := 3, off := 0, spot := some 1 : Addr }) b.m b.k] 2 true, Blk.cells [Value.int IntKind.i64 mr,
Value.slice (some { block := 4, off := 0, spot := some 1 : Addr }) b.m2 b.k2] 2 true, Blk.cells b.cy 2 true, Blk.cells b.cz 2 true] ∧ Tok2 (i + 1) b ∧ K AE.normal (tmps 156 [(1, Value.slice (some
{ block := 0, off := 0, spot := s1 : Addr }) len k1), (2, Value.int IntKind.i64 owner), (7, Value.pointer (some { block := 1, off := 0 : Addr })), (8, Value.pointer (some { block := 2, off := 0 : Addr })), (9, Value.int
IntKind.i64 (↑i : Int))]) (hp [Blk.cells ca 4 false, Blk.cells [Value.int IntKind.i64 mo, Value.slice (some { block := 3, off := 0, spot := some 1 : Addr }) b.m b.k] 2 true, Blk.cells [Value.int IntKind.i64 mr,
Value.slice (some { block := 4, off := 0, spot := some 1 : Addr }) b.m2 b.k2] 2 true, Blk.cells b.cy 2 true, Blk.cells b.cz 2 true])))))))))) ((nojL [Value.int IntKind.i64 mr, Value.slice (some
{ block := 1, off := 0, spot := some 1 : Addr }) m2 k2] = true ∧ FlatL cz ∧ True) ∧ (IsP tkF tkG TkOk cz m2 k2 ∧ Need (leN m2 1000000) True) ∧ Alt (ownR x (tksAt cz m2)).isSome (Need (beqV 64 (Value.string x)
(Value.string x)) (Need (isInt IntKind.i64 ((getO ca (0 + (↑i : Int).toNat * 4 + 1)).getD undef)) (Need (beqV 64 (Value.int IntKind.i64 (intV ((getO ca (0 + (↑i : Int).toNat * 4 + 1)).getD undef))) (Value.int IntKind.i64
(intV ((getO ca (0 + (↑i : Int).toNat * 4 + 1)).getD undef)))) (Need (beqV 64 (Value.pointer (some { block := 0, off := 0 + (↑i : Int).toNat * 4 + 1 : Addr })) (Value.pointer (some
{ block := 0, off := 0 + (↑i : Int).toNat * 4 + 1 : Addr }))) (Need (ltI (↑i : Int) (↑len : Int)) (Need (beqV 64 (Value.pointer (some { block := 0, off := 0 + (↑i : Int).toNat * 4 : Addr })) (Value.pointer (some
{ block := 0, off := 0 + (↑i : Int).toNat * 4 : Addr }))) (Need (beqV 64 (Value.int IntKind.i64 (↑i : Int)) (Value.int IntKind.i64 (↑i : Int))) (Need (beqV 64 (Value.slice (some
{ block := 0, off := 0, spot := s1 : Addr }) len k1) (Value.slice (some { block := 0, off := 0, spot := s1 : Addr }) len k1)) (FlatD [1, 2] (hp [Blk.cells ca 4 false, Blk.cells [Value.int IntKind.i64 mo, Value.slice
(some { block := 3, off := 0, spot := some 1 : Addr }) (m + 1) (m + 1)] 2 true, Blk.cells [Value.int IntKind.i64 mr, Value.slice (some { block := 4, off := 0, spot := some 1 : Addr }) m2 k2] 2 true, Blk.cells (List.take
(m * 2) (List.drop 0 cy) ++ [Value.string x, Value.int IntKind.i64 (intV ((getO ca (0 + (↑i : Int).toNat * 4 + 1)).getD undef))]) 2 true, Blk.cells cz 2 true]) ∧ ∃ (b : St19), tmps 156 [(1, Value.slice (some
{ block := 0, off := 0, spot := s1 : Addr }) len k1), (2, Value.int IntKind.i64 owner), (7, Value.pointer (some { block := 1, off := 0 : Addr })), (8, Value.pointer (some { block := 2, off := 0 : Addr })), (9, Value.int
IntKind.i64 (↑i : Int)), (10, Value.string x), (11, Value.bool false)] = tmps 156 [(1, Value.slice (some { block := 0, off := 0, spot := s1 : Addr }) len k1), (2, Value.int IntKind.i64 owner), (7, Value.pointer (some
{ block := 1, off := 0 : Addr })), (8, Value.pointer (some { block := 2, off := 0 : Addr })), (9, Value.int IntKind.i64 (↑i : Int)), (10, Value.string x), (11, Value.bool true)] ∧ hp [Blk.cells ca 4 false, Blk.cells
[Value.int IntKind.i64 mo, Value.slice (some { block := 3, off := 0, spot := some 1 : Addr }) (m + 1) (m + 1)] 2 true, Blk.cells [Value.int IntKind.i64 mr, Value.slice (some
{ block := 4, off := 0, spot := some 1 : Addr }) m2 k2] 2 true, Blk.cells (List.take (m * 2) (List.drop 0 cy) ++ [Value.string x, Value.int IntKind.i64 (intV ((getO ca (0 + (↑i : Int).toNat * 4 + 1)).getD undef))]) 2
true, Blk.cells cz 2 true] = hp [Blk.cells ca 4 false, Blk.cells [Value.int IntKind.i64 mo, Value.slice (some { block := 3, off := 0, spot := some 1 : Addr }) b.m b.k] 2 true, Blk.cells [Value.int IntKind.i64 mr,
Value.slice (some { block := 4, off := 0, spot := some 1 : Addr }) b.m2 b.k2] 2 true, Blk.cells b.cy 2 true, Blk.cells b.cz 2 true] ∧ Tok2 (i + 1) b ∧ K AE.normal (tmps 156 [(1, Value.slice (some
{ block := 0, off := 0, spot := s1 : Addr }) len k1), (2, Value.int IntKind.i64 owner), (7, Value.pointer (some { block := 1, off := 0 : Addr })), (8, Value.pointer (some { block := 2, off := 0 : Addr })), (9, Value.int
IntKind.i64 (↑i : Int))]) (hp [Blk.cells ca 4 false, Blk.cells [Value.int IntKind.i64 mo, Value.slice (some { block := 3, off := 0, spot := some 1 : Addr }) b.m b.k] 2 true, Blk.cells [Value.int IntKind.i64 mr,
Value.slice (some { block := 4, off := 0, spot := some 1 : Addr }) b.m2 b.k2] 2 true, Blk.cells b.cy 2 true, Blk.cells b.cz 2 true])))))))))) ((nojL [Value.int IntKind.i64 mr, Value.slice (some
{ block := 1, off := 0, spot := some 1 : Addr }) m2 k2] = true ∧ FlatL cz ∧ True) ∧ (IsP tkF tkG TkOk cz m2 k2 ∧ Need (leN m2 1000000) True) ∧ ∀ (x_2 : List Value), IsS (ofL (intV ((getO ca (0 + (↑i : Int).toNat * 4 +
1)).getD undef)) (tksAt cz m2)) x_2 (ofL (intV ((getO ca (0 + (↑i : Int).toNat * 4 + 1)).getD undef)) (tksAt cz m2)).length (ofL (intV ((getO ca (0 + (↑i : Int).toNat * 4 + 1)).getD undef)) (tksAt cz m2)).length → Need
(beqV 64 (Value.int IntKind.i64 (intV (Value.int IntKind.i64 mr))) (Value.int IntKind.i64 (intV (Value.int IntKind.i64 mr)))) (Alt (leI (intV (Value.int IntKind.i64 mr)) (↑(ofL (intV ((getO ca (0 + (↑i : Int).toNat * 4 +
1)).getD undef)) (tksAt cz m2)).length : Int)) (Need (beqV 64 (Value.string x) (Value.string x)) (Need (isInt IntKind.i64 ((getO ca (0 + (↑i : Int).toNat * 4 + 1)).getD undef)) (Need (beqV 64 (Value.int IntKind.i64 (intV
((getO ca (0 + (↑i : Int).toNat * 4 + 1)).getD undef))) (Value.int IntKind.i64 (intV ((getO ca (0 + (↑i : Int).toNat * 4 + 1)).getD undef)))) (Need (beqV 64 (Value.pointer (some
{ block := 0, off := 0 + (↑i : Int).toNat * 4 + 1 : Addr })) (Value.pointer (some { block := 0, off := 0 + (↑i : Int).toNat * 4 + 1 : Addr }))) (Need (ltI (↑i : Int) (↑len : Int)) (Need (beqV 64 (Value.pointer (some
{ block := 0, off := 0 + (↑i : Int).toNat * 4 : Addr })) (Value.pointer (some { block := 0, off := 0 + (↑i : Int).toNat * 4 : Addr }))) (Need (beqV 64 (Value.int IntKind.i64 (↑i : Int)) (Value.int IntKind.i64 (↑i :
Int))) (Need (beqV 64 (Value.slice (some { block := 0, off := 0, spot := s1 : Addr }) len k1) (Value.slice (some { block := 0, off := 0, spot := s1 : Addr }) len k1)) (FlatD [1, 2] (hp [Blk.cells ca 4 false, Blk.cells
[Value.int IntKind.i64 mo, Value.slice (some { block := 3, off := 0, spot := some 1 : Addr }) (m + 1) (m + 1)] 2 true, Blk.cells [Value.int IntKind.i64 mr, Value.slice (some
{ block := 4, off := 0, spot := some 1 : Addr }) m2 k2] 2 true, Blk.cells (List.take (m * 2) (List.drop 0 cy) ++ [Value.string x, Value.int IntKind.i64 (intV ((getO ca (0 + (↑i : Int).toNat * 4 + 1)).getD undef))]) 2
true, Blk.cells cz 2 true]) ∧ ∃ (b : St19), tmps 156 [(1, Value.slice (some { block := 0, off := 0, spot := s1 : Addr }) len k1), (2, Value.int IntKind.i64 owner), (7, Value.pointer (some
{ block := 1, off := 0 : Addr })), (8, Value.pointer (some { block := 2, off := 0 : Addr })), (9, Value.int IntKind.i64 (↑i : Int)), (10, Value.string x), (11, Value.bool false)] = tmps 156 [(1, Value.slice (some
{ block := 0, off := 0, spot := s1 : Addr }) len k1), (2, Value.int IntKind.i64 owner), (7, Value.pointer (some { block := 1, off := 0 : Addr })), (8, Value.pointer (some { block := 2, off := 0 : Addr })), (9, Value.int
IntKind.i64 (↑i : Int)), (10, Value.string x), (11, Value.bool true)] ∧ hp [Blk.cells ca 4 false, Blk.cells [Value.int IntKind.i64 mo, Value.slice (some { block := 3, off := 0, spot := some 1 : Addr }) (m + 1) (m + 1)] 2
true, Blk.cells [Value.int IntKind.i64 mr, Value.slice (some { block := 4, off := 0, spot := some 1 : Addr }) m2 k2] 2 true, Blk.cells (List.take (m * 2) (List.drop 0 cy) ++ [Value.string x, Value.int IntKind.i64 (intV
((getO ca (0 + (↑i : Int).toNat * 4 + 1)).getD undef))]) 2 true, Blk.cells cz 2 true] = hp [Blk.cells ca 4 false, Blk.cells [Value.int IntKind.i64 mo, Value.slice (some { block := 3, off := 0, spot := some 1 : Addr })
b.m b.k] 2 true, Blk.cells [Value.int IntKind.i64 mr, Value.slice (some { block := 4, off := 0, spot := some 1 : Addr }) b.m2 b.k2] 2 true, Blk.cells b.cy 2 true, Blk.cells b.cz 2 true] ∧ Tok2 (i + 1) b ∧ K AE.normal
(tmps 156 [(1, Value.slice (some { block := 0, off := 0, spot := s1 : Addr }) len k1), (2, Value.int IntKind.i64 owner), (7, Value.pointer (some { block := 1, off := 0 : Addr })), (8, Value.pointer (some
{ block := 2, off := 0 : Addr })), (9, Value.int IntKind.i64 (↑i : Int))]) (hp [Blk.cells ca 4 false, Blk.cells [Value.int IntKind.i64 mo, Value.slice (some { block := 3, off := 0, spot := some 1 : Addr }) b.m b.k] 2
true, Blk.cells [Value.int IntKind.i64 mr, Value.slice (some { block := 4, off := 0, spot := some 1 : Addr }) b.m2 b.k2] 2 true, Blk.cells b.cy 2 true, Blk.cells b.cz 2 true])))))))))) ((nojL [Value.int IntKind.i64 mr,
Value.slice (some { block := 1, off := 0, spot := some 1 : Addr }) m2 k2] = true ∧ FlatL cz ∧ True) ∧ (IsP tkF tkG TkOk cz m2 k2 ∧ OkP (intV ((getO ca (0 + (↑i : Int).toNat * 4 + 1)).getD undef)) x ∧ Need (leN m2
1000000) True) ∧ ∀ (x_3 : List Value), IsTL (putT (intV ((getO ca (0 + (↑i : Int).toNat * 4 + 1)).getD undef)) x (tksAt cz m2)) x_3 (m2 + 1) (m2 + 1) → Need (beqV 64 (Value.string x) (Value.string x)) (Need (isInt
IntKind.i64 ((getO ca (0 + (↑i : Int).toNat * 4 + 1)).getD undef)) (Need (beqV 64 (Value.int IntKind.i64 (intV ((getO ca (0 + (↑i : Int).toNat * 4 + 1)).getD undef))) (Value.int IntKind.i64 (intV ((getO ca (0 + (↑i :
Int).toNat * 4 + 1)).getD undef)))) (Need (beqV 64 (Value.pointer (some { block := 0, off := 0 + (↑i : Int).toNat * 4 + 1 : Addr })) (Value.pointer (some { block := 0, off := 0 + (↑i : Int).toNat * 4 + 1 : Addr })))
(Need (ltI (↑i : Int) (↑len : Int)) (Need (beqV 64 (Value.pointer (some { block := 0, off := 0 + (↑i : Int).toNat * 4 : Addr })) (Value.pointer (some { block := 0, off := 0 + (↑i : Int).toNat * 4 : Addr }))) (Need (beqV
64 (Value.int IntKind.i64 (↑i : Int)) (Value.int IntKind.i64 (↑i : Int))) (Need (beqV 64 (Value.slice (some { block := 0, off := 0, spot := s1 : Addr }) len k1) (Value.slice (some
{ block := 0, off := 0, spot := s1 : Addr }) len k1)) (FlatD [1, 2] (hp [Blk.cells ca 4 false, Blk.cells [Value.int IntKind.i64 mo, Value.slice (some { block := 3, off := 0, spot := some 1 : Addr }) (m + 1) (m + 1)] 2
true, Blk.cells [Value.int IntKind.i64 mr, Value.slice (some { block := 4, off := 0, spot := some 1 : Addr }) (m2 + 1) (m2 + 1)] 2 true, Blk.cells (List.take (m * 2) (List.drop 0 cy) ++ [Value.string x, Value.int
IntKind.i64 (intV ((getO ca (0 + (↑i : Int).toNat * 4 + 1)).getD undef))]) 2 true, Blk.cells x_3 2 true]) ∧ ∃ (b : St19), tmps 156 [(1, Value.slice (some { block := 0, off := 0, spot := s1 : Addr }) len k1), (2,
Value.int IntKind.i64 owner), (7, Value.pointer (some { block := 1, off := 0 : Addr })), (8, Value.pointer (some { block := 2, off := 0 : Addr })), (9, Value.int IntKind.i64 (↑i : Int)), (10, Value.string x), (11,
Value.bool true)] = tmps 156 [(1, Value.slice (some { block := 0, off := 0, spot := s1 : Addr }) len k1), (2, Value.int IntKind.i64 owner), (7, Value.pointer (some { block := 1, off := 0 : Addr })), (8, Value.pointer
(some { block := 2, off := 0 : Addr })), (9, Value.int IntKind.i64 (↑i : Int)), (10, Value.string x), (11, Value.bool true)] ∧ hp [Blk.cells ca 4 false, Blk.cells [Value.int IntKind.i64 mo, Value.slice (some
{ block := 3, off := 0, spot := some 1 : Addr }) (m + 1) (m + 1)] 2 true, Blk.cells [Value.int IntKind.i64 mr, Value.slice (some { block := 4, off := 0, spot := some 1 : Addr }) (m2 + 1) (m2 + 1)] 2 true, Blk.cells
(List.take (m * 2) (List.drop 0 cy) ++ [Value.string x, Value.int IntKind.i64 (intV ((getO ca (0 + (↑i : Int).toNat * 4 + 1)).getD undef))]) 2 true, Blk.cells x_3 2 true] = hp [Blk.cells ca 4 false, Blk.cells [Value.int
IntKind.i64 mo, Value.slice (some { block := 3, off := 0, spot := some 1 : Addr }) b.m b.k] 2 true, Blk.cells [Value.int IntKind.i64 mr, Value.slice (some { block := 4, off := 0, spot := some 1 : Addr }) b.m2 b.k2] 2
true, Blk.cells b.cy 2 true, Blk.cells b.cz 2 true] ∧ Tok2 (i + 1) b ∧ K AE.normal (tmps 156 [(1, Value.slice (some { block := 0, off := 0, spot := s1 : Addr }) len k1), (2, Value.int IntKind.i64 owner), (7,
Value.pointer (some { block := 1, off := 0 : Addr })), (8, Value.pointer (some { block := 2, off := 0 : Addr })), (9, Value.int IntKind.i64 (↑i : Int))]) (hp [Blk.cells ca 4 false, Blk.cells [Value.int IntKind.i64 mo,
Value.slice (some { block := 3, off := 0, spot := some 1 : Addr }) b.m b.k] 2 true, Blk.cells [Value.int IntKind.i64 mr, Value.slice (some { block := 4, off := 0, spot := some 1 : Addr }) b.m2 b.k2] 2 true, Blk.cells
b.cy 2 true, Blk.cells b.cz 2 true]))))))))))))))))))))))))))))))) := by kernel_rfl

end Go.Proofs.Ytabbkoegaoekkaa

namespace Go.Proofs.Ytabbkoegaoekkaa
open Go.RowKit Go.Proofs.Ytabbkoegaoekkaa.AM
set_option maxRecDepth 100000
set_option maxHeartbeats 4000000
theorem Alt_ite (b : Bool) (t f : Prop) : Alt b t f = (if b = true then t else f) := propext (by rw [Alt_iff]; cases b <;> simp)
theorem ltS_irr (a : ByteArray) : ltS a a = false := by
  have := ltS_or a a
  have h2 : eqS a a = true := eqS_iff.2 rfl
  rw [h2, Bool.or_true] at this
  exact this.symm
theorem bl_trans : ∀ x y z : List UInt8, Op.bytesLess x y = true → Op.bytesLess y z = true → Op.bytesLess x z = true := by
  intro x
  induction x with
  | nil => intro y z h1 h2; cases y with
    | nil => exact h2
    | cons q y => cases z with
      | nil => cases h2
      | cons r z => rfl
  | cons p x ih =>
    intro y z h1 h2
    cases y with
    | nil => cases h1
    | cons q y =>
      cases z with
      | nil => cases h2
      | cons r z =>
        have := ih y z
        simp only [Op.bytesLess] at h1 h2 ⊢
        by_cases a1 : p < q
        · by_cases a2 : q < r
          · have a3 : p < r := UInt8.lt_iff_toNat_lt.2 (by have := UInt8.lt_iff_toNat_lt.1 a1; have := UInt8.lt_iff_toNat_lt.1 a2; omega)
            simp [a3]
          · simp [a2] at h2
            by_cases a4 : q = r
            · subst a4; simp [a1]
            · simp [a4] at h2
        · simp [a1] at h1
          by_cases a4 : p = q
          · subst a4
            simp at h1
            by_cases a2 : p < r
            · simp [a2]
            · simp [a2] at h2
              by_cases a5 : p = r
              · subst a5
                simp at h2
                simp [this h1 h2]
              · simp [a5] at h2
          · simp [a4] at h1
  done
theorem ltS_trans {a b c : ByteArray} (h1 : ltS a b = true) (h2 : ltS b c = true) : ltS a c = true := bl_trans _ _ _ h1 h2
theorem ltS_ne {a b : ByteArray} (h : ltS a b = true) : a ≠ b := fun e => by subst e; rw [ltS_irr] at h; cases h
theorem ltS_tri {a b : ByteArray} (h1 : ltS a b = false) (h2 : a ≠ b) : ltS b a = true := by
  have := ltS_or a b
  rw [h1, Bool.false_or] at this
  rw [← this]
  cases h : eqS a b with
  | true => exact absurd (eqS_iff.1 h) h2
  | false => rfl
/-! ### sorted lists of tokens: each once -/
theorem srt_one {M : List Tk} (h : M.Pairwise ltT) {x y : Tk} (hx : x ∈ M) (hy : y ∈ M) (he : x.1 = y.1) : x = y := by
  induction M with
  | nil => cases hx
  | cons a M ih =>
    obtain ⟨h1, h2⟩ := List.pairwise_cons.1 h
    rcases List.mem_cons.1 hx with e1 | hx1
    · rcases List.mem_cons.1 hy with e2 | hy1
      · rw [e1, e2]
      · rw [e1] at he; exact absurd he (ltS_ne (h1 y hy1))
    · rcases List.mem_cons.1 hy with e2 | hy1
      · rw [e2] at he; exact absurd he.symm (ltS_ne (h1 x hx1))
      · exact ih h2 hx1 hy1
theorem own_none {s : ByteArray} : ∀ {M : List Tk}, ownR s M = none ↔ ∀ x ∈ M, x.1 ≠ s := by
  intro M
  induction M with
  | nil => simp [ownR]
  | cons a M ih =>
    unfold ownR
    by_cases h : eqS a.1 s = true
    · rw [if_pos h]
      refine ⟨fun hh => (by cases hh), fun hh => absurd (eqS_iff.1 h) (hh a List.mem_cons_self)⟩
    · rw [if_neg h, ih]
      have h' : a.1 ≠ s := fun e => h (eqS_iff.2 e)
      exact ⟨fun hh x hx => (List.mem_cons.1 hx).elim (fun e => e ▸ h') (hh x), fun hh x hx => hh x (List.mem_cons_of_mem _ hx)⟩
theorem own_some {s : ByteArray} {o : Int} : ∀ {M : List Tk}, ownR s M = some o → ∃ x ∈ M, x.1 = s ∧ x.2 = o := by
  intro M
  induction M with
  | nil => intro h; cases h
  | cons a M ih =>
    intro h
    unfold ownR at h
    by_cases h' : eqS a.1 s = true
    · rw [if_pos h'] at h; injection h with h; exact ⟨a, List.mem_cons_self, eqS_iff.1 h', h⟩
    · rw [if_neg h'] at h
      obtain ⟨x, hx, q⟩ := ih h
      exact ⟨x, List.mem_cons_of_mem _ hx, q⟩
theorem own_of {s : ByteArray} {M : List Tk} (hM : M.Pairwise ltT) {x : Tk} (hx : x ∈ M) (he : x.1 = s) : ownR s M = some x.2 := by
  cases h : ownR s M with
  | none => exact absurd he (own_none.1 h x hx)
  | some o =>
    obtain ⟨y, hy, h1, h2⟩ := own_some h
    rw [srt_one hM hx hy (he.trans h1.symm), h2]
theorem placeF_spec (s : ByteArray) : ∀ (L : List Tk) (i : Nat) (a : Int), (placeF s i a L = a ∧ ∀ x ∈ L, x.1 ≠ s) ∨ ∃ (p : Nat) (x : Tk), placeF s i a L = ((i + p : Nat) : Int) ∧ L[p]? = some x ∧ x.1 = s := by
  intro L
  induction L with
  | nil => intro i a; exact .inl ⟨rfl, fun x hx => by cases hx⟩
  | cons y L ih =>
    intro i a
    unfold placeF
    by_cases h : eqS y.1 s = true
    · rw [if_pos h]
      rcases ih (i + 1) i with ⟨h1, h2⟩ | ⟨p, x, h1, h2, h3⟩
      · exact .inr ⟨0, y, by rw [h1]; rfl, rfl, eqS_iff.1 h⟩
      · exact .inr ⟨p + 1, x, by rw [h1]; congr 1; omega, by simpa using h2, h3⟩
    · rw [if_neg h]
      rcases ih (i + 1) a with ⟨h1, h2⟩ | ⟨p, x, h1, h2, h3⟩
      · exact .inl ⟨h1, fun x hx => (List.mem_cons.1 hx).elim (fun e => e ▸ fun hh => h (eqS_iff.2 hh)) (h2 x)⟩
      · exact .inr ⟨p + 1, x, by rw [h1]; congr 1; omega, by simpa using h2, h3⟩
theorem ofL_eq (o : Int) : ∀ L : List Tk, ofL o L = (L.filter fun x => eqI x.2 o).map (·.1) := by
  intro L
  induction L with
  | nil => rfl
  | cons x t ih =>
    unfold ofL
    rw [List.filter_cons]
    cases h : eqI x.2 o <;> simp [ih]
theorem ofL_perm (o : Int) {L M : List Tk} (h : L.Perm M) : (ofL o L).Perm (ofL o M) := by rw [ofL_eq, ofL_eq]; exact (h.filter _).map _
theorem ofL_sorted (o : Int) {M : List Tk} (h : M.Pairwise ltT) : (ofL o M).Pairwise fun a b => ltS a b = true := by
  rw [ofL_eq, List.pairwise_map]; exact List.Pairwise.filter _ h
theorem lt_le {a b : List UInt8} (h : Op.bytesLess a b = true) : a ≤ b := by
  have key : ∀ a b : List UInt8, Op.bytesLess a b = true → a < b := by
    intro a
    induction a with
    | nil => intro b h; cases b with
      | nil => cases h
      | cons q b => exact List.Lex.nil
    | cons p a ih =>
      intro b h
      cases b with
      | nil => cases h
      | cons q b =>
        simp only [Op.bytesLess] at h
        by_cases a1 : p < q
        · exact List.Lex.rel a1
        · simp [a1] at h
          by_cases a2 : p = q
          · subst a2; simp at h; exact List.Lex.cons (ih b h)
          · simp [a2] at h
  exact List.le_of_lt (key a b h)
theorem srt_ofL (o : Int) {L M : List Tk} (h : L.Perm M) (hM : M.Pairwise ltT) : srt (ofL o L) = ofL o M := by
  unfold srt srtB
  have hp : ((ofL o L).map byB).Perm ((ofL o M).map byB) := (ofL_perm o h).map _
  have h1 : ((((ofL o L).map byB).mergeSort fun x y => decide (x ≤ y))).Pairwise fun x y => x ≤ y := by
    have := List.pairwise_mergeSort (le := fun x y : List UInt8 => decide (x ≤ y)) (fun a b c h1 h2 => by simp at h1 h2 ⊢; exact List.le_trans h1 h2) (fun a b => by simp; exact List.le_total a b) ((ofL o L).map byB)
    exact this.imp fun h => by simpa using h
  have h2 : ((ofL o M).map byB).Pairwise fun x y => x ≤ y := by
    rw [List.pairwise_map]; exact (ofL_sorted o hM).imp fun h => lt_le h
  have := List.Perm.eq_of_pairwise (le := fun x y : List UInt8 => x ≤ y) (fun a b _ _ h1 h2 => List.le_antisymm h1 h2) h1 h2 ((List.mergeSort_perm _ _).trans hp)
  rw [this, List.map_map, show (toB ∘ byB) = id from funext fun _ => rfl, List.map_id]
theorem same_self (a : List ByteArray) : sameSt a a = true := by
  unfold sameSt
  rw [decide_eq_true rfl, Bool.true_and]
  induction a with
  | nil => rfl
  | cons x a ih => rw [allS, eqS_iff.2 rfl, ih]; rfl
/-! ### what is done to both -/
theorem put_both {L M : List Tk} (h : L.Perm M) (hM : M.Pairwise ltT) {s : ByteArray} {o : Int} (hn : ∀ x ∈ M, x.1 ≠ s) : (L ++ [(s, o)]).Perm (putT o s M) ∧ (putT o s M).Pairwise ltT := by
  have hspec : ∀ n, n ≤ M.length → (∀ (j : Nat) x, posT s M n ≤ j → j < n → M[j]? = some x → ltS s x.1 = true) ∧ (∀ x, 0 < posT s M n → M[posT s M n - 1]? = some x → ltS s x.1 = false) := by
    intro n
    induction n with
    | zero => intro _; exact ⟨fun j x h1 h2 => by omega, fun x hx => by unfold posT at hx; omega⟩
    | succ n ih =>
      intro hn'
      have hx : M[n]? = some M[n] := List.getElem?_eq_getElem (by omega)
      generalize M[n] = y at hx
      obtain ⟨i1, i2⟩ := ih (by omega)
      unfold posT
      rw [hx]
      simp only
      split
      · rename_i hlt
        refine ⟨fun j x h1 h2 hj => ?_, i2⟩
        by_cases hjn : j = n
        · subst hjn; rw [hx] at hj; injection hj with hj; subst hj; exact hlt
        · exact i1 j x h1 (by omega) hj
      · rename_i hlt
        refine ⟨fun j x h1 h2 hj => by omega, fun x _ hj => ?_⟩
        rw [Nat.add_sub_cancel, hx] at hj; injection hj with hj; subst hj
        exact Bool.eq_false_iff.2 hlt
  obtain ⟨k1, k2⟩ := hspec M.length (Nat.le_refl _)
  have hle := posT_le s M M.length
  obtain ⟨p, hp⟩ : ∃ p, p = posT s M M.length := ⟨_, rfl⟩
  unfold putT
  rw [← hp] at k1 k2 hle ⊢
  have hlow : ∀ x ∈ M.take p, ltS x.1 s = true := fun x hx => by
    have hp0 : 0 < p := by
      rcases Nat.eq_zero_or_pos p with h0 | h0
      · rw [h0] at hx; simp at hx
      · exact h0
    have hy : M[p - 1]? = some M[p - 1] := List.getElem?_eq_getElem (by omega)
    generalize M[p - 1] = y at hy
    have hyM := List.mem_of_getElem? hy
    have f1 := k2 y hp0 hy
    have f2 : ltS y.1 s = true := ltS_tri f1 (fun e => hn y hyM e.symm)
    obtain ⟨j, hj, hjx⟩ := List.getElem_of_mem hx
    rw [List.length_take] at hj
    rw [List.getElem_take] at hjx
    have hjx' : M[j]? = some x := by rw [List.getElem?_eq_getElem (by omega), hjx]
    by_cases hjp : j = p - 1
    · subst hjp; rw [hy] at hjx'; injection hjx' with e; subst e; exact f2
    · have := List.pairwise_iff_getElem.1 hM j (p - 1) (by omega) (by omega) (by omega)
      rw [hjx] at this
      have e2 : M[p - 1] = y := by have := List.getElem?_eq_getElem (l := M) (i := p - 1) (by omega); rw [hy] at this; injection this with this; exact this.symm
      rw [e2] at this
      exact ltS_trans this f2
  have hhigh : ∀ x ∈ M.drop p, ltS s x.1 = true := fun x hx => by
    obtain ⟨j, hj, hjx⟩ := List.getElem_of_mem hx
    rw [List.length_drop] at hj
    rw [List.getElem_drop] at hjx
    exact k1 (p + j) x (by omega) (by omega) (by rw [List.getElem?_eq_getElem (by omega), hjx])
  refine ⟨?_, ?_⟩
  · refine (List.perm_append_comm).trans ?_
    refine List.Perm.trans ?_ (List.perm_middle.symm)
    rw [List.take_append_drop]
    exact List.Perm.cons _ h
  · rw [List.pairwise_append, List.pairwise_cons]
    refine ⟨List.Pairwise.sublist (List.take_sublist _ _) hM, ⟨fun x hx => hhigh x hx, List.Pairwise.sublist (List.drop_sublist _ _) hM⟩, fun a ha b hb => ?_⟩
    rcases List.mem_cons.1 hb with rfl | hb
    · exact hlow a ha
    · exact ltS_trans (hlow a ha) (hhigh b hb)
theorem cutR_both {L M : List Tk} (h : L.Perm M) (hM : M.Pairwise ltT) {p : Nat} {x : Tk} (hp : L[p]? = some x) : (L.eraseIdx p).Perm (cutR x.1 M) ∧ (cutR x.1 M).Pairwise ltT := by
  rw [cutR_eq]
  refine ⟨?_, List.Pairwise.filter _ hM⟩
  have hlt : p < L.length := (List.getElem?_eq_some_iff.1 hp).1
  have hx : L[p] = x := by rw [List.getElem?_eq_getElem hlt] at hp; injection hp
  have e1 : L.Perm (x :: L.eraseIdx p) := by
    rw [List.eraseIdx_eq_take_drop_succ]
    have : L = L.take p ++ x :: L.drop (p + 1) := by rw [← hx, ← List.drop_eq_getElem_cons hlt, List.take_append_drop]
    conv => lhs; rw [this]
    exact List.perm_middle
  have hxM : x ∈ M := h.mem_iff.1 (List.mem_of_getElem? hp)
  have e2 := (e1.symm.trans h)
  have hnd : ∀ y ∈ L.eraseIdx p, y.1 ≠ x.1 := by
    have hn : (x :: L.eraseIdx p).Pairwise fun a b => a.1 ≠ b.1 := by
      refine (e2.symm.pairwise_iff (R := fun a b : Tk => a.1 ≠ b.1) (fun h e => h e.symm)).1 (hM.imp fun h => ltS_ne h)
    exact fun y hy e => (List.pairwise_cons.1 hn).1 y hy e.symm
  have e3 := e2.filter fun y => !eqS y.1 x.1
  rw [List.filter_cons, if_neg (by rw [eqS_iff.2 rfl]; simp)] at e3
  refine List.Perm.trans ?_ e3
  rw [List.filter_eq_self.2 fun y hy => by rw [Bool.not_eq_true']; exact Bool.eq_false_iff.2 fun hh => hnd y hy (eqS_iff.1 hh)]
theorem cutAll_mem : ∀ (l : List ByteArray) (M : List Tk), cutAll l M = M.filter fun x => !(l.any fun s => eqS x.1 s) := by
  intro l
  induction l with
  | nil => intro M; rw [cutAll]; exact (List.filter_eq_self.2 fun x _ => rfl).symm
  | cons s t ih =>
    intro M
    rw [cutAll, ih, cutR_eq, List.filter_filter]
    refine List.filter_congr fun x _ => ?_
    rw [List.any_cons]
    cases eqS x.1 s <;> simp
theorem drop_both {L M : List Tk} (h : L.Perm M) (hM : M.Pairwise ltT) (o : Int) : (dropL o L).Perm (cutAll (ofL o M) M) ∧ (cutAll (ofL o M) M).Pairwise ltT := by
  have e : cutAll (ofL o M) M = dropL o M := by
    rw [cutAll_mem]
    unfold dropL
    refine List.filter_congr fun x hx => ?_
    congr 1
    cases hq : eqI x.2 o with
    | true => exact List.any_eq_true.2 ⟨x.1, ofL_mem.2 ⟨x, hx, eqI_iff.1 hq, rfl⟩, eqS_iff.2 rfl⟩
    | false =>
      refine Bool.eq_false_iff.2 fun hh => ?_
      obtain ⟨s, hm, he⟩ := List.any_eq_true.1 hh
      obtain ⟨y, hy, h1, h2⟩ := ofL_mem.1 hm
      have := srt_one hM hx hy ((eqS_iff.1 he).trans h2.symm)
      rw [this, eqI_iff.2 h1] at hq; cases hq
  rw [e]
  exact ⟨h.filter _, List.Pairwise.filter _ hM⟩
end Go.Proofs.Ytabbkoegaoekkaa

namespace Go.Proofs.Ytabbkoegaoekkaa
open Go.RowKit Go.Proofs.Ytabbkoegaoekkaa.AM
set_option maxRecDepth 100000
set_option maxHeartbeats 4000000
noncomputable def body1948 : Code := (Try.f7.body).getD .skip
def F1948 : List Nat → Option (List Nat) := fun p => match p with
  | [1] => some [0, 1]
  | [1, 1] => some [0, 1, 5]
  | [1, 0, 1, 1] => some [0, 1, 5, 17]
  | [1, 0, 1, 0, 1, 1] => some [4]
  | [1, 1, 1] => some [0, 1, 5]
  | [1, 1, 1, 1] => some [5, 6, 7]
  | [1, 0, 1, 1, 1, 1] => some [5, 6, 7, 8]
  | [1, 0, 0, 0, 1, 0, 1, 1, 1, 1] => some [5, 6, 7, 8, 27]
  | [1, 1, 0, 0, 0, 1, 0, 1, 1, 1, 1] => some [5, 6, 7]
  | [1, 0, 0, 1, 0, 1, 1, 1, 1] => some [5, 6, 7, 8]
  | [1, 0, 0, 1, 0, 0, 1, 0, 1, 1, 1, 1] => some [5, 6, 7, 8, 35]
  | [1, 0, 1, 0, 0, 1, 0, 0, 1, 0, 1, 1, 1, 1] => some [4]
  | [1, 1, 0, 0, 1, 0, 1, 1, 1, 1] => some [5, 6, 7, 8]
  | [1, 1, 1, 1, 1] => some [5, 6, 7]
  | [1, 0, 1, 1, 1, 1, 1] => some [5, 6, 7, 9]
  | [1, 0, 0, 0, 1, 0, 1, 1, 1, 1, 1] => some [5, 6, 7, 9, 38]
  | [1, 1, 0, 0, 0, 1, 0, 1, 1, 1, 1, 1] => some [5, 6]
  | [1, 0, 0, 1, 0, 1, 1, 1, 1, 1] => some [5, 6, 7, 9]
  | [1, 0, 0, 1, 0, 0, 1, 0, 1, 1, 1, 1, 1] => some [5, 6, 7, 9, 10]
  | [1, 1, 0, 0, 1, 0, 0, 1, 0, 1, 1, 1, 1, 1] => some [1000000, 5, 6, 7, 9, 10, 11]
  | [1, 0, 1, 1, 0, 0, 1, 0, 0, 1, 0, 1, 1, 1, 1, 1] => some [5, 6, 7, 9, 11, 74]
  | [1, 0, 1, 0, 1, 1, 0, 0, 1, 0, 0, 1, 0, 1, 1, 1, 1, 1] => some [4]
  | [1, 1, 1, 0, 0, 1, 0, 0, 1, 0, 1, 1, 1, 1, 1] => some [1000000, 5, 6, 7, 9, 11]
  | [1, 1, 1, 1, 0, 0, 1, 0, 0, 1, 0, 1, 1, 1, 1, 1] => some [5, 6, 7, 9, 11, 13]
  | [1, 0, 1, 1, 1, 1, 0, 0, 1, 0, 0, 1, 0, 1, 1, 1, 1, 1] => some [5, 6, 7, 9, 11, 97]
  | [1, 0, 1, 0, 1, 1, 1, 1, 0, 0, 1, 0, 0, 1, 0, 1, 1, 1, 1, 1] => some [4]
  | [1, 1, 1, 1, 1, 0, 0, 1, 0, 0, 1, 0, 1, 1, 1, 1, 1] => some [1000000, 5, 6, 7, 9, 11]
  | [1, 1, 1, 1, 1, 1, 0, 0, 1, 0, 0, 1, 0, 1, 1, 1, 1, 1] => some [5, 6, 7, 9, 108]
  | [1, 0, 1, 1, 1, 1, 1, 1, 0, 0, 1, 0, 0, 1, 0, 1, 1, 1, 1, 1] => some [4]
  | [1, 1, 0, 0, 1, 0, 1, 1, 1, 1, 1] => some [5, 6, 7, 9]
  | [1, 1, 1, 1, 1, 1] => some [5, 6]
  | [1, 1, 1, 1, 1, 1, 1] => some [5, 6, 14]
  | [1, 0, 1, 1, 1, 1, 1, 1, 1] => some [5, 6, 14, 110]
  | [1, 1, 1, 1, 1, 1, 1, 1] => some [5, 6, 14]
  | [1, 1, 1, 1, 1, 1, 1, 1, 1] => some [4]
  | _ => none
noncomputable def S1948o (hm : Try.prog.follows .mixedOrders = true) : Book := bookS [(15, ofX.summ (of_says hm)), (30, delX.summ (del_says hm)), (32, dfX.summ (df_says hm)), (14, tokX.summ (tok_says hm))] (bookW [(26, placeC)] (bookOf [(3, trueC), (11, isTC)]))
noncomputable def S1948 (hm : Try.prog.follows .mixedOrders = true) : Book := addI Try.prog [(9, Try.f9, body1922), (10, Try.f10, body1923), (18, Try.f18, body1924), (20, Try.f20, body1925), (8, Try.f8, body1930)] (S1948o hm)
noncomputable def T1948a (o : Int) (n i : Nat) : List Value := tmps 126 [(5, p1 0), (6, .int .i64 o), (7, .int .i64 n), (8, .int .i64 i)]
noncomputable def T1948b (o : Int) (n i : Nat) : List Value := tmps 126 [(5, p1 0), (6, .int .i64 o), (7, .int .i64 n), (9, .int .i64 i)]
noncomputable def T1948c (o : Int) (n i : Nat) (c : Int) (last : Bool) : List Value := tmps 126 [(5, p1 0), (6, .int .i64 o), (7, .int .i64 n), (9, .int .i64 i), (10, .int .i64 c), (11, .bool last)]
noncomputable def T1948d (o : Int) (n i : Nat) (last : Bool) : List Value := tmps 126 [(5, p1 0), (6, .int .i64 o), (7, .int .i64 n), (9, .int .i64 i), (11, .bool last)]
noncomputable def H1948 (m k : Nat) (cy : List Value) : Heap := hp [.cells [.int .i64 4, .slice (some ⟨1,0,some 1⟩) m k] 2 true, .cells cy 2 true]
/-- the tokens from i on, one owner's -/
def tkL (o : Int) (i n : Nat) : List Tk := (List.range' i n).map fun j => (tokS (j : Nat), o)

theorem r1948a (hm : Try.prog.follows .mixedOrders = true) (o : Int) (n i m k : Nat) (cy : List Value) (K : Post) :
  roundX Try.prog (S1948 hm) noLoop F1948 body1948 0 [0] [.cell 5 1 2] [0] [] [5,6,7,8] [0,0,1,0,1,1,1,1] (T1948a o n i) (H1948 m k cy) K = (
Alt (ltI (↑i : Int) (↑n : Int))
  (True ∧
    True ∧
      ∀ (x : ByteArray),
        TokR (↑i : Int) x →
          Alt (ltI o 0) (K AE.ret (tmps 126 [(4, Value.bool false)]) (hp []))
            (True ∧
              True ∧
                Alt (!(leI 4 (↑x.size : Int) && leI (↑x.size : Int) 16))
                  (K AE.ret (tmps 126 [(4, Value.bool false)]) (hp []))
                  ((nojL
                          [Value.int IntKind.i64 4,
                            Value.slice (some { block := 1, off := 0, spot := some 1 : Addr }) m k] =
                        true ∧
                      FlatL cy ∧ True) ∧
                    (IsP tkF tkG TkOk cy m k ∧ Need (leN m 1000000) True) ∧
                      Alt (leI 0 (placeF x 0 (-1) (tksAt cy m))) (K AE.ret (tmps 126 [(4, Value.bool false)]) (hp []))
                        ((nojL
                                [Value.int IntKind.i64 4,
                                  Value.slice (some { block := 1, off := 0, spot := some 1 : Addr }) m k] =
                              true ∧
                            FlatL cy ∧ True) ∧
                          (IsP tkF tkG TkOk cy m k ∧ Need (leN m 1000000) True) ∧
                            ∀ (x_1 : List Value × Nat),
                              IsS (srt (ofL o (tksAt cy m))) x_1.fst (ofL o (tksAt cy m)).length x_1.snd →
                                Alt (leI (intV (Value.int IntKind.i64 4)) (↑(ofL o (tksAt cy m)).length : Int))
                                  (K AE.ret (tmps 126 [(4, Value.bool false)]) (hp []))
                                  (Need (leN (0 + m * 2) cy.length)
                                    (Need (leN ((m + 1) * 24) 1099511627776)
                                      (Need (leN (m + 1) 1099511627776)
                                        (K AE.normal
                                          (tmps 126
                                            [(5, Value.pointer (some { block := 0, off := 0 : Addr })),
                                              (6, Value.int IntKind.i64 o), (7, Value.int IntKind.i64 (↑n : Int)),
                                              (8, Value.int IntKind.i64 (wr IntKind.i64 ((↑i : Int) + 1)))])
                                          (hp
                                            [Blk.cells
                                                [Value.int IntKind.i64 4,
                                                  Value.slice (some { block := 1, off := 0, spot := some 1 : Addr })
                                                    (m + 1) (m + 1)]
                                                2 true,
                                              Blk.cells
                                                (List.take (m * 2) (List.drop 0 cy) ++
                                                  [Value.string x, Value.int IntKind.i64 o])
                                                2 true])))))))))
  (K (AE.exit 0)
    (tmps 126
      [(5, Value.pointer (some { block := 0, off := 0 : Addr })), (6, Value.int IntKind.i64 o),
        (7, Value.int IntKind.i64 (↑n : Int))])
    (hp
      [Blk.cells [Value.int IntKind.i64 4, Value.slice (some { block := 1, off := 0, spot := some 1 : Addr }) m k] 2
          true,
        Blk.cells cy 2 true]))) := by kernel_rfl

noncomputable def cut1948 (p : List Nat) (t : List Value) (o : Int) (n i : Nat) (La Lz : List Tk) : CutE where
  β := List Value × Nat × Nat
  p := p
  t := fun _ => t
  h := fun x => H1948 x.2.1 x.2.2 x.1
  Q := fun x K => IsTL La x.1 x.2.1 x.2.2 ∧ ∀ y : List Value × Nat × Nat, IsTL Lz y.1 y.2.1 y.2.2 → K .normal (T1948b o n i) (H1948 y.2.1 y.2.2 y.1)
end Go.Proofs.Ytabbkoegaoekkaa

namespace Go.Proofs.Ytabbkoegaoekkaa
open Go.RowKit Go.Proofs.Ytabbkoegaoekkaa.AM
set_option maxRecDepth 100000
set_option maxHeartbeats 4000000

theorem r1948A (hm : Try.prog.follows .mixedOrders = true) (o c : Int) (last : Bool) (n i m k : Nat) (cy : List Value) (La Lz : List Tk) (K : Post) :
  roundX Try.prog (S1948 hm) (gcLKX (at0 [0]) (at0 [.cell 5 1 2]) 0 (cutE [cut1948 [1,1,0,0,1,0,0,1,0,1,1,1,1,1] (T1948c o n i c last) o n i La Lz])) F1948 body1948 0 [0] [.cell 5 1 2] [0] [] [5,6,7,9] [0,0,1,0,1,1,1,1,1] (T1948b o n i) (H1948 m k cy) K = (
Alt (ltI (↑i : Int) (↑n : Int)) (True ∧ True ∧ ∀ (x : ByteArray), TokR (↑i : Int) x → (nojL [Value.int IntKind.i64 4, Value.slice (some { block := 1, off := 0, spot := some 1 : Addr }) m k] = true ∧ FlatL cy ∧ True) ∧
(IsP tkF tkG TkOk cy m k ∧ Need (leN m 1000000) True) ∧ Alt (ltI (placeF x 0 (-1) (tksAt cy m)) 0) (Alt (eqI o 0) (FlatD [0] (hp [Blk.cells [Value.int IntKind.i64 4, Value.slice (some
{ block := 1, off := 0, spot := some 1 : Addr }) m k] 2 true, Blk.cells cy 2 true]) ∧ ∃ (b : List Value × Nat × Nat), tmps 126 [(5, Value.pointer (some { block := 0, off := 0 : Addr })), (6, Value.int IntKind.i64 o), (7,
Value.int IntKind.i64 (↑n : Int)), (9, Value.int IntKind.i64 (↑i : Int)), (10, Value.int IntKind.i64 5), (11, Value.bool (eqI (↑i : Int) (wr IntKind.i64 ((↑n : Int) - 1))))] = tmps 126 [(5, Value.pointer (some
{ block := 0, off := 0 : Addr })), (6, Value.int IntKind.i64 o), (7, Value.int IntKind.i64 (↑n : Int)), (9, Value.int IntKind.i64 (↑i : Int)), (10, Value.int IntKind.i64 c), (11, Value.bool last)] ∧ hp [Blk.cells
[Value.int IntKind.i64 4, Value.slice (some { block := 1, off := 0, spot := some 1 : Addr }) m k] 2 true, Blk.cells cy 2 true] = hp [Blk.cells [Value.int IntKind.i64 4, Value.slice (some
{ block := 1, off := 0, spot := some 1 : Addr }) b.snd.fst b.snd.snd] 2 true, Blk.cells b.fst 2 true] ∧ IsTL La b.fst b.snd.fst b.snd.snd ∧ ∀ (y : List Value × Nat × Nat), IsTL Lz y.fst y.snd.fst y.snd.snd → K AE.normal
(tmps 126 [(5, Value.pointer (some { block := 0, off := 0 : Addr })), (6, Value.int IntKind.i64 o), (7, Value.int IntKind.i64 (↑n : Int)), (9, Value.int IntKind.i64 (wr IntKind.i64 ((↑i : Int) + 1)))]) (hp [Blk.cells
[Value.int IntKind.i64 4, Value.slice (some { block := 1, off := 0, spot := some 1 : Addr }) y.snd.fst y.snd.snd] 2 true, Blk.cells y.fst 2 true])) (FlatD [0] (hp [Blk.cells [Value.int IntKind.i64 4, Value.slice (some
{ block := 1, off := 0, spot := some 1 : Addr }) m k] 2 true, Blk.cells cy 2 true]) ∧ ∃ (b : List Value × Nat × Nat), tmps 126 [(5, Value.pointer (some { block := 0, off := 0 : Addr })), (6, Value.int IntKind.i64 o), (7,
Value.int IntKind.i64 (↑n : Int)), (9, Value.int IntKind.i64 (↑i : Int)), (10, Value.int IntKind.i64 5), (11, Value.bool false)] = tmps 126 [(5, Value.pointer (some { block := 0, off := 0 : Addr })), (6, Value.int
IntKind.i64 o), (7, Value.int IntKind.i64 (↑n : Int)), (9, Value.int IntKind.i64 (↑i : Int)), (10, Value.int IntKind.i64 c), (11, Value.bool last)] ∧ hp [Blk.cells [Value.int IntKind.i64 4, Value.slice (some
{ block := 1, off := 0, spot := some 1 : Addr }) m k] 2 true, Blk.cells cy 2 true] = hp [Blk.cells [Value.int IntKind.i64 4, Value.slice (some { block := 1, off := 0, spot := some 1 : Addr }) b.snd.fst b.snd.snd] 2 true,
Blk.cells b.fst 2 true] ∧ IsTL La b.fst b.snd.fst b.snd.snd ∧ ∀ (y : List Value × Nat × Nat), IsTL Lz y.fst y.snd.fst y.snd.snd → K AE.normal (tmps 126 [(5, Value.pointer (some { block := 0, off := 0 : Addr })), (6,
Value.int IntKind.i64 o), (7, Value.int IntKind.i64 (↑n : Int)), (9, Value.int IntKind.i64 (wr IntKind.i64 ((↑i : Int) + 1)))]) (hp [Blk.cells [Value.int IntKind.i64 4, Value.slice (some
{ block := 1, off := 0, spot := some 1 : Addr }) y.snd.fst y.snd.snd] 2 true, Blk.cells y.fst 2 true]))) (Need (leI 0 (placeF x 0 (-1) (tksAt cy m))) (Need (ltI (placeF x 0 (-1) (tksAt cy m)) (↑m : Int)) (Need (isInt
IntKind.i64 ((getO cy (0 + (placeF x 0 (-1) (tksAt cy m)).toNat * 2 + 1)).getD undef)) (Alt (!eqI (intV ((getO cy (0 + (placeF x 0 (-1) (tksAt cy m)).toNat * 2 + 1)).getD undef)) o) (Alt (eqI o 0) (FlatD [0] (hp
[Blk.cells [Value.int IntKind.i64 4, Value.slice (some { block := 1, off := 0, spot := some 1 : Addr }) m k] 2 true, Blk.cells cy 2 true]) ∧ ∃ (b : List Value × Nat × Nat), tmps 126 [(5, Value.pointer (some
{ block := 0, off := 0 : Addr })), (6, Value.int IntKind.i64 o), (7, Value.int IntKind.i64 (↑n : Int)), (9, Value.int IntKind.i64 (↑i : Int)), (10, Value.int IntKind.i64 5), (11, Value.bool (eqI (↑i : Int) (wr
IntKind.i64 ((↑n : Int) - 1))))] = tmps 126 [(5, Value.pointer (some { block := 0, off := 0 : Addr })), (6, Value.int IntKind.i64 o), (7, Value.int IntKind.i64 (↑n : Int)), (9, Value.int IntKind.i64 (↑i : Int)), (10,
Value.int IntKind.i64 c), (11, Value.bool last)] ∧ hp [Blk.cells [Value.int IntKind.i64 4, Value.slice (some { block := 1, off := 0, spot := some 1 : Addr }) m k] 2 true, Blk.cells cy 2 true] = hp [Blk.cells [Value.int
IntKind.i64 4, Value.slice (some { block := 1, off := 0, spot := some 1 : Addr }) b.snd.fst b.snd.snd] 2 true, Blk.cells b.fst 2 true] ∧ IsTL La b.fst b.snd.fst b.snd.snd ∧ ∀ (y : List Value × Nat × Nat), IsTL Lz y.fst
y.snd.fst y.snd.snd → K AE.normal (tmps 126 [(5, Value.pointer (some { block := 0, off := 0 : Addr })), (6, Value.int IntKind.i64 o), (7, Value.int IntKind.i64 (↑n : Int)), (9, Value.int IntKind.i64 (wr IntKind.i64 ((↑i
: Int) + 1)))]) (hp [Blk.cells [Value.int IntKind.i64 4, Value.slice (some { block := 1, off := 0, spot := some 1 : Addr }) y.snd.fst y.snd.snd] 2 true, Blk.cells y.fst 2 true])) (FlatD [0] (hp [Blk.cells [Value.int
IntKind.i64 4, Value.slice (some { block := 1, off := 0, spot := some 1 : Addr }) m k] 2 true, Blk.cells cy 2 true]) ∧ ∃ (b : List Value × Nat × Nat), tmps 126 [(5, Value.pointer (some { block := 0, off := 0 : Addr })),
(6, Value.int IntKind.i64 o), (7, Value.int IntKind.i64 (↑n : Int)), (9, Value.int IntKind.i64 (↑i : Int)), (10, Value.int IntKind.i64 5), (11, Value.bool false)] = tmps 126 [(5, Value.pointer (some
{ block := 0, off := 0 : Addr })), (6, Value.int IntKind.i64 o), (7, Value.int IntKind.i64 (↑n : Int)), (9, Value.int IntKind.i64 (↑i : Int)), (10, Value.int IntKind.i64 c), (11, Value.bool last)] ∧ hp [Blk.cells
[Value.int IntKind.i64 4, Value.slice (some { block := 1, off := 0, spot := some 1 : Addr }) m k] 2 true, Blk.cells cy 2 true] = hp [Blk.cells [Value.int IntKind.i64 4, Value.slice (some
{ block := 1, off := 0, spot := some 1 : Addr }) b.snd.fst b.snd.snd] 2 true, Blk.cells b.fst 2 true] ∧ IsTL La b.fst b.snd.fst b.snd.snd ∧ ∀ (y : List Value × Nat × Nat), IsTL Lz y.fst y.snd.fst y.snd.snd → K AE.normal
(tmps 126 [(5, Value.pointer (some { block := 0, off := 0 : Addr })), (6, Value.int IntKind.i64 o), (7, Value.int IntKind.i64 (↑n : Int)), (9, Value.int IntKind.i64 (wr IntKind.i64 ((↑i : Int) + 1)))]) (hp [Blk.cells
[Value.int IntKind.i64 4, Value.slice (some { block := 1, off := 0, spot := some 1 : Addr }) y.snd.fst y.snd.snd] 2 true, Blk.cells y.fst 2 true]))) (Alt (eqI o 0) ((nojL [Value.int IntKind.i64 4, Value.slice (some
{ block := 1, off := 0, spot := some 1 : Addr }) m k] = true ∧ FlatL cy ∧ True) ∧ (IsP tkF tkG TkOk cy m k ∧ Need (leN m 1000000) True) ∧ ∀ (x_1 : List Value × Nat), IsS (srt (ofL 0 (tksAt cy m))) x_1.fst (ofL 0 (tksAt
cy m)).length x_1.snd → Alt (eqI (↑(ofL 0 (tksAt cy m)).length : Int) 1) (Alt (eqI o 0) (FlatD [0] (hp [Blk.cells [Value.int IntKind.i64 4, Value.slice (some { block := 1, off := 0, spot := some 1 : Addr }) m k] 2 true,
Blk.cells cy 2 true]) ∧ ∃ (b : List Value × Nat × Nat), tmps 126 [(5, Value.pointer (some { block := 0, off := 0 : Addr })), (6, Value.int IntKind.i64 o), (7, Value.int IntKind.i64 (↑n : Int)), (9, Value.int IntKind.i64
(↑i : Int)), (10, Value.int IntKind.i64 6), (11, Value.bool (eqI (↑i : Int) (wr IntKind.i64 ((↑n : Int) - 1))))] = tmps 126 [(5, Value.pointer (some { block := 0, off := 0 : Addr })), (6, Value.int IntKind.i64 o), (7,
Value.int IntKind.i64 (↑n : Int)), (9, Value.int IntKind.i64 (↑i : Int)), (10, Value.int IntKind.i64 c), (11, Value.bool last)] ∧ hp [Blk.cells [Value.int IntKind.i64 4, Value.slice (some
{ block := 1, off := 0, spot := some 1 : Addr }) m k] 2 true, Blk.cells cy 2 true] = hp [Blk.cells [Value.int IntKind.i64 4, Value.slice (some { block := 1, off := 0, spot := some 1 : Addr }) b.snd.fst b.snd.snd] 2 true,
Blk.cells b.fst 2 true] ∧ IsTL La b.fst b.snd.fst b.snd.snd ∧ ∀ (y : List Value × Nat × Nat), IsTL Lz y.fst y.snd.fst y.snd.snd → K AE.normal (tmps 126 [(5, Value.pointer (some { block := 0, off := 0 : Addr })), (6,
Value.int IntKind.i64 o), (7, Value.int IntKind.i64 (↑n : Int)), (9, Value.int IntKind.i64 (wr IntKind.i64 ((↑i : Int) + 1)))]) (hp [Blk.cells [Value.int IntKind.i64 4, Value.slice (some
{ block := 1, off := 0, spot := some 1 : Addr }) y.snd.fst y.snd.snd] 2 true, Blk.cells y.fst 2 true])) (FlatD [0] (hp [Blk.cells [Value.int IntKind.i64 4, Value.slice (some
{ block := 1, off := 0, spot := some 1 : Addr }) m k] 2 true, Blk.cells cy 2 true]) ∧ ∃ (b : List Value × Nat × Nat), tmps 126 [(5, Value.pointer (some { block := 0, off := 0 : Addr })), (6, Value.int IntKind.i64 o), (7,
Value.int IntKind.i64 (↑n : Int)), (9, Value.int IntKind.i64 (↑i : Int)), (10, Value.int IntKind.i64 6), (11, Value.bool false)] = tmps 126 [(5, Value.pointer (some { block := 0, off := 0 : Addr })), (6, Value.int
IntKind.i64 o), (7, Value.int IntKind.i64 (↑n : Int)), (9, Value.int IntKind.i64 (↑i : Int)), (10, Value.int IntKind.i64 c), (11, Value.bool last)] ∧ hp [Blk.cells [Value.int IntKind.i64 4, Value.slice (some
{ block := 1, off := 0, spot := some 1 : Addr }) m k] 2 true, Blk.cells cy 2 true] = hp [Blk.cells [Value.int IntKind.i64 4, Value.slice (some { block := 1, off := 0, spot := some 1 : Addr }) b.snd.fst b.snd.snd] 2 true,
Blk.cells b.fst 2 true] ∧ IsTL La b.fst b.snd.fst b.snd.snd ∧ ∀ (y : List Value × Nat × Nat), IsTL Lz y.fst y.snd.fst y.snd.snd → K AE.normal (tmps 126 [(5, Value.pointer (some { block := 0, off := 0 : Addr })), (6,
Value.int IntKind.i64 o), (7, Value.int IntKind.i64 (↑n : Int)), (9, Value.int IntKind.i64 (wr IntKind.i64 ((↑i : Int) + 1)))]) (hp [Blk.cells [Value.int IntKind.i64 4, Value.slice (some
{ block := 1, off := 0, spot := some 1 : Addr }) y.snd.fst y.snd.snd] 2 true, Blk.cells y.fst 2 true]))) ((FlatL cy ∧ True) ∧ (IsP tkF tkG TkOk cy m k ∧ Need (leI 0 (placeF x 0 (-1) (tksAt cy m))) (Need (ltI (placeF x 0
(-1) (tksAt cy m)) (↑m : Int)) (Need (eqI (wr IntKind.i64 (placeF x 0 (-1) (tksAt cy m) + 1)) (placeF x 0 (-1) (tksAt cy m) + 1)) (Need (leN m 1000000) True)))) ∧ ∀ (x_2 : List Value × Nat), IsTL ((tksAt cy m).eraseIdx
(placeF x 0 (-1) (tksAt cy m)).toNat) x_2.fst (m - 1) x_2.snd → Alt (eqI o 0) (FlatD [0] (hp [Blk.cells [Value.int IntKind.i64 4, Value.slice (some { block := 1, off := 0, spot := some 1 : Addr }) (m - 1) x_2.snd] 2
true, Blk.cells x_2.fst 2 true]) ∧ ∃ (b : List Value × Nat × Nat), tmps 126 [(5, Value.pointer (some { block := 0, off := 0 : Addr })), (6, Value.int IntKind.i64 o), (7, Value.int IntKind.i64 (↑n : Int)), (9, Value.int
IntKind.i64 (↑i : Int)), (10, Value.int IntKind.i64 0), (11, Value.bool (eqI (↑i : Int) (wr IntKind.i64 ((↑n : Int) - 1))))] = tmps 126 [(5, Value.pointer (some { block := 0, off := 0 : Addr })), (6, Value.int
IntKind.i64 o), (7, Value.int IntKind.i64 (↑n : Int)), (9, Value.int IntKind.i64 (↑i : Int)), (10, Value.int IntKind.i64 c), (11, Value.bool last)] ∧ hp [Blk.cells [Value.int IntKind.i64 4, Value.slice (some
{ block := 1, off := 0, spot := some 1 : Addr }) (m - 1) x_2.snd] 2 true, Blk.cells x_2.fst 2 true] = hp [Blk.cells [Value.int IntKind.i64 4, Value.slice (some { block := 1, off := 0, spot := some 1 : Addr }) b.snd.fst
b.snd.snd] 2 true, Blk.cells b.fst 2 true] ∧ IsTL La b.fst b.snd.fst b.snd.snd ∧ ∀ (y : List Value × Nat × Nat), IsTL Lz y.fst y.snd.fst y.snd.snd → K AE.normal (tmps 126 [(5, Value.pointer (some
{ block := 0, off := 0 : Addr })), (6, Value.int IntKind.i64 o), (7, Value.int IntKind.i64 (↑n : Int)), (9, Value.int IntKind.i64 (wr IntKind.i64 ((↑i : Int) + 1)))]) (hp [Blk.cells [Value.int IntKind.i64 4, Value.slice
(some { block := 1, off := 0, spot := some 1 : Addr }) y.snd.fst y.snd.snd] 2 true, Blk.cells y.fst 2 true])) (FlatD [0] (hp [Blk.cells [Value.int IntKind.i64 4, Value.slice (some
{ block := 1, off := 0, spot := some 1 : Addr }) (m - 1) x_2.snd] 2 true, Blk.cells x_2.fst 2 true]) ∧ ∃ (b : List Value × Nat × Nat), tmps 126 [(5, Value.pointer (some { block := 0, off := 0 : Addr })), (6, Value.int
IntKind.i64 o), (7, Value.int IntKind.i64 (↑n : Int)), (9, Value.int IntKind.i64 (↑i : Int)), (10, Value.int IntKind.i64 0), (11, Value.bool false)] = tmps 126 [(5, Value.pointer (some { block := 0, off := 0 : Addr })),
(6, Value.int IntKind.i64 o), (7, Value.int IntKind.i64 (↑n : Int)), (9, Value.int IntKind.i64 (↑i : Int)), (10, Value.int IntKind.i64 c), (11, Value.bool last)] ∧ hp [Blk.cells [Value.int IntKind.i64 4, Value.slice
(some { block := 1, off := 0, spot := some 1 : Addr }) (m - 1) x_2.snd] 2 true, Blk.cells x_2.fst 2 true] = hp [Blk.cells [Value.int IntKind.i64 4, Value.slice (some { block := 1, off := 0, spot := some 1 : Addr })
b.snd.fst b.snd.snd] 2 true, Blk.cells b.fst 2 true] ∧ IsTL La b.fst b.snd.fst b.snd.snd ∧ ∀ (y : List Value × Nat × Nat), IsTL Lz y.fst y.snd.fst y.snd.snd → K AE.normal (tmps 126 [(5, Value.pointer (some
{ block := 0, off := 0 : Addr })), (6, Value.int IntKind.i64 o), (7, Value.int IntKind.i64 (↑n : Int)), (9, Value.int IntKind.i64 (wr IntKind.i64 ((↑i : Int) + 1)))]) (hp [Blk.cells [Value.int IntKind.i64 4, Value.slice
(some { block := 1, off := 0, spot := some 1 : Addr }) y.snd.fst y.snd.snd] 2 true, Blk.cells y.fst 2 true])))) ((FlatL cy ∧ True) ∧ (IsP tkF tkG TkOk cy m k ∧ Need (leI 0 (placeF x 0 (-1) (tksAt cy m))) (Need (ltI
(placeF x 0 (-1) (tksAt cy m)) (↑m : Int)) (Need (eqI (wr IntKind.i64 (placeF x 0 (-1) (tksAt cy m) + 1)) (placeF x 0 (-1) (tksAt cy m) + 1)) (Need (leN m 1000000) True)))) ∧ ∀ (x_1 : List Value × Nat), IsTL ((tksAt cy
m).eraseIdx (placeF x 0 (-1) (tksAt cy m)).toNat) x_1.fst (m - 1) x_1.snd → Alt (eqI o 0) (FlatD [0] (hp [Blk.cells [Value.int IntKind.i64 4, Value.slice (some { block := 1, off := 0, spot := some 1 : Addr }) (m - 1)
x_1.snd] 2 true, Blk.cells x_1.fst 2 true]) ∧ ∃ (b : List Value × Nat × Nat), tmps 126 [(5, Value.pointer (some { block := 0, off := 0 : Addr })), (6, Value.int IntKind.i64 o), (7, Value.int IntKind.i64 (↑n : Int)), (9,
Value.int IntKind.i64 (↑i : Int)), (10, Value.int IntKind.i64 0), (11, Value.bool (eqI (↑i : Int) (wr IntKind.i64 ((↑n : Int) - 1))))] = tmps 126 [(5, Value.pointer (some { block := 0, off := 0 : Addr })), (6, Value.int
IntKind.i64 o), (7, Value.int IntKind.i64 (↑n : Int)), (9, Value.int IntKind.i64 (↑i : Int)), (10, Value.int IntKind.i64 c), (11, Value.bool last)] ∧ hp [Blk.cells [Value.int IntKind.i64 4, Value.slice (some
{ block := 1, off := 0, spot := some 1 : Addr }) (m - 1) x_1.snd] 2 true, Blk.cells x_1.fst 2 true] = hp [Blk.cells [Value.int IntKind.i64 4, Value.slice (some { block := 1, off := 0, spot := some 1 : Addr }) b.snd.fst
b.snd.snd] 2 true, Blk.cells b.fst 2 true] ∧ IsTL La b.fst b.snd.fst b.snd.snd ∧ ∀ (y : List Value × Nat × Nat), IsTL Lz y.fst y.snd.fst y.snd.snd → K AE.normal (tmps 126 [(5, Value.pointer (some
{ block := 0, off := 0 : Addr })), (6, Value.int IntKind.i64 o), (7, Value.int IntKind.i64 (↑n : Int)), (9, Value.int IntKind.i64 (wr IntKind.i64 ((↑i : Int) + 1)))]) (hp [Blk.cells [Value.int IntKind.i64 4, Value.slice
(some { block := 1, off := 0, spot := some 1 : Addr }) y.snd.fst y.snd.snd] 2 true, Blk.cells y.fst 2 true])) (FlatD [0] (hp [Blk.cells [Value.int IntKind.i64 4, Value.slice (some
{ block := 1, off := 0, spot := some 1 : Addr }) (m - 1) x_1.snd] 2 true, Blk.cells x_1.fst 2 true]) ∧ ∃ (b : List Value × Nat × Nat), tmps 126 [(5, Value.pointer (some { block := 0, off := 0 : Addr })), (6, Value.int
IntKind.i64 o), (7, Value.int IntKind.i64 (↑n : Int)), (9, Value.int IntKind.i64 (↑i : Int)), (10, Value.int IntKind.i64 0), (11, Value.bool false)] = tmps 126 [(5, Value.pointer (some { block := 0, off := 0 : Addr })),
(6, Value.int IntKind.i64 o), (7, Value.int IntKind.i64 (↑n : Int)), (9, Value.int IntKind.i64 (↑i : Int)), (10, Value.int IntKind.i64 c), (11, Value.bool last)] ∧ hp [Blk.cells [Value.int IntKind.i64 4, Value.slice
(some { block := 1, off := 0, spot := some 1 : Addr }) (m - 1) x_1.snd] 2 true, Blk.cells x_1.fst 2 true] = hp [Blk.cells [Value.int IntKind.i64 4, Value.slice (some { block := 1, off := 0, spot := some 1 : Addr })
b.snd.fst b.snd.snd] 2 true, Blk.cells b.fst 2 true] ∧ IsTL La b.fst b.snd.fst b.snd.snd ∧ ∀ (y : List Value × Nat × Nat), IsTL Lz y.fst y.snd.fst y.snd.snd → K AE.normal (tmps 126 [(5, Value.pointer (some
{ block := 0, off := 0 : Addr })), (6, Value.int IntKind.i64 o), (7, Value.int IntKind.i64 (↑n : Int)), (9, Value.int IntKind.i64 (wr IntKind.i64 ((↑i : Int) + 1)))]) (hp [Blk.cells [Value.int IntKind.i64 4, Value.slice
(some { block := 1, off := 0, spot := some 1 : Addr }) y.snd.fst y.snd.snd] 2 true, Blk.cells y.fst 2 true]))))))))) (K (AE.exit 2) (tmps 126 [(5, Value.pointer (some { block := 0, off := 0 : Addr })), (6, Value.int
IntKind.i64 o)]) (hp [Blk.cells [Value.int IntKind.i64 4, Value.slice (some { block := 1, off := 0, spot := some 1 : Addr }) m k] 2 true, Blk.cells cy 2 true]))) := by kernel_rfl

end Go.Proofs.Ytabbkoegaoekkaa

namespace Go.Proofs.Ytabbkoegaoekkaa
open Go.RowKit Go.Proofs.Ytabbkoegaoekkaa.AM
set_option maxRecDepth 100000
set_option maxHeartbeats 4000000

theorem r1948B (hm : Try.prog.follows .mixedOrders = true) (o c : Int) (last : Bool) (n i m k : Nat) (cy : List Value) (La Lz : List Tk) (K : Post) :
  roundX Try.prog (S1948 hm) (gcLKX (at0 [0]) (at0 [.cell 5 1 2]) 0 (cutE [cut1948 [1,1,1,0,0,1,0,0,1,0,1,1,1,1,1] (T1948d o n i last) o n i La Lz])) F1948 body1948 0 [0] [.cell 5 1 2] [0] [] [5,6,7,9] [1,1,0,0,1,0,0,1,0,1,1,1,1,1] (T1948c o n i c last) (H1948 m k cy) K = (
Alt (!last == eqI c 6) (K AE.ret (tmps 126 [(4, Value.bool false)]) (hp []))
  (Alt (!last)
    (Alt (!eqI c 0) (K AE.ret (tmps 126 [(4, Value.bool false)]) (hp []))
      (True ∧
        True ∧
          ∀ (x : ByteArray),
            TokR (↑i : Int) x →
              (nojL [Value.int IntKind.i64 4, Value.slice (some { block := 1, off := 0, spot := some 1 : Addr }) m k] =
                    true ∧
                  FlatL cy ∧ True) ∧
                (IsP tkF tkG TkOk cy m k ∧ Need (leN m 1000000) True) ∧
                  Alt (ltI (placeF x 0 (-1) (tksAt cy m)) 0)
                    (FlatD [0]
                        (hp
                          [Blk.cells
                              [Value.int IntKind.i64 4,
                                Value.slice (some { block := 1, off := 0, spot := some 1 : Addr }) m k]
                              2 true,
                            Blk.cells cy 2 true]) ∧
                      ∃ (b : List Value × Nat × Nat),
                        tmps 126
                              [(5, Value.pointer (some { block := 0, off := 0 : Addr })), (6, Value.int IntKind.i64 o),
                                (7, Value.int IntKind.i64 (↑n : Int)), (9, Value.int IntKind.i64 (↑i : Int)),
                                (11, Value.bool last)] =
                            tmps 126
                              [(5, Value.pointer (some { block := 0, off := 0 : Addr })), (6, Value.int IntKind.i64 o),
                                (7, Value.int IntKind.i64 (↑n : Int)), (9, Value.int IntKind.i64 (↑i : Int)),
                                (11, Value.bool last)] ∧
                          hp
                                [Blk.cells
                                    [Value.int IntKind.i64 4,
                                      Value.slice (some { block := 1, off := 0, spot := some 1 : Addr }) m k]
                                    2 true,
                                  Blk.cells cy 2 true] =
                              hp
                                [Blk.cells
                                    [Value.int IntKind.i64 4,
                                      Value.slice (some { block := 1, off := 0, spot := some 1 : Addr }) b.snd.fst
                                        b.snd.snd]
                                    2 true,
                                  Blk.cells b.fst 2 true] ∧
                            IsTL La b.fst b.snd.fst b.snd.snd ∧
                              ∀ (y : List Value × Nat × Nat),
                                IsTL Lz y.fst y.snd.fst y.snd.snd →
                                  K AE.normal
                                    (tmps 126
                                      [(5, Value.pointer (some { block := 0, off := 0 : Addr })),
                                        (6, Value.int IntKind.i64 o), (7, Value.int IntKind.i64 (↑n : Int)),
                                        (9, Value.int IntKind.i64 (↑i : Int))])
                                    (hp
                                      [Blk.cells
                                          [Value.int IntKind.i64 4,
                                            Value.slice (some { block := 1, off := 0, spot := some 1 : Addr }) y.snd.fst
                                              y.snd.snd]
                                          2 true,
                                        Blk.cells y.fst 2 true]))
                    (Need (leI 0 (placeF x 0 (-1) (tksAt cy m)))
                      (Need (ltI (placeF x 0 (-1) (tksAt cy m)) (↑m : Int))
                        (Need
                          (isInt IntKind.i64 ((getO cy (0 + (placeF x 0 (-1) (tksAt cy m)).toNat * 2 + 1)).getD undef))
                          (Alt
                            (!eqI (intV ((getO cy (0 + (placeF x 0 (-1) (tksAt cy m)).toNat * 2 + 1)).getD undef))
                                (wr IntKind.i64 (o + 1)))
                            (FlatD [0]
                                (hp
                                  [Blk.cells
                                      [Value.int IntKind.i64 4,
                                        Value.slice (some { block := 1, off := 0, spot := some 1 : Addr }) m k]
                                      2 true,
                                    Blk.cells cy 2 true]) ∧
                              ∃ (b : List Value × Nat × Nat),
                                tmps 126
                                      [(5, Value.pointer (some { block := 0, off := 0 : Addr })),
                                        (6, Value.int IntKind.i64 o), (7, Value.int IntKind.i64 (↑n : Int)),
                                        (9, Value.int IntKind.i64 (↑i : Int)), (11, Value.bool last)] =
                                    tmps 126
                                      [(5, Value.pointer (some { block := 0, off := 0 : Addr })),
                                        (6, Value.int IntKind.i64 o), (7, Value.int IntKind.i64 (↑n : Int)),
                                        (9, Value.int IntKind.i64 (↑i : Int)), (11, Value.bool last)] ∧
                                  hp
                                        [Blk.cells
                                            [Value.int IntKind.i64 4,
                                              Value.slice (some { block := 1, off := 0, spot := some 1 : Addr }) m k]
                                            2 true,
                                          Blk.cells cy 2 true] =
                                      hp
                                        [Blk.cells
                                            [Value.int IntKind.i64 4,
                                              Value.slice (some { block := 1, off := 0, spot := some 1 : Addr })
                                                b.snd.fst b.snd.snd]
                                            2 true,
                                          Blk.cells b.fst 2 true] ∧
                                    IsTL La b.fst b.snd.fst b.snd.snd ∧
                                      ∀ (y : List Value × Nat × Nat),
                                        IsTL Lz y.fst y.snd.fst y.snd.snd →
                                          K AE.normal
                                            (tmps 126
                                              [(5, Value.pointer (some { block := 0, off := 0 : Addr })),
                                                (6, Value.int IntKind.i64 o), (7, Value.int IntKind.i64 (↑n : Int)),
                                                (9, Value.int IntKind.i64 (↑i : Int))])
                                            (hp
                                              [Blk.cells
                                                  [Value.int IntKind.i64 4,
                                                    Value.slice (some { block := 1, off := 0, spot := some 1 : Addr })
                                                      y.snd.fst y.snd.snd]
                                                  2 true,
                                                Blk.cells y.fst 2 true]))
                            (Alt (eqI (wr IntKind.i64 (o + 1)) 0)
                              ((nojL
                                      [Value.int IntKind.i64 4,
                                        Value.slice (some { block := 1, off := 0, spot := some 1 : Addr }) m k] =
                                    true ∧
                                  FlatL cy ∧ True) ∧
                                (IsP tkF tkG TkOk cy m k ∧ Need (leN m 1000000) True) ∧
                                  ∀ (x_1 : List Value × Nat),
                                    IsS (srt (ofL 0 (tksAt cy m))) x_1.fst (ofL 0 (tksAt cy m)).length x_1.snd →
                                      Alt (eqI (↑(ofL 0 (tksAt cy m)).length : Int) 1)
                                        (K AE.ret (tmps 126 [(4, Value.bool false)]) (hp []))
                                        ((FlatL cy ∧ True) ∧
                                          (IsP tkF tkG TkOk cy m k ∧
                                              Need (leI 0 (placeF x 0 (-1) (tksAt cy m)))
                                                (Need (ltI (placeF x 0 (-1) (tksAt cy m)) (↑m : Int))
                                                  (Need
                                                    (eqI (wr IntKind.i64 (placeF x 0 (-1) (tksAt cy m) + 1))
                                                      (placeF x 0 (-1) (tksAt cy m) + 1))
                                                    (Need (leN m 1000000) True)))) ∧
                                            ∀ (x_2 : List Value × Nat),
                                              IsTL ((tksAt cy m).eraseIdx (placeF x 0 (-1) (tksAt cy m)).toNat) x_2.fst
                                                  (m - 1) x_2.snd →
                                                K AE.ret (tmps 126 [(4, Value.bool false)]) (hp [])))
                              ((FlatL cy ∧ True) ∧
                                (IsP tkF tkG TkOk cy m k ∧
                                    Need (leI 0 (placeF x 0 (-1) (tksAt cy m)))
                                      (Need (ltI (placeF x 0 (-1) (tksAt cy m)) (↑m : Int))
                                        (Need
                                          (eqI (wr IntKind.i64 (placeF x 0 (-1) (tksAt cy m) + 1))
                                            (placeF x 0 (-1) (tksAt cy m) + 1))
                                          (Need (leN m 1000000) True)))) ∧
                                  ∀ (x_1 : List Value × Nat),
                                    IsTL ((tksAt cy m).eraseIdx (placeF x 0 (-1) (tksAt cy m)).toNat) x_1.fst (m - 1)
                                        x_1.snd →
                                      K AE.ret (tmps 126 [(4, Value.bool false)]) (hp [])))))))))
    (True ∧
      True ∧
        ∀ (x : ByteArray),
          TokR (↑i : Int) x →
            (nojL [Value.int IntKind.i64 4, Value.slice (some { block := 1, off := 0, spot := some 1 : Addr }) m k] =
                  true ∧
                FlatL cy ∧ True) ∧
              (IsP tkF tkG TkOk cy m k ∧ Need (leN m 1000000) True) ∧
                Alt (ltI (placeF x 0 (-1) (tksAt cy m)) 0)
                  (FlatD [0]
                      (hp
                        [Blk.cells
                            [Value.int IntKind.i64 4,
                              Value.slice (some { block := 1, off := 0, spot := some 1 : Addr }) m k]
                            2 true,
                          Blk.cells cy 2 true]) ∧
                    ∃ (b : List Value × Nat × Nat),
                      tmps 126
                            [(5, Value.pointer (some { block := 0, off := 0 : Addr })), (6, Value.int IntKind.i64 o),
                              (7, Value.int IntKind.i64 (↑n : Int)), (9, Value.int IntKind.i64 (↑i : Int)),
                              (11, Value.bool last)] =
                          tmps 126
                            [(5, Value.pointer (some { block := 0, off := 0 : Addr })), (6, Value.int IntKind.i64 o),
                              (7, Value.int IntKind.i64 (↑n : Int)), (9, Value.int IntKind.i64 (↑i : Int)),
                              (11, Value.bool last)] ∧
                        hp
                              [Blk.cells
                                  [Value.int IntKind.i64 4,
                                    Value.slice (some { block := 1, off := 0, spot := some 1 : Addr }) m k]
                                  2 true,
                                Blk.cells cy 2 true] =
                            hp
                              [Blk.cells
                                  [Value.int IntKind.i64 4,
                                    Value.slice (some { block := 1, off := 0, spot := some 1 : Addr }) b.snd.fst
                                      b.snd.snd]
                                  2 true,
                                Blk.cells b.fst 2 true] ∧
                          IsTL La b.fst b.snd.fst b.snd.snd ∧
                            ∀ (y : List Value × Nat × Nat),
                              IsTL Lz y.fst y.snd.fst y.snd.snd →
                                K AE.normal
                                  (tmps 126
                                    [(5, Value.pointer (some { block := 0, off := 0 : Addr })),
                                      (6, Value.int IntKind.i64 o), (7, Value.int IntKind.i64 (↑n : Int)),
                                      (9, Value.int IntKind.i64 (↑i : Int))])
                                  (hp
                                    [Blk.cells
                                        [Value.int IntKind.i64 4,
                                          Value.slice (some { block := 1, off := 0, spot := some 1 : Addr }) y.snd.fst
                                            y.snd.snd]
                                        2 true,
                                      Blk.cells y.fst 2 true]))
                  (Need (leI 0 (placeF x 0 (-1) (tksAt cy m)))
                    (Need (ltI (placeF x 0 (-1) (tksAt cy m)) (↑m : Int))
                      (Need
                        (isInt IntKind.i64 ((getO cy (0 + (placeF x 0 (-1) (tksAt cy m)).toNat * 2 + 1)).getD undef))
                        (Alt
                          (!eqI (intV ((getO cy (0 + (placeF x 0 (-1) (tksAt cy m)).toNat * 2 + 1)).getD undef))
                              (wr IntKind.i64 (o + 1)))
                          (FlatD [0]
                              (hp
                                [Blk.cells
                                    [Value.int IntKind.i64 4,
                                      Value.slice (some { block := 1, off := 0, spot := some 1 : Addr }) m k]
                                    2 true,
                                  Blk.cells cy 2 true]) ∧
                            ∃ (b : List Value × Nat × Nat),
                              tmps 126
                                    [(5, Value.pointer (some { block := 0, off := 0 : Addr })),
                                      (6, Value.int IntKind.i64 o), (7, Value.int IntKind.i64 (↑n : Int)),
                                      (9, Value.int IntKind.i64 (↑i : Int)), (11, Value.bool last)] =
                                  tmps 126
                                    [(5, Value.pointer (some { block := 0, off := 0 : Addr })),
                                      (6, Value.int IntKind.i64 o), (7, Value.int IntKind.i64 (↑n : Int)),
                                      (9, Value.int IntKind.i64 (↑i : Int)), (11, Value.bool last)] ∧
                                hp
                                      [Blk.cells
                                          [Value.int IntKind.i64 4,
                                            Value.slice (some { block := 1, off := 0, spot := some 1 : Addr }) m k]
                                          2 true,
                                        Blk.cells cy 2 true] =
                                    hp
                                      [Blk.cells
                                          [Value.int IntKind.i64 4,
                                            Value.slice (some { block := 1, off := 0, spot := some 1 : Addr }) b.snd.fst
                                              b.snd.snd]
                                          2 true,
                                        Blk.cells b.fst 2 true] ∧
                                  IsTL La b.fst b.snd.fst b.snd.snd ∧
                                    ∀ (y : List Value × Nat × Nat),
                                      IsTL Lz y.fst y.snd.fst y.snd.snd →
                                        K AE.normal
                                          (tmps 126
                                            [(5, Value.pointer (some { block := 0, off := 0 : Addr })),
                                              (6, Value.int IntKind.i64 o), (7, Value.int IntKind.i64 (↑n : Int)),
                                              (9, Value.int IntKind.i64 (↑i : Int))])
                                          (hp
                                            [Blk.cells
                                                [Value.int IntKind.i64 4,
                                                  Value.slice (some { block := 1, off := 0, spot := some 1 : Addr })
                                                    y.snd.fst y.snd.snd]
                                                2 true,
                                              Blk.cells y.fst 2 true]))
                          (Alt (eqI (wr IntKind.i64 (o + 1)) 0)
                            ((nojL
                                    [Value.int IntKind.i64 4,
                                      Value.slice (some { block := 1, off := 0, spot := some 1 : Addr }) m k] =
                                  true ∧
                                FlatL cy ∧ True) ∧
                              (IsP tkF tkG TkOk cy m k ∧ Need (leN m 1000000) True) ∧
                                ∀ (x_1 : List Value × Nat),
                                  IsS (srt (ofL 0 (tksAt cy m))) x_1.fst (ofL 0 (tksAt cy m)).length x_1.snd →
                                    Alt (eqI (↑(ofL 0 (tksAt cy m)).length : Int) 1)
                                      (K AE.ret (tmps 126 [(4, Value.bool false)]) (hp []))
                                      ((FlatL cy ∧ True) ∧
                                        (IsP tkF tkG TkOk cy m k ∧
                                            Need (leI 0 (placeF x 0 (-1) (tksAt cy m)))
                                              (Need (ltI (placeF x 0 (-1) (tksAt cy m)) (↑m : Int))
                                                (Need
                                                  (eqI (wr IntKind.i64 (placeF x 0 (-1) (tksAt cy m) + 1))
                                                    (placeF x 0 (-1) (tksAt cy m) + 1))
                                                  (Need (leN m 1000000) True)))) ∧
                                          ∀ (x_2 : List Value × Nat),
                                            IsTL ((tksAt cy m).eraseIdx (placeF x 0 (-1) (tksAt cy m)).toNat) x_2.fst
                                                (m - 1) x_2.snd →
                                              K AE.ret (tmps 126 [(4, Value.bool false)]) (hp [])))
                            ((FlatL cy ∧ True) ∧
                              (IsP tkF tkG TkOk cy m k ∧
                                  Need (leI 0 (placeF x 0 (-1) (tksAt cy m)))
                                    (Need (ltI (placeF x 0 (-1) (tksAt cy m)) (↑m : Int))
                                      (Need
                                        (eqI (wr IntKind.i64 (placeF x 0 (-1) (tksAt cy m) + 1))
                                          (placeF x 0 (-1) (tksAt cy m) + 1))
                                        (Need (leN m 1000000) True)))) ∧
                                ∀ (x_1 : List Value × Nat),
                                  IsTL ((tksAt cy m).eraseIdx (placeF x 0 (-1) (tksAt cy m)).toNat) x_1.fst (m - 1)
                                      x_1.snd →
                                    K AE.ret (tmps 126 [(4, Value.bool false)]) (hp [])))))))))) := by kernel_rfl

end Go.Proofs.Ytabbkoegaoekkaa
