/- Proved: what functions of the program come to, by their conditions over the abstract machine. Conditions: those that each theorem states. -/
import Derived.Test.YtabbkoegaoekkaaCh2
set_option linter.unusedVariables false
set_option linter.unusedSimpArgs false
namespace Go.Proofs.Ytabbkoegaoekkaa
open Go.RowKit Go.Proofs.Ytabbkoegaoekkaa.AM
set_option maxRecDepth 100000
set_option maxHeartbeats 4000000

theorem r1948C (hm : Try.prog.follows .mixedOrders = true) (o : Int) (last : Bool) (n i m k : Nat) (cy : List Value) (La Lz : List Tk) (K : Post) :
  roundX Try.prog (S1948 hm) (gcLKX (at0 [0]) (at0 [.cell 5 1 2]) 0 (cutE [cut1948 [1,1,1,1,1,0,0,1,0,0,1,0,1,1,1,1,1] (T1948d o n i last) o n i La Lz])) F1948 body1948 0 [0] [.cell 5 1 2] [0] [] [5,6,7,9] [1,1,1,0,0,1,0,0,1,0,1,1,1,1,1] (T1948d o n i last) (H1948 m k cy) K = (
True ∧
  True ∧
    ∀ (x : ByteArray),
      TokR (↑i : Int) x →
        (nojL [Value.int IntKind.i64 4, Value.slice (some { block := 1, off := 0, spot := some 1 : Addr }) m k] = true ∧
            FlatL cy ∧ True) ∧
          (IsP tkF tkG TkOk cy m k ∧ Need (leN m 1000000) True) ∧
            Alt (ltI (placeF x 0 (-1) (tksAt cy m)) 0)
              (Alt (!false == last) (K AE.ret (tmps 126 [(4, Value.bool false)]) (hp []))
                (Alt (!last)
                  (True ∧
                    True ∧
                      ∀ (x : ByteArray),
                        TokR (↑i : Int) x →
                          Alt (ltI (wr IntKind.i64 (o + 1)) 0) (K AE.ret (tmps 126 [(4, Value.bool false)]) (hp []))
                            (True ∧
                              True ∧
                                Alt (!(leI 4 (↑x.size : Int) && leI (↑x.size : Int) 16))
                                  (K AE.ret (tmps 126 [(4, Value.bool false)]) (hp []))
                                  ((nojL
                                          [Value.int IntKind.i64 4,
                                            Value.slice (some { block := 1, off := 0, spot := some 1 : Addr }) m k] =
                                        true ∧
                                      FlatL cy ∧ True) ∧
                                    (IsP tkF tkG TkOk cy m k ∧ Need (leN m 1000000) True) ∧
                                      Alt (leI 0 (placeF x 0 (-1) (tksAt cy m)))
                                        (K AE.ret (tmps 126 [(4, Value.bool false)]) (hp []))
                                        ((nojL
                                                [Value.int IntKind.i64 4,
                                                  Value.slice (some { block := 1, off := 0, spot := some 1 : Addr }) m
                                                    k] =
                                              true ∧
                                            FlatL cy ∧ True) ∧
                                          (IsP tkF tkG TkOk cy m k ∧ Need (leN m 1000000) True) ∧
                                            ∀ (x_1 : List Value × Nat),
                                              IsS (srt (ofL (wr IntKind.i64 (o + 1)) (tksAt cy m))) x_1.fst
                                                  (ofL (wr IntKind.i64 (o + 1)) (tksAt cy m)).length x_1.snd →
                                                Alt
                                                  (leI (intV (Value.int IntKind.i64 4))
                                                    (↑(ofL (wr IntKind.i64 (o + 1)) (tksAt cy m)).length : Int))
                                                  (K AE.ret (tmps 126 [(4, Value.bool false)]) (hp []))
                                                  (Need (leN (0 + m * 2) cy.length)
                                                    (Need (leN ((m + 1) * 24) 1099511627776)
                                                      (Need (leN (m + 1) 1099511627776)
                                                        (FlatD [0]
                                                            (hp
                                                              [Blk.cells
                                                                  [Value.int IntKind.i64 4,
                                                                    Value.slice
                                                                      (some
                                                                        { block := 1, off := 0, spot := some 1 : Addr })
                                                                      (m + 1) (m + 1)]
                                                                  2 true,
                                                                Blk.cells
                                                                  (List.take (m * 2) (List.drop 0 cy) ++
                                                                    [Value.string x,
                                                                      Value.int IntKind.i64 (wr IntKind.i64 (o + 1))])
                                                                  2 true]) ∧
                                                          ∃ (b : List Value × Nat × Nat),
                                                            tmps 126
                                                                  [(5,
                                                                      Value.pointer
                                                                        (some { block := 0, off := 0 : Addr })),
                                                                    (6, Value.int IntKind.i64 o),
                                                                    (7, Value.int IntKind.i64 (↑n : Int)),
                                                                    (9, Value.int IntKind.i64 (↑i : Int)),
                                                                    (11, Value.bool last)] =
                                                                tmps 126
                                                                  [(5,
                                                                      Value.pointer
                                                                        (some { block := 0, off := 0 : Addr })),
                                                                    (6, Value.int IntKind.i64 o),
                                                                    (7, Value.int IntKind.i64 (↑n : Int)),
                                                                    (9, Value.int IntKind.i64 (↑i : Int)),
                                                                    (11, Value.bool last)] ∧
                                                              hp
                                                                    [Blk.cells
                                                                        [Value.int IntKind.i64 4,
                                                                          Value.slice
                                                                            (some
                                                                              { block := 1, off := 0, spot := some 1 :
                                                                                Addr })
                                                                            (m + 1) (m + 1)]
                                                                        2 true,
                                                                      Blk.cells
                                                                        (List.take (m * 2) (List.drop 0 cy) ++
                                                                          [Value.string x,
                                                                            Value.int IntKind.i64
                                                                              (wr IntKind.i64 (o + 1))])
                                                                        2 true] =
                                                                  hp
                                                                    [Blk.cells
                                                                        [Value.int IntKind.i64 4,
                                                                          Value.slice
                                                                            (some
                                                                              { block := 1, off := 0, spot := some 1 :
                                                                                Addr })
                                                                            b.snd.fst b.snd.snd]
                                                                        2 true,
                                                                      Blk.cells b.fst 2 true] ∧
                                                                IsTL La b.fst b.snd.fst b.snd.snd ∧
                                                                  ∀ (y : List Value × Nat × Nat),
                                                                    IsTL Lz y.fst y.snd.fst y.snd.snd →
                                                                      K AE.normal
                                                                        (tmps 126
                                                                          [(5,
                                                                              Value.pointer
                                                                                (some { block := 0, off := 0 : Addr })),
                                                                            (6, Value.int IntKind.i64 o),
                                                                            (7, Value.int IntKind.i64 (↑n : Int)),
                                                                            (9, Value.int IntKind.i64 (↑i : Int))])
                                                                        (hp
                                                                          [Blk.cells
                                                                              [Value.int IntKind.i64 4,
                                                                                Value.slice
                                                                                  (some
                                                                                    { block := 1, off := 0,
                                                                                      spot := some 1 : Addr })
                                                                                  y.snd.fst y.snd.snd]
                                                                              2 true,
                                                                            Blk.cells y.fst 2 true])))))))))
                  (FlatD [0]
                      (hp
                        [Blk.cells
                            [Value.int IntKind.i64 4,
                              Value.slice (some { block := 1, off := 0, spot := some 1 : Addr }) m k]
                            2 true,
                          Blk.cells cy 2 true]) ∧
                    ∃ (b : List Value × Nat × Nat),
                      tmps 126
                            [(5, Value.pointer (some { block := 0, off := 0 : Addr })), (6, Value.int IntKind.i64 o),
                              (7, Value.int IntKind.i64 (↑n : Int)), (9, Value.int IntKind.i64 (↑i : Int)),
                              (11, Value.bool last)] =
                          tmps 126
                            [(5, Value.pointer (some { block := 0, off := 0 : Addr })), (6, Value.int IntKind.i64 o),
                              (7, Value.int IntKind.i64 (↑n : Int)), (9, Value.int IntKind.i64 (↑i : Int)),
                              (11, Value.bool last)] ∧
                        hp
                              [Blk.cells
                                  [Value.int IntKind.i64 4,
                                    Value.slice (some { block := 1, off := 0, spot := some 1 : Addr }) m k]
                                  2 true,
                                Blk.cells cy 2 true] =
                            hp
                              [Blk.cells
                                  [Value.int IntKind.i64 4,
                                    Value.slice (some { block := 1, off := 0, spot := some 1 : Addr }) b.snd.fst
                                      b.snd.snd]
                                  2 true,
                                Blk.cells b.fst 2 true] ∧
                          IsTL La b.fst b.snd.fst b.snd.snd ∧
                            ∀ (y : List Value × Nat × Nat),
                              IsTL Lz y.fst y.snd.fst y.snd.snd →
                                K AE.normal
                                  (tmps 126
                                    [(5, Value.pointer (some { block := 0, off := 0 : Addr })),
                                      (6, Value.int IntKind.i64 o), (7, Value.int IntKind.i64 (↑n : Int)),
                                      (9, Value.int IntKind.i64 (↑i : Int))])
                                  (hp
                                    [Blk.cells
                                        [Value.int IntKind.i64 4,
                                          Value.slice (some { block := 1, off := 0, spot := some 1 : Addr }) y.snd.fst
                                            y.snd.snd]
                                        2 true,
                                      Blk.cells y.fst 2 true]))))
              (Need (leI 0 (placeF x 0 (-1) (tksAt cy m)))
                (Need (ltI (placeF x 0 (-1) (tksAt cy m)) (↑m : Int))
                  (Need (isInt IntKind.i64 ((getO cy (0 + (placeF x 0 (-1) (tksAt cy m)).toNat * 2 + 1)).getD undef))
                    (Alt (!true == last) (K AE.ret (tmps 126 [(4, Value.bool false)]) (hp []))
                      (Alt (!last)
                        (True ∧
                          True ∧
                            ∀ (x : ByteArray),
                              TokR (↑i : Int) x →
                                Alt (ltI (wr IntKind.i64 (o + 1)) 0)
                                  (K AE.ret (tmps 126 [(4, Value.bool false)]) (hp []))
                                  (True ∧
                                    True ∧
                                      Alt (!(leI 4 (↑x.size : Int) && leI (↑x.size : Int) 16))
                                        (K AE.ret (tmps 126 [(4, Value.bool false)]) (hp []))
                                        ((nojL
                                                [Value.int IntKind.i64 4,
                                                  Value.slice (some { block := 1, off := 0, spot := some 1 : Addr }) m
                                                    k] =
                                              true ∧
                                            FlatL cy ∧ True) ∧
                                          (IsP tkF tkG TkOk cy m k ∧ Need (leN m 1000000) True) ∧
                                            Alt (leI 0 (placeF x 0 (-1) (tksAt cy m)))
                                              (K AE.ret (tmps 126 [(4, Value.bool false)]) (hp []))
                                              ((nojL
                                                      [Value.int IntKind.i64 4,
                                                        Value.slice
                                                          (some { block := 1, off := 0, spot := some 1 : Addr }) m k] =
                                                    true ∧
                                                  FlatL cy ∧ True) ∧
                                                (IsP tkF tkG TkOk cy m k ∧ Need (leN m 1000000) True) ∧
                                                  ∀ (x_1 : List Value × Nat),
                                                    IsS (srt (ofL (wr IntKind.i64 (o + 1)) (tksAt cy m))) x_1.fst
                                                        (ofL (wr IntKind.i64 (o + 1)) (tksAt cy m)).length x_1.snd →
                                                      Alt
                                                        (leI (intV (Value.int IntKind.i64 4))
                                                          (↑(ofL (wr IntKind.i64 (o + 1)) (tksAt cy m)).length : Int))
                                                        (K AE.ret (tmps 126 [(4, Value.bool false)]) (hp []))
                                                        (Need (leN (0 + m * 2) cy.length)
                                                          (Need (leN ((m + 1) * 24) 1099511627776)
                                                            (Need (leN (m + 1) 1099511627776)
                                                              (FlatD [0]
                                                                  (hp
                                                                    [Blk.cells
                                                                        [Value.int IntKind.i64 4,
                                                                          Value.slice
                                                                            (some
                                                                              { block := 1, off := 0, spot := some 1 :
                                                                                Addr })
                                                                            (m + 1) (m + 1)]
                                                                        2 true,
                                                                      Blk.cells
                                                                        (List.take (m * 2) (List.drop 0 cy) ++
                                                                          [Value.string x,
                                                                            Value.int IntKind.i64
                                                                              (wr IntKind.i64 (o + 1))])
                                                                        2 true]) ∧
                                                                ∃ (b : List Value × Nat × Nat),
                                                                  tmps 126
                                                                        [(5,
                                                                            Value.pointer
                                                                              (some { block := 0, off := 0 : Addr })),
                                                                          (6, Value.int IntKind.i64 o),
                                                                          (7, Value.int IntKind.i64 (↑n : Int)),
                                                                          (9, Value.int IntKind.i64 (↑i : Int)),
                                                                          (11, Value.bool last)] =
                                                                      tmps 126
                                                                        [(5,
                                                                            Value.pointer
                                                                              (some { block := 0, off := 0 : Addr })),
                                                                          (6, Value.int IntKind.i64 o),
                                                                          (7, Value.int IntKind.i64 (↑n : Int)),
                                                                          (9, Value.int IntKind.i64 (↑i : Int)),
                                                                          (11, Value.bool last)] ∧
                                                                    hp
                                                                          [Blk.cells
                                                                              [Value.int IntKind.i64 4,
                                                                                Value.slice
                                                                                  (some
                                                                                    { block := 1, off := 0,
                                                                                      spot := some 1 : Addr })
                                                                                  (m + 1) (m + 1)]
                                                                              2 true,
                                                                            Blk.cells
                                                                              (List.take (m * 2) (List.drop 0 cy) ++
                                                                                [Value.string x,
                                                                                  Value.int IntKind.i64
                                                                                    (wr IntKind.i64 (o + 1))])
                                                                              2 true] =
                                                                        hp
                                                                          [Blk.cells
                                                                              [Value.int IntKind.i64 4,
                                                                                Value.slice
                                                                                  (some
                                                                                    { block := 1, off := 0,
                                                                                      spot := some 1 : Addr })
                                                                                  b.snd.fst b.snd.snd]
                                                                              2 true,
                                                                            Blk.cells b.fst 2 true] ∧
                                                                      IsTL La b.fst b.snd.fst b.snd.snd ∧
                                                                        ∀ (y : List Value × Nat × Nat),
                                                                          IsTL Lz y.fst y.snd.fst y.snd.snd →
                                                                            K AE.normal
                                                                              (tmps 126
                                                                                [(5,
                                                                                    Value.pointer
                                                                                      (some
                                                                                        { block := 0, off := 0 :
                                                                                          Addr })),
                                                                                  (6, Value.int IntKind.i64 o),
                                                                                  (7, Value.int IntKind.i64 (↑n : Int)),
                                                                                  (9,
                                                                                    Value.int IntKind.i64 (↑i : Int))])
                                                                              (hp
                                                                                [Blk.cells
                                                                                    [Value.int IntKind.i64 4,
                                                                                      Value.slice
                                                                                        (some
                                                                                          { block := 1, off := 0,
                                                                                            spot := some 1 : Addr })
                                                                                        y.snd.fst y.snd.snd]
                                                                                    2 true,
                                                                                  Blk.cells y.fst 2 true])))))))))
                        (FlatD [0]
                            (hp
                              [Blk.cells
                                  [Value.int IntKind.i64 4,
                                    Value.slice (some { block := 1, off := 0, spot := some 1 : Addr }) m k]
                                  2 true,
                                Blk.cells cy 2 true]) ∧
                          ∃ (b : List Value × Nat × Nat),
                            tmps 126
                                  [(5, Value.pointer (some { block := 0, off := 0 : Addr })),
                                    (6, Value.int IntKind.i64 o), (7, Value.int IntKind.i64 (↑n : Int)),
                                    (9, Value.int IntKind.i64 (↑i : Int)), (11, Value.bool last)] =
                                tmps 126
                                  [(5, Value.pointer (some { block := 0, off := 0 : Addr })),
                                    (6, Value.int IntKind.i64 o), (7, Value.int IntKind.i64 (↑n : Int)),
                                    (9, Value.int IntKind.i64 (↑i : Int)), (11, Value.bool last)] ∧
                              hp
                                    [Blk.cells
                                        [Value.int IntKind.i64 4,
                                          Value.slice (some { block := 1, off := 0, spot := some 1 : Addr }) m k]
                                        2 true,
                                      Blk.cells cy 2 true] =
                                  hp
                                    [Blk.cells
                                        [Value.int IntKind.i64 4,
                                          Value.slice (some { block := 1, off := 0, spot := some 1 : Addr }) b.snd.fst
                                            b.snd.snd]
                                        2 true,
                                      Blk.cells b.fst 2 true] ∧
                                IsTL La b.fst b.snd.fst b.snd.snd ∧
                                  ∀ (y : List Value × Nat × Nat),
                                    IsTL Lz y.fst y.snd.fst y.snd.snd →
                                      K AE.normal
                                        (tmps 126
                                          [(5, Value.pointer (some { block := 0, off := 0 : Addr })),
                                            (6, Value.int IntKind.i64 o), (7, Value.int IntKind.i64 (↑n : Int)),
                                            (9, Value.int IntKind.i64 (↑i : Int))])
                                        (hp
                                          [Blk.cells
                                              [Value.int IntKind.i64 4,
                                                Value.slice (some { block := 1, off := 0, spot := some 1 : Addr })
                                                  y.snd.fst y.snd.snd]
                                              2 true,
                                            Blk.cells y.fst 2 true])))))))) := by kernel_rfl

theorem r1948D (hm : Try.prog.follows .mixedOrders = true) (o : Int) (last : Bool) (n i m k : Nat) (cy : List Value) (K : Post) :
  roundX Try.prog (S1948 hm) noLoop F1948 body1948 0 [0] [.cell 5 1 2] [0] [] [5,6,7,9] [1,1,1,1,1,0,0,1,0,0,1,0,1,1,1,1,1] (T1948d o n i last) (H1948 m k cy) K = (
Alt (!last)
  (True ∧
    True ∧
      ∀ (x : ByteArray),
        TokR (↑i : Int) x →
          (nojL [Value.int IntKind.i64 4, Value.slice (some { block := 1, off := 0, spot := some 1 : Addr }) m k] =
                true ∧
              FlatL cy ∧ True) ∧
            (IsP tkF tkG TkOk cy m k ∧ Need (leN m 1000000) True) ∧
              Alt (ltI (placeF x 0 (-1) (tksAt cy m)) 0) (K AE.ret (tmps 126 [(4, Value.bool false)]) (hp []))
                (Need (leI 0 (placeF x 0 (-1) (tksAt cy m)))
                  (Need (ltI (placeF x 0 (-1) (tksAt cy m)) (↑m : Int))
                    (Need (isInt IntKind.i64 ((getO cy (0 + (placeF x 0 (-1) (tksAt cy m)).toNat * 2 + 1)).getD undef))
                      (Alt
                        (!eqI (intV ((getO cy (0 + (placeF x 0 (-1) (tksAt cy m)).toNat * 2 + 1)).getD undef))
                            (wr IntKind.i64 (o + 1)))
                        (K AE.ret (tmps 126 [(4, Value.bool false)]) (hp []))
                        (Alt (eqI (wr IntKind.i64 (o + 1)) 0)
                          ((nojL
                                  [Value.int IntKind.i64 4,
                                    Value.slice (some { block := 1, off := 0, spot := some 1 : Addr }) m k] =
                                true ∧
                              FlatL cy ∧ True) ∧
                            (IsP tkF tkG TkOk cy m k ∧ Need (leN m 1000000) True) ∧
                              ∀ (x_1 : List Value × Nat),
                                IsS (srt (ofL 0 (tksAt cy m))) x_1.fst (ofL 0 (tksAt cy m)).length x_1.snd →
                                  Alt (eqI (↑(ofL 0 (tksAt cy m)).length : Int) 1)
                                    (K AE.ret (tmps 126 [(4, Value.bool false)]) (hp []))
                                    ((FlatL cy ∧ True) ∧
                                      (IsP tkF tkG TkOk cy m k ∧
                                          Need (leI 0 (placeF x 0 (-1) (tksAt cy m)))
                                            (Need (ltI (placeF x 0 (-1) (tksAt cy m)) (↑m : Int))
                                              (Need
                                                (eqI (wr IntKind.i64 (placeF x 0 (-1) (tksAt cy m) + 1))
                                                  (placeF x 0 (-1) (tksAt cy m) + 1))
                                                (Need (leN m 1000000) True)))) ∧
                                        ∀ (x_2 : List Value × Nat),
                                          IsTL ((tksAt cy m).eraseIdx (placeF x 0 (-1) (tksAt cy m)).toNat) x_2.fst
                                              (m - 1) x_2.snd →
                                            K AE.normal
                                              (tmps 126
                                                [(5, Value.pointer (some { block := 0, off := 0 : Addr })),
                                                  (6, Value.int IntKind.i64 o), (7, Value.int IntKind.i64 (↑n : Int)),
                                                  (9, Value.int IntKind.i64 (↑i : Int))])
                                              (hp
                                                [Blk.cells
                                                    [Value.int IntKind.i64 4,
                                                      Value.slice (some { block := 1, off := 0, spot := some 1 : Addr })
                                                        (m - 1) x_2.snd]
                                                    2 true,
                                                  Blk.cells x_2.fst 2 true])))
                          ((FlatL cy ∧ True) ∧
                            (IsP tkF tkG TkOk cy m k ∧
                                Need (leI 0 (placeF x 0 (-1) (tksAt cy m)))
                                  (Need (ltI (placeF x 0 (-1) (tksAt cy m)) (↑m : Int))
                                    (Need
                                      (eqI (wr IntKind.i64 (placeF x 0 (-1) (tksAt cy m) + 1))
                                        (placeF x 0 (-1) (tksAt cy m) + 1))
                                      (Need (leN m 1000000) True)))) ∧
                              ∀ (x_1 : List Value × Nat),
                                IsTL ((tksAt cy m).eraseIdx (placeF x 0 (-1) (tksAt cy m)).toNat) x_1.fst (m - 1)
                                    x_1.snd →
                                  K AE.normal
                                    (tmps 126
                                      [(5, Value.pointer (some { block := 0, off := 0 : Addr })),
                                        (6, Value.int IntKind.i64 o), (7, Value.int IntKind.i64 (↑n : Int)),
                                        (9, Value.int IntKind.i64 (↑i : Int))])
                                    (hp
                                      [Blk.cells
                                          [Value.int IntKind.i64 4,
                                            Value.slice (some { block := 1, off := 0, spot := some 1 : Addr }) (m - 1)
                                              x_1.snd]
                                          2 true,
                                        Blk.cells x_1.fst 2 true]))))))))
  (K AE.normal
    (tmps 126
      [(5, Value.pointer (some { block := 0, off := 0 : Addr })), (6, Value.int IntKind.i64 o),
        (7, Value.int IntKind.i64 (↑n : Int)), (9, Value.int IntKind.i64 (↑i : Int))])
    (hp
      [Blk.cells [Value.int IntKind.i64 4, Value.slice (some { block := 1, off := 0, spot := some 1 : Addr }) m k] 2
          true,
        Blk.cells cy 2 true]))) := by kernel_rfl

end Go.Proofs.Ytabbkoegaoekkaa

namespace Go.Proofs.Ytabbkoegaoekkaa
open Go.RowKit Go.Proofs.Ytabbkoegaoekkaa.AM
set_option maxRecDepth 100000
set_option maxHeartbeats 4000000

noncomputable def cut1948x (o : Int) (n : Nat) : CutE where
  β := Nat × List Value × Nat × Nat
  p := [0,1,0,1,1,1,1]
  t := fun x => T1948a o n x.1
  h := fun x => H1948 x.2.2.1 x.2.2.2 x.2.1
  Q := fun x K => (IsTL (tkL o 0 x.1) x.2.1 x.2.2.1 x.2.2.2 ∧ x.1 ≤ n) ∧ ∀ y : List Value × Nat × Nat, IsTL (tkL o 0 n) y.1 y.2.1 y.2.2 → K (.exit 0) (tmps 126 [(5, p1 0), (6, .int .i64 o), (7, .int .i64 n)]) (H1948 y.2.1 y.2.2 y.1)
/-- what is left -/
def leftL (o : Int) (n : Nat) : List Tk := if o = 0 then tkL o (n - 1) 1 else []
noncomputable def cut1948y (o : Int) (n : Nat) : CutE where
  β := Nat × List Value × Nat × Nat
  p := [0,1,0,1,1,1,1,1]
  t := fun x => T1948b o n x.1
  h := fun x => H1948 x.2.2.1 x.2.2.2 x.2.1
  Q := fun x K => (IsTL (tkL o x.1 (n - x.1)) x.2.1 x.2.2.1 x.2.2.2 ∧ x.1 < n) ∧ ∀ y : List Value × Nat × Nat, IsTL (leftL o n) y.1 y.2.1 y.2.2 → K (.exit 2) (tmps 126 [(5, p1 0), (6, .int .i64 o)]) (H1948 y.2.1 y.2.2 y.1)

theorem w1948 (hm : Try.prog.follows .mixedOrders = true) (ow nn : Int) (o : Int) (n : Nat) (K : Value → Heap → Prop) :
  funX Try.prog (S1948 hm) (gcLKX (at0 [0]) (at0 [.cell 5 1 2]) 0 (cutE [cut1948x o n, cut1948y o n])) F1948 body1948 Try.f7 [] [] [.int .u8 ow, .int .u8 nn] (hp []) K = (
FlatD [0]
    (hp
      [Blk.cells [Value.int IntKind.i64 4, Value.slice (some { block := 1, off := 0, spot := some 1 : Addr }) 0 0] 2
          true,
        Blk.cells [] 2 true]) ∧
  ∃ (b : Nat × List Value × Nat × Nat),
    tmps 126
          [(5, Value.pointer (some { block := 0, off := 0 : Addr })),
            (6, Value.int IntKind.i64 (wr IntKind.i64 (ow.tmod 3))),
            (7, Value.int IntKind.i64 (wr IntKind.i64 (wr IntKind.i64 (nn.tmod 4) + 1))),
            (8, Value.int IntKind.i64 0)] =
        tmps 126
          [(5, Value.pointer (some { block := 0, off := 0 : Addr })), (6, Value.int IntKind.i64 o),
            (7, Value.int IntKind.i64 (↑n : Int)), (8, Value.int IntKind.i64 (↑b.fst : Int))] ∧
      hp
            [Blk.cells [Value.int IntKind.i64 4, Value.slice (some { block := 1, off := 0, spot := some 1 : Addr }) 0 0]
                2 true,
              Blk.cells [] 2 true] =
          hp
            [Blk.cells
                [Value.int IntKind.i64 4,
                  Value.slice (some { block := 1, off := 0, spot := some 1 : Addr }) b.snd.snd.fst b.snd.snd.snd]
                2 true,
              Blk.cells b.snd.fst 2 true] ∧
        (IsTL (tkL o 0 b.fst) b.snd.fst b.snd.snd.fst b.snd.snd.snd ∧ b.fst.le n) ∧
          ∀ (y : List Value × Nat × Nat),
            IsTL (tkL o 0 n) y.fst y.snd.fst y.snd.snd →
              FlatD [0]
                  (hp
                    [Blk.cells
                        [Value.int IntKind.i64 4,
                          Value.slice (some { block := 1, off := 0, spot := some 1 : Addr }) y.snd.fst y.snd.snd]
                        2 true,
                      Blk.cells y.fst 2 true]) ∧
                ∃ (b : Nat × List Value × Nat × Nat),
                  tmps 126
                        [(5, Value.pointer (some { block := 0, off := 0 : Addr })), (6, Value.int IntKind.i64 o),
                          (7, Value.int IntKind.i64 (↑n : Int)), (9, Value.int IntKind.i64 0)] =
                      tmps 126
                        [(5, Value.pointer (some { block := 0, off := 0 : Addr })), (6, Value.int IntKind.i64 o),
                          (7, Value.int IntKind.i64 (↑n : Int)), (9, Value.int IntKind.i64 (↑b.fst : Int))] ∧
                    hp
                          [Blk.cells
                              [Value.int IntKind.i64 4,
                                Value.slice (some { block := 1, off := 0, spot := some 1 : Addr }) y.snd.fst y.snd.snd]
                              2 true,
                            Blk.cells y.fst 2 true] =
                        hp
                          [Blk.cells
                              [Value.int IntKind.i64 4,
                                Value.slice (some { block := 1, off := 0, spot := some 1 : Addr }) b.snd.snd.fst
                                  b.snd.snd.snd]
                              2 true,
                            Blk.cells b.snd.fst 2 true] ∧
                      (IsTL (tkL o b.fst (n - b.fst)) b.snd.fst b.snd.snd.fst b.snd.snd.snd ∧ b.fst.succ.le n) ∧
                        ∀ (y : List Value × Nat × Nat),
                          IsTL (leftL o n) y.fst y.snd.fst y.snd.snd →
                            Alt (eqI o 0)
                              ((FlatL y.fst ∧ FlatL [Value.int IntKind.i64 o] ∧ True) ∧
                                (True ∧
                                    IsP tkF tkG TkOk y.fst y.snd.fst y.snd.snd ∧ Need (leN y.snd.fst 1000000) True) ∧
                                  ∀ (x : List Value),
                                    IsTL (dropL o (tksAt y.fst y.snd.fst)) x (dropL o (tksAt y.fst y.snd.fst)).length
                                        y.snd.snd →
                                      Alt
                                        (eqI
                                          (wr IntKind.i64
                                            ((↑y.snd.fst : Int) - (↑(dropL o (tksAt y.fst y.snd.fst)).length : Int)))
                                          1)
                                        ((nojL
                                                [Value.int IntKind.i64 4,
                                                  Value.slice (some { block := 1, off := 0, spot := some 1 : Addr })
                                                    (dropL o (tksAt y.fst y.snd.fst)).length y.snd.snd] =
                                              true ∧
                                            FlatL x ∧ True) ∧
                                          (IsP tkF tkG TkOk x (dropL o (tksAt y.fst y.snd.fst)).length y.snd.snd ∧
                                              Need (leN (dropL o (tksAt y.fst y.snd.fst)).length 1000000) True) ∧
                                            ∀ (x_1 : List Value × Nat),
                                              IsS (srt (ofL o (tksAt x (dropL o (tksAt y.fst y.snd.fst)).length)))
                                                  x_1.fst
                                                  (ofL o (tksAt x (dropL o (tksAt y.fst y.snd.fst)).length)).length
                                                  x_1.snd →
                                                Alt
                                                  (eqI
                                                    (↑(ofL o
                                                            (tksAt x (dropL o (tksAt y.fst y.snd.fst)).length)).length :
                                                      Int)
                                                    0)
                                                  (True ∧ True ∧ K (Value.bool true) (hp []))
                                                  (K (Value.bool false) (hp [])))
                                        (K (Value.bool false) (hp [])))
                              ((FlatL y.fst ∧ FlatL [Value.int IntKind.i64 o] ∧ True) ∧
                                (True ∧
                                    IsP tkF tkG TkOk y.fst y.snd.fst y.snd.snd ∧ Need (leN y.snd.fst 1000000) True) ∧
                                  ∀ (x : List Value),
                                    IsTL (dropL o (tksAt y.fst y.snd.fst)) x (dropL o (tksAt y.fst y.snd.fst)).length
                                        y.snd.snd →
                                      Alt
                                        (eqI
                                          (wr IntKind.i64
                                            ((↑y.snd.fst : Int) - (↑(dropL o (tksAt y.fst y.snd.fst)).length : Int)))
                                          0)
                                        ((nojL
                                                [Value.int IntKind.i64 4,
                                                  Value.slice (some { block := 1, off := 0, spot := some 1 : Addr })
                                                    (dropL o (tksAt y.fst y.snd.fst)).length y.snd.snd] =
                                              true ∧
                                            FlatL x ∧ True) ∧
                                          (IsP tkF tkG TkOk x (dropL o (tksAt y.fst y.snd.fst)).length y.snd.snd ∧
                                              Need (leN (dropL o (tksAt y.fst y.snd.fst)).length 1000000) True) ∧
                                            ∀ (x_1 : List Value × Nat),
                                              IsS (srt (ofL o (tksAt x (dropL o (tksAt y.fst y.snd.fst)).length)))
                                                  x_1.fst
                                                  (ofL o (tksAt x (dropL o (tksAt y.fst y.snd.fst)).length)).length
                                                  x_1.snd →
                                                Alt
                                                  (eqI
                                                    (↑(ofL o
                                                            (tksAt x (dropL o (tksAt y.fst y.snd.fst)).length)).length :
                                                      Int)
                                                    0)
                                                  (True ∧ True ∧ K (Value.bool true) (hp []))
                                                  (K (Value.bool false) (hp [])))
                                        (K (Value.bool false) (hp [])))) := by kernel_rfl

end Go.Proofs.Ytabbkoegaoekkaa

namespace Go.Proofs.Ytabbkoegaoekkaa
open Go.RowKit Go.Proofs.Ytabbkoegaoekkaa.AM
set_option maxRecDepth 100000
set_option maxHeartbeats 8000000
theorem sure1948 (hm : Try.prog.follows .mixedOrders = true) : Sure Try.prog (S1948 hm) := Sure.addI (Sure.withS ⟨hm, plain, bookW_ok (l := [(26, placeC)]) (bookOf_ok (l := [(3, trueC), (11, isTC)]) ⟨runs_holds hm, isT_says hm, trivial⟩) ⟨place_says hm, trivial⟩⟩
  (l := [(15, ofX.summ (of_says hm)), (30, delX.summ (del_says hm)), (32, dfX.summ (df_says hm)), (14, tokX.summ (tok_says hm))])
  ⟨ofX.sum_ok (of_says hm), delX.sum_ok (del_says hm), dfX.sum_ok (df_says hm), tokX.sum_ok (tok_says hm), trivial⟩)
  (l := [(9, Try.f9, body1922), (10, Try.f10, body1923), (18, Try.f18, body1924), (20, Try.f20, body1925), (8, Try.f8, body1930)])
  ⟨⟨Try.func9, rfl⟩, ⟨Try.func10, rfl⟩, ⟨Try.func18, rfl⟩, ⟨Try.func20, rfl⟩, ⟨Try.func8, rfl⟩, trivial⟩
theorem IsTL.at {F : List Tk} {cs : List Value} {m k : Nat} (h : IsTL F cs m k) : tksAt cs m = F := by rw [h.len]; exact tksAt_eq h.row
theorem IsTL.is {F : List Tk} {cs : List Value} {m k : Nat} (h : IsTL F cs m k) : IsT cs m k := .mk F h.len.symm h.le h.row
theorem hn19 (mo : Int) (sp : Option Nat) (m k : Nat) : nojL [Value.int .i64 mo, .slice (some ⟨1,0,sp⟩) m k] = true := rfl
theorem hFl {m k : Nat} {cy : List Value} (h2 : FlatL cy) : FlatD [0] (hp [.cells [.int .i64 4, .slice (some ⟨1,0,some 1⟩) m k] 2 true, .cells cy 2 true]) := FlatD.hp ⟨rfl, h2, trivial⟩
theorem hF0 : FlatD [0] (hp []) := FlatD.hp trivial
theorem tok_size {j : Nat} (h : j < 5) : 4 ≤ (tokS (j : Nat)).size ∧ (tokS (j : Nat)).size ≤ 16 := by
  have : ∀ j : Fin 5, 4 ≤ (tokS (j.1 : Nat)).size ∧ (tokS (j.1 : Nat)).size ≤ 16 := by decide +kernel
  exact this ⟨j, h⟩
theorem tok_inj {i j : Nat} (hi : i < 5) (hj : j < 5) (h : tokS (i : Nat) = tokS (j : Nat)) : i = j := by
  have : ∀ i j : Fin 5, tokS (i.1 : Nat) = tokS (j.1 : Nat) → i.1 = j.1 := by decide +kernel
  exact this ⟨i, hi⟩ ⟨j, hj⟩ h
theorem placeF_none (s : ByteArray) (L : List Tk) (h : ∀ t ∈ L, t.1 ≠ s) : placeF s 0 (-1) L = -1 := by
  rcases placeF_spec s L 0 (-1) with ⟨h1, _⟩ | ⟨p, t, _, h2, h3⟩
  · exact h1
  · exact absurd h3 (h t (List.mem_of_getElem? h2))
theorem placeF_new (s : ByteArray) (o : Int) : ∀ (L : List Tk) (i : Nat) (a : Int), (∀ t ∈ L, t.1 ≠ s) → placeF s i a (L ++ [(s, o)]) = ((i + L.length : Nat) : Int) := by
  intro L
  induction L with
  | nil => intro i a _; show (if eqS s s = true then _ else _) = _; rw [if_pos (eqS_iff.2 rfl)]; rfl
  | cons y L ih =>
    intro i a h
    rw [List.cons_append]
    unfold placeF
    rw [if_neg (fun hh => h y List.mem_cons_self (eqS_iff.1 hh)), ih (i + 1) a (fun t ht => h t (List.mem_cons_of_mem _ ht)), List.length_cons]
    congr 1; omega
theorem placeF_head (s : ByteArray) (o : Int) (L : List Tk) (h : ∀ t ∈ L, t.1 ≠ s) : placeF s 0 (-1) ((s, o) :: L) = 0 := by
  rcases placeF_spec s ((s, o) :: L) 0 (-1) with ⟨_, h1⟩ | ⟨p, t, h1, h2, h3⟩
  · exact absurd rfl (h1 (s, o) List.mem_cons_self)
  · cases p with
    | zero => rw [h1]; rfl
    | succ p => exact absurd h3 (h t (by simp at h2; exact List.mem_of_getElem? h2))
/-- the rest of the tokens -/
structure Rest (o : Int) (i n : Nat) (R : List Tk) : Prop where
  ne : ∀ t ∈ R, t.1 ≠ tokS (i : Nat)
  ow : ∀ t ∈ R, t.2 = o
  len : R.length ≤ 3
  i : i < 5
  o0 : 0 ≤ o
  o2 : o ≤ 2
  n : n ≤ 4
theorem Rest.of1 {o : Int} {i n : Nat} {R : List Tk} (h : Rest o i n R) : ofL (o + 1) R = [] := by
  rw [ofL_eq, List.filter_eq_nil_iff.2 (fun t ht => by simp only [eqI_iff]; have := h.ow t ht; omega)]; rfl
theorem Rest.wr {o : Int} {i n : Nat} {R : List Tk} (h : Rest o i n R) : wr .i64 (o + 1) = o + 1 := wr_i64 _ (by have := h.o0; omega) (by have := h.o2; omega)
theorem lastDt (hmix : Try.prog.follows .mixedOrders = true) (o : Int) (n i m k : Nat) (cy : List Value) (hc : FlatL cy) (K : Post) (hK : K .normal (T1948b o n i) (H1948 m k cy)) :
    Says Try.prog 0 (sub body1948 [1,1,1,1,1,0,0,1,0,0,1,0,1,1,1,1,1]) (T1948d o n i true) (H1948 m k cy) K := by
  have hF := hFl (m := m) (k := k) hc
  refine (sure1948 hmix).cutN F1948 noLoops [0] [.cell 5 1 2] [0] [] [5,6,7,9] ?_
  rw [r1948D]
  simp only [Bool.not_true, hF, Alt_iff, Need_iff, ltI_eq, leI_eq, eqI_eq, leN_eq, eqN_eq, decide_eq_true_eq, decide_eq_false_iff_not, decide_true, decide_false, true_and, and_true, Bool.true_eq_false, Bool.false_eq_true, false_implies, true_implies, implies_true, not_true_eq_false, not_false_eq_true, Bool.not_eq_true', Bool.not_eq_false', Nat.zero_add, Nat.add_zero, Nat.sub_zero, Nat.zero_mul, Nat.mul_one, Int.toNat_natCast, List.drop_zero, beqV_int, beqV_sl, beqV_str, beqV_bool, beqV_ptr, beqV_flt, beqV_agg, beqV_tuple, List.all_cons, List.all_nil, Bool.and_self, Bool.and_true, Bool.true_and, Nat.le_refl, Int.le_refl, Nat.zero_le, Option.getD_some, isStr, strV, isInt, intV, isBool, boolV, kindEq, at0, isJunk, Option.isSome_some, Option.isSome_none, if_true, if_false, Nat.add_sub_cancel_left, Nat.add_sub_cancel]
  exact hK
theorem lastDf (hmix : Try.prog.follows .mixedOrders = true) (o : Int) (n i m k : Nat) (cy : List Value) (R : List Tk) (hR : Rest o i n R) (hT : IsTL (R ++ [(tokS (i : Nat), o + 1)]) cy m k) (K : Post) (hK : ∀ y : List Value × Nat × Nat, IsTL R y.1 y.2.1 y.2.2 → K .normal (T1948b o n i) (H1948 y.2.1 y.2.2 y.1)) :
    Says Try.prog 0 (sub body1948 [1,1,1,1,1,0,0,1,0,0,1,0,1,1,1,1,1]) (T1948d o n i false) (H1948 m k cy) K := by
  have hF := hFl (m := m) (k := k) hT.row.flat
  have hlR := hR.len
  have ho0 := hR.o0
  have hm : m = R.length + 1 := by have := hT.len; simpa using this
  have hw := hR.wr
  have hpl : placeF (tokS (i : Nat)) 0 (-1) (R ++ [(tokS (i : Nat), o + 1)]) = (R.length : Int) := by rw [placeF_new _ _ _ _ _ hR.ne]; congr 1; omega
  have g0 := hT.row.get1 (j := R.length) (x := (tokS (i : Nat), o + 1)) (by simp)
  have hwp : wr .i64 ((R.length : Int) + 1) = (R.length : Int) + 1 := wr_i64 _ (by omega) (by omega)
  refine (sure1948 hmix).cutN F1948 noLoops [0] [.cell 5 1 2] [0] [] [5,6,7,9] ?_
  rw [r1948D]
  refine Alt_iff.2 ⟨fun _ => ⟨trivial, trivial, fun x hx => ?_⟩, fun h => absurd h (by decide)⟩
  rw [hx.eq]
  simp only [hpl, g0, tkG, hwp, show ¬ ((R.length : Int) < 0) by omega, show (0 : Int) ≤ (R.length : Int) by omega, show (R.length : Int) < (m : Int) by omega, show ¬ (o + 1 = 0) by omega, show intV (Value.int .i64 (o + 1)) = o + 1 from rfl, hT.at, hT.is, hT.row.flat, hn19, show m ≤ 1000000 by omega, Nat.zero_add, Int.toNat_natCast, Option.getD_some, ↓Alt_ite, ↓reduceIte, ltI_eq, leI_eq, eqI_eq, decide_eq_true_eq, decide_true, Bool.and_true, Bool.true_eq_false, Bool.not_true, Bool.not_false, hw, hF, Alt_iff, Need_iff, ltI_eq, leI_eq, eqI_eq, leN_eq, eqN_eq, decide_eq_true_eq, decide_eq_false_iff_not, decide_true, decide_false, true_and, and_true, Bool.true_eq_false, Bool.false_eq_true, false_implies, true_implies, implies_true, not_true_eq_false, not_false_eq_true, Bool.not_eq_true', Bool.not_eq_false', Nat.zero_add, Nat.add_zero, Nat.sub_zero, Nat.zero_mul, Nat.mul_one, Int.toNat_natCast, List.drop_zero, beqV_int, beqV_sl, beqV_str, beqV_bool, beqV_ptr, beqV_flt, beqV_agg, beqV_tuple, List.all_cons, List.all_nil, Bool.and_self, Bool.and_true, Bool.true_and, Nat.le_refl, Int.le_refl, Nat.zero_le, Option.getD_some, isStr, strV, isInt, intV, isBool, boolV, kindEq, at0, isJunk, Option.isSome_some, Option.isSome_none, if_true, if_false, Nat.add_sub_cancel_left, Nat.add_sub_cancel]
  intro x1 q1
  rw [show (R ++ [(tokS (i : Nat), o + 1)]).eraseIdx R.length = R by simp [List.eraseIdx_append_of_length_le], show m - 1 = R.length by omega] at q1
  rw [show m - 1 = R.length by omega]
  exact ⟨hFl q1.row.flat, hK (x1.1, R.length, x1.2) q1⟩
theorem lastCt (hmix : Try.prog.follows .mixedOrders = true) (n i m k : Nat) (cy : List Value) (hi : i < 5) (hT : IsTL [(tokS (i : Nat), (0 : Int))] cy m k) (K : Post) (hK : ∀ y : List Value × Nat × Nat, IsTL [(tokS (i : Nat), (0 : Int))] y.1 y.2.1 y.2.2 → K .normal (T1948b 0 n i) (H1948 y.2.1 y.2.2 y.1)) :
    Says Try.prog 0 (sub body1948 [1,1,1,0,0,1,0,0,1,0,1,1,1,1,1]) (T1948d 0 n i true) (H1948 m k cy) K := by
  have hF := hFl (m := m) (k := k) hT.row.flat
  have hm : m = 1 := by have := hT.len; simpa using this
  have hw : wr .i64 ((0 : Int) + 1) = 1 := rfl
  have hpl := placeF_head (tokS (i : Nat)) 0 [] (fun t h => by simp at h)
  have g0 : getO cy 1 = _ := hT.row.get1 (j := 0) (x := (tokS (i : Nat), (0 : Int))) rfl
  have hL : Loops Try.prog body1948 0 (cutE [cut1948 [1,1,1,1,1,0,0,1,0,0,1,0,1,1,1,1,1] (T1948d 0 n i true) 0 n i [(tokS (i : Nat), (0 : Int))] [(tokS (i : Nat), (0 : Int))]]) := Loops.noneE.moreE _ fun x K hQ => by
    obtain ⟨h1, h2⟩ := hQ
    exact lastDt hmix 0 n i x.2.1 x.2.2 x.1 h1.row.flat K (h2 x h1)
  refine (sure1948 hmix).cutN F1948 (hL.gcX (at0 [0]) (at0 [.cell 5 1 2])) [0] [.cell 5 1 2] [0] [] [5,6,7,9] ?_
  rw [r1948C]
  refine ⟨trivial, trivial, fun x hx => ?_⟩
  rw [hx.eq]
  simp only [hpl, Int.toNat_zero, Nat.zero_mul, g0, tkG, beq_self_eq_true, show ¬ ((0 : Int) < 0) by decide, show (0 : Int) ≤ 0 by decide, show (0 : Int) < (m : Int) by omega, hT.at, hT.is, hT.row.flat, hn19, show m ≤ 1000000 by omega, Nat.zero_add, Int.toNat_natCast, Option.getD_some, ↓Alt_ite, ↓reduceIte, ltI_eq, leI_eq, eqI_eq, decide_eq_true_eq, decide_true, Bool.and_true, Bool.true_eq_false, Bool.not_true, Bool.not_false, hw, hF, Alt_iff, Need_iff, ltI_eq, leI_eq, eqI_eq, leN_eq, eqN_eq, decide_eq_true_eq, decide_eq_false_iff_not, decide_true, decide_false, true_and, and_true, Bool.true_eq_false, Bool.false_eq_true, false_implies, true_implies, implies_true, not_true_eq_false, not_false_eq_true, Bool.not_eq_true', Bool.not_eq_false', Nat.zero_add, Nat.add_zero, Nat.sub_zero, Nat.zero_mul, Nat.mul_one, Int.toNat_natCast, List.drop_zero, beqV_int, beqV_sl, beqV_str, beqV_bool, beqV_ptr, beqV_flt, beqV_agg, beqV_tuple, List.all_cons, List.all_nil, Bool.and_self, Bool.and_true, Bool.true_and, Nat.le_refl, Int.le_refl, Nat.zero_le, Option.getD_some, isStr, strV, isInt, intV, isBool, boolV, kindEq, at0, isJunk, Option.isSome_some, Option.isSome_none, if_true, if_false, Nat.add_sub_cancel_left, Nat.add_sub_cancel]
  exact ⟨(cy, m, k), rfl, hT, fun y hy => ⟨hFl hy.row.flat, hK y hy⟩⟩
theorem lastCf (hmix : Try.prog.follows .mixedOrders = true) (o : Int) (n i m k : Nat) (cy : List Value) (R : List Tk) (hR : Rest o i n R) (hT : IsTL R cy m k) (K : Post) (hK : ∀ y : List Value × Nat × Nat, IsTL R y.1 y.2.1 y.2.2 → K .normal (T1948b o n i) (H1948 y.2.1 y.2.2 y.1)) :
    Says Try.prog 0 (sub body1948 [1,1,1,0,0,1,0,0,1,0,1,1,1,1,1]) (T1948d o n i false) (H1948 m k cy) K := by
  have hF := hFl (m := m) (k := k) hT.row.flat
  have hlR := hR.len
  have ho0 := hR.o0
  have ho2 := hR.o2
  have hm := hT.len
  have hw := hR.wr
  have hpl := placeF_none _ R hR.ne
  obtain ⟨z1, z2⟩ := tok_size hR.i
  have hL : Loops Try.prog body1948 0 (cutE [cut1948 [1,1,1,1,1,0,0,1,0,0,1,0,1,1,1,1,1] (T1948d o n i false) o n i (R ++ [(tokS (i : Nat), o + 1)]) R]) := Loops.noneE.moreE _ fun x K hQ => by
    obtain ⟨h1, h2⟩ := hQ
    exact lastDf hmix o n i x.2.1 x.2.2 x.1 R hR h1 K h2
  refine (sure1948 hmix).cutN F1948 (hL.gcX (at0 [0]) (at0 [.cell 5 1 2])) [0] [.cell 5 1 2] [0] [] [5,6,7,9] ?_
  rw [r1948C]
  refine ⟨trivial, trivial, fun x hx => ?_⟩
  rw [hx.eq]
  simp only [hpl, show (-1 : Int) < 0 by decide, show ¬ ((0 : Int) ≤ -1) by decide, hT.at, hT.is, hT.row.flat, hn19, show m ≤ 1000000 by omega, Nat.zero_add, Int.toNat_natCast, Option.getD_some, ↓Alt_ite, ↓reduceIte, ltI_eq, leI_eq, eqI_eq, decide_eq_true_eq, decide_true, Bool.and_true, Bool.true_eq_false, Bool.not_true, Bool.not_false, hw, hF, Alt_iff, Need_iff, ltI_eq, leI_eq, eqI_eq, leN_eq, eqN_eq, decide_eq_true_eq, decide_eq_false_iff_not, decide_true, decide_false, true_and, and_true, Bool.true_eq_false, Bool.false_eq_true, false_implies, true_implies, implies_true, not_true_eq_false, not_false_eq_true, Bool.not_eq_true', Bool.not_eq_false', Nat.zero_add, Nat.add_zero, Nat.sub_zero, Nat.zero_mul, Nat.mul_one, Int.toNat_natCast, List.drop_zero, beqV_int, beqV_sl, beqV_str, beqV_bool, beqV_ptr, beqV_flt, beqV_agg, beqV_tuple, List.all_cons, List.all_nil, Bool.and_self, Bool.and_true, Bool.true_and, Nat.le_refl, Int.le_refl, Nat.zero_le, Option.getD_some, isStr, strV, isInt, intV, isBool, boolV, kindEq, at0, isJunk, Option.isSome_some, Option.isSome_none, if_true, if_false, Nat.add_sub_cancel_left, Nat.add_sub_cancel]
  intro x2 hx2
  rw [hx2.eq]
  simp only [hpl, show (-1 : Int) < 0 by decide, show ¬ ((0 : Int) ≤ -1) by decide, show ¬ (o + 1 < 0) by omega, show 4 ≤ ((tokS (i : Nat)).size : Int) by omega, show ((tokS (i : Nat)).size : Int) ≤ 16 by omega, hR.of1, show intV (Value.int .i64 4) = 4 from rfl, List.length_nil, show ¬ ((4 : Int) ≤ ((0 : Nat) : Int)) by decide, hT.at, hT.is, hT.row.flat, hn19, show m ≤ 1000000 by omega, Nat.zero_add, Int.toNat_natCast, Option.getD_some, ↓Alt_ite, ↓reduceIte, ltI_eq, leI_eq, eqI_eq, decide_eq_true_eq, decide_true, Bool.and_true, Bool.true_eq_false, Bool.not_true, Bool.not_false, hw, hF, Alt_iff, Need_iff, ltI_eq, leI_eq, eqI_eq, leN_eq, eqN_eq, decide_eq_true_eq, decide_eq_false_iff_not, decide_true, decide_false, true_and, and_true, Bool.true_eq_false, Bool.false_eq_true, false_implies, true_implies, implies_true, not_true_eq_false, not_false_eq_true, Bool.not_eq_true', Bool.not_eq_false', Nat.zero_add, Nat.add_zero, Nat.sub_zero, Nat.zero_mul, Nat.mul_one, Int.toNat_natCast, List.drop_zero, beqV_int, beqV_sl, beqV_str, beqV_bool, beqV_ptr, beqV_flt, beqV_agg, beqV_tuple, List.all_cons, List.all_nil, Bool.and_self, Bool.and_true, Bool.true_and, Nat.le_refl, Int.le_refl, Nat.zero_le, Option.getD_some, isStr, strV, isInt, intV, isBool, boolV, kindEq, at0, isJunk, Option.isSome_some, Option.isSome_none, if_true, if_false, Nat.add_sub_cancel_left, Nat.add_sub_cancel]
  have hokt : TkOk (tokS (i : Nat), o + 1) := ⟨by show (tokS (i : Nat)).size ≤ 1000000; omega, ZP.i64.2 ⟨by omega, by omega⟩⟩
  have hwc : cy.take (m * 2) ++ [.string (tokS (i : Nat)), .int .i64 (o + 1)] = pC tkF tkG (R ++ [(tokS (i : Nat), o + 1)]) := by
    rw [hm, hT.row.whole, pC_append]; rfl
  have hrow : TSl (pC tkF tkG (R ++ [(tokS (i : Nat), o + 1)])) (R ++ [(tokS (i : Nat), o + 1)]) := PSl.own0 (fun _ => rfl) (fun _ => rfl) fun t ht => (List.mem_append.1 ht).elim (hT.row.ok t) fun h => by
    rcases List.mem_singleton.1 h with rfl
    exact hokt
  have hsz := hT.row.size
  rw [hwc]
  refine fun x1 _ => ⟨by omega, by omega, by omega, hFl hrow.flat, ?_⟩
  exact ⟨(pC tkF tkG (R ++ [(tokS (i : Nat), o + 1)]), m + 1, m + 1), rfl, ⟨hrow, by simp [hm], Nat.le_refl _⟩, fun y hy => ⟨hFl hy.row.flat, hK y hy⟩⟩
theorem lastBt (hmix : Try.prog.follows .mixedOrders = true) (n i m k : Nat) (cy : List Value) (hi : i < 5) (hT : IsTL [(tokS (i : Nat), (0 : Int))] cy m k) (K : Post) (hK : ∀ y : List Value × Nat × Nat, IsTL [(tokS (i : Nat), (0 : Int))] y.1 y.2.1 y.2.2 → K .normal (T1948b 0 n i) (H1948 y.2.1 y.2.2 y.1)) :
    Says Try.prog 0 (sub body1948 [1,1,0,0,1,0,0,1,0,1,1,1,1,1]) (T1948c 0 n i 6 true) (H1948 m k cy) K := by
  have hF := hFl (m := m) (k := k) hT.row.flat
  have hm : m = 1 := by have := hT.len; simpa using this
  have hw : wr .i64 ((0 : Int) + 1) = 1 := rfl
  have hpl := placeF_head (tokS (i : Nat)) 0 [] (fun t h => by simp at h)
  have g0 : getO cy 1 = _ := hT.row.get1 (j := 0) (x := (tokS (i : Nat), (0 : Int))) rfl
  have hL : Loops Try.prog body1948 0 (cutE [cut1948 [1,1,1,0,0,1,0,0,1,0,1,1,1,1,1] (T1948d 0 n i true) 0 n i [(tokS (i : Nat), (0 : Int))] [(tokS (i : Nat), (0 : Int))]]) := Loops.noneE.moreE _ fun x K hQ => by
    obtain ⟨h1, h2⟩ := hQ
    exact lastCt hmix n i x.2.1 x.2.2 x.1 hi h1 K h2
  refine (sure1948 hmix).cutN F1948 (hL.gcX (at0 [0]) (at0 [.cell 5 1 2])) [0] [.cell 5 1 2] [0] [] [5,6,7,9] ?_
  rw [r1948B]
  refine Alt_iff.2 ⟨fun h => absurd h (by decide), fun _ => Alt_iff.2 ⟨fun h => absurd h (by decide), fun _ => ⟨trivial, trivial, fun x hx => ?_⟩⟩⟩
  rw [hx.eq]
  simp only [hpl, Int.toNat_zero, Nat.zero_mul, g0, tkG, beq_self_eq_true, show ¬ ((0 : Int) < 0) by decide, show (0 : Int) ≤ 0 by decide, show (0 : Int) < (m : Int) by omega, show intV (Value.int .i64 0) = 0 from rfl, show ¬ ((0 : Int) = 1) by decide, decide_false, hT.at, hT.is, hT.row.flat, hn19, show m ≤ 1000000 by omega, Nat.zero_add, Int.toNat_natCast, Option.getD_some, ↓Alt_ite, ↓reduceIte, ltI_eq, leI_eq, eqI_eq, decide_eq_true_eq, decide_true, Bool.and_true, Bool.true_eq_false, Bool.not_true, Bool.not_false, hw, hF, Alt_iff, Need_iff, ltI_eq, leI_eq, eqI_eq, leN_eq, eqN_eq, decide_eq_true_eq, decide_eq_false_iff_not, decide_true, decide_false, true_and, and_true, Bool.true_eq_false, Bool.false_eq_true, false_implies, true_implies, implies_true, not_true_eq_false, not_false_eq_true, Bool.not_eq_true', Bool.not_eq_false', Nat.zero_add, Nat.add_zero, Nat.sub_zero, Nat.zero_mul, Nat.mul_one, Int.toNat_natCast, List.drop_zero, beqV_int, beqV_sl, beqV_str, beqV_bool, beqV_ptr, beqV_flt, beqV_agg, beqV_tuple, List.all_cons, List.all_nil, Bool.and_self, Bool.and_true, Bool.true_and, Nat.le_refl, Int.le_refl, Nat.zero_le, Option.getD_some, isStr, strV, isInt, intV, isBool, boolV, kindEq, at0, isJunk, Option.isSome_some, Option.isSome_none, if_true, if_false, Nat.add_sub_cancel_left, Nat.add_sub_cancel]
  exact ⟨(cy, m, k), rfl, hT, fun y hy => ⟨hFl hy.row.flat, hK y hy⟩⟩
theorem lastBf (hmix : Try.prog.follows .mixedOrders = true) (o : Int) (n i m k : Nat) (cy : List Value) (R : List Tk) (hR : Rest o i n R) (hT : IsTL R cy m k) (K : Post) (hK : ∀ y : List Value × Nat × Nat, IsTL R y.1 y.2.1 y.2.2 → K .normal (T1948b o n i) (H1948 y.2.1 y.2.2 y.1)) :
    Says Try.prog 0 (sub body1948 [1,1,0,0,1,0,0,1,0,1,1,1,1,1]) (T1948c o n i 0 false) (H1948 m k cy) K := by
  have hF := hFl (m := m) (k := k) hT.row.flat
  have hlR := hR.len
  have hm := hT.len
  have hw := hR.wr
  have hpl := placeF_none _ R hR.ne
  have hL : Loops Try.prog body1948 0 (cutE [cut1948 [1,1,1,0,0,1,0,0,1,0,1,1,1,1,1] (T1948d o n i false) o n i R R]) := Loops.noneE.moreE _ fun x K hQ => by
    obtain ⟨h1, h2⟩ := hQ
    exact lastCf hmix o n i x.2.1 x.2.2 x.1 R hR h1 K h2
  refine (sure1948 hmix).cutN F1948 (hL.gcX (at0 [0]) (at0 [.cell 5 1 2])) [0] [.cell 5 1 2] [0] [] [5,6,7,9] ?_
  rw [r1948B]
  refine Alt_iff.2 ⟨fun h => absurd h (by decide), fun _ => Alt_iff.2 ⟨fun _ => Alt_iff.2 ⟨fun h => absurd h (by decide), fun _ => ⟨trivial, trivial, fun x hx => ?_⟩⟩, fun h => absurd h (by decide)⟩⟩
  rw [hx.eq]
  simp only [hpl, show (-1 : Int) < 0 by decide, show ¬ ((0 : Int) ≤ -1) by decide, hT.at, hT.is, hT.row.flat, hn19, show m ≤ 1000000 by omega, Nat.zero_add, Int.toNat_natCast, Option.getD_some, ↓Alt_ite, ↓reduceIte, ltI_eq, leI_eq, eqI_eq, decide_eq_true_eq, decide_true, Bool.and_true, Bool.true_eq_false, Bool.not_true, Bool.not_false, hw, hF, Alt_iff, Need_iff, ltI_eq, leI_eq, eqI_eq, leN_eq, eqN_eq, decide_eq_true_eq, decide_eq_false_iff_not, decide_true, decide_false, true_and, and_true, Bool.true_eq_false, Bool.false_eq_true, false_implies, true_implies, implies_true, not_true_eq_false, not_false_eq_true, Bool.not_eq_true', Bool.not_eq_false', Nat.zero_add, Nat.add_zero, Nat.sub_zero, Nat.zero_mul, Nat.mul_one, Int.toNat_natCast, List.drop_zero, beqV_int, beqV_sl, beqV_str, beqV_bool, beqV_ptr, beqV_flt, beqV_agg, beqV_tuple, List.all_cons, List.all_nil, Bool.and_self, Bool.and_true, Bool.true_and, Nat.le_refl, Int.le_refl, Nat.zero_le, Option.getD_some, isStr, strV, isInt, intV, isBool, boolV, kindEq, at0, isJunk, Option.isSome_some, Option.isSome_none, if_true, if_false, Nat.add_sub_cancel_left, Nat.add_sub_cancel]
  exact ⟨(cy, m, k), rfl, hT, fun y hy => ⟨hFl hy.row.flat, hK y hy⟩⟩
theorem tkL_cons (o : Int) (i n : Nat) (h : i < n) : tkL o i (n - i) = (tokS (i : Nat), o) :: tkL o (i + 1) (n - (i + 1)) := by
  unfold tkL
  rw [show n - i = (n - (i + 1)) + 1 by omega, List.range'_succ]; rfl
theorem tkL_more (o : Int) (i : Nat) : tkL o 0 i ++ [(tokS (i : Nat), o)] = tkL o 0 (i + 1) := by
  unfold tkL
  rw [List.range'_concat, List.map_append]; simp
theorem tkL_mem {o : Int} {i n : Nat} {t : Tk} (h : t ∈ tkL o i n) : ∃ j, i ≤ j ∧ j < i + n ∧ t = (tokS (j : Nat), o) := by
  unfold tkL at h
  obtain ⟨j, hj, rfl⟩ := List.mem_map.1 h
  have := List.mem_range'_1.1 hj
  exact ⟨j, this.1, this.2, rfl⟩
theorem tkL_len (o : Int) (i n : Nat) : (tkL o i n).length = n := by unfold tkL; simp
theorem tkL_ofL (o : Int) (i n : Nat) : (ofL o (tkL o i n)).length = n := by
  rw [ofL_eq, List.length_map, List.filter_eq_self.2 fun t ht => by obtain ⟨j, _, _, rfl⟩ := tkL_mem ht; exact eqI_iff.2 rfl, tkL_len]
theorem rest_of {o : Int} {i n : Nat} (h : i < n) (hn : n ≤ 4) (h0 : 0 ≤ o) (h2 : o ≤ 2) : Rest o i n (tkL o (i + 1) (n - (i + 1))) :=
  ⟨fun t ht e => by
    obtain ⟨j, a, b, rfl⟩ := tkL_mem ht
    have := tok_inj (by omega) (by omega) e
    omega, fun t ht => by obtain ⟨j, _, _, rfl⟩ := tkL_mem ht; rfl, by rw [tkL_len]; omega, by omega, h0, h2, hn⟩
end Go.Proofs.Ytabbkoegaoekkaa

namespace Go.Proofs.Ytabbkoegaoekkaa
open Go.RowKit Go.Proofs.Ytabbkoegaoekkaa.AM
set_option maxRecDepth 100000
set_option maxHeartbeats 8000000
theorem last_loop2 (hmix : Try.prog.follows .mixedOrders = true) (o : Int) (n : Nat) (h0 : 0 ≤ o) (h2 : o ≤ 2) (hn : n ≤ 4) (K : Post)
    (hK : ∀ y : List Value × Nat × Nat, IsTL (leftL o n) y.1 y.2.1 y.2.2 → K (.exit 2) (tmps 126 [(5, p1 0), (6, .int .i64 o)]) (H1948 y.2.1 y.2.2 y.1)) :
    ∀ (t i m k : Nat) (cy : List Value), i + t = n → IsTL (if i = n then leftL o n else tkL o i (n - i)) cy m k → LSays Try.prog 0 (sub body1948 [0,0,1,0,1,1,1,1,1]) (T1948b o n i) (H1948 m k cy) K := by
  intro t
  induction t with
  | zero =>
    intro i m k cy hi hT
    obtain rfl : i = n := by omega
    rw [if_pos rfl] at hT
    have hF := hFl (m := m) (k := k) hT.row.flat
    have hR : Rest o i i [] := ⟨fun t h => by simp at h, fun t h => by simp at h, by simp, by omega, h0, h2, hn⟩
    have hL : Loops Try.prog body1948 0 (cutE [cut1948 [1,1,0,0,1,0,0,1,0,1,1,1,1,1] (T1948c o i i 0 false) o i i [] []]) := Loops.noneE.moreE _ fun x K hQ => by
      obtain ⟨h1, h2⟩ := hQ
      exact lastBf hmix o i i x.2.1 x.2.2 x.1 [] hR h1 K h2
    refine (sure1948 hmix).roundX F1948 (hL.gcX (at0 [0]) (at0 [.cell 5 1 2])) [0] [.cell 5 1 2] [0] [] [5,6,7,9] ?_
    rw [r1948A]
    simp only [↓Alt_ite, ↓reduceIte, ltI_eq, decide_eq_true_eq, show ¬ ((i : Int) < (i : Int)) by omega, hF, Alt_iff, Need_iff, ltI_eq, leI_eq, eqI_eq, leN_eq, eqN_eq, decide_eq_true_eq, decide_eq_false_iff_not, decide_true, decide_false, true_and, and_true, Bool.true_eq_false, Bool.false_eq_true, false_implies, true_implies, implies_true, not_true_eq_false, not_false_eq_true, Bool.not_eq_true', Bool.not_eq_false', Nat.zero_add, Nat.add_zero, Nat.sub_zero, Nat.zero_mul, Nat.mul_one, Int.toNat_natCast, List.drop_zero, beqV_int, beqV_sl, beqV_str, beqV_bool, beqV_ptr, beqV_flt, beqV_agg, beqV_tuple, List.all_cons, List.all_nil, Bool.and_self, Bool.and_true, Bool.true_and, Nat.le_refl, Int.le_refl, Nat.zero_le, Option.getD_some, isStr, strV, isInt, intV, isBool, boolV, kindEq, at0, isJunk, Option.isSome_some, Option.isSome_none, if_true, if_false, Nat.add_sub_cancel_left, Nat.add_sub_cancel]
    exact hK (cy, m, k) hT
  | succ t ih =>
    intro i m k cy hi hT
    have hin : i < n := by omega
    rw [if_neg (by omega), tkL_cons o i n hin] at hT
    have hR := rest_of hin hn h0 h2
    have hRl : (tkL o (i + 1) (n - (i + 1))).length = n - (i + 1) := tkL_len _ _ _
    have hRo : (ofL o (tkL o (i + 1) (n - (i + 1)))).length = n - (i + 1) := tkL_ofL _ _ _
    have hnext : ∀ y : List Value × Nat × Nat, IsTL (if i + 1 = n then leftL o n else tkL o (i + 1) (n - (i + 1))) y.1 y.2.1 y.2.2 → FlatD [0] (H1948 y.2.1 y.2.2 y.1) ∧ LSays Try.prog 0 (sub body1948 [0,0,1,0,1,1,1,1,1]) (T1948b o n (i + 1)) (H1948 y.2.1 y.2.2 y.1) K := fun y hy => ⟨hFl hy.row.flat, ih (i + 1) y.2.1 y.2.2 y.1 (by omega) hy⟩
    have hF := hFl (m := m) (k := k) hT.row.flat
    have hpl := placeF_head (tokS (i : Nat)) o _ hR.ne
    have g0 : getO cy 1 = _ := hT.row.get1 (j := 0) (x := (tokS (i : Nat), o)) rfl
    have hm : m = n - i := by have := hT.len; simp at this; omega
    have hwn : wr .i64 ((n : Int) - 1) = (n : Int) - 1 := wr_i64 _ (by omega) (by omega)
    have hw : wr .i64 ((0 : Int) + 1) = 0 + 1 := rfl
    have hw1 : wr .i64 (1 : Int) = 1 := rfl
    have hfi : ((ofL o ((tokS (i : Nat), o) :: tkL o (i + 1) (n - (i + 1)))).length : Int) = ((n - i : Nat) : Int) := by
      rw [← tkL_cons o i n hin, tkL_ofL]
    by_cases hlast : o = 0 ∧ i + 1 = n
    · obtain ⟨rfl, hi1⟩ := hlast
      have hR0 : tkL 0 (i + 1) (n - (i + 1)) = [] := by rw [show n - (i + 1) = 0 by omega]; rfl
      have hle : leftL 0 n = [(tokS (i : Nat), (0 : Int))] := by
        unfold leftL; rw [if_pos rfl, show n - 1 = i by omega]; rfl
      rw [hR0] at hT hpl hfi
      rw [if_pos hi1, hle] at hnext
      have hL : Loops Try.prog body1948 0 (cutE [cut1948 [1,1,0,0,1,0,0,1,0,1,1,1,1,1] (T1948c 0 n i 6 true) 0 n i [(tokS (i : Nat), (0 : Int))] [(tokS (i : Nat), (0 : Int))]]) := Loops.noneE.moreE _ fun x K hQ => by
        obtain ⟨h1, h2⟩ := hQ
        exact lastBt hmix n i x.2.1 x.2.2 x.1 (by omega) h1 K h2
      refine (sure1948 hmix).roundX F1948 (hL.gcX (at0 [0]) (at0 [.cell 5 1 2])) [0] [.cell 5 1 2] [0] [] [5,6,7,9] ?_
      rw [r1948A]
      refine Alt_iff.2 ⟨fun _ => ⟨trivial, trivial, fun x hx => ?_⟩, fun h => absurd h (by simp only [ltI_eq, decide_eq_false_iff_not]; omega)⟩
      rw [hx.eq]
      simp only [hpl, Int.toNat_zero, Nat.zero_mul, g0, tkG, hfi, hwn, show ((n - i : Nat) : Int) = 1 by omega, show decide ((i : Int) = (n : Int) - 1) = true from decide_eq_true (by omega), decide_true, nx i (by omega), show intV (Value.int .i64 0) = 0 from rfl, show ¬ ((0 : Int) < 0) by decide, show (0 : Int) ≤ 0 by decide, show (0 : Int) < (m : Int) by omega, hT.at, hT.is, hT.row.flat, hn19, show m ≤ 1000000 by omega, Nat.zero_add, Int.toNat_natCast, Option.getD_some, ↓Alt_ite, ↓reduceIte, ltI_eq, leI_eq, eqI_eq, decide_eq_true_eq, decide_true, Bool.and_true, Bool.true_eq_false, Bool.not_true, Bool.not_false, hw, hF, Alt_iff, Need_iff, ltI_eq, leI_eq, eqI_eq, leN_eq, eqN_eq, decide_eq_true_eq, decide_eq_false_iff_not, decide_true, decide_false, true_and, and_true, Bool.true_eq_false, Bool.false_eq_true, false_implies, true_implies, implies_true, not_true_eq_false, not_false_eq_true, Bool.not_eq_true', Bool.not_eq_false', Nat.zero_add, Nat.add_zero, Nat.sub_zero, Nat.zero_mul, Nat.mul_one, Int.toNat_natCast, List.drop_zero, beqV_int, beqV_sl, beqV_str, beqV_bool, beqV_ptr, beqV_flt, beqV_agg, beqV_tuple, List.all_cons, List.all_nil, Bool.and_self, Bool.and_true, Bool.true_and, Nat.le_refl, Int.le_refl, Nat.zero_le, Option.getD_some, isStr, strV, isInt, intV, isBool, boolV, kindEq, at0, isJunk, Option.isSome_some, Option.isSome_none, if_true, if_false, Nat.add_sub_cancel_left, Nat.add_sub_cancel]
      exact fun _ _ => ⟨(cy, m, k), rfl, hT, hnext⟩
    · have hle : (if i + 1 = n then leftL o n else tkL o (i + 1) (n - (i + 1))) = tkL o (i + 1) (n - (i + 1)) := by
        by_cases e : i + 1 = n
        · rw [if_pos e]; unfold leftL; rw [if_neg (fun h => hlast ⟨h, e⟩), show n - (i + 1) = 0 by omega]; rfl
        · rw [if_neg e]
      rw [hle] at hnext
      have hL : Loops Try.prog body1948 0 (cutE [cut1948 [1,1,0,0,1,0,0,1,0,1,1,1,1,1] (T1948c o n i 0 false) o n i (tkL o (i + 1) (n - (i + 1))) (tkL o (i + 1) (n - (i + 1)))]) := Loops.noneE.moreE _ fun x K hQ => by
        obtain ⟨h1, h2⟩ := hQ
        exact lastBf hmix o n i x.2.1 x.2.2 x.1 _ hR h1 K h2
      refine (sure1948 hmix).roundX F1948 (hL.gcX (at0 [0]) (at0 [.cell 5 1 2])) [0] [.cell 5 1 2] [0] [] [5,6,7,9] ?_
      rw [r1948A]
      refine Alt_iff.2 ⟨fun _ => ⟨trivial, trivial, fun x hx => ?_⟩, fun h => absurd h (by simp only [ltI_eq, decide_eq_false_iff_not]; omega)⟩
      rw [hx.eq]
      by_cases ho : o = 0
      · subst ho
        simp only [hpl, Int.toNat_zero, Nat.zero_mul, g0, tkG, hfi, hwn, hw1, show ¬ (((n - i : Nat) : Int) = 1) by omega, show ¬ ((i : Int) = (n : Int) - 1) by omega, decide_false, Int.zero_add, nx i (by omega), show intV (Value.int .i64 0) = 0 from rfl, show ¬ ((0 : Int) < 0) by decide, show (0 : Int) ≤ 0 by decide, show (0 : Int) < (m : Int) by omega, hT.at, hT.is, hT.row.flat, hn19, show m ≤ 1000000 by omega, Nat.zero_add, Int.toNat_natCast, Option.getD_some, ↓Alt_ite, ↓reduceIte, ltI_eq, leI_eq, eqI_eq, decide_eq_true_eq, decide_true, Bool.and_true, Bool.true_eq_false, Bool.not_true, Bool.not_false, hw, hF, Alt_iff, Need_iff, ltI_eq, leI_eq, eqI_eq, leN_eq, eqN_eq, decide_eq_true_eq, decide_eq_false_iff_not, decide_true, decide_false, true_and, and_true, Bool.true_eq_false, Bool.false_eq_true, false_implies, true_implies, implies_true, not_true_eq_false, not_false_eq_true, Bool.not_eq_true', Bool.not_eq_false', Nat.zero_add, Nat.add_zero, Nat.sub_zero, Nat.zero_mul, Nat.mul_one, Int.toNat_natCast, List.drop_zero, beqV_int, beqV_sl, beqV_str, beqV_bool, beqV_ptr, beqV_flt, beqV_agg, beqV_tuple, List.all_cons, List.all_nil, Bool.and_self, Bool.and_true, Bool.true_and, Nat.le_refl, Int.le_refl, Nat.zero_le, Option.getD_some, isStr, strV, isInt, intV, isBool, boolV, kindEq, at0, isJunk, Option.isSome_some, Option.isSome_none, if_true, if_false, Nat.add_sub_cancel_left, Nat.add_sub_cancel]
        exact fun _ _ x2 q2 => ⟨hFl q2.row.flat, (x2.1, m - 1, x2.2), rfl, q2, hnext⟩
      · simp only [hpl, ho, Int.toNat_zero, Nat.zero_mul, g0, tkG, hwn, hw1, Int.zero_add, nx i (by omega), show intV (Value.int .i64 o) = o from rfl, show ¬ ((0 : Int) < 0) by decide, show (0 : Int) ≤ 0 by decide, show (0 : Int) < (m : Int) by omega, hT.at, hT.is, hT.row.flat, hn19, show m ≤ 1000000 by omega, Nat.zero_add, Int.toNat_natCast, Option.getD_some, ↓Alt_ite, ↓reduceIte, ltI_eq, leI_eq, eqI_eq, decide_eq_true_eq, decide_true, Bool.and_true, Bool.true_eq_false, Bool.not_true, Bool.not_false, hw, hF, Alt_iff, Need_iff, ltI_eq, leI_eq, eqI_eq, leN_eq, eqN_eq, decide_eq_true_eq, decide_eq_false_iff_not, decide_true, decide_false, true_and, and_true, Bool.true_eq_false, Bool.false_eq_true, false_implies, true_implies, implies_true, not_true_eq_false, not_false_eq_true, Bool.not_eq_true', Bool.not_eq_false', Nat.zero_add, Nat.add_zero, Nat.sub_zero, Nat.zero_mul, Nat.mul_one, Int.toNat_natCast, List.drop_zero, beqV_int, beqV_sl, beqV_str, beqV_bool, beqV_ptr, beqV_flt, beqV_agg, beqV_tuple, List.all_cons, List.all_nil, Bool.and_self, Bool.and_true, Bool.true_and, Nat.le_refl, Int.le_refl, Nat.zero_le, Option.getD_some, isStr, strV, isInt, intV, isBool, boolV, kindEq, at0, isJunk, Option.isSome_some, Option.isSome_none, if_true, if_false, Nat.add_sub_cancel_left, Nat.add_sub_cancel]
        exact fun x2 q2 => ⟨hFl q2.row.flat, (x2.1, m - 1, x2.2), rfl, q2, hnext⟩
theorem last_loop1 (hmix : Try.prog.follows .mixedOrders = true) (o : Int) (n : Nat) (h0 : 0 ≤ o) (h2 : o ≤ 2) (hn : n ≤ 4) (K : Post)
    (hK : ∀ y : List Value × Nat × Nat, IsTL (tkL o 0 n) y.1 y.2.1 y.2.2 → K (.exit 0) (tmps 126 [(5, p1 0), (6, .int .i64 o), (7, .int .i64 n)]) (H1948 y.2.1 y.2.2 y.1)) :
    ∀ (t i m k : Nat) (cy : List Value), i + t = n → IsTL (tkL o 0 i) cy m k → LSays Try.prog 0 (sub body1948 [0,0,1,0,1,1,1,1]) (T1948a o n i) (H1948 m k cy) K := by
  intro t
  induction t with
  | zero =>
    intro i m k cy hi hT
    obtain rfl : i = n := by omega
    have hF := hFl (m := m) (k := k) hT.row.flat
    refine (sure1948 hmix).roundX F1948 noLoops [0] [.cell 5 1 2] [0] [] [5,6,7,8] ?_
    rw [r1948a]
    simp only [↓Alt_ite, ↓reduceIte, ltI_eq, decide_eq_true_eq, show ¬ ((i : Int) < (i : Int)) by omega, hF, Alt_iff, Need_iff, ltI_eq, leI_eq, eqI_eq, leN_eq, eqN_eq, decide_eq_true_eq, decide_eq_false_iff_not, decide_true, decide_false, true_and, and_true, Bool.true_eq_false, Bool.false_eq_true, false_implies, true_implies, implies_true, not_true_eq_false, not_false_eq_true, Bool.not_eq_true', Bool.not_eq_false', Nat.zero_add, Nat.add_zero, Nat.sub_zero, Nat.zero_mul, Nat.mul_one, Int.toNat_natCast, List.drop_zero, beqV_int, beqV_sl, beqV_str, beqV_bool, beqV_ptr, beqV_flt, beqV_agg, beqV_tuple, List.all_cons, List.all_nil, Bool.and_self, Bool.and_true, Bool.true_and, Nat.le_refl, Int.le_refl, Nat.zero_le, Option.getD_some, isStr, strV, isInt, intV, isBool, boolV, kindEq, at0, isJunk, Option.isSome_some, Option.isSome_none, if_true, if_false, Nat.add_sub_cancel_left, Nat.add_sub_cancel]
    exact hK (cy, m, k) hT
  | succ t ih =>
    intro i m k cy hi hT
    have hin : i < n := by omega
    have hF := hFl (m := m) (k := k) hT.row.flat
    have hm : m = i := by have := hT.len; rwa [tkL_len] at this
    have hw : wr .i64 ((0 : Int) + 1) = 0 + 1 := rfl
    obtain ⟨z1, z2⟩ := tok_size (j := i) (by omega)
    have hpl := placeF_none (tokS (i : Nat)) (tkL o 0 i) fun t ht e => by
      obtain ⟨j, a, b, rfl⟩ := tkL_mem ht
      have := tok_inj (by omega) (by omega) e
      omega
    have hwc : cy.take (m * 2) ++ [.string (tokS (i : Nat)), .int .i64 o] = pC tkF tkG (tkL o 0 (i + 1)) := by
      have := hT.row.whole
      rw [tkL_len] at this
      rw [hm, this, ← tkL_more, pC_append]; rfl
    have hrow : TSl (pC tkF tkG (tkL o 0 (i + 1))) (tkL o 0 (i + 1)) := PSl.own0 (fun _ => rfl) (fun _ => rfl) fun t ht => by
      obtain ⟨j, a, b, rfl⟩ := tkL_mem ht
      have := (tok_size (j := j) (by omega)).2
      exact ⟨by show (tokS (j : Nat)).size ≤ 1000000; omega, show ZP .i64 o from ZP.i64.2 ⟨by omega, by omega⟩⟩
    have hsz := hT.row.size
    rw [tkL_len] at hsz
    refine (sure1948 hmix).roundX F1948 noLoops [0] [.cell 5 1 2] [0] [] [5,6,7,8] ?_
    rw [r1948a]
    refine Alt_iff.2 ⟨fun _ => ⟨trivial, trivial, fun x hx => ?_⟩, fun h => absurd h (by simp only [ltI_eq, decide_eq_false_iff_not]; omega)⟩
    rw [hx.eq]
    simp only [List.drop_zero, hwc, hpl, tkL_ofL, nx i (by omega), show (-1 : Int) < 0 by decide, show ¬ ((0 : Int) ≤ -1) by decide, show ¬ (o < 0) by omega, show 4 ≤ ((tokS (i : Nat)).size : Int) by omega, show ((tokS (i : Nat)).size : Int) ≤ 16 by omega, show intV (Value.int .i64 4) = 4 from rfl, show ¬ ((4 : Int) ≤ (i : Int)) by omega, hT.at, hT.is, hT.row.flat, hn19, show m ≤ 1000000 by omega, Nat.zero_add, Int.toNat_natCast, Option.getD_some, ↓Alt_ite, ↓reduceIte, ltI_eq, leI_eq, eqI_eq, decide_eq_true_eq, decide_true, Bool.and_true, Bool.true_eq_false, Bool.not_true, Bool.not_false, hw, hF, Alt_iff, Need_iff, ltI_eq, leI_eq, eqI_eq, leN_eq, eqN_eq, decide_eq_true_eq, decide_eq_false_iff_not, decide_true, decide_false, true_and, and_true, Bool.true_eq_false, Bool.false_eq_true, false_implies, true_implies, implies_true, not_true_eq_false, not_false_eq_true, Bool.not_eq_true', Bool.not_eq_false', Nat.zero_add, Nat.add_zero, Nat.sub_zero, Nat.zero_mul, Nat.mul_one, Int.toNat_natCast, List.drop_zero, beqV_int, beqV_sl, beqV_str, beqV_bool, beqV_ptr, beqV_flt, beqV_agg, beqV_tuple, List.all_cons, List.all_nil, Bool.and_self, Bool.and_true, Bool.true_and, Nat.le_refl, Int.le_refl, Nat.zero_le, Option.getD_some, isStr, strV, isInt, intV, isBool, boolV, kindEq, at0, isJunk, Option.isSome_some, Option.isSome_none, if_true, if_false, Nat.add_sub_cancel_left, Nat.add_sub_cancel]
    refine fun x1 _ => ⟨by omega, by omega, by omega, hFl hrow.flat, ih (i + 1) (m + 1) (m + 1) _ (by omega) ⟨hrow, by rw [tkL_len, hm], Nat.le_refl _⟩⟩
theorem law1948 (hmix : Try.prog.follows .mixedOrders = true) (ow nn : Int) (h1 : 0 ≤ ow ∧ ow < 256) (h2 : 0 ≤ nn ∧ nn < 256) :
    FunSays Try.prog 7 [.int .u8 ow, .int .u8 nn] (hp []) fun v _ => v = .bool true := by
  obtain ⟨o, ho⟩ : ∃ o, o = ow.tmod 3 := ⟨_, rfl⟩
  obtain ⟨r, hr⟩ : ∃ r, r = nn.tmod 4 := ⟨_, rfl⟩
  have e1 : ow.tmod 3 = ow % 3 := Int.tmod_eq_emod_of_nonneg h1.1
  have e2 : nn.tmod 4 = nn % 4 := Int.tmod_eq_emod_of_nonneg h2.1
  have ho0 : 0 ≤ o := by omega
  have ho2 : o ≤ 2 := by omega
  have hn4 : r.toNat + 1 ≤ 4 := by omega
  have hF : FlatD [] (hp []) := FlatD.hp trivial
  have hL : Loops Try.prog body1948 0 (cutE [cut1948x o (r.toNat + 1), cut1948y o (r.toNat + 1)]) := (Loops.noneE.moreE (cut1948y o (r.toNat + 1)) fun x K hQ => by
    obtain ⟨⟨q1, q2⟩, q3⟩ := hQ
    have q2 : x.1 < r.toNat + 1 := q2
    exact last_loop2 hmix o (r.toNat + 1) ho0 ho2 hn4 K q3 (r.toNat + 1 - x.1) x.1 x.2.2.1 x.2.2.2 x.2.1 (by omega) (by rw [if_neg (by omega)]; exact q1)).moreE (cut1948x o (r.toNat + 1)) fun x K hQ => by
    obtain ⟨⟨q1, q2⟩, q3⟩ := hQ
    have q2 : x.1 ≤ r.toNat + 1 := q2
    exact last_loop1 hmix o (r.toNat + 1) ho0 ho2 hn4 K q3 (r.toNat + 1 - x.1) x.1 x.2.2.1 x.2.2.2 x.2.1 (by omega) q1
  refine (sure1948 hmix).funX F1948 body1948 [] [] Try.func7 rfl (hL.gcX (at0 [0]) (at0 [.cell 5 1 2])) ?_
  rw [w1948, ← ho, ← hr, show wr .i64 o = o from wr_i64 _ (by omega) (by omega), show wr .i64 (wr .i64 r + 1) = ((r.toNat + 1 : Nat) : Int) by rw [show wr .i64 r = r from wr_i64 _ (by omega) (by omega), wr_i64 _ (by omega) (by omega)]; omega]
  have e0 : TSl [] [] := ⟨rfl, fun x (h : x ∈ ([] : List Tk)) => by simp at h, .mk fun x (h : x ∈ ([] : List Value)) => by simp at h⟩
  refine ⟨hFl e0.flat, (0, [], 0, 0), rfl, rfl, ⟨⟨e0, rfl, Nat.le_refl _⟩, Nat.zero_le _⟩, fun y hy => ⟨hFl hy.row.flat, (0, y.1, y.2.1, y.2.2), rfl, rfl, ⟨hy, Nat.succ_le_succ (Nat.zero_le _)⟩, fun z hz => ?_⟩⟩
  have hzl : z.2.1 ≤ 1 := by
    have := hz.len
    unfold leftL at this
    split at this
    · rw [tkL_len] at this; omega
    · simp at this; omega
  have hd : dropL o (leftL o (r.toNat + 1)) = [] := by
    unfold leftL dropL
    split
    · exact List.filter_eq_nil_iff.2 fun t ht => by obtain ⟨j, _, _, rfl⟩ := tkL_mem ht; simp [eqI_iff.2]
    · rfl
  have hlen : (z.2.1 : Int) = if o = 0 then 1 else 0 := by
    have := hz.len
    unfold leftL at this
    split at this
    · rename_i h; rw [if_pos h]; rw [tkL_len] at this; omega
    · rename_i h; rw [if_neg h]; simp at this; omega
  have hfo : FlatL [Value.int .i64 o] := .mk fun v hv => by rcases List.mem_singleton.1 hv with rfl; rfl
  have hno : ofL o [] = [] := rfl
  rw [hz.at, hd]
  refine Alt_iff.2 ⟨fun h => ?_, fun h => ?_⟩
  · have h0 : o = 0 := eqI_iff.1 h
    rw [if_pos h0] at hlen
    refine ⟨⟨hz.row.flat, hfo, trivial⟩, ⟨trivial, hz.is, by simp only [show z.2.1 ≤ 1000000 by omega, Alt_iff, Need_iff, ltI_eq, leI_eq, eqI_eq, leN_eq, eqN_eq, decide_eq_true_eq, decide_eq_false_iff_not, decide_true, decide_false, true_and, and_true, Bool.true_eq_false, Bool.false_eq_true, false_implies, true_implies, implies_true, not_true_eq_false, not_false_eq_true, Bool.not_eq_true', Bool.not_eq_false', Nat.zero_add, Nat.add_zero, Nat.sub_zero, Nat.zero_mul, Nat.mul_one, Int.toNat_natCast, List.drop_zero, beqV_int, beqV_sl, beqV_str, beqV_bool, beqV_ptr, beqV_flt, beqV_agg, beqV_tuple, List.all_cons, List.all_nil, Bool.and_self, Bool.and_true, Bool.true_and, Nat.le_refl, Int.le_refl, Nat.zero_le, Option.getD_some, isStr, strV, isInt, intV, isBool, boolV, kindEq, at0, isJunk, Option.isSome_some, Option.isSome_none, if_true, if_false, Nat.add_sub_cancel_left, Nat.add_sub_cancel]⟩, fun x hx => ?_⟩
    have hxa : tksAt x 0 = [] := hx.at
    have hxi : IsP tkF tkG TkOk x 0 z.2.2 := hx.is
    have hwr : wr .i64 ((z.2.1 : Int) - 0) = 1 := by rw [hlen]; rfl
    simp only [hwr, hxa, hxi, hx.row.flat, hno, hn19, List.length_nil, hF, ↓Alt_ite, ↓reduceIte, eqI_eq, decide_eq_true_eq, decide_true, show ((0 : Nat) : Int) = 0 from rfl, show (0 : Nat) ≤ 1000000 by decide, Alt_iff, Need_iff, ltI_eq, leI_eq, eqI_eq, leN_eq, eqN_eq, decide_eq_true_eq, decide_eq_false_iff_not, decide_true, decide_false, true_and, and_true, Bool.true_eq_false, Bool.false_eq_true, false_implies, true_implies, implies_true, not_true_eq_false, not_false_eq_true, Bool.not_eq_true', Bool.not_eq_false', Nat.zero_add, Nat.add_zero, Nat.sub_zero, Nat.zero_mul, Nat.mul_one, Int.toNat_natCast, List.drop_zero, beqV_int, beqV_sl, beqV_str, beqV_bool, beqV_ptr, beqV_flt, beqV_agg, beqV_tuple, List.all_cons, List.all_nil, Bool.and_self, Bool.and_true, Bool.true_and, Nat.le_refl, Int.le_refl, Nat.zero_le, Option.getD_some, isStr, strV, isInt, intV, isBool, boolV, kindEq, at0, isJunk, Option.isSome_some, Option.isSome_none, if_true, if_false, Nat.add_sub_cancel_left, Nat.add_sub_cancel]
  · have h0 : ¬ o = 0 := fun e => by rw [eqI_iff.2 e] at h; cases h
    rw [if_neg h0] at hlen
    refine ⟨⟨hz.row.flat, hfo, trivial⟩, ⟨trivial, hz.is, by simp only [show z.2.1 ≤ 1000000 by omega, Alt_iff, Need_iff, ltI_eq, leI_eq, eqI_eq, leN_eq, eqN_eq, decide_eq_true_eq, decide_eq_false_iff_not, decide_true, decide_false, true_and, and_true, Bool.true_eq_false, Bool.false_eq_true, false_implies, true_implies, implies_true, not_true_eq_false, not_false_eq_true, Bool.not_eq_true', Bool.not_eq_false', Nat.zero_add, Nat.add_zero, Nat.sub_zero, Nat.zero_mul, Nat.mul_one, Int.toNat_natCast, List.drop_zero, beqV_int, beqV_sl, beqV_str, beqV_bool, beqV_ptr, beqV_flt, beqV_agg, beqV_tuple, List.all_cons, List.all_nil, Bool.and_self, Bool.and_true, Bool.true_and, Nat.le_refl, Int.le_refl, Nat.zero_le, Option.getD_some, isStr, strV, isInt, intV, isBool, boolV, kindEq, at0, isJunk, Option.isSome_some, Option.isSome_none, if_true, if_false, Nat.add_sub_cancel_left, Nat.add_sub_cancel]⟩, fun x hx => ?_⟩
    have hxa : tksAt x 0 = [] := hx.at
    have hxi : IsP tkF tkG TkOk x 0 z.2.2 := hx.is
    have hwr : wr .i64 ((z.2.1 : Int) - 0) = 0 := by rw [hlen]; rfl
    simp only [hwr, hxa, hxi, hx.row.flat, hno, hn19, List.length_nil, hF, ↓Alt_ite, ↓reduceIte, eqI_eq, decide_eq_true_eq, decide_true, show ((0 : Nat) : Int) = 0 from rfl, show (0 : Nat) ≤ 1000000 by decide, Alt_iff, Need_iff, ltI_eq, leI_eq, eqI_eq, leN_eq, eqN_eq, decide_eq_true_eq, decide_eq_false_iff_not, decide_true, decide_false, true_and, and_true, Bool.true_eq_false, Bool.false_eq_true, false_implies, true_implies, implies_true, not_true_eq_false, not_false_eq_true, Bool.not_eq_true', Bool.not_eq_false', Nat.zero_add, Nat.add_zero, Nat.sub_zero, Nat.zero_mul, Nat.mul_one, Int.toNat_natCast, List.drop_zero, beqV_int, beqV_sl, beqV_str, beqV_bool, beqV_ptr, beqV_flt, beqV_agg, beqV_tuple, List.all_cons, List.all_nil, Bool.and_self, Bool.and_true, Bool.true_and, Nat.le_refl, Int.le_refl, Nat.zero_le, Option.getD_some, isStr, strV, isInt, intV, isBool, boolV, kindEq, at0, isJunk, Option.isSome_some, Option.isSome_none, if_true, if_false, Nat.add_sub_cancel_left, Nat.add_sub_cancel]
theorem law1948z (hmix : Try.prog.follows .mixedOrders = true) (ow nn : Int) (h1 : ZP .u8 ow) (h2 : ZP .u8 nn) :
    FunSays Try.prog 7 [.int .u8 ow, .int .u8 nn] (hp []) fun v _ => v = .bool true := law1948 hmix ow nn (by have := ZP.u8.1 h1; omega) (by have := ZP.u8.1 h2; omega)
end Go.Proofs.Ytabbkoegaoekkaa
