/- Proved: what functions of the program come to, by their conditions over the abstract machine. Conditions: those that each theorem states. -/
import Derived.Test.YtmgnlkefhmhkhaaCh1
set_option linter.unusedVariables false
set_option linter.unusedSimpArgs false
namespace Go.Proofs.Ytmgnlkefhmhkhaa
open Go.RowKit Go.Proofs.Ytmgnlkefhmhkhaa.AM
set_option maxRecDepth 100000
set_option maxHeartbeats 4000000
noncomputable def body1331 : Code := (Try.f6.body).getD .skip
def F1331 : List Nat → Option (List Nat) := fun p => match p with
  | [1] => some [0, 1, 2, 3, 4]
  | [1, 0, 1] => some [0, 1, 2, 3, 4, 23]
  | [1, 0, 1, 0, 1] => some [10]
  | [1, 1] => some [0, 1, 2, 3, 4]
  | [1, 1, 1] => some [0, 1, 2, 3, 4, 11]
  | [1, 0, 1, 1, 1] => some [0, 1, 2, 3, 4, 11, 27]
  | [1, 0, 1, 0, 1, 1, 1] => some [10]
  | [1, 1, 1, 1] => some [1000000, 0, 1, 2, 3, 4, 11]
  | [1, 1, 1, 1, 1] => some [0, 1, 3, 4, 11]
  | [1, 1, 1, 1, 1, 1] => some [0, 1, 3, 4, 11]
  | [1, 1, 1, 1, 1, 1, 1] => some [1000000, 0, 1, 3, 4, 11]
  | [1, 1, 1, 1, 1, 1, 1, 1] => some [0, 1, 3, 4, 11, 12, 13]
  | [1, 1, 1, 1, 1, 1, 1, 1, 1] => some [0, 1, 3, 4, 11, 12, 13, 14, 15]
  | [1, 0, 1, 1, 1, 1, 1, 1, 1, 1, 1] => some [0, 1, 3, 4, 11, 72]
  | [1, 0, 1, 0, 1, 1, 1, 1, 1, 1, 1, 1, 1] => some [10]
  | [1, 1, 1, 1, 1, 1, 1, 1, 1, 1] => some [1000000, 0, 1, 3, 4, 11]
  | [1, 1, 1, 1, 1, 1, 1, 1, 1, 1, 1] => some [0, 1, 3, 4, 11, 16, 17, 18]
  | [1, 1, 1, 1, 1, 1, 1, 1, 1, 1, 1, 1] => some [0, 1, 3, 4, 11, 16, 17, 18, 19, 20]
  | [1, 0, 1, 1, 1, 1, 1, 1, 1, 1, 1, 1, 1, 1] => some [0, 1, 4, 11, 16, 17, 18, 19, 20, 93]
  | [1, 1, 1, 1, 1, 1, 1, 1, 1, 1, 1, 1, 1] => some [1000000, 0, 1, 11, 16, 17, 18, 19, 20]
  | [1, 0, 1, 1, 1, 1, 1, 1, 1, 1, 1, 1, 1, 1, 1] => some [1, 11, 118]
  | [1, 0, 1, 0, 1, 1, 1, 1, 1, 1, 1, 1, 1, 1, 1, 1, 1] => some [10]
  | [1, 1, 1, 1, 1, 1, 1, 1, 1, 1, 1, 1, 1, 1] => some [1000000, 1, 11]
  | [1, 1, 1, 1, 1, 1, 1, 1, 1, 1, 1, 1, 1, 1, 1] => some [10]
  | _ => none
noncomputable def T1331 (id other a b c : Int) : List Value := tmps 132 [(0, .int .i64 id), (1, .int .i64 other), (2, .int .u64 a), (3, .int .u64 b), (4, .int .u64 c), (11, p1 0)]
noncomputable def A1331 (id other b c : Int) : List Value := tmps 132 [(0, .int .i64 id), (1, .int .i64 other), (3, .int .u64 b), (4, .int .u64 c), (11, p1 0)]
noncomputable def C1331 (id other n due first when : Int) : List Value := tmps 132 [(0, .int .i64 id), (1, .int .i64 other), (11, p1 0), (16, .int .i64 n), (17, .int .u64 due), (18, .bool true), (19, .int .i64 first), (20, .int .u64 when)]
noncomputable def D1331 (other : Int) : List Value := tmps 132 [(1, .int .i64 other), (11, p1 0)]
noncomputable def cutM (p : List Nat) (t : List Value) (L : List Re) (Q : Post → Prop) : CutE where
  β := Nat
  p := p
  t := fun _ => t
  h := fun _ => hp (hQ L.length (reC L))
  Q := fun _ K => Q K
noncomputable def qEnd (r : Bool) (K : Post) : Prop := K .ret (tmps 132 [(10, .bool true)]) (hp [])

theorem r1331D (n : Nat) (cs : List Value) (other : Int) (K : Post) :
  roundX Try.prog SM noLoop F1331 body1331 0 [] [] [] [] [] [1,1,1,1,1,1,1,1,1,1,1,1,1,1] (D1331 other) (hp (hQ n cs)) K = (
(nojL [Value.slice (some { block := 1, off := 0, spot := some 1 : Addr }) n n] = true ∧ FlatL cs ∧ True) ∧
  IsRC cs n n ∧
    (FlatL (iC (ripeE 18446744073709551615 (resAt cs n))) ∧ FlatL [Value.int IntKind.i64 other] ∧ True) ∧
      (IsE (iE IntKind.i64) (ZP IntKind.i64) (iC (ripeE 18446744073709551615 (resAt cs n))) 0
            (ripeE 18446744073709551615 (resAt cs n)).length (ripeE 18446744073709551615 (resAt cs n)).length ∧
          IsE (iE IntKind.i64) (ZP IntKind.i64) [Value.int IntKind.i64 other] 0 1 1) ∧
        Alt
          (sameI
            (intsAt (iC (ripeE 18446744073709551615 (resAt cs n))) 0 (ripeE 18446744073709551615 (resAt cs n)).length)
            (intsAt [Value.int IntKind.i64 other] 0 1))
          (Alt (eqI (↑(restE 18446744073709551615 (resAt cs n)).length : Int) 0)
            (True ∧ True ∧ K AE.ret (tmps 132 [(10, Value.bool true)]) (hp []))
            (K AE.ret (tmps 132 [(10, Value.bool false)]) (hp [])))
          (K AE.ret (tmps 132 [(10, Value.bool false)]) (hp []))) := by kernel_rfl

noncomputable def cutD (other : Int) (L : List Re) (Q : Post → Prop) : CutE := cutM [1,1,1,1,1,1,1,1,1,1,1,1,1,1] (D1331 other) L Q

theorem r1331C (n : Nat) (cs : List Value) (L : List Re) (id other x due first when : Int) (Q : Post → Prop) (K : Post) :
  roundX Try.prog SM (gcLKX (at0 [0]) (at0 []) 0 (cutE [cutD other L Q])) F1331 body1331 0 [] [] [] [] [] [1,1,1,1,1,1,1,1,1,1,1,1,1] (C1331 id other x due first when) (hp (hQ n cs)) K = (
Alt (!eqI x first) (K AE.ret (tmps 132 [(10, Value.bool false)]) (hp []))
  (Alt (!eqI due when) (K AE.ret (tmps 132 [(10, Value.bool false)]) (hp []))
    ((nojL [Value.slice (some { block := 1, off := 0, spot := some 1 : Addr }) n n] = true ∧ FlatL cs ∧ True) ∧
      IsRC cs n n ∧
        Alt (!hasE id (resAt cs n)) (K AE.ret (tmps 132 [(10, Value.bool false)]) (hp []))
          ((nojL
                  [Value.slice (some { block := 1, off := 0, spot := some 1 : Addr }) (dropE id (resAt cs n)).length
                      (dropE id (resAt cs n)).length] =
                true ∧
              FlatL (reC (dropE id (resAt cs n))) ∧ True) ∧
            IsRC (reC (dropE id (resAt cs n))) (dropE id (resAt cs n)).length (dropE id (resAt cs n)).length ∧
              Alt (hasE id (resAt (reC (dropE id (resAt cs n))) (dropE id (resAt cs n)).length))
                (K AE.ret (tmps 132 [(10, Value.bool false)]) (hp []))
                (FlatD [0]
                    (hp
                      [Blk.cells
                          [Value.slice (some { block := 1, off := 0, spot := some 1 : Addr })
                              (dropE id (resAt (reC (dropE id (resAt cs n))) (dropE id (resAt cs n)).length)).length
                              (dropE id (resAt (reC (dropE id (resAt cs n))) (dropE id (resAt cs n)).length)).length]
                          1 true,
                        Blk.cells (reC (dropE id (resAt (reC (dropE id (resAt cs n))) (dropE id (resAt cs n)).length)))
                          2 true]) ∧
                  ∃ (b : Nat),
                    tmps 132
                          [(1, Value.int IntKind.i64 other),
                            (11, Value.pointer (some { block := 0, off := 0 : Addr }))] =
                        tmps 132
                          [(1, Value.int IntKind.i64 other),
                            (11, Value.pointer (some { block := 0, off := 0 : Addr }))] ∧
                      hp
                            [Blk.cells
                                [Value.slice (some { block := 1, off := 0, spot := some 1 : Addr })
                                    (dropE id
                                        (resAt (reC (dropE id (resAt cs n))) (dropE id (resAt cs n)).length)).length
                                    (dropE id
                                        (resAt (reC (dropE id (resAt cs n))) (dropE id (resAt cs n)).length)).length]
                                1 true,
                              Blk.cells
                                (reC (dropE id (resAt (reC (dropE id (resAt cs n))) (dropE id (resAt cs n)).length))) 2
                                true] =
                          hp
                            [Blk.cells
                                [Value.slice (some { block := 1, off := 0, spot := some 1 : Addr }) L.length L.length] 1
                                true,
                              Blk.cells (reC L) 2 true] ∧
                        Q (autoX [] [] [] [] 0 [] K)))))) := by kernel_rfl

noncomputable def cutC (id other x due first when : Int) (L : List Re) (Q : Post → Prop) : CutE := cutM [1,1,1,1,1,1,1,1,1,1,1,1,1] (C1331 id other x due first when) L Q

theorem r1331B (n : Nat) (cs : List Value) (L : List Re) (id other b c x due first when : Int) (Q : Post → Prop) (K : Post) :
  roundX Try.prog SM (gcLKX (at0 [0]) (at0 []) 0 (cutE [cutC id other x due first when L Q])) F1331 body1331 0 [] [] [] [] [] [1,1,1,1,1,1,1,1,1,1] (A1331 id other b c) (hp (hQ n cs)) K = (
Alt (eqI (↑n : Int) 0)
  (Alt (ltI c b)
    (FlatD [0]
        (hp
          [Blk.cells [Value.slice (some { block := 1, off := 0, spot := some 1 : Addr }) n n] 1 true,
            Blk.cells cs 2 true]) ∧
      ∃ (b : Nat),
        tmps 132
              [(0, Value.int IntKind.i64 id), (1, Value.int IntKind.i64 other),
                (11, Value.pointer (some { block := 0, off := 0 : Addr })), (16, Value.int IntKind.i64 0),
                (17, Value.int IntKind.u64 0), (18, Value.bool false), (19, Value.int IntKind.i64 other),
                (20, Value.int IntKind.u64 c)] =
            tmps 132
              [(0, Value.int IntKind.i64 id), (1, Value.int IntKind.i64 other),
                (11, Value.pointer (some { block := 0, off := 0 : Addr })), (16, Value.int IntKind.i64 x),
                (17, Value.int IntKind.u64 due), (18, Value.bool true), (19, Value.int IntKind.i64 first),
                (20, Value.int IntKind.u64 when)] ∧
          hp
                [Blk.cells [Value.slice (some { block := 1, off := 0, spot := some 1 : Addr }) n n] 1 true,
                  Blk.cells cs 2 true] =
              hp
                [Blk.cells [Value.slice (some { block := 1, off := 0, spot := some 1 : Addr }) L.length L.length] 1
                    true,
                  Blk.cells (reC L) 2 true] ∧
            Q (autoX [] [] [] [] 0 [] K))
    (Alt (eqI c b)
      (Alt (ltI other id)
        (FlatD [0]
            (hp
              [Blk.cells [Value.slice (some { block := 1, off := 0, spot := some 1 : Addr }) n n] 1 true,
                Blk.cells cs 2 true]) ∧
          ∃ (b : Nat),
            tmps 132
                  [(0, Value.int IntKind.i64 id), (1, Value.int IntKind.i64 other),
                    (11, Value.pointer (some { block := 0, off := 0 : Addr })), (16, Value.int IntKind.i64 0),
                    (17, Value.int IntKind.u64 0), (18, Value.bool false), (19, Value.int IntKind.i64 other),
                    (20, Value.int IntKind.u64 c)] =
                tmps 132
                  [(0, Value.int IntKind.i64 id), (1, Value.int IntKind.i64 other),
                    (11, Value.pointer (some { block := 0, off := 0 : Addr })), (16, Value.int IntKind.i64 x),
                    (17, Value.int IntKind.u64 due), (18, Value.bool true), (19, Value.int IntKind.i64 first),
                    (20, Value.int IntKind.u64 when)] ∧
              hp
                    [Blk.cells [Value.slice (some { block := 1, off := 0, spot := some 1 : Addr }) n n] 1 true,
                      Blk.cells cs 2 true] =
                  hp
                    [Blk.cells [Value.slice (some { block := 1, off := 0, spot := some 1 : Addr }) L.length L.length] 1
                        true,
                      Blk.cells (reC L) 2 true] ∧
                Q (autoX [] [] [] [] 0 [] K))
        (FlatD [0]
            (hp
              [Blk.cells [Value.slice (some { block := 1, off := 0, spot := some 1 : Addr }) n n] 1 true,
                Blk.cells cs 2 true]) ∧
          ∃ (b_1 : Nat),
            tmps 132
                  [(0, Value.int IntKind.i64 id), (1, Value.int IntKind.i64 other),
                    (11, Value.pointer (some { block := 0, off := 0 : Addr })), (16, Value.int IntKind.i64 0),
                    (17, Value.int IntKind.u64 0), (18, Value.bool false), (19, Value.int IntKind.i64 id),
                    (20, Value.int IntKind.u64 b)] =
                tmps 132
                  [(0, Value.int IntKind.i64 id), (1, Value.int IntKind.i64 other),
                    (11, Value.pointer (some { block := 0, off := 0 : Addr })), (16, Value.int IntKind.i64 x),
                    (17, Value.int IntKind.u64 due), (18, Value.bool true), (19, Value.int IntKind.i64 first),
                    (20, Value.int IntKind.u64 when)] ∧
              hp
                    [Blk.cells [Value.slice (some { block := 1, off := 0, spot := some 1 : Addr }) n n] 1 true,
                      Blk.cells cs 2 true] =
                  hp
                    [Blk.cells [Value.slice (some { block := 1, off := 0, spot := some 1 : Addr }) L.length L.length] 1
                        true,
                      Blk.cells (reC L) 2 true] ∧
                Q (autoX [] [] [] [] 0 [] K)))
      (FlatD [0]
          (hp
            [Blk.cells [Value.slice (some { block := 1, off := 0, spot := some 1 : Addr }) n n] 1 true,
              Blk.cells cs 2 true]) ∧
        ∃ (b_1 : Nat),
          tmps 132
                [(0, Value.int IntKind.i64 id), (1, Value.int IntKind.i64 other),
                  (11, Value.pointer (some { block := 0, off := 0 : Addr })), (16, Value.int IntKind.i64 0),
                  (17, Value.int IntKind.u64 0), (18, Value.bool false), (19, Value.int IntKind.i64 id),
                  (20, Value.int IntKind.u64 b)] =
              tmps 132
                [(0, Value.int IntKind.i64 id), (1, Value.int IntKind.i64 other),
                  (11, Value.pointer (some { block := 0, off := 0 : Addr })), (16, Value.int IntKind.i64 x),
                  (17, Value.int IntKind.u64 due), (18, Value.bool true), (19, Value.int IntKind.i64 first),
                  (20, Value.int IntKind.u64 when)] ∧
            hp
                  [Blk.cells [Value.slice (some { block := 1, off := 0, spot := some 1 : Addr }) n n] 1 true,
                    Blk.cells cs 2 true] =
                hp
                  [Blk.cells [Value.slice (some { block := 1, off := 0, spot := some 1 : Addr }) L.length L.length] 1
                      true,
                    Blk.cells (reC L) 2 true] ∧
              Q (autoX [] [] [] [] 0 [] K))))
  (Need (ltI 0 (↑n : Int))
    (Need (isInt IntKind.i64 ((getO cs 1).getD undef))
      (Need (ltI 0 (↑n : Int))
        (Need (isInt IntKind.u64 ((getO cs 0).getD undef))
          (Alt (ltI c b)
            (FlatD [0]
                (hp
                  [Blk.cells [Value.slice (some { block := 1, off := 0, spot := some 1 : Addr }) n n] 1 true,
                    Blk.cells cs 2 true]) ∧
              ∃ (b : Nat),
                tmps 132
                      [(0, Value.int IntKind.i64 id), (1, Value.int IntKind.i64 other),
                        (11, Value.pointer (some { block := 0, off := 0 : Addr })),
                        (16, Value.int IntKind.i64 (intV ((getO cs 1).getD undef))),
                        (17, Value.int IntKind.u64 (intV ((getO cs 0).getD undef))), (18, Value.bool true),
                        (19, Value.int IntKind.i64 other), (20, Value.int IntKind.u64 c)] =
                    tmps 132
                      [(0, Value.int IntKind.i64 id), (1, Value.int IntKind.i64 other),
                        (11, Value.pointer (some { block := 0, off := 0 : Addr })), (16, Value.int IntKind.i64 x),
                        (17, Value.int IntKind.u64 due), (18, Value.bool true), (19, Value.int IntKind.i64 first),
                        (20, Value.int IntKind.u64 when)] ∧
                  hp
                        [Blk.cells [Value.slice (some { block := 1, off := 0, spot := some 1 : Addr }) n n] 1 true,
                          Blk.cells cs 2 true] =
                      hp
                        [Blk.cells
                            [Value.slice (some { block := 1, off := 0, spot := some 1 : Addr }) L.length L.length] 1
                            true,
                          Blk.cells (reC L) 2 true] ∧
                    Q (autoX [] [] [] [] 0 [] K))
            (Alt (eqI c b)
              (Alt (ltI other id)
                (FlatD [0]
                    (hp
                      [Blk.cells [Value.slice (some { block := 1, off := 0, spot := some 1 : Addr }) n n] 1 true,
                        Blk.cells cs 2 true]) ∧
                  ∃ (b : Nat),
                    tmps 132
                          [(0, Value.int IntKind.i64 id), (1, Value.int IntKind.i64 other),
                            (11, Value.pointer (some { block := 0, off := 0 : Addr })),
                            (16, Value.int IntKind.i64 (intV ((getO cs 1).getD undef))),
                            (17, Value.int IntKind.u64 (intV ((getO cs 0).getD undef))), (18, Value.bool true),
                            (19, Value.int IntKind.i64 other), (20, Value.int IntKind.u64 c)] =
                        tmps 132
                          [(0, Value.int IntKind.i64 id), (1, Value.int IntKind.i64 other),
                            (11, Value.pointer (some { block := 0, off := 0 : Addr })), (16, Value.int IntKind.i64 x),
                            (17, Value.int IntKind.u64 due), (18, Value.bool true), (19, Value.int IntKind.i64 first),
                            (20, Value.int IntKind.u64 when)] ∧
                      hp
                            [Blk.cells [Value.slice (some { block := 1, off := 0, spot := some 1 : Addr }) n n] 1 true,
                              Blk.cells cs 2 true] =
                          hp
                            [Blk.cells
                                [Value.slice (some { block := 1, off := 0, spot := some 1 : Addr }) L.length L.length] 1
                                true,
                              Blk.cells (reC L) 2 true] ∧
                        Q (autoX [] [] [] [] 0 [] K))
                (FlatD [0]
                    (hp
                      [Blk.cells [Value.slice (some { block := 1, off := 0, spot := some 1 : Addr }) n n] 1 true,
                        Blk.cells cs 2 true]) ∧
                  ∃ (b_1 : Nat),
                    tmps 132
                          [(0, Value.int IntKind.i64 id), (1, Value.int IntKind.i64 other),
                            (11, Value.pointer (some { block := 0, off := 0 : Addr })),
                            (16, Value.int IntKind.i64 (intV ((getO cs 1).getD undef))),
                            (17, Value.int IntKind.u64 (intV ((getO cs 0).getD undef))), (18, Value.bool true),
                            (19, Value.int IntKind.i64 id), (20, Value.int IntKind.u64 b)] =
                        tmps 132
                          [(0, Value.int IntKind.i64 id), (1, Value.int IntKind.i64 other),
                            (11, Value.pointer (some { block := 0, off := 0 : Addr })), (16, Value.int IntKind.i64 x),
                            (17, Value.int IntKind.u64 due), (18, Value.bool true), (19, Value.int IntKind.i64 first),
                            (20, Value.int IntKind.u64 when)] ∧
                      hp
                            [Blk.cells [Value.slice (some { block := 1, off := 0, spot := some 1 : Addr }) n n] 1 true,
                              Blk.cells cs 2 true] =
                          hp
                            [Blk.cells
                                [Value.slice (some { block := 1, off := 0, spot := some 1 : Addr }) L.length L.length] 1
                                true,
                              Blk.cells (reC L) 2 true] ∧
                        Q (autoX [] [] [] [] 0 [] K)))
              (FlatD [0]
                  (hp
                    [Blk.cells [Value.slice (some { block := 1, off := 0, spot := some 1 : Addr }) n n] 1 true,
                      Blk.cells cs 2 true]) ∧
                ∃ (b_1 : Nat),
                  tmps 132
                        [(0, Value.int IntKind.i64 id), (1, Value.int IntKind.i64 other),
                          (11, Value.pointer (some { block := 0, off := 0 : Addr })),
                          (16, Value.int IntKind.i64 (intV ((getO cs 1).getD undef))),
                          (17, Value.int IntKind.u64 (intV ((getO cs 0).getD undef))), (18, Value.bool true),
                          (19, Value.int IntKind.i64 id), (20, Value.int IntKind.u64 b)] =
                      tmps 132
                        [(0, Value.int IntKind.i64 id), (1, Value.int IntKind.i64 other),
                          (11, Value.pointer (some { block := 0, off := 0 : Addr })), (16, Value.int IntKind.i64 x),
                          (17, Value.int IntKind.u64 due), (18, Value.bool true), (19, Value.int IntKind.i64 first),
                          (20, Value.int IntKind.u64 when)] ∧
                    hp
                          [Blk.cells [Value.slice (some { block := 1, off := 0, spot := some 1 : Addr }) n n] 1 true,
                            Blk.cells cs 2 true] =
                        hp
                          [Blk.cells
                              [Value.slice (some { block := 1, off := 0, spot := some 1 : Addr }) L.length L.length] 1
                              true,
                            Blk.cells (reC L) 2 true] ∧
                      Q (autoX [] [] [] [] 0 [] K))))))))) := by kernel_rfl

noncomputable def cutB (id other b c : Int) (L : List Re) (Q : Post → Prop) : CutE := cutM [1,1,1,1,1,1,1,1,1,1] (A1331 id other b c) L Q

theorem r1331A (n : Nat) (cs : List Value) (L : List Re) (id other b c : Int) (Q : Post → Prop) (K : Post) :
  roundX Try.prog SM (gcLKX (at0 [0]) (at0 []) 0 (cutE [cutB id other b c L Q])) F1331 body1331 0 [] [] [] [] [] [1,1,1,1,1,1,1] (A1331 id other b c) (hp (hQ n cs)) K = (
(FlatL cs ∧ FlatL [Value.int IntKind.i64 id] ∧ True) ∧
  (True ∧ IsP reF reG ReOk cs n n ∧ Need (leN n 1000000) True) ∧
    Alt (ltI (idxE id 0 (resAt cs n)) 0)
      ((FlatL cs ∧ FlatL [Value.int IntKind.i64 other] ∧ True) ∧
        (True ∧ IsP reF reG ReOk cs n n ∧ Need (leN n 1000000) True) ∧
          Alt (ltI (idxE other 0 (resAt cs n)) 0)
            (Alt (!eqI 0 b) (K AE.ret (tmps 132 [(10, Value.bool false)]) (hp []))
              (K AE.ret (tmps 132 [(10, Value.bool false)]) (hp [])))
            (Need (leI 0 (idxE other 0 (resAt cs n)))
              (Need (ltI (idxE other 0 (resAt cs n)) (↑n : Int))
                (Need (isInt IntKind.u64 ((getO cs (0 + (idxE other 0 (resAt cs n)).toNat * 2 + 0)).getD undef))
                  (Alt (!eqI 0 b) (K AE.ret (tmps 132 [(10, Value.bool false)]) (hp []))
                    (K AE.ret (tmps 132 [(10, Value.bool false)]) (hp [])))))))
      (Need (leI 0 (idxE id 0 (resAt cs n)))
        (Need (ltI (idxE id 0 (resAt cs n)) (↑n : Int))
          (Need (isInt IntKind.u64 ((getO cs (0 + (idxE id 0 (resAt cs n)).toNat * 2 + 0)).getD undef))
            ((FlatL cs ∧ FlatL [Value.int IntKind.i64 other] ∧ True) ∧
              (True ∧ IsP reF reG ReOk cs n n ∧ Need (leN n 1000000) True) ∧
                Alt (ltI (idxE other 0 (resAt cs n)) 0)
                  (Alt (!eqI (intV ((getO cs (0 + (idxE id 0 (resAt cs n)).toNat * 2 + 0)).getD undef)) b)
                    (K AE.ret (tmps 132 [(10, Value.bool false)]) (hp []))
                    (Alt (!eqI 0 c) (K AE.ret (tmps 132 [(10, Value.bool false)]) (hp []))
                      (K AE.ret (tmps 132 [(10, Value.bool false)]) (hp []))))
                  (Need (leI 0 (idxE other 0 (resAt cs n)))
                    (Need (ltI (idxE other 0 (resAt cs n)) (↑n : Int))
                      (Need (isInt IntKind.u64 ((getO cs (0 + (idxE other 0 (resAt cs n)).toNat * 2 + 0)).getD undef))
                        (Alt (!eqI (intV ((getO cs (0 + (idxE id 0 (resAt cs n)).toNat * 2 + 0)).getD undef)) b)
                          (K AE.ret (tmps 132 [(10, Value.bool false)]) (hp []))
                          (Alt (!eqI (intV ((getO cs (0 + (idxE other 0 (resAt cs n)).toNat * 2 + 0)).getD undef)) c)
                            (K AE.ret (tmps 132 [(10, Value.bool false)]) (hp []))
                            (Alt (!eqI (↑n : Int) 2) (K AE.ret (tmps 132 [(10, Value.bool false)]) (hp []))
                              (FlatD [0]
                                  (hp
                                    [Blk.cells [Value.slice (some { block := 1, off := 0, spot := some 1 : Addr }) n n]
                                        1 true,
                                      Blk.cells cs 2 true]) ∧
                                ∃ (b_1 : Nat),
                                  tmps 132
                                        [(0, Value.int IntKind.i64 id), (1, Value.int IntKind.i64 other),
                                          (3, Value.int IntKind.u64 b), (4, Value.int IntKind.u64 c),
                                          (11, Value.pointer (some { block := 0, off := 0 : Addr }))] =
                                      tmps 132
                                        [(0, Value.int IntKind.i64 id), (1, Value.int IntKind.i64 other),
                                          (3, Value.int IntKind.u64 b), (4, Value.int IntKind.u64 c),
                                          (11, Value.pointer (some { block := 0, off := 0 : Addr }))] ∧
                                    hp
                                          [Blk.cells
                                              [Value.slice (some { block := 1, off := 0, spot := some 1 : Addr }) n n] 1
                                              true,
                                            Blk.cells cs 2 true] =
                                        hp
                                          [Blk.cells
                                              [Value.slice (some { block := 1, off := 0, spot := some 1 : Addr })
                                                  L.length L.length]
                                              1 true,
                                            Blk.cells (reC L) 2 true] ∧
                                      Q (autoX [] [] [] [] 0 [] K))))))))))))) := by kernel_rfl

noncomputable def cutA (id other b c : Int) (L : List Re) (Q : Post → Prop) : CutE := cutM [1,1,1,1,1,1,1] (A1331 id other b c) L Q

theorem r1331Z (L : List Re) (id other a b c : Int) (Q : Post → Prop) (K : Post) :
  roundX Try.prog SM (gcLKX (at0 [0]) (at0 []) 0 (cutE [cutA id other b c L Q])) F1331 body1331 0 [] [] [] [] [] [1,1,1,1] (T1331 id other a b c) (hp (hQ 0 [])) K = (
(nojL [Value.slice (some { block := 1, off := 0, spot := some 1 : Addr }) 0 0] = true ∧ FlatL [] ∧ True) ∧
  (IsRC [] 0 0 ∧ IsUpE (resAt [] 0) ∧ ReOk (a, id) ∧ True) ∧
    (nojL [Value.slice (some { block := 1, off := 0, spot := some 1 : Addr }) 1 1] = true ∧
        FlatL [Value.int IntKind.u64 (a, id).fst, Value.int IntKind.i64 (a, id).snd] ∧ True) ∧
      (IsRC [Value.int IntKind.u64 (a, id).fst, Value.int IntKind.i64 (a, id).snd] 1 1 ∧
          IsUpE (resAt [Value.int IntKind.u64 (a, id).fst, Value.int IntKind.i64 (a, id).snd] 1) ∧
            ReOk (c, other) ∧ True) ∧
        (nojL
                [Value.slice (some { block := 1, off := 0, spot := some 1 : Addr })
                    (putE other c
                        (resAt [Value.int IntKind.u64 (a, id).fst, Value.int IntKind.i64 (a, id).snd] 1)).length
                    (putE other c
                        (resAt [Value.int IntKind.u64 (a, id).fst, Value.int IntKind.i64 (a, id).snd] 1)).length] =
              true ∧
            FlatL
                (reC (putE other c (resAt [Value.int IntKind.u64 (a, id).fst, Value.int IntKind.i64 (a, id).snd] 1))) ∧
              True) ∧
          (IsRC (reC (putE other c (resAt [Value.int IntKind.u64 (a, id).fst, Value.int IntKind.i64 (a, id).snd] 1)))
                (putE other c (resAt [Value.int IntKind.u64 (a, id).fst, Value.int IntKind.i64 (a, id).snd] 1)).length
                (putE other c (resAt [Value.int IntKind.u64 (a, id).fst, Value.int IntKind.i64 (a, id).snd] 1)).length ∧
              IsUpE
                  (resAt
                    (reC
                      (putE other c (resAt [Value.int IntKind.u64 (a, id).fst, Value.int IntKind.i64 (a, id).snd] 1)))
                    (putE other c
                        (resAt [Value.int IntKind.u64 (a, id).fst, Value.int IntKind.i64 (a, id).snd] 1)).length) ∧
                ReOk (b, id) ∧
                  Need
                    (leN
                      (putE other c
                          (resAt [Value.int IntKind.u64 (a, id).fst, Value.int IntKind.i64 (a, id).snd] 1)).length
                      999999)
                    True) ∧
            FlatD [0]
                (hp
                  [Blk.cells
                      [Value.slice (some { block := 1, off := 0, spot := some 1 : Addr })
                          (putE id b
                              (resAt
                                (reC
                                  (putE other c
                                    (resAt [Value.int IntKind.u64 (a, id).fst, Value.int IntKind.i64 (a, id).snd] 1)))
                                (putE other c
                                    (resAt [Value.int IntKind.u64 (a, id).fst, Value.int IntKind.i64 (a, id).snd]
                                      1)).length)).length
                          (putE id b
                              (resAt
                                (reC
                                  (putE other c
                                    (resAt [Value.int IntKind.u64 (a, id).fst, Value.int IntKind.i64 (a, id).snd] 1)))
                                (putE other c
                                    (resAt [Value.int IntKind.u64 (a, id).fst, Value.int IntKind.i64 (a, id).snd]
                                      1)).length)).length]
                      1 true,
                    Blk.cells
                      (reC
                        (putE id b
                          (resAt
                            (reC
                              (putE other c
                                (resAt [Value.int IntKind.u64 (a, id).fst, Value.int IntKind.i64 (a, id).snd] 1)))
                            (putE other c
                                (resAt [Value.int IntKind.u64 (a, id).fst, Value.int IntKind.i64 (a, id).snd]
                                  1)).length)))
                      2 true]) ∧
              ∃ (b_1 : Nat),
                tmps 132
                      [(0, Value.int IntKind.i64 id), (1, Value.int IntKind.i64 other), (3, Value.int IntKind.u64 b),
                        (4, Value.int IntKind.u64 c), (11, Value.pointer (some { block := 0, off := 0 : Addr }))] =
                    tmps 132
                      [(0, Value.int IntKind.i64 id), (1, Value.int IntKind.i64 other), (3, Value.int IntKind.u64 b),
                        (4, Value.int IntKind.u64 c), (11, Value.pointer (some { block := 0, off := 0 : Addr }))] ∧
                  hp
                        [Blk.cells
                            [Value.slice (some { block := 1, off := 0, spot := some 1 : Addr })
                                (putE id b
                                    (resAt
                                      (reC
                                        (putE other c
                                          (resAt [Value.int IntKind.u64 (a, id).fst, Value.int IntKind.i64 (a, id).snd]
                                            1)))
                                      (putE other c
                                          (resAt [Value.int IntKind.u64 (a, id).fst, Value.int IntKind.i64 (a, id).snd]
                                            1)).length)).length
                                (putE id b
                                    (resAt
                                      (reC
                                        (putE other c
                                          (resAt [Value.int IntKind.u64 (a, id).fst, Value.int IntKind.i64 (a, id).snd]
                                            1)))
                                      (putE other c
                                          (resAt [Value.int IntKind.u64 (a, id).fst, Value.int IntKind.i64 (a, id).snd]
                                            1)).length)).length]
                            1 true,
                          Blk.cells
                            (reC
                              (putE id b
                                (resAt
                                  (reC
                                    (putE other c
                                      (resAt [Value.int IntKind.u64 (a, id).fst, Value.int IntKind.i64 (a, id).snd] 1)))
                                  (putE other c
                                      (resAt [Value.int IntKind.u64 (a, id).fst, Value.int IntKind.i64 (a, id).snd]
                                        1)).length)))
                            2 true] =
                      hp
                        [Blk.cells
                            [Value.slice (some { block := 1, off := 0, spot := some 1 : Addr }) L.length L.length] 1
                            true,
                          Blk.cells (reC L) 2 true] ∧
                    Q (autoX [] [] [] [] 0 [] K)) := by kernel_rfl

noncomputable def cutZ (id other a b c : Int) (Q : Post → Prop) : CutE := cutM [1,1,1,1] (T1331 id other a b c) [] Q

theorem w1331 (id other a b c : Int) (Q : Post → Prop) (K : Value → Heap → Prop) :
  funX Try.prog SM (gcLKX (at0 [0]) (at0 [.cell 11 0 2]) 0 (cutE [cutZ id other a b c Q])) F1331 body1331 Try.f6 [] [] [.int .i64 id, .int .i64 other, .int .u64 a, .int .u64 b, .int .u64 c] (hp []) K = (
Alt (eqI id other) (True ∧ True ∧ K (Value.bool true) (hp []))
  (FlatD [0]
      (hp
        [Blk.cells [Value.slice (some { block := 1, off := 0, spot := some 1 : Addr }) 0 0] 1 true,
          Blk.cells [] 2 true]) ∧
    ∃ (b_1 : Nat),
      tmps 132
            [(0, Value.int IntKind.i64 id), (1, Value.int IntKind.i64 other), (2, Value.int IntKind.u64 a),
              (3, Value.int IntKind.u64 b), (4, Value.int IntKind.u64 c),
              (11, Value.pointer (some { block := 0, off := 0 : Addr }))] =
          tmps 132
            [(0, Value.int IntKind.i64 id), (1, Value.int IntKind.i64 other), (2, Value.int IntKind.u64 a),
              (3, Value.int IntKind.u64 b), (4, Value.int IntKind.u64 c),
              (11, Value.pointer (some { block := 0, off := 0 : Addr }))] ∧
        hp
              [Blk.cells [Value.slice (some { block := 1, off := 0, spot := some 1 : Addr }) 0 0] 1 true,
                Blk.cells [] 2 true] =
            hp
              [Blk.cells [Value.slice (some { block := 1, off := 0, spot := some 1 : Addr }) 0 0] 1 true,
                Blk.cells [] 2 true] ∧
          Q (resX [] [] 0 Try.prog Try.f6 K))) := by kernel_rfl

end Go.Proofs.Ytmgnlkefhmhkhaa

namespace Go.Proofs.Ytmgnlkefhmhkhaa
open Go.RowKit Go.Proofs.Ytmgnlkefhmhkhaa.AM
set_option maxRecDepth 100000
set_option maxHeartbeats 4000000
/-- two in a queue -/
structure Two (id other b c first when : Int) (L : List Re) : Prop where
  ok : ∀ x ∈ L, ReOk x
  len : L.length = 2
  one : ∃ j : Nat, idxE id 0 L = (j : Int) ∧ L[j]? = some (b, id)
  two : ∃ j : Nat, idxE other 0 L = (j : Int) ∧ L[j]? = some (c, other)
  fst : L[0]? = some (when, first)
  has : hasE id L = true
  rest : dropE id L = [(c, other)]
theorem rcs {L : List Re} (h : ∀ x ∈ L, ReOk x) (hl : L.length ≤ 1000000) : IsRC (reC L) L.length L.length := .mk L rfl rfl rfl h hl
theorem irs {L : List Re} (h : ∀ x ∈ L, ReOk x) : IsR (reC L) L.length L.length := .mk L rfl (Nat.le_refl _) (reC_row h)
theorem qfl (L : List Re) : FlatD [0] (hp [.cells [.slice (some ⟨1,0,some 1⟩) L.length L.length] 1 true, .cells (reC L) 2 true]) := hQ_flat (reC_flat L)
theorem partD (hmix : Try.prog.follows .mixedOrders = true) (other c : Int) (hc : ZP .u64 c) (ho : ZP .i64 other) (K : Post) (hK : K .ret (tmps 132 [(10, .bool true)]) (hp [])) :
    Says Try.prog 0 (sub body1331 [1,1,1,1,1,1,1,1,1,1,1,1,1,1]) (D1331 other) (hp (hQ ([(c, other)] : List Re).length (reC [(c, other)]))) K := by
  refine (sureM hmix).cutN F1331 noLoops [] [] [] [] [] ?_
  rw [r1331D]
  have ok : ∀ x ∈ [((c, other) : Re)], ReOk x := fun x hx => by simp at hx; subst hx; exact ⟨hc, ho⟩
  have h1 : ripeE 18446744073709551615 [((c, other) : Re)] = [other] := by
    have := (ZP.u64.1 hc).2
    simp [ripeE, leI_iff]; omega
  have h2 : restE 18446744073709551615 [((c, other) : Re)] = [] := by
    have := (ZP.u64.1 hc).2
    simp [restE, leI_iff]; omega
  rw [reC_at ok, h1, h2]
  have hi : ISl (iC [other]) 0 [other] := ESl.own flat_i (fun x hx => by simp at hx; subst hx; exact ho) (by simp)
  have hI : IsE (iE .i64) (ZP .i64) (iC [other]) 0 1 1 := .mk [other] rfl (Nat.le_refl _) hi
  have hs : sameI (intsAt (iC [other]) 0 [other].length) (intsAt (iC [other]) 0 1) = true := by
    rw [show (1 : Nat) = [other].length from rfl, intsAt_eq hi]; exact sameI_iff.2 rfl
  refine ⟨⟨rfl, reC_flat _, trivial⟩, rcs ok (by simp), ⟨iC_flat _, iC_flat [other], trivial⟩, ⟨hI, hI⟩, ?_⟩
  refine Alt_iff.2 ⟨fun _ => Alt_iff.2 ⟨fun _ => ⟨trivial, trivial, FlatD.hp trivial, hK⟩, fun h => (by cases h)⟩, fun h => ?_⟩
  exact absurd (hs.symm.trans h) (by simp)
theorem partC (hmix : Try.prog.follows .mixedOrders = true) (id other b c first when : Int) (hne : id ≠ other) (hc : ZP .u64 c) (ho : ZP .i64 other) (L : List Re) (hT : Two id other b c first when L) (K : Post) (hK : K .ret (tmps 132 [(10, .bool true)]) (hp [])) :
    Says Try.prog 0 (sub body1331 [1,1,1,1,1,1,1,1,1,1,1,1,1]) (C1331 id other first when first when) (hp (hQ L.length (reC L))) K := by
  have hL : Loops Try.prog body1331 0 (cutE [cutD other [(c, other)] fun K => K .ret (tmps 132 [(10, .bool true)]) (hp [])]) := Loops.noneE.moreE _ fun x K hq => partD hmix other c hc ho K hq
  refine (sureM hmix).cutN F1331 (hL.gcX (at0 [0]) (at0 [])) [] [] [] [] [] ?_
  rw [r1331C, reC_at hT.ok, hT.rest]
  have ok : ∀ x ∈ [((c, other) : Re)], ReOk x := fun x hx => by simp at hx; subst hx; exact ⟨hc, ho⟩
  rw [reC_at ok]
  have e1 : ∀ z : Int, eqI z z = true := fun z => eqI_iff.2 rfl
  have e2 : hasE id [((c, other) : Re)] = false := by simp [hasE, eqI_iff, Ne.symm hne]
  have e3 : dropE id [((c, other) : Re)] = [(c, other)] := drop_no e2
  rw [e1, e1, hT.has, e2, e3]
  simp only [Alt_iff, Bool.not_true, Bool.false_eq_true, false_implies, true_implies, true_and, Bool.true_eq_false]
  refine ⟨⟨rfl, reC_flat _, trivial⟩, rcs hT.ok (by rw [hT.len]; decide), ⟨rfl, reC_flat _, trivial⟩, rcs ok (by simp), qfl [(c, other)], 0, FlatD.hp trivial, hK⟩
theorem partB (hmix : Try.prog.follows .mixedOrders = true) (id other b c first when : Int) (hne : id ≠ other) (hc : ZP .u64 c) (ho : ZP .i64 other) (L : List Re) (hT : Two id other b c first when L)
    (hf : (first = other ∧ when = c ∧ (c < b ∨ c = b ∧ other < id)) ∨ (first = id ∧ when = b ∧ ¬ (c < b ∨ c = b ∧ other < id))) (K : Post) (hK : K .ret (tmps 132 [(10, .bool true)]) (hp [])) :
    Says Try.prog 0 (sub body1331 [1,1,1,1,1,1,1,1,1,1]) (A1331 id other b c) (hp (hQ L.length (reC L))) K := by
  have hL : Loops Try.prog body1331 0 (cutE [cutC id other first when first when L fun K => K .ret (tmps 132 [(10, .bool true)]) (hp [])]) := Loops.noneE.moreE _ fun x K hq => partC hmix id other b c first when hne hc ho L hT K hq
  refine (sureM hmix).cutN F1331 (hL.gcX (at0 [0]) (at0 [])) [] [] [] [] [] ?_
  rw [r1331B]
  have g0 : getO (reC L) 0 = some (.int .u64 when) := (reC_row hT.ok).get0 hT.fst
  have g1 : getO (reC L) 1 = some (.int .i64 first) := (reC_row hT.ok).get1 hT.fst
  have hF := qfl L
  have hlt : (0 : Int) < (L.length : Int) := by rw [hT.len]; decide
  have hl0 : ¬ (L.length : Int) = 0 := by rw [hT.len]; decide
  simp only [g0, g1, hF, hlt, hl0, show intV (Value.int .u64 when) = when from rfl, show intV (Value.int .i64 first) = first from rfl, Alt_iff, Need_iff, ltI_eq, leI_eq, eqI_eq, leN_eq, eqN_eq, decide_eq_true_eq, decide_eq_false_iff_not, decide_true, decide_false, true_and, and_true, Bool.true_eq_false, Bool.false_eq_true, false_implies, true_implies, implies_true, not_true_eq_false, not_false_eq_true, Bool.not_eq_true', Bool.not_eq_false', Nat.zero_add, Nat.add_zero, Nat.sub_zero, Nat.zero_mul, Nat.mul_one, Int.toNat_natCast, List.drop_zero, beqV_int, beqV_sl, beqV_str, beqV_bool, beqV_ptr, beqV_flt, beqV_agg, beqV_tuple, List.all_cons, List.all_nil, Bool.and_self, Bool.and_true, Bool.true_and, Nat.le_refl, Int.le_refl, Nat.zero_le, Option.getD_some, isStr, strV, isInt, intV, isBool, boolV, kindEq, at0, isJunk, Option.isSome_some, Option.isSome_none, if_true, if_false, Nat.add_sub_cancel_left, Nat.add_sub_cancel]
  rcases hf with ⟨rfl, rfl, h⟩ | ⟨rfl, rfl, h⟩
  · refine ⟨fun h1 => (by first | exact ⟨0, FlatD.hp trivial, hK⟩ | exact ⟨0, rfl, FlatD.hp trivial, hK⟩ | exact ⟨0, rfl, rfl, FlatD.hp trivial, hK⟩), fun h1 => ⟨fun h2 => ⟨fun h3 => (by first | exact ⟨0, FlatD.hp trivial, hK⟩ | exact ⟨0, rfl, FlatD.hp trivial, hK⟩ | exact ⟨0, rfl, rfl, FlatD.hp trivial, hK⟩), fun h3 => by omega⟩, fun h2 => by omega⟩⟩
  · refine ⟨fun h1 => by omega, fun h1 => ⟨fun h2 => ⟨fun h3 => by omega, fun h3 => (by subst h2; first | exact ⟨0, FlatD.hp trivial, hK⟩ | exact ⟨0, rfl, FlatD.hp trivial, hK⟩ | exact ⟨0, rfl, rfl, FlatD.hp trivial, hK⟩)⟩, fun h2 => (by first | exact ⟨0, FlatD.hp trivial, hK⟩ | exact ⟨0, rfl, FlatD.hp trivial, hK⟩ | exact ⟨0, rfl, rfl, FlatD.hp trivial, hK⟩)⟩⟩
theorem partA (hmix : Try.prog.follows .mixedOrders = true) (id other b c first when : Int) (hne : id ≠ other) (hc : ZP .u64 c) (ho : ZP .i64 other) (L : List Re) (hT : Two id other b c first when L)
    (hf : (first = other ∧ when = c ∧ (c < b ∨ c = b ∧ other < id)) ∨ (first = id ∧ when = b ∧ ¬ (c < b ∨ c = b ∧ other < id))) (K : Post) (hK : K .ret (tmps 132 [(10, .bool true)]) (hp [])) :
    Says Try.prog 0 (sub body1331 [1,1,1,1,1,1,1]) (A1331 id other b c) (hp (hQ L.length (reC L))) K := by
  have hL : Loops Try.prog body1331 0 (cutE [cutB id other b c L fun K => K .ret (tmps 132 [(10, .bool true)]) (hp [])]) := Loops.noneE.moreE _ fun x K hq => partB hmix id other b c first when hne hc ho L hT hf K hq
  refine (sureM hmix).cutN F1331 (hL.gcX (at0 [0]) (at0 [])) [] [] [] [] [] ?_
  rw [r1331A, reC_at hT.ok]
  obtain ⟨j1, i1, x1⟩ := hT.one
  obtain ⟨j2, i2, x2⟩ := hT.two
  have r := reC_row hT.ok
  have l1 := (List.getElem?_eq_some_iff.1 x1).1
  have l2 := (List.getElem?_eq_some_iff.1 x2).1
  have a0 := r.get0 x1
  have b0 := r.get0 x2
  have hlen : ((L.length : Int) = 2) := by rw [hT.len]; rfl
  rw [i1, i2]
  simp only [Nat.zero_add, Nat.add_zero, Int.toNat_natCast, a0, b0, reF, show ¬ ((j1 : Int) < 0) by omega, show ¬ ((j2 : Int) < 0) by omega, show (0 : Int) ≤ (j1 : Int) by omega, show (0 : Int) ≤ (j2 : Int) by omega, show (j1 : Int) < (L.length : Int) by omega, show (j2 : Int) < (L.length : Int) by omega, show L.length ≤ 1000000 by rw [hT.len]; decide, hlen, reC_flat, int_flat, irs hT.ok, qfl L, Bool.not_true, Bool.not_false, Alt_iff, Need_iff, ltI_eq, leI_eq, eqI_eq, leN_eq, eqN_eq, decide_eq_true_eq, decide_eq_false_iff_not, decide_true, decide_false, true_and, and_true, Bool.true_eq_false, Bool.false_eq_true, false_implies, true_implies, implies_true, not_true_eq_false, not_false_eq_true, Bool.not_eq_true', Bool.not_eq_false', Nat.zero_add, Nat.add_zero, Nat.sub_zero, Nat.zero_mul, Nat.mul_one, Int.toNat_natCast, List.drop_zero, beqV_int, beqV_sl, beqV_str, beqV_bool, beqV_ptr, beqV_flt, beqV_agg, beqV_tuple, List.all_cons, List.all_nil, Bool.and_self, Bool.and_true, Bool.true_and, Nat.le_refl, Int.le_refl, Nat.zero_le, Option.getD_some, isStr, strV, isInt, intV, isBool, boolV, kindEq, at0, isJunk, Option.isSome_some, Option.isSome_none, if_true, if_false, Nat.add_sub_cancel_left, Nat.add_sub_cancel]
  exact ⟨by omega, by omega, 0, FlatD.hp trivial, hK⟩
theorem put_nil (o d : Int) : putE o d [] = [(d, o)] := rfl
theorem drop_one {o : Int} {x : Re} (h : x.2 ≠ o) : dropE o [x] = [x] := by simp [dropE, eqI_iff, h]
theorem put_one {o d : Int} {x : Re} (h : x.2 ≠ o) : putE o d [x] = if cmpE x (d, o) < 0 then [x, (d, o)] else [(d, o), x] := by
  unfold putE insL
  rw [drop_one h]
  unfold posE
  split <;> rfl
theorem drop_two {id other a c : Int} (h : id ≠ other) : dropE id (putE other c [(a, id)]) = [(c, other)] := by
  rw [put_one h]
  split <;> simp [dropE, eqI_iff, Ne.symm h]
theorem put_two {id other a b c : Int} (h : id ≠ other) : putE id b (putE other c [(a, id)]) = if cmpE (c, other) (b, id) < 0 then [(c, other), (b, id)] else [(b, id), (c, other)] := by
  have : putE id b (putE other c [(a, id)]) = insL (posE (b, id) (dropE id (putE other c [(a, id)]))) (b, id) (dropE id (putE other c [(a, id)])) := rfl
  rw [this, drop_two h]
  unfold posE insL
  split <;> rfl
theorem two_ok {id other b c : Int} (hne : id ≠ other) (hi : ZP .i64 id) (ho : ZP .i64 other) (hb : ZP .u64 b) (hc : ZP .u64 c) : Two id other b c (if cmpE (c, other) (b, id) < 0 then other else id) (if cmpE (c, other) (b, id) < 0 then c else b) (if cmpE (c, other) (b, id) < 0 then [(c, other), (b, id)] else [(b, id), (c, other)]) := by
  have e1 : ∀ z : Int, eqI z z = true := fun z => eqI_iff.2 rfl
  have e2 : eqI id other = false := Bool.eq_false_iff.2 fun hh => hne (eqI_iff.1 hh)
  have e3 : eqI other id = false := Bool.eq_false_iff.2 fun hh => hne (eqI_iff.1 hh).symm
  split
  · exact ⟨fun x hx => by simp at hx; rcases hx with rfl | rfl; exact ⟨hc, ho⟩; exact ⟨hb, hi⟩, rfl, ⟨1, by simp [idxE, e1, e3], rfl⟩, ⟨0, by simp [idxE, e1], rfl⟩, rfl, by simp [hasE, e1], by simp [dropE, e1, e3]⟩
  · exact ⟨fun x hx => by simp at hx; rcases hx with rfl | rfl; exact ⟨hb, hi⟩; exact ⟨hc, ho⟩, rfl, ⟨0, by simp [idxE, e1], rfl⟩, ⟨1, by simp [idxE, e1, e2], rfl⟩, rfl, by simp [hasE, e1], by simp [dropE, e1]⟩
theorem isQ_nil : IsQ ([] : List Re) := ⟨List.Pairwise.nil, List.Pairwise.nil, by decide⟩
theorem law1331z (hmix : Try.prog.follows .mixedOrders = true) (id other a b c : Int) (hi : ZP .i64 id) (ho : ZP .i64 other) (ha : ZP .u64 a) (hb : ZP .u64 b) (hc : ZP .u64 c) :
    FunSays Try.prog 6 [.int .i64 id, .int .i64 other, .int .u64 a, .int .u64 b, .int .u64 c] (hp []) fun v _ => v = .bool true := by
  by_cases hne : id = other
  · refine (sureM hmix).funX F1331 body1331 [] [] Try.func6 rfl ((Loops.noneE (P := Try.prog) (root := body1331) (k := 0)).moreE (cutZ id other a b c fun _ => False) (fun _ _ h => h.elim) |>.gcX (at0 [0]) (at0 [.cell 11 0 2])) ?_
    rw [w1331]
    refine Alt_iff.2 ⟨fun _ => ⟨trivial, trivial, FlatD.hp trivial, rfl, rfl⟩, fun h => ?_⟩
    rw [eqI_iff.2 hne] at h; cases h
  · have hT := two_ok hne hi ho hb hc
    have hput := put_two (a := a) (b := b) (c := c) hne
    generalize (if cmpE (c, other) (b, id) < 0 then [(c, other), (b, id)] else [(b, id), (c, other)]) = L at hT hput
    have hf : ((if cmpE (c, other) (b, id) < 0 then other else id) = other ∧ (if cmpE (c, other) (b, id) < 0 then c else b) = c ∧ (c < b ∨ c = b ∧ other < id)) ∨ ((if cmpE (c, other) (b, id) < 0 then other else id) = id ∧ (if cmpE (c, other) (b, id) < 0 then c else b) = b ∧ ¬ (c < b ∨ c = b ∧ other < id)) := by
      by_cases h : cmpE (c, other) (b, id) < 0
      · rw [if_pos h, if_pos h]; exact .inl ⟨rfl, rfl, cmpE_lt.1 h⟩
      · rw [if_neg h, if_neg h]; exact .inr ⟨rfl, rfl, fun hh => h (cmpE_lt.2 hh)⟩
    have hA : Loops Try.prog body1331 0 (cutE [cutA id other b c L fun K => K .ret (tmps 132 [(10, .bool true)]) (hp [])]) := Loops.noneE.moreE _ fun x K hq => partA hmix id other b c _ _ hne hc ho L hT hf K hq
    have hL : Loops Try.prog body1331 0 (cutE [cutZ id other a b c fun K => K .ret (tmps 132 [(10, .bool true)]) (hp [])]) := Loops.noneE.moreE _ fun x K hq => by
      show Says Try.prog 0 (sub body1331 [1,1,1,1]) (T1331 id other a b c) (AM.hp (hQ 0 [])) K
      refine (sureM hmix).cutN F1331 (hA.gcX (at0 [0]) (at0 [])) [] [] [] [] [] ?_
      rw [r1331Z]
      have k1 : ∀ x ∈ [((a, id) : Re)], ReOk x := fun x hx => by simp at hx; subst hx; exact ⟨ha, hi⟩
      have q1 : IsQ [((a, id) : Re)] := isQ_put (o := id) (d := a) isQ_nil (by decide)
      have k2 : ∀ x ∈ putE other c [((a, id) : Re)], ReOk x := putE_ok ⟨hc, ho⟩ k1
      have q2 : IsQ (putE other c [((a, id) : Re)]) := isQ_put q1 (by simp)
      have l2 : (putE other c [((a, id) : Re)]).length = 2 := by rw [putE_len, drop_one hne]; rfl
      have a1 : resAt [Value.int IntKind.u64 (a, id).fst, Value.int IntKind.i64 (a, id).snd] 1 = [(a, id)] := reC_at k1
      rw [a1, reC_at k2, hput]
      refine ⟨⟨rfl, reC_flat [], trivial⟩, ⟨rc_lit [] rfl rfl rfl rfl (by decide), ⟨List.Pairwise.nil, by decide⟩, ⟨ha, hi⟩, trivial⟩, ⟨rfl, reC_flat [(a, id)], trivial⟩, ⟨rcs k1 (by simp), ⟨q1.up, q1.len⟩, ⟨hc, ho⟩, trivial⟩, ⟨rfl, reC_flat _, trivial⟩, ⟨rcs k2 (by rw [l2]; decide), ⟨q2.up, q2.len⟩, ⟨hb, hi⟩, Need_iff.2 ⟨leN_iff.2 (by rw [l2]; decide), trivial⟩⟩, qfl L, ?_⟩
      first | exact ⟨0, FlatD.hp trivial, hq⟩ | exact ⟨0, rfl, FlatD.hp trivial, hq⟩ | exact ⟨0, rfl, rfl, FlatD.hp trivial, hq⟩
    refine (sureM hmix).funX F1331 body1331 [] [] Try.func6 rfl (hL.gcX (at0 [0]) (at0 [.cell 11 0 2])) ?_
    rw [w1331]
    refine Alt_iff.2 ⟨fun h => absurd (eqI_iff.1 h) hne, fun _ => ⟨qfl [], 0, rfl, rfl, FlatD.hp trivial, rfl, rfl⟩⟩
end Go.Proofs.Ytmgnlkefhmhkhaa
