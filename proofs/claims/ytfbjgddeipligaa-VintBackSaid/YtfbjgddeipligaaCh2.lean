/- Proved: what functions of the program come to, by their conditions over the abstract machine. Conditions: those that each theorem states. -/
import Derived.Test.YtfbjgddeipligaaCh1
set_option linter.unusedVariables false
set_option linter.unusedSimpArgs false
namespace Go.Proofs.Ytfbjgddeipligaa
open Go.RowKit Go.Proofs.Ytfbjgddeipligaa.AM
set_option maxRecDepth 100000
set_option maxHeartbeats 4000000
noncomputable def body8 : Code := (Try.f8.body).getD .skip
def F8 : List Nat → Option (List Nat) := fun p => match p with
  | [1] => some [0, 1, 2, 3]
  | [1, 0, 1] => some [0, 1, 2, 3, 36]
  | [1, 0, 1, 0, 1] => some [8]
  | [1, 1] => some [0, 1, 2, 3]
  | [1, 1, 1] => some [0, 1, 2, 3, 9, 10, 11]
  | [1, 0, 1, 1, 1] => some [0, 1, 2, 3, 9, 10, 11, 56]
  | [1, 0, 1, 0, 1, 1, 1] => some [8]
  | [1, 1, 1, 1] => some [1000000, 0, 1, 2, 3, 9, 10, 11]
  | [1, 1, 1, 1, 1] => some [1000000, 0, 1, 2, 3, 9, 10, 11, 12, 13, 14]
  | [1, 1, 1, 1, 1, 1] => some [1000000, 0, 1, 2, 3, 9, 10, 11, 12, 13, 14, 15, 16, 17]
  | [1, 1, 1, 1, 1, 1, 1] => some [1000000, 0, 1, 2, 3, 9, 10, 12, 13, 14, 15, 16, 17, 18, 19]
  | [1, 1, 1, 1, 1, 1, 1, 1] => some [1000000, 0, 1, 3, 9, 10, 12, 13, 14, 15, 16, 17, 18, 19, 22]
  | [1, 0, 1, 1, 1, 1, 1, 1, 1, 1] => some [0, 1, 3, 9, 10, 12, 13, 14, 15, 16, 17, 18, 19, 22, 98]
  | [1, 1, 1, 1, 1, 1, 1, 1, 1] => some [1000000, 0, 1, 3, 9, 10, 12, 13, 14, 15, 16, 17, 18, 19, 22]
  | [1, 1, 1, 1, 1, 1, 1, 1, 1, 1] => some [1000000, 0, 1, 3, 9, 10, 12, 13, 14, 15, 16, 17, 18, 19, 22, 25]
  | [1, 1, 1, 1, 1, 1, 1, 1, 1, 1, 1] => some [1000000, 0, 1, 9, 10, 12, 13, 14, 15, 16, 17, 18, 19, 22, 25, 28]
  | [1, 1, 1, 1, 1, 1, 1, 1, 1, 1, 1, 1] => some [8]
  | _ => none

/-- the law's states: the tail, the slices from block k on, the cut, and what was told -/
noncomputable def B8 (k : Nat) (n : Int) (s : ByteArray) : List (Nat × Value) := [(0, .int .u64 n), (1, .string s), (9, .slice (some ⟨k,0,none⟩) (enc n).length (enc n).length), (10, .slice (some ⟨k+1,0,none⟩) (ptxt s).length (ptxt s).length)]
noncomputable def D8 (k : Nat) : List (Nat × Value) := [(11, .slice (some ⟨k+2,0,some 0⟩) 8 8)]
noncomputable def C8 (cut : Int) : List (Nat × Value) := [(3, .int .i64 cut)]
noncomputable def H8 (n : Int) (s : ByteArray) : List Blk := [.cells ((enc n).map u8v) 1 true, .cells ((ptxt s).map u8v) 1 true]
noncomputable def E8 (n : Int) : List Blk := [.cells ((wordB n).map u8v) 1 true]
noncomputable def R12 (n : Int) : List (Nat × Value) := [(12, .int .u64 n), (13, .int .i64 (enc n).length), (14, .bool true)]
noncomputable def R15 (s : ByteArray) : List (Nat × Value) := [(15, .string s), (16, .int .i64 (ptxt s).length), (17, .bool true)]
noncomputable def R18 (n : Int) : List (Nat × Value) := [(18, .int .u64 n), (19, .bool true)]
noncomputable def No (i : Nat) : List (Nat × Value) := [(i, .bool false)]
noncomputable def Z8 : List (Nat × Value) := [(2, .slice none 0 0)]
noncomputable def N8 (o : Nat) (sp : Option Nat) (len cap : Nat) : List (Nat × Value) := [(2, .slice (some ⟨0,o,sp⟩) len cap)]
/-- all is well at the end -/
noncomputable def Q8 (h0 : List Blk) : Post → Prop := fun K => K .ret (tmps 172 [(8, .bool true)]) (hp h0)
noncomputable def c8_0 (k : Nat) (tl : List (Nat × Value)) (h0 : List Blk) (n : Int) (s : ByteArray) (cut cut' : Int) : Cut := ⟨[1,1,1,1], tmps 172 (B8 k n s ++ tl ++ C8 cut ++ D8 k), hp (h0 ++ H8 n s ++ E8 n), Q8 h0⟩
noncomputable def c8_1 (k : Nat) (tl : List (Nat × Value)) (h0 : List Blk) (n : Int) (s : ByteArray) (cut cut' : Int) : Cut := ⟨[1,1,1,1,1], tmps 172 (B8 k n s ++ tl ++ C8 cut ++ D8 k ++ R12 n), hp (h0 ++ H8 n s ++ E8 n), Q8 h0⟩
noncomputable def c8_2 (k : Nat) (tl : List (Nat × Value)) (h0 : List Blk) (n : Int) (s : ByteArray) (cut cut' : Int) : Cut := ⟨[1,1,1,1,1,1], tmps 172 (B8 k n s ++ tl ++ C8 cut ++ D8 k ++ R12 n ++ R15 s), hp (h0 ++ H8 n s ++ E8 n), Q8 h0⟩
noncomputable def c8_3 (k : Nat) (tl : List (Nat × Value)) (h0 : List Blk) (n : Int) (s : ByteArray) (cut cut' : Int) : Cut := ⟨[1,1,1,1,1,1,1], tmps 172 (B8 k n s ++ tl ++ C8 cut ++ R12 n ++ R15 s ++ R18 n), hp (h0 ++ H8 n s), Q8 h0⟩
noncomputable def c8_4 (k : Nat) (tl : List (Nat × Value)) (h0 : List Blk) (n : Int) (s : ByteArray) (cut cut' : Int) : Cut := ⟨[1,1,1,1,1,1,1,1], tmps 172 (B8 k n s ++ C8 cut ++ R12 n ++ R15 s ++ R18 n ++ No 22), hp (h0 ++ H8 n s), Q8 h0⟩
noncomputable def c8_5 (k : Nat) (tl : List (Nat × Value)) (h0 : List Blk) (n : Int) (s : ByteArray) (cut cut' : Int) : Cut := ⟨[1,1,1,1,1,1,1,1,1], tmps 172 (B8 k n s ++ C8 cut' ++ R12 n ++ R15 s ++ R18 n ++ No 22), hp (h0 ++ H8 n s), Q8 h0⟩
noncomputable def c8_6 (k : Nat) (tl : List (Nat × Value)) (h0 : List Blk) (n : Int) (s : ByteArray) (cut cut' : Int) : Cut := ⟨[1,1,1,1,1,1,1,1,1,1], tmps 172 (B8 k n s ++ C8 cut' ++ R12 n ++ R15 s ++ R18 n ++ No 22 ++ No 25), hp (h0 ++ H8 n s), Q8 h0⟩
noncomputable def c8_7 (k : Nat) (tl : List (Nat × Value)) (h0 : List Blk) (n : Int) (s : ByteArray) (cut cut' : Int) : Cut := ⟨[1,1,1,1,1,1,1,1,1,1,1], tmps 172 (B8 k n s ++ R12 n ++ R15 s ++ R18 n ++ No 22 ++ No 25 ++ No 28), hp (h0 ++ H8 n s), Q8 h0⟩
noncomputable def l8 (k : Nat) (tl : List (Nat × Value)) (h0 : List Blk) (n : Int) (s : ByteArray) (cut cut' : Int) : List Cut := [c8_0 k tl h0 n s cut cut', c8_1 k tl h0 n s cut cut', c8_2 k tl h0 n s cut cut', c8_3 k tl h0 n s cut cut', c8_4 k tl h0 n s cut cut', c8_5 k tl h0 n s cut cut', c8_6 k tl h0 n s cut cut', c8_7 k tl h0 n s cut cut']

theorem w8z0 (n : Int) (s : ByteArray) (cut cut' : Int) (K : Value → Heap → Prop) :
  funK Try.prog S3 (gcLK 0 (cutLK (l8 0 Z8 [] n s cut cut'))) F8 body8 Try.f8 [.int .u64 n, .string s, .slice none 0 0, .int .i64 cut] (hp []) K = (
Alt (ltI 400 (↑s.size : Int)) (True ∧ True ∧ K (Value.bool true) (hp []))
  (True ∧
    Need (leI 0 n) (Need (leI n 18446744073709551615) True) ∧
      True ∧
        Need (leN s.size 1000000000000) True ∧
          True ∧
            Need (leI 0 n) True ∧
              Alt (ltI (↑(enc n).length : Int) 1) (K (Value.bool false) (hp []))
                (Alt (ltI (↑(ptxt s).length : Int) 1) (K (Value.bool false) (hp []))
                  (FlatH
                      (hp
                        [Blk.cells (List.map u8v (enc n)) 1 true, Blk.cells (List.map u8v (ptxt s)) 1 true,
                          Blk.cells
                            [Value.int IntKind.u8 (wb n 0), Value.int IntKind.u8 (wb n 1),
                              Value.int IntKind.u8 (wb n 2), Value.int IntKind.u8 (wb n 3),
                              Value.int IntKind.u8 (wb n 4), Value.int IntKind.u8 (wb n 5),
                              Value.int IntKind.u8 (wb n 6), Value.int IntKind.u8 (wb n 7)]
                            1 true]) ∧
                    tmps 172
                          [(0, Value.int IntKind.u64 n), (1, Value.string s), (2, Value.slice none 0 0),
                            (3, Value.int IntKind.i64 cut),
                            (9, Value.slice (some { block := 0, off := 0 }) (enc n).length (enc n).length),
                            (10, Value.slice (some { block := 1, off := 0 }) (ptxt s).length (ptxt s).length),
                            (11, Value.slice (some { block := 2, off := 0, spot := some 0 }) 8 8)] =
                        tmps 172
                          [(0, Value.int IntKind.u64 n), (1, Value.string s), (2, Value.slice none 0 0),
                            (3, Value.int IntKind.i64 cut),
                            (9, Value.slice (some { block := 0, off := 0 }) (enc n).length (enc n).length),
                            (10, Value.slice (some { block := 1, off := 0 }) (ptxt s).length (ptxt s).length),
                            (11, Value.slice (some { block := 2, off := 0, spot := some 0 }) 8 8)] ∧
                      hp
                            [Blk.cells (List.map u8v (enc n)) 1 true, Blk.cells (List.map u8v (ptxt s)) 1 true,
                              Blk.cells
                                [Value.int IntKind.u8 (wb n 0), Value.int IntKind.u8 (wb n 1),
                                  Value.int IntKind.u8 (wb n 2), Value.int IntKind.u8 (wb n 3),
                                  Value.int IntKind.u8 (wb n 4), Value.int IntKind.u8 (wb n 5),
                                  Value.int IntKind.u8 (wb n 6), Value.int IntKind.u8 (wb n 7)]
                                1 true] =
                          hp
                            [Blk.cells (List.map u8v (enc n)) 1 true, Blk.cells (List.map u8v (ptxt s)) 1 true,
                              Blk.cells
                                [Value.int IntKind.u8 (wb n 0), Value.int IntKind.u8 (wb n 1),
                                  Value.int IntKind.u8 (wb n 2), Value.int IntKind.u8 (wb n 3),
                                  Value.int IntKind.u8 (wb n 4), Value.int IntKind.u8 (wb n 5),
                                  Value.int IntKind.u8 (wb n 6), Value.int IntKind.u8 (wb n 7)]
                                1 true] ∧
                        K (Value.bool true) (hp []))))) := by kernel_rfl

theorem w8z1 (n : Int) (s : ByteArray) (cut cut' : Int) (K : Post) :
  roundK Try.prog S3 (gcLK 0 (cutLK ((l8 0 Z8 [] n s cut cut').drop 1))) F8 body8 0 [] [1,1,1,1] (c8_0 0 Z8 [] n s cut cut').t (c8_0 0 Z8 [] n s cut cut').h K = (
Need (leN (0 + (enc n).length * 1) (List.map u8v (enc n)).length)
  (Alt (eqN (enc n).length 0)
    (True ∧
      True ∧
        FlatH
            (hp
              [Blk.cells (List.map u8v (enc n)) 1 true, Blk.cells (List.map u8v (ptxt s)) 1 true,
                Blk.cells
                  [Value.int IntKind.u8 (wb n 0), Value.int IntKind.u8 (wb n 1), Value.int IntKind.u8 (wb n 2),
                    Value.int IntKind.u8 (wb n 3), Value.int IntKind.u8 (wb n 4), Value.int IntKind.u8 (wb n 5),
                    Value.int IntKind.u8 (wb n 6), Value.int IntKind.u8 (wb n 7)]
                  1 true]) ∧
          tmps 172
                [(0, Value.int IntKind.u64 n), (1, Value.string s), (2, Value.slice none 0 0),
                  (3, Value.int IntKind.i64 cut),
                  (9, Value.slice (some { block := 0, off := 0 }) (enc n).length (enc n).length),
                  (10, Value.slice (some { block := 1, off := 0 }) (ptxt s).length (ptxt s).length),
                  (11, Value.slice (some { block := 2, off := 0, spot := some 0 }) 8 8), (12, Value.int IntKind.u64 0),
                  (13, Value.int IntKind.i64 0), (14, Value.bool false)] =
              tmps 172
                [(0, Value.int IntKind.u64 n), (1, Value.string s), (2, Value.slice none 0 0),
                  (3, Value.int IntKind.i64 cut),
                  (9, Value.slice (some { block := 0, off := 0 }) (enc n).length (enc n).length),
                  (10, Value.slice (some { block := 1, off := 0 }) (ptxt s).length (ptxt s).length),
                  (11, Value.slice (some { block := 2, off := 0, spot := some 0 }) 8 8), (12, Value.int IntKind.u64 n),
                  (13, Value.int IntKind.i64 (↑(enc n).length : Int)), (14, Value.bool true)] ∧
            hp
                  [Blk.cells (List.map u8v (enc n)) 1 true, Blk.cells (List.map u8v (ptxt s)) 1 true,
                    Blk.cells
                      [Value.int IntKind.u8 (wb n 0), Value.int IntKind.u8 (wb n 1), Value.int IntKind.u8 (wb n 2),
                        Value.int IntKind.u8 (wb n 3), Value.int IntKind.u8 (wb n 4), Value.int IntKind.u8 (wb n 5),
                        Value.int IntKind.u8 (wb n 6), Value.int IntKind.u8 (wb n 7)]
                      1 true] =
                hp
                  [Blk.cells (List.map u8v (enc n)) 1 true, Blk.cells (List.map u8v (ptxt s)) 1 true,
                    Blk.cells
                      [Value.int IntKind.u8 (wb n 0), Value.int IntKind.u8 (wb n 1), Value.int IntKind.u8 (wb n 2),
                        Value.int IntKind.u8 (wb n 3), Value.int IntKind.u8 (wb n 4), Value.int IntKind.u8 (wb n 5),
                        Value.int IntKind.u8 (wb n 6), Value.int IntKind.u8 (wb n 7)]
                      1 true] ∧
              K AE.ret (tmps 172 [(8, Value.bool true)]) (hp []))
    (Need (leN ((enc n).length * 1) 1099511627776)
      (Need (leN (enc n).length 1099511627776)
        (Need
          (leN (0 + (enc n).length * 1) (List.take ((enc n).length * 1) (List.drop 0 (List.map u8v (enc n)))).length)
          (Alt (leN ((enc n).length + 0) (enc n).length)
            ((FlatL (List.take ((enc n).length * 1) (List.drop 0 (List.map u8v (enc n)))) ∧ True) ∧
              IsBs (List.take ((enc n).length * 1) (List.drop 0 (List.map u8v (enc n)))) 0 (enc n).length
                  (enc n).length ∧
                FlatH
                    (hp
                      [Blk.cells (List.map u8v (enc n)) 1 true, Blk.cells (List.map u8v (ptxt s)) 1 true,
                        Blk.cells
                          [Value.int IntKind.u8 (wb n 0), Value.int IntKind.u8 (wb n 1), Value.int IntKind.u8 (wb n 2),
                            Value.int IntKind.u8 (wb n 3), Value.int IntKind.u8 (wb n 4), Value.int IntKind.u8 (wb n 5),
                            Value.int IntKind.u8 (wb n 6), Value.int IntKind.u8 (wb n 7)]
                          1 true]) ∧
                  tmps 172
                        [(0, Value.int IntKind.u64 n), (1, Value.string s), (2, Value.slice none 0 0),
                          (3, Value.int IntKind.i64 cut),
                          (9, Value.slice (some { block := 0, off := 0 }) (enc n).length (enc n).length),
                          (10, Value.slice (some { block := 1, off := 0 }) (ptxt s).length (ptxt s).length),
                          (11, Value.slice (some { block := 2, off := 0, spot := some 0 }) 8 8),
                          (12,
                            Value.int IntKind.u64
                              (gN
                                (dec
                                  (bytesAt (List.take ((enc n).length * 1) (List.drop 0 (List.map u8v (enc n)))) 0
                                    (enc n).length)))),
                          (13,
                            Value.int IntKind.i64
                              (↑(gK
                                    (dec
                                      (bytesAt (List.take ((enc n).length * 1) (List.drop 0 (List.map u8v (enc n)))) 0
                                        (enc n).length))) :
                                Int)),
                          (14,
                            Value.bool
                              (dec
                                  (bytesAt (List.take ((enc n).length * 1) (List.drop 0 (List.map u8v (enc n)))) 0
                                    (enc n).length)).isSome)] =
                      tmps 172
                        [(0, Value.int IntKind.u64 n), (1, Value.string s), (2, Value.slice none 0 0),
                          (3, Value.int IntKind.i64 cut),
                          (9, Value.slice (some { block := 0, off := 0 }) (enc n).length (enc n).length),
                          (10, Value.slice (some { block := 1, off := 0 }) (ptxt s).length (ptxt s).length),
                          (11, Value.slice (some { block := 2, off := 0, spot := some 0 }) 8 8),
                          (12, Value.int IntKind.u64 n), (13, Value.int IntKind.i64 (↑(enc n).length : Int)),
                          (14, Value.bool true)] ∧
                    hp
                          [Blk.cells (List.map u8v (enc n)) 1 true, Blk.cells (List.map u8v (ptxt s)) 1 true,
                            Blk.cells
                              [Value.int IntKind.u8 (wb n 0), Value.int IntKind.u8 (wb n 1),
                                Value.int IntKind.u8 (wb n 2), Value.int IntKind.u8 (wb n 3),
                                Value.int IntKind.u8 (wb n 4), Value.int IntKind.u8 (wb n 5),
                                Value.int IntKind.u8 (wb n 6), Value.int IntKind.u8 (wb n 7)]
                              1 true] =
                        hp
                          [Blk.cells (List.map u8v (enc n)) 1 true, Blk.cells (List.map u8v (ptxt s)) 1 true,
                            Blk.cells
                              [Value.int IntKind.u8 (wb n 0), Value.int IntKind.u8 (wb n 1),
                                Value.int IntKind.u8 (wb n 2), Value.int IntKind.u8 (wb n 3),
                                Value.int IntKind.u8 (wb n 4), Value.int IntKind.u8 (wb n 5),
                                Value.int IntKind.u8 (wb n 6), Value.int IntKind.u8 (wb n 7)]
                              1 true] ∧
                      K AE.ret (tmps 172 [(8, Value.bool true)]) (hp []))
            (Need (leN (((enc n).length + 0) * 1) 1099511627776)
              (Need (leN ((enc n).length + 0) 1099511627776)
                ((FlatL
                      (List.take ((enc n).length * 1)
                          (List.drop 0 (List.take ((enc n).length * 1) (List.drop 0 (List.map u8v (enc n))))) ++
                        []) ∧
                    True) ∧
                  IsBs
                      (List.take ((enc n).length * 1)
                          (List.drop 0 (List.take ((enc n).length * 1) (List.drop 0 (List.map u8v (enc n))))) ++
                        [])
                      0 ((enc n).length + 0) ((enc n).length + 0) ∧
                    FlatH
                        (hp
                          [Blk.cells (List.map u8v (enc n)) 1 true, Blk.cells (List.map u8v (ptxt s)) 1 true,
                            Blk.cells
                              [Value.int IntKind.u8 (wb n 0), Value.int IntKind.u8 (wb n 1),
                                Value.int IntKind.u8 (wb n 2), Value.int IntKind.u8 (wb n 3),
                                Value.int IntKind.u8 (wb n 4), Value.int IntKind.u8 (wb n 5),
                                Value.int IntKind.u8 (wb n 6), Value.int IntKind.u8 (wb n 7)]
                              1 true]) ∧
                      tmps 172
                            [(0, Value.int IntKind.u64 n), (1, Value.string s), (2, Value.slice none 0 0),
                              (3, Value.int IntKind.i64 cut),
                              (9, Value.slice (some { block := 0, off := 0 }) (enc n).length (enc n).length),
                              (10, Value.slice (some { block := 1, off := 0 }) (ptxt s).length (ptxt s).length),
                              (11, Value.slice (some { block := 2, off := 0, spot := some 0 }) 8 8),
                              (12,
                                Value.int IntKind.u64
                                  (gN
                                    (dec
                                      (bytesAt
                                        (List.take ((enc n).length * 1)
                                            (List.drop 0
                                              (List.take ((enc n).length * 1) (List.drop 0 (List.map u8v (enc n))))) ++
                                          [])
                                        0 ((enc n).length + 0))))),
                              (13,
                                Value.int IntKind.i64
                                  (↑(gK
                                        (dec
                                          (bytesAt
                                            (List.take ((enc n).length * 1)
                                                (List.drop 0
                                                  (List.take ((enc n).length * 1)
                                                    (List.drop 0 (List.map u8v (enc n))))) ++
                                              [])
                                            0 ((enc n).length + 0)))) :
                                    Int)),
                              (14,
                                Value.bool
                                  (dec
                                      (bytesAt
                                        (List.take ((enc n).length * 1)
                                            (List.drop 0
                                              (List.take ((enc n).length * 1) (List.drop 0 (List.map u8v (enc n))))) ++
                                          [])
                                        0 ((enc n).length + 0))).isSome)] =
                          tmps 172
                            [(0, Value.int IntKind.u64 n), (1, Value.string s), (2, Value.slice none 0 0),
                              (3, Value.int IntKind.i64 cut),
                              (9, Value.slice (some { block := 0, off := 0 }) (enc n).length (enc n).length),
                              (10, Value.slice (some { block := 1, off := 0 }) (ptxt s).length (ptxt s).length),
                              (11, Value.slice (some { block := 2, off := 0, spot := some 0 }) 8 8),
                              (12, Value.int IntKind.u64 n), (13, Value.int IntKind.i64 (↑(enc n).length : Int)),
                              (14, Value.bool true)] ∧
                        hp
                              [Blk.cells (List.map u8v (enc n)) 1 true, Blk.cells (List.map u8v (ptxt s)) 1 true,
                                Blk.cells
                                  [Value.int IntKind.u8 (wb n 0), Value.int IntKind.u8 (wb n 1),
                                    Value.int IntKind.u8 (wb n 2), Value.int IntKind.u8 (wb n 3),
                                    Value.int IntKind.u8 (wb n 4), Value.int IntKind.u8 (wb n 5),
                                    Value.int IntKind.u8 (wb n 6), Value.int IntKind.u8 (wb n 7)]
                                  1 true] =
                            hp
                              [Blk.cells (List.map u8v (enc n)) 1 true, Blk.cells (List.map u8v (ptxt s)) 1 true,
                                Blk.cells
                                  [Value.int IntKind.u8 (wb n 0), Value.int IntKind.u8 (wb n 1),
                                    Value.int IntKind.u8 (wb n 2), Value.int IntKind.u8 (wb n 3),
                                    Value.int IntKind.u8 (wb n 4), Value.int IntKind.u8 (wb n 5),
                                    Value.int IntKind.u8 (wb n 6), Value.int IntKind.u8 (wb n 7)]
                                  1 true] ∧
                          K AE.ret (tmps 172 [(8, Value.bool true)]) (hp [])))))))))) := by kernel_rfl

theorem w8z2 (n : Int) (s : ByteArray) (cut cut' : Int) (K : Post) :
  roundK Try.prog S3 (gcLK 0 (cutLK ((l8 0 Z8 [] n s cut cut').drop 2))) F8 body8 0 [] [1,1,1,1,1] (c8_1 0 Z8 [] n s cut cut').t (c8_1 0 Z8 [] n s cut cut').h K = (
Need (leN (0 + (ptxt s).length * 1) (List.map u8v (ptxt s)).length)
  (Alt (eqN (ptxt s).length 0)
    (True ∧
      True ∧
        FlatH
            (hp
              [Blk.cells (List.map u8v (enc n)) 1 true, Blk.cells (List.map u8v (ptxt s)) 1 true,
                Blk.cells
                  [Value.int IntKind.u8 (wb n 0), Value.int IntKind.u8 (wb n 1), Value.int IntKind.u8 (wb n 2),
                    Value.int IntKind.u8 (wb n 3), Value.int IntKind.u8 (wb n 4), Value.int IntKind.u8 (wb n 5),
                    Value.int IntKind.u8 (wb n 6), Value.int IntKind.u8 (wb n 7)]
                  1 true]) ∧
          tmps 172
                [(0, Value.int IntKind.u64 n), (1, Value.string s), (2, Value.slice none 0 0),
                  (3, Value.int IntKind.i64 cut),
                  (9, Value.slice (some { block := 0, off := 0 }) (enc n).length (enc n).length),
                  (10, Value.slice (some { block := 1, off := 0 }) (ptxt s).length (ptxt s).length),
                  (11, Value.slice (some { block := 2, off := 0, spot := some 0 }) 8 8), (12, Value.int IntKind.u64 n),
                  (13, Value.int IntKind.i64 (↑(enc n).length : Int)), (14, Value.bool true),
                  (15, Value.string (ofB (gS none))), (16, Value.int IntKind.i64 0), (17, Value.bool false)] =
              tmps 172
                [(0, Value.int IntKind.u64 n), (1, Value.string s), (2, Value.slice none 0 0),
                  (3, Value.int IntKind.i64 cut),
                  (9, Value.slice (some { block := 0, off := 0 }) (enc n).length (enc n).length),
                  (10, Value.slice (some { block := 1, off := 0 }) (ptxt s).length (ptxt s).length),
                  (11, Value.slice (some { block := 2, off := 0, spot := some 0 }) 8 8), (12, Value.int IntKind.u64 n),
                  (13, Value.int IntKind.i64 (↑(enc n).length : Int)), (14, Value.bool true), (15, Value.string s),
                  (16, Value.int IntKind.i64 (↑(ptxt s).length : Int)), (17, Value.bool true)] ∧
            hp
                  [Blk.cells (List.map u8v (enc n)) 1 true, Blk.cells (List.map u8v (ptxt s)) 1 true,
                    Blk.cells
                      [Value.int IntKind.u8 (wb n 0), Value.int IntKind.u8 (wb n 1), Value.int IntKind.u8 (wb n 2),
                        Value.int IntKind.u8 (wb n 3), Value.int IntKind.u8 (wb n 4), Value.int IntKind.u8 (wb n 5),
                        Value.int IntKind.u8 (wb n 6), Value.int IntKind.u8 (wb n 7)]
                      1 true] =
                hp
                  [Blk.cells (List.map u8v (enc n)) 1 true, Blk.cells (List.map u8v (ptxt s)) 1 true,
                    Blk.cells
                      [Value.int IntKind.u8 (wb n 0), Value.int IntKind.u8 (wb n 1), Value.int IntKind.u8 (wb n 2),
                        Value.int IntKind.u8 (wb n 3), Value.int IntKind.u8 (wb n 4), Value.int IntKind.u8 (wb n 5),
                        Value.int IntKind.u8 (wb n 6), Value.int IntKind.u8 (wb n 7)]
                      1 true] ∧
              K AE.ret (tmps 172 [(8, Value.bool true)]) (hp []))
    (Need (leN ((ptxt s).length * 1) 1099511627776)
      (Need (leN (ptxt s).length 1099511627776)
        (Need
          (leN (0 + (ptxt s).length * 1) (List.take ((ptxt s).length * 1) (List.drop 0 (List.map u8v (ptxt s)))).length)
          (Alt (leN ((ptxt s).length + 0) (ptxt s).length)
            ((FlatL (List.take ((ptxt s).length * 1) (List.drop 0 (List.map u8v (ptxt s)))) ∧ True) ∧
              (IsBs (List.take ((ptxt s).length * 1) (List.drop 0 (List.map u8v (ptxt s)))) 0 (ptxt s).length
                    (ptxt s).length ∧
                  Need (leI (↑s.size : Int) 9223372036854775807) True) ∧
                FlatH
                    (hp
                      [Blk.cells (List.map u8v (enc n)) 1 true, Blk.cells (List.map u8v (ptxt s)) 1 true,
                        Blk.cells
                          [Value.int IntKind.u8 (wb n 0), Value.int IntKind.u8 (wb n 1), Value.int IntKind.u8 (wb n 2),
                            Value.int IntKind.u8 (wb n 3), Value.int IntKind.u8 (wb n 4), Value.int IntKind.u8 (wb n 5),
                            Value.int IntKind.u8 (wb n 6), Value.int IntKind.u8 (wb n 7)]
                          1 true]) ∧
                  tmps 172
                        [(0, Value.int IntKind.u64 n), (1, Value.string s), (2, Value.slice none 0 0),
                          (3, Value.int IntKind.i64 cut),
                          (9, Value.slice (some { block := 0, off := 0 }) (enc n).length (enc n).length),
                          (10, Value.slice (some { block := 1, off := 0 }) (ptxt s).length (ptxt s).length),
                          (11, Value.slice (some { block := 2, off := 0, spot := some 0 }) 8 8),
                          (12, Value.int IntKind.u64 n), (13, Value.int IntKind.i64 (↑(enc n).length : Int)),
                          (14, Value.bool true),
                          (15,
                            Value.string
                              (ofB
                                (gS
                                  (getT
                                    (bytesAt (List.take ((ptxt s).length * 1) (List.drop 0 (List.map u8v (ptxt s)))) 0
                                      (ptxt s).length)
                                    (↑s.size : Int))))),
                          (16,
                            Value.int IntKind.i64
                              (↑(gE
                                    (getT
                                      (bytesAt (List.take ((ptxt s).length * 1) (List.drop 0 (List.map u8v (ptxt s)))) 0
                                        (ptxt s).length)
                                      (↑s.size : Int))) :
                                Int)),
                          (17,
                            Value.bool
                              (getT
                                  (bytesAt (List.take ((ptxt s).length * 1) (List.drop 0 (List.map u8v (ptxt s)))) 0
                                    (ptxt s).length)
                                  (↑s.size : Int)).isSome)] =
                      tmps 172
                        [(0, Value.int IntKind.u64 n), (1, Value.string s), (2, Value.slice none 0 0),
                          (3, Value.int IntKind.i64 cut),
                          (9, Value.slice (some { block := 0, off := 0 }) (enc n).length (enc n).length),
                          (10, Value.slice (some { block := 1, off := 0 }) (ptxt s).length (ptxt s).length),
                          (11, Value.slice (some { block := 2, off := 0, spot := some 0 }) 8 8),
                          (12, Value.int IntKind.u64 n), (13, Value.int IntKind.i64 (↑(enc n).length : Int)),
                          (14, Value.bool true), (15, Value.string s),
                          (16, Value.int IntKind.i64 (↑(ptxt s).length : Int)), (17, Value.bool true)] ∧
                    hp
                          [Blk.cells (List.map u8v (enc n)) 1 true, Blk.cells (List.map u8v (ptxt s)) 1 true,
                            Blk.cells
                              [Value.int IntKind.u8 (wb n 0), Value.int IntKind.u8 (wb n 1),
                                Value.int IntKind.u8 (wb n 2), Value.int IntKind.u8 (wb n 3),
                                Value.int IntKind.u8 (wb n 4), Value.int IntKind.u8 (wb n 5),
                                Value.int IntKind.u8 (wb n 6), Value.int IntKind.u8 (wb n 7)]
                              1 true] =
                        hp
                          [Blk.cells (List.map u8v (enc n)) 1 true, Blk.cells (List.map u8v (ptxt s)) 1 true,
                            Blk.cells
                              [Value.int IntKind.u8 (wb n 0), Value.int IntKind.u8 (wb n 1),
                                Value.int IntKind.u8 (wb n 2), Value.int IntKind.u8 (wb n 3),
                                Value.int IntKind.u8 (wb n 4), Value.int IntKind.u8 (wb n 5),
                                Value.int IntKind.u8 (wb n 6), Value.int IntKind.u8 (wb n 7)]
                              1 true] ∧
                      K AE.ret (tmps 172 [(8, Value.bool true)]) (hp []))
            (Need (leN (((ptxt s).length + 0) * 1) 1099511627776)
              (Need (leN ((ptxt s).length + 0) 1099511627776)
                ((FlatL
                      (List.take ((ptxt s).length * 1)
                          (List.drop 0 (List.take ((ptxt s).length * 1) (List.drop 0 (List.map u8v (ptxt s))))) ++
                        []) ∧
                    True) ∧
                  (IsBs
                        (List.take ((ptxt s).length * 1)
                            (List.drop 0 (List.take ((ptxt s).length * 1) (List.drop 0 (List.map u8v (ptxt s))))) ++
                          [])
                        0 ((ptxt s).length + 0) ((ptxt s).length + 0) ∧
                      Need (leI (↑s.size : Int) 9223372036854775807) True) ∧
                    FlatH
                        (hp
                          [Blk.cells (List.map u8v (enc n)) 1 true, Blk.cells (List.map u8v (ptxt s)) 1 true,
                            Blk.cells
                              [Value.int IntKind.u8 (wb n 0), Value.int IntKind.u8 (wb n 1),
                                Value.int IntKind.u8 (wb n 2), Value.int IntKind.u8 (wb n 3),
                                Value.int IntKind.u8 (wb n 4), Value.int IntKind.u8 (wb n 5),
                                Value.int IntKind.u8 (wb n 6), Value.int IntKind.u8 (wb n 7)]
                              1 true]) ∧
                      tmps 172
                            [(0, Value.int IntKind.u64 n), (1, Value.string s), (2, Value.slice none 0 0),
                              (3, Value.int IntKind.i64 cut),
                              (9, Value.slice (some { block := 0, off := 0 }) (enc n).length (enc n).length),
                              (10, Value.slice (some { block := 1, off := 0 }) (ptxt s).length (ptxt s).length),
                              (11, Value.slice (some { block := 2, off := 0, spot := some 0 }) 8 8),
                              (12, Value.int IntKind.u64 n), (13, Value.int IntKind.i64 (↑(enc n).length : Int)),
                              (14, Value.bool true),
                              (15,
                                Value.string
                                  (ofB
                                    (gS
                                      (getT
                                        (bytesAt
                                          (List.take ((ptxt s).length * 1)
                                              (List.drop 0
                                                (List.take ((ptxt s).length * 1)
                                                  (List.drop 0 (List.map u8v (ptxt s))))) ++
                                            [])
                                          0 ((ptxt s).length + 0))
                                        (↑s.size : Int))))),
                              (16,
                                Value.int IntKind.i64
                                  (↑(gE
                                        (getT
                                          (bytesAt
                                            (List.take ((ptxt s).length * 1)
                                                (List.drop 0
                                                  (List.take ((ptxt s).length * 1)
                                                    (List.drop 0 (List.map u8v (ptxt s))))) ++
                                              [])
                                            0 ((ptxt s).length + 0))
                                          (↑s.size : Int))) :
                                    Int)),
                              (17,
                                Value.bool
                                  (getT
                                      (bytesAt
                                        (List.take ((ptxt s).length * 1)
                                            (List.drop 0
                                              (List.take ((ptxt s).length * 1)
                                                (List.drop 0 (List.map u8v (ptxt s))))) ++
                                          [])
                                        0 ((ptxt s).length + 0))
                                      (↑s.size : Int)).isSome)] =
                          tmps 172
                            [(0, Value.int IntKind.u64 n), (1, Value.string s), (2, Value.slice none 0 0),
                              (3, Value.int IntKind.i64 cut),
                              (9, Value.slice (some { block := 0, off := 0 }) (enc n).length (enc n).length),
                              (10, Value.slice (some { block := 1, off := 0 }) (ptxt s).length (ptxt s).length),
                              (11, Value.slice (some { block := 2, off := 0, spot := some 0 }) 8 8),
                              (12, Value.int IntKind.u64 n), (13, Value.int IntKind.i64 (↑(enc n).length : Int)),
                              (14, Value.bool true), (15, Value.string s),
                              (16, Value.int IntKind.i64 (↑(ptxt s).length : Int)), (17, Value.bool true)] ∧
                        hp
                              [Blk.cells (List.map u8v (enc n)) 1 true, Blk.cells (List.map u8v (ptxt s)) 1 true,
                                Blk.cells
                                  [Value.int IntKind.u8 (wb n 0), Value.int IntKind.u8 (wb n 1),
                                    Value.int IntKind.u8 (wb n 2), Value.int IntKind.u8 (wb n 3),
                                    Value.int IntKind.u8 (wb n 4), Value.int IntKind.u8 (wb n 5),
                                    Value.int IntKind.u8 (wb n 6), Value.int IntKind.u8 (wb n 7)]
                                  1 true] =
                            hp
                              [Blk.cells (List.map u8v (enc n)) 1 true, Blk.cells (List.map u8v (ptxt s)) 1 true,
                                Blk.cells
                                  [Value.int IntKind.u8 (wb n 0), Value.int IntKind.u8 (wb n 1),
                                    Value.int IntKind.u8 (wb n 2), Value.int IntKind.u8 (wb n 3),
                                    Value.int IntKind.u8 (wb n 4), Value.int IntKind.u8 (wb n 5),
                                    Value.int IntKind.u8 (wb n 6), Value.int IntKind.u8 (wb n 7)]
                                  1 true] ∧
                          K AE.ret (tmps 172 [(8, Value.bool true)]) (hp [])))))))))) := by kernel_rfl

theorem w8z3 (n : Int) (s : ByteArray) (cut cut' : Int) (K : Post) :
  roundK Try.prog S3 (gcLK 0 (cutLK ((l8 0 Z8 [] n s cut cut').drop 3))) F8 body8 0 [] [1,1,1,1,1,1] (c8_2 0 Z8 [] n s cut cut').t (c8_2 0 Z8 [] n s cut cut').h K = (
(FlatL
      [Value.int IntKind.u8 (wb n 0), Value.int IntKind.u8 (wb n 1), Value.int IntKind.u8 (wb n 2),
        Value.int IntKind.u8 (wb n 3), Value.int IntKind.u8 (wb n 4), Value.int IntKind.u8 (wb n 5),
        Value.int IntKind.u8 (wb n 6), Value.int IntKind.u8 (wb n 7)] ∧
    True) ∧
  IsBs
      [Value.int IntKind.u8 (wb n 0), Value.int IntKind.u8 (wb n 1), Value.int IntKind.u8 (wb n 2),
        Value.int IntKind.u8 (wb n 3), Value.int IntKind.u8 (wb n 4), Value.int IntKind.u8 (wb n 5),
        Value.int IntKind.u8 (wb n 6), Value.int IntKind.u8 (wb n 7)]
      0 8 8 ∧
    FlatH (hp [Blk.cells (List.map u8v (enc n)) 1 true, Blk.cells (List.map u8v (ptxt s)) 1 true]) ∧
      tmps 172
            [(0, Value.int IntKind.u64 n), (1, Value.string s), (2, Value.slice none 0 0),
              (3, Value.int IntKind.i64 cut),
              (9, Value.slice (some { block := 0, off := 0 }) (enc n).length (enc n).length),
              (10, Value.slice (some { block := 1, off := 0 }) (ptxt s).length (ptxt s).length),
              (12, Value.int IntKind.u64 n), (13, Value.int IntKind.i64 (↑(enc n).length : Int)), (14, Value.bool true),
              (15, Value.string s), (16, Value.int IntKind.i64 (↑(ptxt s).length : Int)), (17, Value.bool true),
              (18,
                Value.int IntKind.u64
                  (if 8 < 8 then 0
                  else
                    gw
                      (bytesAt
                        [Value.int IntKind.u8 (wb n 0), Value.int IntKind.u8 (wb n 1), Value.int IntKind.u8 (wb n 2),
                          Value.int IntKind.u8 (wb n 3), Value.int IntKind.u8 (wb n 4), Value.int IntKind.u8 (wb n 5),
                          Value.int IntKind.u8 (wb n 6), Value.int IntKind.u8 (wb n 7)]
                        0 8))),
              (19, Value.bool (leN 8 8))] =
          tmps 172
            [(0, Value.int IntKind.u64 n), (1, Value.string s), (2, Value.slice none 0 0),
              (3, Value.int IntKind.i64 cut),
              (9, Value.slice (some { block := 0, off := 0 }) (enc n).length (enc n).length),
              (10, Value.slice (some { block := 1, off := 0 }) (ptxt s).length (ptxt s).length),
              (12, Value.int IntKind.u64 n), (13, Value.int IntKind.i64 (↑(enc n).length : Int)), (14, Value.bool true),
              (15, Value.string s), (16, Value.int IntKind.i64 (↑(ptxt s).length : Int)), (17, Value.bool true),
              (18, Value.int IntKind.u64 n), (19, Value.bool true)] ∧
        hp [Blk.cells (List.map u8v (enc n)) 1 true, Blk.cells (List.map u8v (ptxt s)) 1 true] =
            hp [Blk.cells (List.map u8v (enc n)) 1 true, Blk.cells (List.map u8v (ptxt s)) 1 true] ∧
          K AE.ret (tmps 172 [(8, Value.bool true)]) (hp [])) := by kernel_rfl

theorem w8z4 (n : Int) (s : ByteArray) (cut cut' : Int) (K : Post) :
  roundK Try.prog S3 (gcLK 0 (cutLK ((l8 0 Z8 [] n s cut cut').drop 4))) F8 body8 0 [] [1,1,1,1,1,1,1] (c8_3 0 Z8 [] n s cut cut').t (c8_3 0 Z8 [] n s cut cut').h K = (
Need (leN (0 + (ptxt s).length * 1) (List.map u8v (ptxt s)).length)
  (Alt (eqN (ptxt s).length 0)
    (True ∧
      True ∧
        FlatH (hp [Blk.cells (List.map u8v (enc n)) 1 true, Blk.cells (List.map u8v (ptxt s)) 1 true]) ∧
          tmps 172
                [(0, Value.int IntKind.u64 n), (1, Value.string s), (3, Value.int IntKind.i64 cut),
                  (9, Value.slice (some { block := 0, off := 0 }) (enc n).length (enc n).length),
                  (10, Value.slice (some { block := 1, off := 0 }) (ptxt s).length (ptxt s).length),
                  (12, Value.int IntKind.u64 n), (13, Value.int IntKind.i64 (↑(enc n).length : Int)),
                  (14, Value.bool true), (15, Value.string s), (16, Value.int IntKind.i64 (↑(ptxt s).length : Int)),
                  (17, Value.bool true), (18, Value.int IntKind.u64 n), (19, Value.bool true), (22, Value.bool false)] =
              tmps 172
                [(0, Value.int IntKind.u64 n), (1, Value.string s), (3, Value.int IntKind.i64 cut),
                  (9, Value.slice (some { block := 0, off := 0 }) (enc n).length (enc n).length),
                  (10, Value.slice (some { block := 1, off := 0 }) (ptxt s).length (ptxt s).length),
                  (12, Value.int IntKind.u64 n), (13, Value.int IntKind.i64 (↑(enc n).length : Int)),
                  (14, Value.bool true), (15, Value.string s), (16, Value.int IntKind.i64 (↑(ptxt s).length : Int)),
                  (17, Value.bool true), (18, Value.int IntKind.u64 n), (19, Value.bool true), (22, Value.bool false)] ∧
            hp [Blk.cells (List.map u8v (enc n)) 1 true, Blk.cells (List.map u8v (ptxt s)) 1 true] =
                hp [Blk.cells (List.map u8v (enc n)) 1 true, Blk.cells (List.map u8v (ptxt s)) 1 true] ∧
              K AE.ret (tmps 172 [(8, Value.bool true)]) (hp []))
    (Need (leN ((ptxt s).length * 1) 1099511627776)
      (Need (leN (ptxt s).length 1099511627776)
        (Need
          (leN (0 + (ptxt s).length * 1) (List.take ((ptxt s).length * 1) (List.drop 0 (List.map u8v (ptxt s)))).length)
          (Alt (leN ((ptxt s).length + 0) (ptxt s).length)
            ((FlatL (List.take ((ptxt s).length * 1) (List.drop 0 (List.map u8v (ptxt s)))) ∧ True) ∧
              (IsBs (List.take ((ptxt s).length * 1) (List.drop 0 (List.map u8v (ptxt s)))) 0 (ptxt s).length
                    (ptxt s).length ∧
                  Need (leI (wr IntKind.i64 ((↑s.size : Int) - 1)) 9223372036854775807) True) ∧
                FlatH (hp [Blk.cells (List.map u8v (enc n)) 1 true, Blk.cells (List.map u8v (ptxt s)) 1 true]) ∧
                  tmps 172
                        [(0, Value.int IntKind.u64 n), (1, Value.string s), (3, Value.int IntKind.i64 cut),
                          (9, Value.slice (some { block := 0, off := 0 }) (enc n).length (enc n).length),
                          (10, Value.slice (some { block := 1, off := 0 }) (ptxt s).length (ptxt s).length),
                          (12, Value.int IntKind.u64 n), (13, Value.int IntKind.i64 (↑(enc n).length : Int)),
                          (14, Value.bool true), (15, Value.string s),
                          (16, Value.int IntKind.i64 (↑(ptxt s).length : Int)), (17, Value.bool true),
                          (18, Value.int IntKind.u64 n), (19, Value.bool true),
                          (22,
                            Value.bool
                              (getT
                                  (bytesAt (List.take ((ptxt s).length * 1) (List.drop 0 (List.map u8v (ptxt s)))) 0
                                    (ptxt s).length)
                                  (wr IntKind.i64 ((↑s.size : Int) - 1))).isSome)] =
                      tmps 172
                        [(0, Value.int IntKind.u64 n), (1, Value.string s), (3, Value.int IntKind.i64 cut),
                          (9, Value.slice (some { block := 0, off := 0 }) (enc n).length (enc n).length),
                          (10, Value.slice (some { block := 1, off := 0 }) (ptxt s).length (ptxt s).length),
                          (12, Value.int IntKind.u64 n), (13, Value.int IntKind.i64 (↑(enc n).length : Int)),
                          (14, Value.bool true), (15, Value.string s),
                          (16, Value.int IntKind.i64 (↑(ptxt s).length : Int)), (17, Value.bool true),
                          (18, Value.int IntKind.u64 n), (19, Value.bool true), (22, Value.bool false)] ∧
                    hp [Blk.cells (List.map u8v (enc n)) 1 true, Blk.cells (List.map u8v (ptxt s)) 1 true] =
                        hp [Blk.cells (List.map u8v (enc n)) 1 true, Blk.cells (List.map u8v (ptxt s)) 1 true] ∧
                      K AE.ret (tmps 172 [(8, Value.bool true)]) (hp []))
            (Need (leN (((ptxt s).length + 0) * 1) 1099511627776)
              (Need (leN ((ptxt s).length + 0) 1099511627776)
                ((FlatL
                      (List.take ((ptxt s).length * 1)
                          (List.drop 0 (List.take ((ptxt s).length * 1) (List.drop 0 (List.map u8v (ptxt s))))) ++
                        []) ∧
                    True) ∧
                  (IsBs
                        (List.take ((ptxt s).length * 1)
                            (List.drop 0 (List.take ((ptxt s).length * 1) (List.drop 0 (List.map u8v (ptxt s))))) ++
                          [])
                        0 ((ptxt s).length + 0) ((ptxt s).length + 0) ∧
                      Need (leI (wr IntKind.i64 ((↑s.size : Int) - 1)) 9223372036854775807) True) ∧
                    FlatH (hp [Blk.cells (List.map u8v (enc n)) 1 true, Blk.cells (List.map u8v (ptxt s)) 1 true]) ∧
                      tmps 172
                            [(0, Value.int IntKind.u64 n), (1, Value.string s), (3, Value.int IntKind.i64 cut),
                              (9, Value.slice (some { block := 0, off := 0 }) (enc n).length (enc n).length),
                              (10, Value.slice (some { block := 1, off := 0 }) (ptxt s).length (ptxt s).length),
                              (12, Value.int IntKind.u64 n), (13, Value.int IntKind.i64 (↑(enc n).length : Int)),
                              (14, Value.bool true), (15, Value.string s),
                              (16, Value.int IntKind.i64 (↑(ptxt s).length : Int)), (17, Value.bool true),
                              (18, Value.int IntKind.u64 n), (19, Value.bool true),
                              (22,
                                Value.bool
                                  (getT
                                      (bytesAt
                                        (List.take ((ptxt s).length * 1)
                                            (List.drop 0
                                              (List.take ((ptxt s).length * 1)
                                                (List.drop 0 (List.map u8v (ptxt s))))) ++
                                          [])
                                        0 ((ptxt s).length + 0))
                                      (wr IntKind.i64 ((↑s.size : Int) - 1))).isSome)] =
                          tmps 172
                            [(0, Value.int IntKind.u64 n), (1, Value.string s), (3, Value.int IntKind.i64 cut),
                              (9, Value.slice (some { block := 0, off := 0 }) (enc n).length (enc n).length),
                              (10, Value.slice (some { block := 1, off := 0 }) (ptxt s).length (ptxt s).length),
                              (12, Value.int IntKind.u64 n), (13, Value.int IntKind.i64 (↑(enc n).length : Int)),
                              (14, Value.bool true), (15, Value.string s),
                              (16, Value.int IntKind.i64 (↑(ptxt s).length : Int)), (17, Value.bool true),
                              (18, Value.int IntKind.u64 n), (19, Value.bool true), (22, Value.bool false)] ∧
                        hp [Blk.cells (List.map u8v (enc n)) 1 true, Blk.cells (List.map u8v (ptxt s)) 1 true] =
                            hp [Blk.cells (List.map u8v (enc n)) 1 true, Blk.cells (List.map u8v (ptxt s)) 1 true] ∧
                          K AE.ret (tmps 172 [(8, Value.bool true)]) (hp [])))))))))) := by kernel_rfl

theorem w8z5 (n : Int) (s : ByteArray) (cut cut' : Int) (K : Post) :
  roundK Try.prog S3 (gcLK 0 (cutLK ((l8 0 Z8 [] n s cut cut').drop 5))) F8 body8 0 [] [1,1,1,1,1,1,1,1] (c8_4 0 Z8 [] n s cut cut').t (c8_4 0 Z8 [] n s cut cut').h K = (
Alt (ltI cut 0)
  (FlatH (hp [Blk.cells (List.map u8v (enc n)) 1 true, Blk.cells (List.map u8v (ptxt s)) 1 true]) ∧
    tmps 172
          [(0, Value.int IntKind.u64 n), (1, Value.string s), (3, Value.int IntKind.i64 0),
            (9, Value.slice (some { block := 0, off := 0 }) (enc n).length (enc n).length),
            (10, Value.slice (some { block := 1, off := 0 }) (ptxt s).length (ptxt s).length),
            (12, Value.int IntKind.u64 n), (13, Value.int IntKind.i64 (↑(enc n).length : Int)), (14, Value.bool true),
            (15, Value.string s), (16, Value.int IntKind.i64 (↑(ptxt s).length : Int)), (17, Value.bool true),
            (18, Value.int IntKind.u64 n), (19, Value.bool true), (22, Value.bool false)] =
        tmps 172
          [(0, Value.int IntKind.u64 n), (1, Value.string s), (3, Value.int IntKind.i64 cut'),
            (9, Value.slice (some { block := 0, off := 0 }) (enc n).length (enc n).length),
            (10, Value.slice (some { block := 1, off := 0 }) (ptxt s).length (ptxt s).length),
            (12, Value.int IntKind.u64 n), (13, Value.int IntKind.i64 (↑(enc n).length : Int)), (14, Value.bool true),
            (15, Value.string s), (16, Value.int IntKind.i64 (↑(ptxt s).length : Int)), (17, Value.bool true),
            (18, Value.int IntKind.u64 n), (19, Value.bool true), (22, Value.bool false)] ∧
      hp [Blk.cells (List.map u8v (enc n)) 1 true, Blk.cells (List.map u8v (ptxt s)) 1 true] =
          hp [Blk.cells (List.map u8v (enc n)) 1 true, Blk.cells (List.map u8v (ptxt s)) 1 true] ∧
        K AE.ret (tmps 172 [(8, Value.bool true)]) (hp []))
  (FlatH (hp [Blk.cells (List.map u8v (enc n)) 1 true, Blk.cells (List.map u8v (ptxt s)) 1 true]) ∧
    tmps 172
          [(0, Value.int IntKind.u64 n), (1, Value.string s), (3, Value.int IntKind.i64 cut),
            (9, Value.slice (some { block := 0, off := 0 }) (enc n).length (enc n).length),
            (10, Value.slice (some { block := 1, off := 0 }) (ptxt s).length (ptxt s).length),
            (12, Value.int IntKind.u64 n), (13, Value.int IntKind.i64 (↑(enc n).length : Int)), (14, Value.bool true),
            (15, Value.string s), (16, Value.int IntKind.i64 (↑(ptxt s).length : Int)), (17, Value.bool true),
            (18, Value.int IntKind.u64 n), (19, Value.bool true), (22, Value.bool false)] =
        tmps 172
          [(0, Value.int IntKind.u64 n), (1, Value.string s), (3, Value.int IntKind.i64 cut'),
            (9, Value.slice (some { block := 0, off := 0 }) (enc n).length (enc n).length),
            (10, Value.slice (some { block := 1, off := 0 }) (ptxt s).length (ptxt s).length),
            (12, Value.int IntKind.u64 n), (13, Value.int IntKind.i64 (↑(enc n).length : Int)), (14, Value.bool true),
            (15, Value.string s), (16, Value.int IntKind.i64 (↑(ptxt s).length : Int)), (17, Value.bool true),
            (18, Value.int IntKind.u64 n), (19, Value.bool true), (22, Value.bool false)] ∧
      hp [Blk.cells (List.map u8v (enc n)) 1 true, Blk.cells (List.map u8v (ptxt s)) 1 true] =
          hp [Blk.cells (List.map u8v (enc n)) 1 true, Blk.cells (List.map u8v (ptxt s)) 1 true] ∧
        K AE.ret (tmps 172 [(8, Value.bool true)]) (hp []))) := by kernel_rfl

theorem w8z6 (n : Int) (s : ByteArray) (cut cut' : Int) (K : Post) :
  roundK Try.prog S3 (gcLK 0 (cutLK ((l8 0 Z8 [] n s cut cut').drop 6))) F8 body8 0 [] [1,1,1,1,1,1,1,1,1] (c8_5 0 Z8 [] n s cut cut').t (c8_5 0 Z8 [] n s cut cut').h K = (
Need (!eqI (↑(enc n).length : Int) 0)
  (Need (leI 0 (cut'.tmod (↑(enc n).length : Int)))
    (Need (leI (cut'.tmod (↑(enc n).length : Int)) (↑(enc n).length : Int))
      ((FlatL (List.map u8v (enc n)) ∧ True) ∧
        IsBs (List.map u8v (enc n)) 0 ((cut'.tmod (↑(enc n).length : Int)).toNat - 0) ((enc n).length - 0) ∧
          FlatH (hp [Blk.cells (List.map u8v (enc n)) 1 true, Blk.cells (List.map u8v (ptxt s)) 1 true]) ∧
            tmps 172
                  [(0, Value.int IntKind.u64 n), (1, Value.string s), (3, Value.int IntKind.i64 cut'),
                    (9, Value.slice (some { block := 0, off := 0 }) (enc n).length (enc n).length),
                    (10, Value.slice (some { block := 1, off := 0 }) (ptxt s).length (ptxt s).length),
                    (12, Value.int IntKind.u64 n), (13, Value.int IntKind.i64 (↑(enc n).length : Int)),
                    (14, Value.bool true), (15, Value.string s), (16, Value.int IntKind.i64 (↑(ptxt s).length : Int)),
                    (17, Value.bool true), (18, Value.int IntKind.u64 n), (19, Value.bool true), (22, Value.bool false),
                    (25,
                      Value.bool
                        (dec
                            (bytesAt (List.map u8v (enc n)) 0
                              ((cut'.tmod (↑(enc n).length : Int)).toNat - 0))).isSome)] =
                tmps 172
                  [(0, Value.int IntKind.u64 n), (1, Value.string s), (3, Value.int IntKind.i64 cut'),
                    (9, Value.slice (some { block := 0, off := 0 }) (enc n).length (enc n).length),
                    (10, Value.slice (some { block := 1, off := 0 }) (ptxt s).length (ptxt s).length),
                    (12, Value.int IntKind.u64 n), (13, Value.int IntKind.i64 (↑(enc n).length : Int)),
                    (14, Value.bool true), (15, Value.string s), (16, Value.int IntKind.i64 (↑(ptxt s).length : Int)),
                    (17, Value.bool true), (18, Value.int IntKind.u64 n), (19, Value.bool true), (22, Value.bool false),
                    (25, Value.bool false)] ∧
              hp [Blk.cells (List.map u8v (enc n)) 1 true, Blk.cells (List.map u8v (ptxt s)) 1 true] =
                  hp [Blk.cells (List.map u8v (enc n)) 1 true, Blk.cells (List.map u8v (ptxt s)) 1 true] ∧
                K AE.ret (tmps 172 [(8, Value.bool true)]) (hp []))))) := by kernel_rfl

theorem w8z7 (n : Int) (s : ByteArray) (cut cut' : Int) (K : Post) :
  roundK Try.prog S3 (gcLK 0 (cutLK ((l8 0 Z8 [] n s cut cut').drop 7))) F8 body8 0 [] [1,1,1,1,1,1,1,1,1,1] (c8_6 0 Z8 [] n s cut cut').t (c8_6 0 Z8 [] n s cut cut').h K = (
Need (!eqI (↑(ptxt s).length : Int) 0)
  (Need (leI 0 (cut'.tmod (↑(ptxt s).length : Int)))
    (Need (leI (cut'.tmod (↑(ptxt s).length : Int)) (↑(ptxt s).length : Int))
      ((FlatL (List.map u8v (ptxt s)) ∧ True) ∧
        (IsBs (List.map u8v (ptxt s)) 0 ((cut'.tmod (↑(ptxt s).length : Int)).toNat - 0) ((ptxt s).length - 0) ∧
            Need (leI (↑s.size : Int) 9223372036854775807) True) ∧
          FlatH (hp [Blk.cells (List.map u8v (enc n)) 1 true, Blk.cells (List.map u8v (ptxt s)) 1 true]) ∧
            tmps 172
                  [(0, Value.int IntKind.u64 n), (1, Value.string s),
                    (9, Value.slice (some { block := 0, off := 0 }) (enc n).length (enc n).length),
                    (10, Value.slice (some { block := 1, off := 0 }) (ptxt s).length (ptxt s).length),
                    (12, Value.int IntKind.u64 n), (13, Value.int IntKind.i64 (↑(enc n).length : Int)),
                    (14, Value.bool true), (15, Value.string s), (16, Value.int IntKind.i64 (↑(ptxt s).length : Int)),
                    (17, Value.bool true), (18, Value.int IntKind.u64 n), (19, Value.bool true), (22, Value.bool false),
                    (25, Value.bool false),
                    (28,
                      Value.bool
                        (getT (bytesAt (List.map u8v (ptxt s)) 0 ((cut'.tmod (↑(ptxt s).length : Int)).toNat - 0))
                            (↑s.size : Int)).isSome)] =
                tmps 172
                  [(0, Value.int IntKind.u64 n), (1, Value.string s),
                    (9, Value.slice (some { block := 0, off := 0 }) (enc n).length (enc n).length),
                    (10, Value.slice (some { block := 1, off := 0 }) (ptxt s).length (ptxt s).length),
                    (12, Value.int IntKind.u64 n), (13, Value.int IntKind.i64 (↑(enc n).length : Int)),
                    (14, Value.bool true), (15, Value.string s), (16, Value.int IntKind.i64 (↑(ptxt s).length : Int)),
                    (17, Value.bool true), (18, Value.int IntKind.u64 n), (19, Value.bool true), (22, Value.bool false),
                    (25, Value.bool false), (28, Value.bool false)] ∧
              hp [Blk.cells (List.map u8v (enc n)) 1 true, Blk.cells (List.map u8v (ptxt s)) 1 true] =
                  hp [Blk.cells (List.map u8v (enc n)) 1 true, Blk.cells (List.map u8v (ptxt s)) 1 true] ∧
                K AE.ret (tmps 172 [(8, Value.bool true)]) (hp []))))) := by kernel_rfl

theorem w8z8 (n : Int) (s : ByteArray) (cut cut' : Int) (K : Post) :
  roundK Try.prog S3 (gcLK 0 (cutLK ((l8 0 Z8 [] n s cut cut').drop 8))) F8 body8 0 [] [1,1,1,1,1,1,1,1,1,1,1] (c8_7 0 Z8 [] n s cut cut').t (c8_7 0 Z8 [] n s cut cut').h K = (
Alt (eqI n n)
  (Alt (eqI (↑(enc n).length : Int) (↑(enc n).length : Int))
    (Alt (eqS s s)
      (Alt (eqI (↑(ptxt s).length : Int) (↑(ptxt s).length : Int))
        (Alt (eqI n n) (True ∧ True ∧ K AE.ret (tmps 172 [(8, Value.bool true)]) (hp []))
          (K AE.ret (tmps 172 [(8, Value.bool false)]) (hp [])))
        (K AE.ret (tmps 172 [(8, Value.bool false)]) (hp [])))
      (K AE.ret (tmps 172 [(8, Value.bool false)]) (hp [])))
    (K AE.ret (tmps 172 [(8, Value.bool false)]) (hp [])))
  (K AE.ret (tmps 172 [(8, Value.bool false)]) (hp []))) := by kernel_rfl

theorem w8n0 (cs : List Value) (o : Nat) (sp : Option Nat) (len cap : Nat) (n : Int) (s : ByteArray) (cut cut' : Int) (K : Value → Heap → Prop) :
  funK Try.prog S3 (gcLK 1 (cutLK (l8 1 (N8 o sp len cap) [.cells cs 1 false] n s cut cut'))) F8 body8 Try.f8 [.int .u64 n, .string s, .slice (some ⟨0,o,sp⟩) len cap, .int .i64 cut] (hp [.cells cs 1 false]) K = (
Alt (ltI 400 (↑s.size : Int)) (True ∧ True ∧ K (Value.bool true) (hp [Blk.cells cs 1 false]))
  (Alt (ltI 400 (↑len : Int)) (True ∧ True ∧ K (Value.bool true) (hp [Blk.cells cs 1 false]))
    (True ∧
      Need (leI 0 n) (Need (leI n 18446744073709551615) True) ∧
        True ∧
          Need (leN s.size 1000000000000) True ∧
            True ∧
              Need (leI 0 n) True ∧
                Alt (ltI (↑(enc n).length : Int) 1) (K (Value.bool false) (hp [Blk.cells cs 1 false]))
                  (Alt (ltI (↑(ptxt s).length : Int) 1) (K (Value.bool false) (hp [Blk.cells cs 1 false]))
                    (FlatH
                        (hp
                          [Blk.cells cs 1 false, Blk.cells (List.map u8v (enc n)) 1 true,
                            Blk.cells (List.map u8v (ptxt s)) 1 true,
                            Blk.cells
                              [Value.int IntKind.u8 (wb n 0), Value.int IntKind.u8 (wb n 1),
                                Value.int IntKind.u8 (wb n 2), Value.int IntKind.u8 (wb n 3),
                                Value.int IntKind.u8 (wb n 4), Value.int IntKind.u8 (wb n 5),
                                Value.int IntKind.u8 (wb n 6), Value.int IntKind.u8 (wb n 7)]
                              1 true]) ∧
                      tmps 172
                            [(0, Value.int IntKind.u64 n), (1, Value.string s),
                              (2, Value.slice (some { block := 0, off := o, spot := sp }) len cap),
                              (3, Value.int IntKind.i64 cut),
                              (9, Value.slice (some { block := 1, off := 0 }) (enc n).length (enc n).length),
                              (10, Value.slice (some { block := 2, off := 0 }) (ptxt s).length (ptxt s).length),
                              (11, Value.slice (some { block := 3, off := 0, spot := some 0 }) 8 8)] =
                          tmps 172
                            [(0, Value.int IntKind.u64 n), (1, Value.string s),
                              (2, Value.slice (some { block := 0, off := o, spot := sp }) len cap),
                              (3, Value.int IntKind.i64 cut),
                              (9, Value.slice (some { block := 1, off := 0 }) (enc n).length (enc n).length),
                              (10, Value.slice (some { block := 2, off := 0 }) (ptxt s).length (ptxt s).length),
                              (11, Value.slice (some { block := 3, off := 0, spot := some 0 }) 8 8)] ∧
                        hp
                              [Blk.cells cs 1 false, Blk.cells (List.map u8v (enc n)) 1 true,
                                Blk.cells (List.map u8v (ptxt s)) 1 true,
                                Blk.cells
                                  [Value.int IntKind.u8 (wb n 0), Value.int IntKind.u8 (wb n 1),
                                    Value.int IntKind.u8 (wb n 2), Value.int IntKind.u8 (wb n 3),
                                    Value.int IntKind.u8 (wb n 4), Value.int IntKind.u8 (wb n 5),
                                    Value.int IntKind.u8 (wb n 6), Value.int IntKind.u8 (wb n 7)]
                                  1 true] =
                            hp
                              [Blk.cells cs 1 false, Blk.cells (List.map u8v (enc n)) 1 true,
                                Blk.cells (List.map u8v (ptxt s)) 1 true,
                                Blk.cells
                                  [Value.int IntKind.u8 (wb n 0), Value.int IntKind.u8 (wb n 1),
                                    Value.int IntKind.u8 (wb n 2), Value.int IntKind.u8 (wb n 3),
                                    Value.int IntKind.u8 (wb n 4), Value.int IntKind.u8 (wb n 5),
                                    Value.int IntKind.u8 (wb n 6), Value.int IntKind.u8 (wb n 7)]
                                  1 true] ∧
                          K (Value.bool true) (hp [Blk.cells cs 1 false])))))) := by kernel_rfl

theorem w8n1 (cs : List Value) (o : Nat) (sp : Option Nat) (len cap : Nat) (n : Int) (s : ByteArray) (cut cut' : Int) (K : Post) :
  roundK Try.prog S3 (gcLK 1 (cutLK ((l8 1 (N8 o sp len cap) [.cells cs 1 false] n s cut cut').drop 1))) F8 body8 1 [] [1,1,1,1] (c8_0 1 (N8 o sp len cap) [.cells cs 1 false] n s cut cut').t (c8_0 1 (N8 o sp len cap) [.cells cs 1 false] n s cut cut').h K = (
Need (leN (0 + (enc n).length * 1) (List.map u8v (enc n)).length)
  (Alt (eqN (enc n).length 0)
    (Need (leN (o + len * 1) cs.length)
      (Alt (eqN len 0)
        (True ∧
          True ∧
            FlatH
                (hp
                  [Blk.cells cs 1 false, Blk.cells (List.map u8v (enc n)) 1 true,
                    Blk.cells (List.map u8v (ptxt s)) 1 true,
                    Blk.cells
                      [Value.int IntKind.u8 (wb n 0), Value.int IntKind.u8 (wb n 1), Value.int IntKind.u8 (wb n 2),
                        Value.int IntKind.u8 (wb n 3), Value.int IntKind.u8 (wb n 4), Value.int IntKind.u8 (wb n 5),
                        Value.int IntKind.u8 (wb n 6), Value.int IntKind.u8 (wb n 7)]
                      1 true]) ∧
              tmps 172
                    [(0, Value.int IntKind.u64 n), (1, Value.string s),
                      (2, Value.slice (some { block := 0, off := o, spot := sp }) len cap),
                      (3, Value.int IntKind.i64 cut),
                      (9, Value.slice (some { block := 1, off := 0 }) (enc n).length (enc n).length),
                      (10, Value.slice (some { block := 2, off := 0 }) (ptxt s).length (ptxt s).length),
                      (11, Value.slice (some { block := 3, off := 0, spot := some 0 }) 8 8),
                      (12, Value.int IntKind.u64 0), (13, Value.int IntKind.i64 0), (14, Value.bool false)] =
                  tmps 172
                    [(0, Value.int IntKind.u64 n), (1, Value.string s),
                      (2, Value.slice (some { block := 0, off := o, spot := sp }) len cap),
                      (3, Value.int IntKind.i64 cut),
                      (9, Value.slice (some { block := 1, off := 0 }) (enc n).length (enc n).length),
                      (10, Value.slice (some { block := 2, off := 0 }) (ptxt s).length (ptxt s).length),
                      (11, Value.slice (some { block := 3, off := 0, spot := some 0 }) 8 8),
                      (12, Value.int IntKind.u64 n), (13, Value.int IntKind.i64 (↑(enc n).length : Int)),
                      (14, Value.bool true)] ∧
                hp
                      [Blk.cells cs 1 false, Blk.cells (List.map u8v (enc n)) 1 true,
                        Blk.cells (List.map u8v (ptxt s)) 1 true,
                        Blk.cells
                          [Value.int IntKind.u8 (wb n 0), Value.int IntKind.u8 (wb n 1), Value.int IntKind.u8 (wb n 2),
                            Value.int IntKind.u8 (wb n 3), Value.int IntKind.u8 (wb n 4), Value.int IntKind.u8 (wb n 5),
                            Value.int IntKind.u8 (wb n 6), Value.int IntKind.u8 (wb n 7)]
                          1 true] =
                    hp
                      [Blk.cells cs 1 false, Blk.cells (List.map u8v (enc n)) 1 true,
                        Blk.cells (List.map u8v (ptxt s)) 1 true,
                        Blk.cells
                          [Value.int IntKind.u8 (wb n 0), Value.int IntKind.u8 (wb n 1), Value.int IntKind.u8 (wb n 2),
                            Value.int IntKind.u8 (wb n 3), Value.int IntKind.u8 (wb n 4), Value.int IntKind.u8 (wb n 5),
                            Value.int IntKind.u8 (wb n 6), Value.int IntKind.u8 (wb n 7)]
                          1 true] ∧
                  K AE.ret (tmps 172 [(8, Value.bool true)]) (hp [Blk.cells cs 1 false]))
        (Need (leN (len * 1) 1099511627776)
          (Need (leN len 1099511627776)
            ((FlatL (List.take (len * 1) (List.drop o cs)) ∧ True) ∧
              IsBs (List.take (len * 1) (List.drop o cs)) 0 len len ∧
                FlatH
                    (hp
                      [Blk.cells cs 1 false, Blk.cells (List.map u8v (enc n)) 1 true,
                        Blk.cells (List.map u8v (ptxt s)) 1 true,
                        Blk.cells
                          [Value.int IntKind.u8 (wb n 0), Value.int IntKind.u8 (wb n 1), Value.int IntKind.u8 (wb n 2),
                            Value.int IntKind.u8 (wb n 3), Value.int IntKind.u8 (wb n 4), Value.int IntKind.u8 (wb n 5),
                            Value.int IntKind.u8 (wb n 6), Value.int IntKind.u8 (wb n 7)]
                          1 true]) ∧
                  tmps 172
                        [(0, Value.int IntKind.u64 n), (1, Value.string s),
                          (2, Value.slice (some { block := 0, off := o, spot := sp }) len cap),
                          (3, Value.int IntKind.i64 cut),
                          (9, Value.slice (some { block := 1, off := 0 }) (enc n).length (enc n).length),
                          (10, Value.slice (some { block := 2, off := 0 }) (ptxt s).length (ptxt s).length),
                          (11, Value.slice (some { block := 3, off := 0, spot := some 0 }) 8 8),
                          (12, Value.int IntKind.u64 (gN (dec (bytesAt (List.take (len * 1) (List.drop o cs)) 0 len)))),
                          (13,
                            Value.int IntKind.i64
                              (↑(gK (dec (bytesAt (List.take (len * 1) (List.drop o cs)) 0 len))) : Int)),
                          (14, Value.bool (dec (bytesAt (List.take (len * 1) (List.drop o cs)) 0 len)).isSome)] =
                      tmps 172
                        [(0, Value.int IntKind.u64 n), (1, Value.string s),
                          (2, Value.slice (some { block := 0, off := o, spot := sp }) len cap),
                          (3, Value.int IntKind.i64 cut),
                          (9, Value.slice (some { block := 1, off := 0 }) (enc n).length (enc n).length),
                          (10, Value.slice (some { block := 2, off := 0 }) (ptxt s).length (ptxt s).length),
                          (11, Value.slice (some { block := 3, off := 0, spot := some 0 }) 8 8),
                          (12, Value.int IntKind.u64 n), (13, Value.int IntKind.i64 (↑(enc n).length : Int)),
                          (14, Value.bool true)] ∧
                    hp
                          [Blk.cells cs 1 false, Blk.cells (List.map u8v (enc n)) 1 true,
                            Blk.cells (List.map u8v (ptxt s)) 1 true,
                            Blk.cells
                              [Value.int IntKind.u8 (wb n 0), Value.int IntKind.u8 (wb n 1),
                                Value.int IntKind.u8 (wb n 2), Value.int IntKind.u8 (wb n 3),
                                Value.int IntKind.u8 (wb n 4), Value.int IntKind.u8 (wb n 5),
                                Value.int IntKind.u8 (wb n 6), Value.int IntKind.u8 (wb n 7)]
                              1 true] =
                        hp
                          [Blk.cells cs 1 false, Blk.cells (List.map u8v (enc n)) 1 true,
                            Blk.cells (List.map u8v (ptxt s)) 1 true,
                            Blk.cells
                              [Value.int IntKind.u8 (wb n 0), Value.int IntKind.u8 (wb n 1),
                                Value.int IntKind.u8 (wb n 2), Value.int IntKind.u8 (wb n 3),
                                Value.int IntKind.u8 (wb n 4), Value.int IntKind.u8 (wb n 5),
                                Value.int IntKind.u8 (wb n 6), Value.int IntKind.u8 (wb n 7)]
                              1 true] ∧
                      K AE.ret (tmps 172 [(8, Value.bool true)]) (hp [Blk.cells cs 1 false]))))))
    (Need (leN ((enc n).length * 1) 1099511627776)
      (Need (leN (enc n).length 1099511627776)
        (Need (leN (o + len * 1) cs.length)
          (Need
            (leN (0 + (enc n).length * 1) (List.take ((enc n).length * 1) (List.drop 0 (List.map u8v (enc n)))).length)
            (Alt (leN ((enc n).length + len) (enc n).length)
              (Alt (eqN len 0)
                ((FlatL (List.take ((enc n).length * 1) (List.drop 0 (List.map u8v (enc n)))) ∧ True) ∧
                  IsBs (List.take ((enc n).length * 1) (List.drop 0 (List.map u8v (enc n)))) 0 (enc n).length
                      (enc n).length ∧
                    FlatH
                        (hp
                          [Blk.cells cs 1 false, Blk.cells (List.map u8v (enc n)) 1 true,
                            Blk.cells (List.map u8v (ptxt s)) 1 true,
                            Blk.cells
                              [Value.int IntKind.u8 (wb n 0), Value.int IntKind.u8 (wb n 1),
                                Value.int IntKind.u8 (wb n 2), Value.int IntKind.u8 (wb n 3),
                                Value.int IntKind.u8 (wb n 4), Value.int IntKind.u8 (wb n 5),
                                Value.int IntKind.u8 (wb n 6), Value.int IntKind.u8 (wb n 7)]
                              1 true]) ∧
                      tmps 172
                            [(0, Value.int IntKind.u64 n), (1, Value.string s),
                              (2, Value.slice (some { block := 0, off := o, spot := sp }) len cap),
                              (3, Value.int IntKind.i64 cut),
                              (9, Value.slice (some { block := 1, off := 0 }) (enc n).length (enc n).length),
                              (10, Value.slice (some { block := 2, off := 0 }) (ptxt s).length (ptxt s).length),
                              (11, Value.slice (some { block := 3, off := 0, spot := some 0 }) 8 8),
                              (12,
                                Value.int IntKind.u64
                                  (gN
                                    (dec
                                      (bytesAt (List.take ((enc n).length * 1) (List.drop 0 (List.map u8v (enc n)))) 0
                                        (enc n).length)))),
                              (13,
                                Value.int IntKind.i64
                                  (↑(gK
                                        (dec
                                          (bytesAt (List.take ((enc n).length * 1) (List.drop 0 (List.map u8v (enc n))))
                                            0 (enc n).length))) :
                                    Int)),
                              (14,
                                Value.bool
                                  (dec
                                      (bytesAt (List.take ((enc n).length * 1) (List.drop 0 (List.map u8v (enc n)))) 0
                                        (enc n).length)).isSome)] =
                          tmps 172
                            [(0, Value.int IntKind.u64 n), (1, Value.string s),
                              (2, Value.slice (some { block := 0, off := o, spot := sp }) len cap),
                              (3, Value.int IntKind.i64 cut),
                              (9, Value.slice (some { block := 1, off := 0 }) (enc n).length (enc n).length),
                              (10, Value.slice (some { block := 2, off := 0 }) (ptxt s).length (ptxt s).length),
                              (11, Value.slice (some { block := 3, off := 0, spot := some 0 }) 8 8),
                              (12, Value.int IntKind.u64 n), (13, Value.int IntKind.i64 (↑(enc n).length : Int)),
                              (14, Value.bool true)] ∧
                        hp
                              [Blk.cells cs 1 false, Blk.cells (List.map u8v (enc n)) 1 true,
                                Blk.cells (List.map u8v (ptxt s)) 1 true,
                                Blk.cells
                                  [Value.int IntKind.u8 (wb n 0), Value.int IntKind.u8 (wb n 1),
                                    Value.int IntKind.u8 (wb n 2), Value.int IntKind.u8 (wb n 3),
                                    Value.int IntKind.u8 (wb n 4), Value.int IntKind.u8 (wb n 5),
                                    Value.int IntKind.u8 (wb n 6), Value.int IntKind.u8 (wb n 7)]
                                  1 true] =
                            hp
                              [Blk.cells cs 1 false, Blk.cells (List.map u8v (enc n)) 1 true,
                                Blk.cells (List.map u8v (ptxt s)) 1 true,
                                Blk.cells
                                  [Value.int IntKind.u8 (wb n 0), Value.int IntKind.u8 (wb n 1),
                                    Value.int IntKind.u8 (wb n 2), Value.int IntKind.u8 (wb n 3),
                                    Value.int IntKind.u8 (wb n 4), Value.int IntKind.u8 (wb n 5),
                                    Value.int IntKind.u8 (wb n 6), Value.int IntKind.u8 (wb n 7)]
                                  1 true] ∧
                          K AE.ret (tmps 172 [(8, Value.bool true)]) (hp [Blk.cells cs 1 false]))
                (Need
                  (leN (0 + (enc n).length * 1 + (List.take (len * 1) (List.drop o cs)).length)
                    (List.take ((enc n).length * 1) (List.drop 0 (List.map u8v (enc n)))).length)
                  (Need ((List.take (len * 1) (List.drop o cs)).all oneV)
                    ((FlatL
                          (setAll (List.take ((enc n).length * 1) (List.drop 0 (List.map u8v (enc n))))
                            (0 + (enc n).length * 1) (List.take (len * 1) (List.drop o cs))) ∧
                        True) ∧
                      IsBs
                          (setAll (List.take ((enc n).length * 1) (List.drop 0 (List.map u8v (enc n))))
                            (0 + (enc n).length * 1) (List.take (len * 1) (List.drop o cs)))
                          0 ((enc n).length + len) (enc n).length ∧
                        FlatH
                            (hp
                              [Blk.cells cs 1 false, Blk.cells (List.map u8v (enc n)) 1 true,
                                Blk.cells (List.map u8v (ptxt s)) 1 true,
                                Blk.cells
                                  [Value.int IntKind.u8 (wb n 0), Value.int IntKind.u8 (wb n 1),
                                    Value.int IntKind.u8 (wb n 2), Value.int IntKind.u8 (wb n 3),
                                    Value.int IntKind.u8 (wb n 4), Value.int IntKind.u8 (wb n 5),
                                    Value.int IntKind.u8 (wb n 6), Value.int IntKind.u8 (wb n 7)]
                                  1 true]) ∧
                          tmps 172
                                [(0, Value.int IntKind.u64 n), (1, Value.string s),
                                  (2, Value.slice (some { block := 0, off := o, spot := sp }) len cap),
                                  (3, Value.int IntKind.i64 cut),
                                  (9, Value.slice (some { block := 1, off := 0 }) (enc n).length (enc n).length),
                                  (10, Value.slice (some { block := 2, off := 0 }) (ptxt s).length (ptxt s).length),
                                  (11, Value.slice (some { block := 3, off := 0, spot := some 0 }) 8 8),
                                  (12,
                                    Value.int IntKind.u64
                                      (gN
                                        (dec
                                          (bytesAt
                                            (setAll
                                              (List.take ((enc n).length * 1) (List.drop 0 (List.map u8v (enc n))))
                                              (0 + (enc n).length * 1) (List.take (len * 1) (List.drop o cs)))
                                            0 ((enc n).length + len))))),
                                  (13,
                                    Value.int IntKind.i64
                                      (↑(gK
                                            (dec
                                              (bytesAt
                                                (setAll
                                                  (List.take ((enc n).length * 1) (List.drop 0 (List.map u8v (enc n))))
                                                  (0 + (enc n).length * 1) (List.take (len * 1) (List.drop o cs)))
                                                0 ((enc n).length + len)))) :
                                        Int)),
                                  (14,
                                    Value.bool
                                      (dec
                                          (bytesAt
                                            (setAll
                                              (List.take ((enc n).length * 1) (List.drop 0 (List.map u8v (enc n))))
                                              (0 + (enc n).length * 1) (List.take (len * 1) (List.drop o cs)))
                                            0 ((enc n).length + len))).isSome)] =
                              tmps 172
                                [(0, Value.int IntKind.u64 n), (1, Value.string s),
                                  (2, Value.slice (some { block := 0, off := o, spot := sp }) len cap),
                                  (3, Value.int IntKind.i64 cut),
                                  (9, Value.slice (some { block := 1, off := 0 }) (enc n).length (enc n).length),
                                  (10, Value.slice (some { block := 2, off := 0 }) (ptxt s).length (ptxt s).length),
                                  (11, Value.slice (some { block := 3, off := 0, spot := some 0 }) 8 8),
                                  (12, Value.int IntKind.u64 n), (13, Value.int IntKind.i64 (↑(enc n).length : Int)),
                                  (14, Value.bool true)] ∧
                            hp
                                  [Blk.cells cs 1 false, Blk.cells (List.map u8v (enc n)) 1 true,
                                    Blk.cells (List.map u8v (ptxt s)) 1 true,
                                    Blk.cells
                                      [Value.int IntKind.u8 (wb n 0), Value.int IntKind.u8 (wb n 1),
                                        Value.int IntKind.u8 (wb n 2), Value.int IntKind.u8 (wb n 3),
                                        Value.int IntKind.u8 (wb n 4), Value.int IntKind.u8 (wb n 5),
                                        Value.int IntKind.u8 (wb n 6), Value.int IntKind.u8 (wb n 7)]
                                      1 true] =
                                hp
                                  [Blk.cells cs 1 false, Blk.cells (List.map u8v (enc n)) 1 true,
                                    Blk.cells (List.map u8v (ptxt s)) 1 true,
                                    Blk.cells
                                      [Value.int IntKind.u8 (wb n 0), Value.int IntKind.u8 (wb n 1),
                                        Value.int IntKind.u8 (wb n 2), Value.int IntKind.u8 (wb n 3),
                                        Value.int IntKind.u8 (wb n 4), Value.int IntKind.u8 (wb n 5),
                                        Value.int IntKind.u8 (wb n 6), Value.int IntKind.u8 (wb n 7)]
                                      1 true] ∧
                              K AE.ret (tmps 172 [(8, Value.bool true)]) (hp [Blk.cells cs 1 false])))))
              (Need (leN (((enc n).length + len) * 1) 1099511627776)
                (Need (leN ((enc n).length + len) 1099511627776)
                  (Need ((List.take (len * 1) (List.drop o cs)).all oneV)
                    ((FlatL
                          (List.take ((enc n).length * 1)
                              (List.drop 0 (List.take ((enc n).length * 1) (List.drop 0 (List.map u8v (enc n))))) ++
                            List.take (len * 1) (List.drop o cs)) ∧
                        True) ∧
                      IsBs
                          (List.take ((enc n).length * 1)
                              (List.drop 0 (List.take ((enc n).length * 1) (List.drop 0 (List.map u8v (enc n))))) ++
                            List.take (len * 1) (List.drop o cs))
                          0 ((enc n).length + len) ((enc n).length + len) ∧
                        FlatH
                            (hp
                              [Blk.cells cs 1 false, Blk.cells (List.map u8v (enc n)) 1 true,
                                Blk.cells (List.map u8v (ptxt s)) 1 true,
                                Blk.cells
                                  [Value.int IntKind.u8 (wb n 0), Value.int IntKind.u8 (wb n 1),
                                    Value.int IntKind.u8 (wb n 2), Value.int IntKind.u8 (wb n 3),
                                    Value.int IntKind.u8 (wb n 4), Value.int IntKind.u8 (wb n 5),
                                    Value.int IntKind.u8 (wb n 6), Value.int IntKind.u8 (wb n 7)]
                                  1 true]) ∧
                          tmps 172
                                [(0, Value.int IntKind.u64 n), (1, Value.string s),
                                  (2, Value.slice (some { block := 0, off := o, spot := sp }) len cap),
                                  (3, Value.int IntKind.i64 cut),
                                  (9, Value.slice (some { block := 1, off := 0 }) (enc n).length (enc n).length),
                                  (10, Value.slice (some { block := 2, off := 0 }) (ptxt s).length (ptxt s).length),
                                  (11, Value.slice (some { block := 3, off := 0, spot := some 0 }) 8 8),
                                  (12,
                                    Value.int IntKind.u64
                                      (gN
                                        (dec
                                          (bytesAt
                                            (List.take ((enc n).length * 1)
                                                (List.drop 0
                                                  (List.take ((enc n).length * 1)
                                                    (List.drop 0 (List.map u8v (enc n))))) ++
                                              List.take (len * 1) (List.drop o cs))
                                            0 ((enc n).length + len))))),
                                  (13,
                                    Value.int IntKind.i64
                                      (↑(gK
                                            (dec
                                              (bytesAt
                                                (List.take ((enc n).length * 1)
                                                    (List.drop 0
                                                      (List.take ((enc n).length * 1)
                                                        (List.drop 0 (List.map u8v (enc n))))) ++
                                                  List.take (len * 1) (List.drop o cs))
                                                0 ((enc n).length + len)))) :
                                        Int)),
                                  (14,
                                    Value.bool
                                      (dec
                                          (bytesAt
                                            (List.take ((enc n).length * 1)
                                                (List.drop 0
                                                  (List.take ((enc n).length * 1)
                                                    (List.drop 0 (List.map u8v (enc n))))) ++
                                              List.take (len * 1) (List.drop o cs))
                                            0 ((enc n).length + len))).isSome)] =
                              tmps 172
                                [(0, Value.int IntKind.u64 n), (1, Value.string s),
                                  (2, Value.slice (some { block := 0, off := o, spot := sp }) len cap),
                                  (3, Value.int IntKind.i64 cut),
                                  (9, Value.slice (some { block := 1, off := 0 }) (enc n).length (enc n).length),
                                  (10, Value.slice (some { block := 2, off := 0 }) (ptxt s).length (ptxt s).length),
                                  (11, Value.slice (some { block := 3, off := 0, spot := some 0 }) 8 8),
                                  (12, Value.int IntKind.u64 n), (13, Value.int IntKind.i64 (↑(enc n).length : Int)),
                                  (14, Value.bool true)] ∧
                            hp
                                  [Blk.cells cs 1 false, Blk.cells (List.map u8v (enc n)) 1 true,
                                    Blk.cells (List.map u8v (ptxt s)) 1 true,
                                    Blk.cells
                                      [Value.int IntKind.u8 (wb n 0), Value.int IntKind.u8 (wb n 1),
                                        Value.int IntKind.u8 (wb n 2), Value.int IntKind.u8 (wb n 3),
                                        Value.int IntKind.u8 (wb n 4), Value.int IntKind.u8 (wb n 5),
                                        Value.int IntKind.u8 (wb n 6), Value.int IntKind.u8 (wb n 7)]
                                      1 true] =
                                hp
                                  [Blk.cells cs 1 false, Blk.cells (List.map u8v (enc n)) 1 true,
                                    Blk.cells (List.map u8v (ptxt s)) 1 true,
                                    Blk.cells
                                      [Value.int IntKind.u8 (wb n 0), Value.int IntKind.u8 (wb n 1),
                                        Value.int IntKind.u8 (wb n 2), Value.int IntKind.u8 (wb n 3),
                                        Value.int IntKind.u8 (wb n 4), Value.int IntKind.u8 (wb n 5),
                                        Value.int IntKind.u8 (wb n 6), Value.int IntKind.u8 (wb n 7)]
                                      1 true] ∧
                              K AE.ret (tmps 172 [(8, Value.bool true)]) (hp [Blk.cells cs 1 false])))))))))))) := by kernel_rfl

theorem w8n2 (cs : List Value) (o : Nat) (sp : Option Nat) (len cap : Nat) (n : Int) (s : ByteArray) (cut cut' : Int) (K : Post) :
  roundK Try.prog S3 (gcLK 1 (cutLK ((l8 1 (N8 o sp len cap) [.cells cs 1 false] n s cut cut').drop 2))) F8 body8 1 [] [1,1,1,1,1] (c8_1 1 (N8 o sp len cap) [.cells cs 1 false] n s cut cut').t (c8_1 1 (N8 o sp len cap) [.cells cs 1 false] n s cut cut').h K = (
Need (leN (0 + (ptxt s).length * 1) (List.map u8v (ptxt s)).length)
  (Alt (eqN (ptxt s).length 0)
    (Need (leN (o + len * 1) cs.length)
      (Alt (eqN len 0)
        (True ∧
          True ∧
            FlatH
                (hp
                  [Blk.cells cs 1 false, Blk.cells (List.map u8v (enc n)) 1 true,
                    Blk.cells (List.map u8v (ptxt s)) 1 true,
                    Blk.cells
                      [Value.int IntKind.u8 (wb n 0), Value.int IntKind.u8 (wb n 1), Value.int IntKind.u8 (wb n 2),
                        Value.int IntKind.u8 (wb n 3), Value.int IntKind.u8 (wb n 4), Value.int IntKind.u8 (wb n 5),
                        Value.int IntKind.u8 (wb n 6), Value.int IntKind.u8 (wb n 7)]
                      1 true]) ∧
              tmps 172
                    [(0, Value.int IntKind.u64 n), (1, Value.string s),
                      (2, Value.slice (some { block := 0, off := o, spot := sp }) len cap),
                      (3, Value.int IntKind.i64 cut),
                      (9, Value.slice (some { block := 1, off := 0 }) (enc n).length (enc n).length),
                      (10, Value.slice (some { block := 2, off := 0 }) (ptxt s).length (ptxt s).length),
                      (11, Value.slice (some { block := 3, off := 0, spot := some 0 }) 8 8),
                      (12, Value.int IntKind.u64 n), (13, Value.int IntKind.i64 (↑(enc n).length : Int)),
                      (14, Value.bool true), (15, Value.string (ofB (gS none))), (16, Value.int IntKind.i64 0),
                      (17, Value.bool false)] =
                  tmps 172
                    [(0, Value.int IntKind.u64 n), (1, Value.string s),
                      (2, Value.slice (some { block := 0, off := o, spot := sp }) len cap),
                      (3, Value.int IntKind.i64 cut),
                      (9, Value.slice (some { block := 1, off := 0 }) (enc n).length (enc n).length),
                      (10, Value.slice (some { block := 2, off := 0 }) (ptxt s).length (ptxt s).length),
                      (11, Value.slice (some { block := 3, off := 0, spot := some 0 }) 8 8),
                      (12, Value.int IntKind.u64 n), (13, Value.int IntKind.i64 (↑(enc n).length : Int)),
                      (14, Value.bool true), (15, Value.string s), (16, Value.int IntKind.i64 (↑(ptxt s).length : Int)),
                      (17, Value.bool true)] ∧
                hp
                      [Blk.cells cs 1 false, Blk.cells (List.map u8v (enc n)) 1 true,
                        Blk.cells (List.map u8v (ptxt s)) 1 true,
                        Blk.cells
                          [Value.int IntKind.u8 (wb n 0), Value.int IntKind.u8 (wb n 1), Value.int IntKind.u8 (wb n 2),
                            Value.int IntKind.u8 (wb n 3), Value.int IntKind.u8 (wb n 4), Value.int IntKind.u8 (wb n 5),
                            Value.int IntKind.u8 (wb n 6), Value.int IntKind.u8 (wb n 7)]
                          1 true] =
                    hp
                      [Blk.cells cs 1 false, Blk.cells (List.map u8v (enc n)) 1 true,
                        Blk.cells (List.map u8v (ptxt s)) 1 true,
                        Blk.cells
                          [Value.int IntKind.u8 (wb n 0), Value.int IntKind.u8 (wb n 1), Value.int IntKind.u8 (wb n 2),
                            Value.int IntKind.u8 (wb n 3), Value.int IntKind.u8 (wb n 4), Value.int IntKind.u8 (wb n 5),
                            Value.int IntKind.u8 (wb n 6), Value.int IntKind.u8 (wb n 7)]
                          1 true] ∧
                  K AE.ret (tmps 172 [(8, Value.bool true)]) (hp [Blk.cells cs 1 false]))
        (Need (leN (len * 1) 1099511627776)
          (Need (leN len 1099511627776)
            ((FlatL (List.take (len * 1) (List.drop o cs)) ∧ True) ∧
              (IsBs (List.take (len * 1) (List.drop o cs)) 0 len len ∧
                  Need (leI (↑s.size : Int) 9223372036854775807) True) ∧
                FlatH
                    (hp
                      [Blk.cells cs 1 false, Blk.cells (List.map u8v (enc n)) 1 true,
                        Blk.cells (List.map u8v (ptxt s)) 1 true,
                        Blk.cells
                          [Value.int IntKind.u8 (wb n 0), Value.int IntKind.u8 (wb n 1), Value.int IntKind.u8 (wb n 2),
                            Value.int IntKind.u8 (wb n 3), Value.int IntKind.u8 (wb n 4), Value.int IntKind.u8 (wb n 5),
                            Value.int IntKind.u8 (wb n 6), Value.int IntKind.u8 (wb n 7)]
                          1 true]) ∧
                  tmps 172
                        [(0, Value.int IntKind.u64 n), (1, Value.string s),
                          (2, Value.slice (some { block := 0, off := o, spot := sp }) len cap),
                          (3, Value.int IntKind.i64 cut),
                          (9, Value.slice (some { block := 1, off := 0 }) (enc n).length (enc n).length),
                          (10, Value.slice (some { block := 2, off := 0 }) (ptxt s).length (ptxt s).length),
                          (11, Value.slice (some { block := 3, off := 0, spot := some 0 }) 8 8),
                          (12, Value.int IntKind.u64 n), (13, Value.int IntKind.i64 (↑(enc n).length : Int)),
                          (14, Value.bool true),
                          (15,
                            Value.string
                              (ofB (gS (getT (bytesAt (List.take (len * 1) (List.drop o cs)) 0 len) (↑s.size : Int))))),
                          (16,
                            Value.int IntKind.i64
                              (↑(gE (getT (bytesAt (List.take (len * 1) (List.drop o cs)) 0 len) (↑s.size : Int))) :
                                Int)),
                          (17,
                            Value.bool
                              (getT (bytesAt (List.take (len * 1) (List.drop o cs)) 0 len) (↑s.size : Int)).isSome)] =
                      tmps 172
                        [(0, Value.int IntKind.u64 n), (1, Value.string s),
                          (2, Value.slice (some { block := 0, off := o, spot := sp }) len cap),
                          (3, Value.int IntKind.i64 cut),
                          (9, Value.slice (some { block := 1, off := 0 }) (enc n).length (enc n).length),
                          (10, Value.slice (some { block := 2, off := 0 }) (ptxt s).length (ptxt s).length),
                          (11, Value.slice (some { block := 3, off := 0, spot := some 0 }) 8 8),
                          (12, Value.int IntKind.u64 n), (13, Value.int IntKind.i64 (↑(enc n).length : Int)),
                          (14, Value.bool true), (15, Value.string s),
                          (16, Value.int IntKind.i64 (↑(ptxt s).length : Int)), (17, Value.bool true)] ∧
                    hp
                          [Blk.cells cs 1 false, Blk.cells (List.map u8v (enc n)) 1 true,
                            Blk.cells (List.map u8v (ptxt s)) 1 true,
                            Blk.cells
                              [Value.int IntKind.u8 (wb n 0), Value.int IntKind.u8 (wb n 1),
                                Value.int IntKind.u8 (wb n 2), Value.int IntKind.u8 (wb n 3),
                                Value.int IntKind.u8 (wb n 4), Value.int IntKind.u8 (wb n 5),
                                Value.int IntKind.u8 (wb n 6), Value.int IntKind.u8 (wb n 7)]
                              1 true] =
                        hp
                          [Blk.cells cs 1 false, Blk.cells (List.map u8v (enc n)) 1 true,
                            Blk.cells (List.map u8v (ptxt s)) 1 true,
                            Blk.cells
                              [Value.int IntKind.u8 (wb n 0), Value.int IntKind.u8 (wb n 1),
                                Value.int IntKind.u8 (wb n 2), Value.int IntKind.u8 (wb n 3),
                                Value.int IntKind.u8 (wb n 4), Value.int IntKind.u8 (wb n 5),
                                Value.int IntKind.u8 (wb n 6), Value.int IntKind.u8 (wb n 7)]
                              1 true] ∧
                      K AE.ret (tmps 172 [(8, Value.bool true)]) (hp [Blk.cells cs 1 false]))))))
    (Need (leN ((ptxt s).length * 1) 1099511627776)
      (Need (leN (ptxt s).length 1099511627776)
        (Need (leN (o + len * 1) cs.length)
          (Need
            (leN (0 + (ptxt s).length * 1)
              (List.take ((ptxt s).length * 1) (List.drop 0 (List.map u8v (ptxt s)))).length)
            (Alt (leN ((ptxt s).length + len) (ptxt s).length)
              (Alt (eqN len 0)
                ((FlatL (List.take ((ptxt s).length * 1) (List.drop 0 (List.map u8v (ptxt s)))) ∧ True) ∧
                  (IsBs (List.take ((ptxt s).length * 1) (List.drop 0 (List.map u8v (ptxt s)))) 0 (ptxt s).length
                        (ptxt s).length ∧
                      Need (leI (↑s.size : Int) 9223372036854775807) True) ∧
                    FlatH
                        (hp
                          [Blk.cells cs 1 false, Blk.cells (List.map u8v (enc n)) 1 true,
                            Blk.cells (List.map u8v (ptxt s)) 1 true,
                            Blk.cells
                              [Value.int IntKind.u8 (wb n 0), Value.int IntKind.u8 (wb n 1),
                                Value.int IntKind.u8 (wb n 2), Value.int IntKind.u8 (wb n 3),
                                Value.int IntKind.u8 (wb n 4), Value.int IntKind.u8 (wb n 5),
                                Value.int IntKind.u8 (wb n 6), Value.int IntKind.u8 (wb n 7)]
                              1 true]) ∧
                      tmps 172
                            [(0, Value.int IntKind.u64 n), (1, Value.string s),
                              (2, Value.slice (some { block := 0, off := o, spot := sp }) len cap),
                              (3, Value.int IntKind.i64 cut),
                              (9, Value.slice (some { block := 1, off := 0 }) (enc n).length (enc n).length),
                              (10, Value.slice (some { block := 2, off := 0 }) (ptxt s).length (ptxt s).length),
                              (11, Value.slice (some { block := 3, off := 0, spot := some 0 }) 8 8),
                              (12, Value.int IntKind.u64 n), (13, Value.int IntKind.i64 (↑(enc n).length : Int)),
                              (14, Value.bool true),
                              (15,
                                Value.string
                                  (ofB
                                    (gS
                                      (getT
                                        (bytesAt (List.take ((ptxt s).length * 1) (List.drop 0 (List.map u8v (ptxt s))))
                                          0 (ptxt s).length)
                                        (↑s.size : Int))))),
                              (16,
                                Value.int IntKind.i64
                                  (↑(gE
                                        (getT
                                          (bytesAt
                                            (List.take ((ptxt s).length * 1) (List.drop 0 (List.map u8v (ptxt s)))) 0
                                            (ptxt s).length)
                                          (↑s.size : Int))) :
                                    Int)),
                              (17,
                                Value.bool
                                  (getT
                                      (bytesAt (List.take ((ptxt s).length * 1) (List.drop 0 (List.map u8v (ptxt s)))) 0
                                        (ptxt s).length)
                                      (↑s.size : Int)).isSome)] =
                          tmps 172
                            [(0, Value.int IntKind.u64 n), (1, Value.string s),
                              (2, Value.slice (some { block := 0, off := o, spot := sp }) len cap),
                              (3, Value.int IntKind.i64 cut),
                              (9, Value.slice (some { block := 1, off := 0 }) (enc n).length (enc n).length),
                              (10, Value.slice (some { block := 2, off := 0 }) (ptxt s).length (ptxt s).length),
                              (11, Value.slice (some { block := 3, off := 0, spot := some 0 }) 8 8),
                              (12, Value.int IntKind.u64 n), (13, Value.int IntKind.i64 (↑(enc n).length : Int)),
                              (14, Value.bool true), (15, Value.string s),
                              (16, Value.int IntKind.i64 (↑(ptxt s).length : Int)), (17, Value.bool true)] ∧
                        hp
                              [Blk.cells cs 1 false, Blk.cells (List.map u8v (enc n)) 1 true,
                                Blk.cells (List.map u8v (ptxt s)) 1 true,
                                Blk.cells
                                  [Value.int IntKind.u8 (wb n 0), Value.int IntKind.u8 (wb n 1),
                                    Value.int IntKind.u8 (wb n 2), Value.int IntKind.u8 (wb n 3),
                                    Value.int IntKind.u8 (wb n 4), Value.int IntKind.u8 (wb n 5),
                                    Value.int IntKind.u8 (wb n 6), Value.int IntKind.u8 (wb n 7)]
                                  1 true] =
                            hp
                              [Blk.cells cs 1 false, Blk.cells (List.map u8v (enc n)) 1 true,
                                Blk.cells (List.map u8v (ptxt s)) 1 true,
                                Blk.cells
                                  [Value.int IntKind.u8 (wb n 0), Value.int IntKind.u8 (wb n 1),
                                    Value.int IntKind.u8 (wb n 2), Value.int IntKind.u8 (wb n 3),
                                    Value.int IntKind.u8 (wb n 4), Value.int IntKind.u8 (wb n 5),
                                    Value.int IntKind.u8 (wb n 6), Value.int IntKind.u8 (wb n 7)]
                                  1 true] ∧
                          K AE.ret (tmps 172 [(8, Value.bool true)]) (hp [Blk.cells cs 1 false]))
                (Need
                  (leN (0 + (ptxt s).length * 1 + (List.take (len * 1) (List.drop o cs)).length)
                    (List.take ((ptxt s).length * 1) (List.drop 0 (List.map u8v (ptxt s)))).length)
                  (Need ((List.take (len * 1) (List.drop o cs)).all oneV)
                    ((FlatL
                          (setAll (List.take ((ptxt s).length * 1) (List.drop 0 (List.map u8v (ptxt s))))
                            (0 + (ptxt s).length * 1) (List.take (len * 1) (List.drop o cs))) ∧
                        True) ∧
                      (IsBs
                            (setAll (List.take ((ptxt s).length * 1) (List.drop 0 (List.map u8v (ptxt s))))
                              (0 + (ptxt s).length * 1) (List.take (len * 1) (List.drop o cs)))
                            0 ((ptxt s).length + len) (ptxt s).length ∧
                          Need (leI (↑s.size : Int) 9223372036854775807) True) ∧
                        FlatH
                            (hp
                              [Blk.cells cs 1 false, Blk.cells (List.map u8v (enc n)) 1 true,
                                Blk.cells (List.map u8v (ptxt s)) 1 true,
                                Blk.cells
                                  [Value.int IntKind.u8 (wb n 0), Value.int IntKind.u8 (wb n 1),
                                    Value.int IntKind.u8 (wb n 2), Value.int IntKind.u8 (wb n 3),
                                    Value.int IntKind.u8 (wb n 4), Value.int IntKind.u8 (wb n 5),
                                    Value.int IntKind.u8 (wb n 6), Value.int IntKind.u8 (wb n 7)]
                                  1 true]) ∧
                          tmps 172
                                [(0, Value.int IntKind.u64 n), (1, Value.string s),
                                  (2, Value.slice (some { block := 0, off := o, spot := sp }) len cap),
                                  (3, Value.int IntKind.i64 cut),
                                  (9, Value.slice (some { block := 1, off := 0 }) (enc n).length (enc n).length),
                                  (10, Value.slice (some { block := 2, off := 0 }) (ptxt s).length (ptxt s).length),
                                  (11, Value.slice (some { block := 3, off := 0, spot := some 0 }) 8 8),
                                  (12, Value.int IntKind.u64 n), (13, Value.int IntKind.i64 (↑(enc n).length : Int)),
                                  (14, Value.bool true),
                                  (15,
                                    Value.string
                                      (ofB
                                        (gS
                                          (getT
                                            (bytesAt
                                              (setAll
                                                (List.take ((ptxt s).length * 1) (List.drop 0 (List.map u8v (ptxt s))))
                                                (0 + (ptxt s).length * 1) (List.take (len * 1) (List.drop o cs)))
                                              0 ((ptxt s).length + len))
                                            (↑s.size : Int))))),
                                  (16,
                                    Value.int IntKind.i64
                                      (↑(gE
                                            (getT
                                              (bytesAt
                                                (setAll
                                                  (List.take ((ptxt s).length * 1)
                                                    (List.drop 0 (List.map u8v (ptxt s))))
                                                  (0 + (ptxt s).length * 1) (List.take (len * 1) (List.drop o cs)))
                                                0 ((ptxt s).length + len))
                                              (↑s.size : Int))) :
                                        Int)),
                                  (17,
                                    Value.bool
                                      (getT
                                          (bytesAt
                                            (setAll
                                              (List.take ((ptxt s).length * 1) (List.drop 0 (List.map u8v (ptxt s))))
                                              (0 + (ptxt s).length * 1) (List.take (len * 1) (List.drop o cs)))
                                            0 ((ptxt s).length + len))
                                          (↑s.size : Int)).isSome)] =
                              tmps 172
                                [(0, Value.int IntKind.u64 n), (1, Value.string s),
                                  (2, Value.slice (some { block := 0, off := o, spot := sp }) len cap),
                                  (3, Value.int IntKind.i64 cut),
                                  (9, Value.slice (some { block := 1, off := 0 }) (enc n).length (enc n).length),
                                  (10, Value.slice (some { block := 2, off := 0 }) (ptxt s).length (ptxt s).length),
                                  (11, Value.slice (some { block := 3, off := 0, spot := some 0 }) 8 8),
                                  (12, Value.int IntKind.u64 n), (13, Value.int IntKind.i64 (↑(enc n).length : Int)),
                                  (14, Value.bool true), (15, Value.string s),
                                  (16, Value.int IntKind.i64 (↑(ptxt s).length : Int)), (17, Value.bool true)] ∧
                            hp
                                  [Blk.cells cs 1 false, Blk.cells (List.map u8v (enc n)) 1 true,
                                    Blk.cells (List.map u8v (ptxt s)) 1 true,
                                    Blk.cells
                                      [Value.int IntKind.u8 (wb n 0), Value.int IntKind.u8 (wb n 1),
                                        Value.int IntKind.u8 (wb n 2), Value.int IntKind.u8 (wb n 3),
                                        Value.int IntKind.u8 (wb n 4), Value.int IntKind.u8 (wb n 5),
                                        Value.int IntKind.u8 (wb n 6), Value.int IntKind.u8 (wb n 7)]
                                      1 true] =
                                hp
                                  [Blk.cells cs 1 false, Blk.cells (List.map u8v (enc n)) 1 true,
                                    Blk.cells (List.map u8v (ptxt s)) 1 true,
                                    Blk.cells
                                      [Value.int IntKind.u8 (wb n 0), Value.int IntKind.u8 (wb n 1),
                                        Value.int IntKind.u8 (wb n 2), Value.int IntKind.u8 (wb n 3),
                                        Value.int IntKind.u8 (wb n 4), Value.int IntKind.u8 (wb n 5),
                                        Value.int IntKind.u8 (wb n 6), Value.int IntKind.u8 (wb n 7)]
                                      1 true] ∧
                              K AE.ret (tmps 172 [(8, Value.bool true)]) (hp [Blk.cells cs 1 false])))))
              (Need (leN (((ptxt s).length + len) * 1) 1099511627776)
                (Need (leN ((ptxt s).length + len) 1099511627776)
                  (Need ((List.take (len * 1) (List.drop o cs)).all oneV)
                    ((FlatL
                          (List.take ((ptxt s).length * 1)
                              (List.drop 0 (List.take ((ptxt s).length * 1) (List.drop 0 (List.map u8v (ptxt s))))) ++
                            List.take (len * 1) (List.drop o cs)) ∧
                        True) ∧
                      (IsBs
                            (List.take ((ptxt s).length * 1)
                                (List.drop 0 (List.take ((ptxt s).length * 1) (List.drop 0 (List.map u8v (ptxt s))))) ++
                              List.take (len * 1) (List.drop o cs))
                            0 ((ptxt s).length + len) ((ptxt s).length + len) ∧
                          Need (leI (↑s.size : Int) 9223372036854775807) True) ∧
                        FlatH
                            (hp
                              [Blk.cells cs 1 false, Blk.cells (List.map u8v (enc n)) 1 true,
                                Blk.cells (List.map u8v (ptxt s)) 1 true,
                                Blk.cells
                                  [Value.int IntKind.u8 (wb n 0), Value.int IntKind.u8 (wb n 1),
                                    Value.int IntKind.u8 (wb n 2), Value.int IntKind.u8 (wb n 3),
                                    Value.int IntKind.u8 (wb n 4), Value.int IntKind.u8 (wb n 5),
                                    Value.int IntKind.u8 (wb n 6), Value.int IntKind.u8 (wb n 7)]
                                  1 true]) ∧
                          tmps 172
                                [(0, Value.int IntKind.u64 n), (1, Value.string s),
                                  (2, Value.slice (some { block := 0, off := o, spot := sp }) len cap),
                                  (3, Value.int IntKind.i64 cut),
                                  (9, Value.slice (some { block := 1, off := 0 }) (enc n).length (enc n).length),
                                  (10, Value.slice (some { block := 2, off := 0 }) (ptxt s).length (ptxt s).length),
                                  (11, Value.slice (some { block := 3, off := 0, spot := some 0 }) 8 8),
                                  (12, Value.int IntKind.u64 n), (13, Value.int IntKind.i64 (↑(enc n).length : Int)),
                                  (14, Value.bool true),
                                  (15,
                                    Value.string
                                      (ofB
                                        (gS
                                          (getT
                                            (bytesAt
                                              (List.take ((ptxt s).length * 1)
                                                  (List.drop 0
                                                    (List.take ((ptxt s).length * 1)
                                                      (List.drop 0 (List.map u8v (ptxt s))))) ++
                                                List.take (len * 1) (List.drop o cs))
                                              0 ((ptxt s).length + len))
                                            (↑s.size : Int))))),
                                  (16,
                                    Value.int IntKind.i64
                                      (↑(gE
                                            (getT
                                              (bytesAt
                                                (List.take ((ptxt s).length * 1)
                                                    (List.drop 0
                                                      (List.take ((ptxt s).length * 1)
                                                        (List.drop 0 (List.map u8v (ptxt s))))) ++
                                                  List.take (len * 1) (List.drop o cs))
                                                0 ((ptxt s).length + len))
                                              (↑s.size : Int))) :
                                        Int)),
                                  (17,
                                    Value.bool
                                      (getT
                                          (bytesAt
                                            (List.take ((ptxt s).length * 1)
                                                (List.drop 0
                                                  (List.take ((ptxt s).length * 1)
                                                    (List.drop 0 (List.map u8v (ptxt s))))) ++
                                              List.take (len * 1) (List.drop o cs))
                                            0 ((ptxt s).length + len))
                                          (↑s.size : Int)).isSome)] =
                              tmps 172
                                [(0, Value.int IntKind.u64 n), (1, Value.string s),
                                  (2, Value.slice (some { block := 0, off := o, spot := sp }) len cap),
                                  (3, Value.int IntKind.i64 cut),
                                  (9, Value.slice (some { block := 1, off := 0 }) (enc n).length (enc n).length),
                                  (10, Value.slice (some { block := 2, off := 0 }) (ptxt s).length (ptxt s).length),
                                  (11, Value.slice (some { block := 3, off := 0, spot := some 0 }) 8 8),
                                  (12, Value.int IntKind.u64 n), (13, Value.int IntKind.i64 (↑(enc n).length : Int)),
                                  (14, Value.bool true), (15, Value.string s),
                                  (16, Value.int IntKind.i64 (↑(ptxt s).length : Int)), (17, Value.bool true)] ∧
                            hp
                                  [Blk.cells cs 1 false, Blk.cells (List.map u8v (enc n)) 1 true,
                                    Blk.cells (List.map u8v (ptxt s)) 1 true,
                                    Blk.cells
                                      [Value.int IntKind.u8 (wb n 0), Value.int IntKind.u8 (wb n 1),
                                        Value.int IntKind.u8 (wb n 2), Value.int IntKind.u8 (wb n 3),
                                        Value.int IntKind.u8 (wb n 4), Value.int IntKind.u8 (wb n 5),
                                        Value.int IntKind.u8 (wb n 6), Value.int IntKind.u8 (wb n 7)]
                                      1 true] =
                                hp
                                  [Blk.cells cs 1 false, Blk.cells (List.map u8v (enc n)) 1 true,
                                    Blk.cells (List.map u8v (ptxt s)) 1 true,
                                    Blk.cells
                                      [Value.int IntKind.u8 (wb n 0), Value.int IntKind.u8 (wb n 1),
                                        Value.int IntKind.u8 (wb n 2), Value.int IntKind.u8 (wb n 3),
                                        Value.int IntKind.u8 (wb n 4), Value.int IntKind.u8 (wb n 5),
                                        Value.int IntKind.u8 (wb n 6), Value.int IntKind.u8 (wb n 7)]
                                      1 true] ∧
                              K AE.ret (tmps 172 [(8, Value.bool true)]) (hp [Blk.cells cs 1 false])))))))))))) := by kernel_rfl

theorem w8n3 (cs : List Value) (o : Nat) (sp : Option Nat) (len cap : Nat) (n : Int) (s : ByteArray) (cut cut' : Int) (K : Post) :
  roundK Try.prog S3 (gcLK 1 (cutLK ((l8 1 (N8 o sp len cap) [.cells cs 1 false] n s cut cut').drop 3))) F8 body8 1 [] [1,1,1,1,1,1] (c8_2 1 (N8 o sp len cap) [.cells cs 1 false] n s cut cut').t (c8_2 1 (N8 o sp len cap) [.cells cs 1 false] n s cut cut').h K = (
Need (leN (o + len * 1) cs.length)
  (Alt (leN (8 + len) 8)
    (Alt (eqN len 0)
      ((FlatL
            [Value.int IntKind.u8 (wb n 0), Value.int IntKind.u8 (wb n 1), Value.int IntKind.u8 (wb n 2),
              Value.int IntKind.u8 (wb n 3), Value.int IntKind.u8 (wb n 4), Value.int IntKind.u8 (wb n 5),
              Value.int IntKind.u8 (wb n 6), Value.int IntKind.u8 (wb n 7)] ∧
          True) ∧
        IsBs
            [Value.int IntKind.u8 (wb n 0), Value.int IntKind.u8 (wb n 1), Value.int IntKind.u8 (wb n 2),
              Value.int IntKind.u8 (wb n 3), Value.int IntKind.u8 (wb n 4), Value.int IntKind.u8 (wb n 5),
              Value.int IntKind.u8 (wb n 6), Value.int IntKind.u8 (wb n 7)]
            0 8 8 ∧
          FlatH
              (hp
                [Blk.cells cs 1 false, Blk.cells (List.map u8v (enc n)) 1 true,
                  Blk.cells (List.map u8v (ptxt s)) 1 true]) ∧
            tmps 172
                  [(0, Value.int IntKind.u64 n), (1, Value.string s),
                    (2, Value.slice (some { block := 0, off := o, spot := sp }) len cap),
                    (3, Value.int IntKind.i64 cut),
                    (9, Value.slice (some { block := 1, off := 0 }) (enc n).length (enc n).length),
                    (10, Value.slice (some { block := 2, off := 0 }) (ptxt s).length (ptxt s).length),
                    (12, Value.int IntKind.u64 n), (13, Value.int IntKind.i64 (↑(enc n).length : Int)),
                    (14, Value.bool true), (15, Value.string s), (16, Value.int IntKind.i64 (↑(ptxt s).length : Int)),
                    (17, Value.bool true),
                    (18,
                      Value.int IntKind.u64
                        (if 8 < 8 then 0
                        else
                          gw
                            (bytesAt
                              [Value.int IntKind.u8 (wb n 0), Value.int IntKind.u8 (wb n 1),
                                Value.int IntKind.u8 (wb n 2), Value.int IntKind.u8 (wb n 3),
                                Value.int IntKind.u8 (wb n 4), Value.int IntKind.u8 (wb n 5),
                                Value.int IntKind.u8 (wb n 6), Value.int IntKind.u8 (wb n 7)]
                              0 8))),
                    (19, Value.bool (leN 8 8))] =
                tmps 172
                  [(0, Value.int IntKind.u64 n), (1, Value.string s),
                    (2, Value.slice (some { block := 0, off := o, spot := sp }) len cap),
                    (3, Value.int IntKind.i64 cut),
                    (9, Value.slice (some { block := 1, off := 0 }) (enc n).length (enc n).length),
                    (10, Value.slice (some { block := 2, off := 0 }) (ptxt s).length (ptxt s).length),
                    (12, Value.int IntKind.u64 n), (13, Value.int IntKind.i64 (↑(enc n).length : Int)),
                    (14, Value.bool true), (15, Value.string s), (16, Value.int IntKind.i64 (↑(ptxt s).length : Int)),
                    (17, Value.bool true), (18, Value.int IntKind.u64 n), (19, Value.bool true)] ∧
              hp
                    [Blk.cells cs 1 false, Blk.cells (List.map u8v (enc n)) 1 true,
                      Blk.cells (List.map u8v (ptxt s)) 1 true] =
                  hp
                    [Blk.cells cs 1 false, Blk.cells (List.map u8v (enc n)) 1 true,
                      Blk.cells (List.map u8v (ptxt s)) 1 true] ∧
                K AE.ret (tmps 172 [(8, Value.bool true)]) (hp [Blk.cells cs 1 false]))
      (Need (leN (8 + (List.take (len * 1) (List.drop o cs)).length) 8)
        (Need ((List.take (len * 1) (List.drop o cs)).all oneV)
          ((FlatL
                (setAll
                  [Value.int IntKind.u8 (wb n 0), Value.int IntKind.u8 (wb n 1), Value.int IntKind.u8 (wb n 2),
                    Value.int IntKind.u8 (wb n 3), Value.int IntKind.u8 (wb n 4), Value.int IntKind.u8 (wb n 5),
                    Value.int IntKind.u8 (wb n 6), Value.int IntKind.u8 (wb n 7)]
                  8 (List.take (len * 1) (List.drop o cs))) ∧
              True) ∧
            IsBs
                (setAll
                  [Value.int IntKind.u8 (wb n 0), Value.int IntKind.u8 (wb n 1), Value.int IntKind.u8 (wb n 2),
                    Value.int IntKind.u8 (wb n 3), Value.int IntKind.u8 (wb n 4), Value.int IntKind.u8 (wb n 5),
                    Value.int IntKind.u8 (wb n 6), Value.int IntKind.u8 (wb n 7)]
                  8 (List.take (len * 1) (List.drop o cs)))
                0 (8 + len) 8 ∧
              FlatH
                  (hp
                    [Blk.cells cs 1 false, Blk.cells (List.map u8v (enc n)) 1 true,
                      Blk.cells (List.map u8v (ptxt s)) 1 true]) ∧
                tmps 172
                      [(0, Value.int IntKind.u64 n), (1, Value.string s),
                        (2, Value.slice (some { block := 0, off := o, spot := sp }) len cap),
                        (3, Value.int IntKind.i64 cut),
                        (9, Value.slice (some { block := 1, off := 0 }) (enc n).length (enc n).length),
                        (10, Value.slice (some { block := 2, off := 0 }) (ptxt s).length (ptxt s).length),
                        (12, Value.int IntKind.u64 n), (13, Value.int IntKind.i64 (↑(enc n).length : Int)),
                        (14, Value.bool true), (15, Value.string s),
                        (16, Value.int IntKind.i64 (↑(ptxt s).length : Int)), (17, Value.bool true),
                        (18,
                          Value.int IntKind.u64
                            (if
                                (bytesAt
                                      (setAll
                                        [Value.int IntKind.u8 (wb n 0), Value.int IntKind.u8 (wb n 1),
                                          Value.int IntKind.u8 (wb n 2), Value.int IntKind.u8 (wb n 3),
                                          Value.int IntKind.u8 (wb n 4), Value.int IntKind.u8 (wb n 5),
                                          Value.int IntKind.u8 (wb n 6), Value.int IntKind.u8 (wb n 7)]
                                        8 (List.take (len * 1) (List.drop o cs)))
                                      0 (8 + len)).length <
                                  8 then
                              0
                            else
                              gw
                                (bytesAt
                                  (setAll
                                    [Value.int IntKind.u8 (wb n 0), Value.int IntKind.u8 (wb n 1),
                                      Value.int IntKind.u8 (wb n 2), Value.int IntKind.u8 (wb n 3),
                                      Value.int IntKind.u8 (wb n 4), Value.int IntKind.u8 (wb n 5),
                                      Value.int IntKind.u8 (wb n 6), Value.int IntKind.u8 (wb n 7)]
                                    8 (List.take (len * 1) (List.drop o cs)))
                                  0 (8 + len)))),
                        (19,
                          Value.bool
                            (leN 8
                              (bytesAt
                                  (setAll
                                    [Value.int IntKind.u8 (wb n 0), Value.int IntKind.u8 (wb n 1),
                                      Value.int IntKind.u8 (wb n 2), Value.int IntKind.u8 (wb n 3),
                                      Value.int IntKind.u8 (wb n 4), Value.int IntKind.u8 (wb n 5),
                                      Value.int IntKind.u8 (wb n 6), Value.int IntKind.u8 (wb n 7)]
                                    8 (List.take (len * 1) (List.drop o cs)))
                                  0 (8 + len)).length))] =
                    tmps 172
                      [(0, Value.int IntKind.u64 n), (1, Value.string s),
                        (2, Value.slice (some { block := 0, off := o, spot := sp }) len cap),
                        (3, Value.int IntKind.i64 cut),
                        (9, Value.slice (some { block := 1, off := 0 }) (enc n).length (enc n).length),
                        (10, Value.slice (some { block := 2, off := 0 }) (ptxt s).length (ptxt s).length),
                        (12, Value.int IntKind.u64 n), (13, Value.int IntKind.i64 (↑(enc n).length : Int)),
                        (14, Value.bool true), (15, Value.string s),
                        (16, Value.int IntKind.i64 (↑(ptxt s).length : Int)), (17, Value.bool true),
                        (18, Value.int IntKind.u64 n), (19, Value.bool true)] ∧
                  hp
                        [Blk.cells cs 1 false, Blk.cells (List.map u8v (enc n)) 1 true,
                          Blk.cells (List.map u8v (ptxt s)) 1 true] =
                      hp
                        [Blk.cells cs 1 false, Blk.cells (List.map u8v (enc n)) 1 true,
                          Blk.cells (List.map u8v (ptxt s)) 1 true] ∧
                    K AE.ret (tmps 172 [(8, Value.bool true)]) (hp [Blk.cells cs 1 false])))))
    (Need (leN ((8 + len) * 1) 1099511627776)
      (Need (leN (8 + len) 1099511627776)
        (Need ((List.take (len * 1) (List.drop o cs)).all oneV)
          ((FlatL
                ([Value.int IntKind.u8 (wb n 0), Value.int IntKind.u8 (wb n 1), Value.int IntKind.u8 (wb n 2),
                    Value.int IntKind.u8 (wb n 3), Value.int IntKind.u8 (wb n 4), Value.int IntKind.u8 (wb n 5),
                    Value.int IntKind.u8 (wb n 6), Value.int IntKind.u8 (wb n 7)] ++
                  List.take (len * 1) (List.drop o cs)) ∧
              True) ∧
            IsBs
                ([Value.int IntKind.u8 (wb n 0), Value.int IntKind.u8 (wb n 1), Value.int IntKind.u8 (wb n 2),
                    Value.int IntKind.u8 (wb n 3), Value.int IntKind.u8 (wb n 4), Value.int IntKind.u8 (wb n 5),
                    Value.int IntKind.u8 (wb n 6), Value.int IntKind.u8 (wb n 7)] ++
                  List.take (len * 1) (List.drop o cs))
                0 (8 + len) (8 + len) ∧
              FlatH
                  (hp
                    [Blk.cells cs 1 false, Blk.cells (List.map u8v (enc n)) 1 true,
                      Blk.cells (List.map u8v (ptxt s)) 1 true]) ∧
                tmps 172
                      [(0, Value.int IntKind.u64 n), (1, Value.string s),
                        (2, Value.slice (some { block := 0, off := o, spot := sp }) len cap),
                        (3, Value.int IntKind.i64 cut),
                        (9, Value.slice (some { block := 1, off := 0 }) (enc n).length (enc n).length),
                        (10, Value.slice (some { block := 2, off := 0 }) (ptxt s).length (ptxt s).length),
                        (12, Value.int IntKind.u64 n), (13, Value.int IntKind.i64 (↑(enc n).length : Int)),
                        (14, Value.bool true), (15, Value.string s),
                        (16, Value.int IntKind.i64 (↑(ptxt s).length : Int)), (17, Value.bool true),
                        (18,
                          Value.int IntKind.u64
                            (if
                                (bytesAt
                                      ([Value.int IntKind.u8 (wb n 0), Value.int IntKind.u8 (wb n 1),
                                          Value.int IntKind.u8 (wb n 2), Value.int IntKind.u8 (wb n 3),
                                          Value.int IntKind.u8 (wb n 4), Value.int IntKind.u8 (wb n 5),
                                          Value.int IntKind.u8 (wb n 6), Value.int IntKind.u8 (wb n 7)] ++
                                        List.take (len * 1) (List.drop o cs))
                                      0 (8 + len)).length <
                                  8 then
                              0
                            else
                              gw
                                (bytesAt
                                  ([Value.int IntKind.u8 (wb n 0), Value.int IntKind.u8 (wb n 1),
                                      Value.int IntKind.u8 (wb n 2), Value.int IntKind.u8 (wb n 3),
                                      Value.int IntKind.u8 (wb n 4), Value.int IntKind.u8 (wb n 5),
                                      Value.int IntKind.u8 (wb n 6), Value.int IntKind.u8 (wb n 7)] ++
                                    List.take (len * 1) (List.drop o cs))
                                  0 (8 + len)))),
                        (19,
                          Value.bool
                            (leN 8
                              (bytesAt
                                  ([Value.int IntKind.u8 (wb n 0), Value.int IntKind.u8 (wb n 1),
                                      Value.int IntKind.u8 (wb n 2), Value.int IntKind.u8 (wb n 3),
                                      Value.int IntKind.u8 (wb n 4), Value.int IntKind.u8 (wb n 5),
                                      Value.int IntKind.u8 (wb n 6), Value.int IntKind.u8 (wb n 7)] ++
                                    List.take (len * 1) (List.drop o cs))
                                  0 (8 + len)).length))] =
                    tmps 172
                      [(0, Value.int IntKind.u64 n), (1, Value.string s),
                        (2, Value.slice (some { block := 0, off := o, spot := sp }) len cap),
                        (3, Value.int IntKind.i64 cut),
                        (9, Value.slice (some { block := 1, off := 0 }) (enc n).length (enc n).length),
                        (10, Value.slice (some { block := 2, off := 0 }) (ptxt s).length (ptxt s).length),
                        (12, Value.int IntKind.u64 n), (13, Value.int IntKind.i64 (↑(enc n).length : Int)),
                        (14, Value.bool true), (15, Value.string s),
                        (16, Value.int IntKind.i64 (↑(ptxt s).length : Int)), (17, Value.bool true),
                        (18, Value.int IntKind.u64 n), (19, Value.bool true)] ∧
                  hp
                        [Blk.cells cs 1 false, Blk.cells (List.map u8v (enc n)) 1 true,
                          Blk.cells (List.map u8v (ptxt s)) 1 true] =
                      hp
                        [Blk.cells cs 1 false, Blk.cells (List.map u8v (enc n)) 1 true,
                          Blk.cells (List.map u8v (ptxt s)) 1 true] ∧
                    K AE.ret (tmps 172 [(8, Value.bool true)]) (hp [Blk.cells cs 1 false]))))))) := by kernel_rfl

theorem w8n4 (cs : List Value) (o : Nat) (sp : Option Nat) (len cap : Nat) (n : Int) (s : ByteArray) (cut cut' : Int) (K : Post) :
  roundK Try.prog S3 (gcLK 1 (cutLK ((l8 1 (N8 o sp len cap) [.cells cs 1 false] n s cut cut').drop 4))) F8 body8 1 [] [1,1,1,1,1,1,1] (c8_3 1 (N8 o sp len cap) [.cells cs 1 false] n s cut cut').t (c8_3 1 (N8 o sp len cap) [.cells cs 1 false] n s cut cut').h K = (
Need (leN (0 + (ptxt s).length * 1) (List.map u8v (ptxt s)).length)
  (Alt (eqN (ptxt s).length 0)
    (Need (leN (o + len * 1) cs.length)
      (Alt (eqN len 0)
        (True ∧
          True ∧
            FlatH
                (hp
                  [Blk.cells cs 1 false, Blk.cells (List.map u8v (enc n)) 1 true,
                    Blk.cells (List.map u8v (ptxt s)) 1 true]) ∧
              tmps 172
                    [(0, Value.int IntKind.u64 n), (1, Value.string s), (3, Value.int IntKind.i64 cut),
                      (9, Value.slice (some { block := 1, off := 0 }) (enc n).length (enc n).length),
                      (10, Value.slice (some { block := 2, off := 0 }) (ptxt s).length (ptxt s).length),
                      (12, Value.int IntKind.u64 n), (13, Value.int IntKind.i64 (↑(enc n).length : Int)),
                      (14, Value.bool true), (15, Value.string s), (16, Value.int IntKind.i64 (↑(ptxt s).length : Int)),
                      (17, Value.bool true), (18, Value.int IntKind.u64 n), (19, Value.bool true),
                      (22, Value.bool false)] =
                  tmps 172
                    [(0, Value.int IntKind.u64 n), (1, Value.string s), (3, Value.int IntKind.i64 cut),
                      (9, Value.slice (some { block := 1, off := 0 }) (enc n).length (enc n).length),
                      (10, Value.slice (some { block := 2, off := 0 }) (ptxt s).length (ptxt s).length),
                      (12, Value.int IntKind.u64 n), (13, Value.int IntKind.i64 (↑(enc n).length : Int)),
                      (14, Value.bool true), (15, Value.string s), (16, Value.int IntKind.i64 (↑(ptxt s).length : Int)),
                      (17, Value.bool true), (18, Value.int IntKind.u64 n), (19, Value.bool true),
                      (22, Value.bool false)] ∧
                hp
                      [Blk.cells cs 1 false, Blk.cells (List.map u8v (enc n)) 1 true,
                        Blk.cells (List.map u8v (ptxt s)) 1 true] =
                    hp
                      [Blk.cells cs 1 false, Blk.cells (List.map u8v (enc n)) 1 true,
                        Blk.cells (List.map u8v (ptxt s)) 1 true] ∧
                  K AE.ret (tmps 172 [(8, Value.bool true)]) (hp [Blk.cells cs 1 false]))
        (Need (leN (len * 1) 1099511627776)
          (Need (leN len 1099511627776)
            ((FlatL (List.take (len * 1) (List.drop o cs)) ∧ True) ∧
              (IsBs (List.take (len * 1) (List.drop o cs)) 0 len len ∧
                  Need (leI (wr IntKind.i64 ((↑s.size : Int) - 1)) 9223372036854775807) True) ∧
                FlatH
                    (hp
                      [Blk.cells cs 1 false, Blk.cells (List.map u8v (enc n)) 1 true,
                        Blk.cells (List.map u8v (ptxt s)) 1 true]) ∧
                  tmps 172
                        [(0, Value.int IntKind.u64 n), (1, Value.string s), (3, Value.int IntKind.i64 cut),
                          (9, Value.slice (some { block := 1, off := 0 }) (enc n).length (enc n).length),
                          (10, Value.slice (some { block := 2, off := 0 }) (ptxt s).length (ptxt s).length),
                          (12, Value.int IntKind.u64 n), (13, Value.int IntKind.i64 (↑(enc n).length : Int)),
                          (14, Value.bool true), (15, Value.string s),
                          (16, Value.int IntKind.i64 (↑(ptxt s).length : Int)), (17, Value.bool true),
                          (18, Value.int IntKind.u64 n), (19, Value.bool true),
                          (22,
                            Value.bool
                              (getT (bytesAt (List.take (len * 1) (List.drop o cs)) 0 len)
                                  (wr IntKind.i64 ((↑s.size : Int) - 1))).isSome)] =
                      tmps 172
                        [(0, Value.int IntKind.u64 n), (1, Value.string s), (3, Value.int IntKind.i64 cut),
                          (9, Value.slice (some { block := 1, off := 0 }) (enc n).length (enc n).length),
                          (10, Value.slice (some { block := 2, off := 0 }) (ptxt s).length (ptxt s).length),
                          (12, Value.int IntKind.u64 n), (13, Value.int IntKind.i64 (↑(enc n).length : Int)),
                          (14, Value.bool true), (15, Value.string s),
                          (16, Value.int IntKind.i64 (↑(ptxt s).length : Int)), (17, Value.bool true),
                          (18, Value.int IntKind.u64 n), (19, Value.bool true), (22, Value.bool false)] ∧
                    hp
                          [Blk.cells cs 1 false, Blk.cells (List.map u8v (enc n)) 1 true,
                            Blk.cells (List.map u8v (ptxt s)) 1 true] =
                        hp
                          [Blk.cells cs 1 false, Blk.cells (List.map u8v (enc n)) 1 true,
                            Blk.cells (List.map u8v (ptxt s)) 1 true] ∧
                      K AE.ret (tmps 172 [(8, Value.bool true)]) (hp [Blk.cells cs 1 false]))))))
    (Need (leN ((ptxt s).length * 1) 1099511627776)
      (Need (leN (ptxt s).length 1099511627776)
        (Need (leN (o + len * 1) cs.length)
          (Need
            (leN (0 + (ptxt s).length * 1)
              (List.take ((ptxt s).length * 1) (List.drop 0 (List.map u8v (ptxt s)))).length)
            (Alt (leN ((ptxt s).length + len) (ptxt s).length)
              (Alt (eqN len 0)
                ((FlatL (List.take ((ptxt s).length * 1) (List.drop 0 (List.map u8v (ptxt s)))) ∧ True) ∧
                  (IsBs (List.take ((ptxt s).length * 1) (List.drop 0 (List.map u8v (ptxt s)))) 0 (ptxt s).length
                        (ptxt s).length ∧
                      Need (leI (wr IntKind.i64 ((↑s.size : Int) - 1)) 9223372036854775807) True) ∧
                    FlatH
                        (hp
                          [Blk.cells cs 1 false, Blk.cells (List.map u8v (enc n)) 1 true,
                            Blk.cells (List.map u8v (ptxt s)) 1 true]) ∧
                      tmps 172
                            [(0, Value.int IntKind.u64 n), (1, Value.string s), (3, Value.int IntKind.i64 cut),
                              (9, Value.slice (some { block := 1, off := 0 }) (enc n).length (enc n).length),
                              (10, Value.slice (some { block := 2, off := 0 }) (ptxt s).length (ptxt s).length),
                              (12, Value.int IntKind.u64 n), (13, Value.int IntKind.i64 (↑(enc n).length : Int)),
                              (14, Value.bool true), (15, Value.string s),
                              (16, Value.int IntKind.i64 (↑(ptxt s).length : Int)), (17, Value.bool true),
                              (18, Value.int IntKind.u64 n), (19, Value.bool true),
                              (22,
                                Value.bool
                                  (getT
                                      (bytesAt (List.take ((ptxt s).length * 1) (List.drop 0 (List.map u8v (ptxt s)))) 0
                                        (ptxt s).length)
                                      (wr IntKind.i64 ((↑s.size : Int) - 1))).isSome)] =
                          tmps 172
                            [(0, Value.int IntKind.u64 n), (1, Value.string s), (3, Value.int IntKind.i64 cut),
                              (9, Value.slice (some { block := 1, off := 0 }) (enc n).length (enc n).length),
                              (10, Value.slice (some { block := 2, off := 0 }) (ptxt s).length (ptxt s).length),
                              (12, Value.int IntKind.u64 n), (13, Value.int IntKind.i64 (↑(enc n).length : Int)),
                              (14, Value.bool true), (15, Value.string s),
                              (16, Value.int IntKind.i64 (↑(ptxt s).length : Int)), (17, Value.bool true),
                              (18, Value.int IntKind.u64 n), (19, Value.bool true), (22, Value.bool false)] ∧
                        hp
                              [Blk.cells cs 1 false, Blk.cells (List.map u8v (enc n)) 1 true,
                                Blk.cells (List.map u8v (ptxt s)) 1 true] =
                            hp
                              [Blk.cells cs 1 false, Blk.cells (List.map u8v (enc n)) 1 true,
                                Blk.cells (List.map u8v (ptxt s)) 1 true] ∧
                          K AE.ret (tmps 172 [(8, Value.bool true)]) (hp [Blk.cells cs 1 false]))
                (Need
                  (leN (0 + (ptxt s).length * 1 + (List.take (len * 1) (List.drop o cs)).length)
                    (List.take ((ptxt s).length * 1) (List.drop 0 (List.map u8v (ptxt s)))).length)
                  (Need ((List.take (len * 1) (List.drop o cs)).all oneV)
                    ((FlatL
                          (setAll (List.take ((ptxt s).length * 1) (List.drop 0 (List.map u8v (ptxt s))))
                            (0 + (ptxt s).length * 1) (List.take (len * 1) (List.drop o cs))) ∧
                        True) ∧
                      (IsBs
                            (setAll (List.take ((ptxt s).length * 1) (List.drop 0 (List.map u8v (ptxt s))))
                              (0 + (ptxt s).length * 1) (List.take (len * 1) (List.drop o cs)))
                            0 ((ptxt s).length + len) (ptxt s).length ∧
                          Need (leI (wr IntKind.i64 ((↑s.size : Int) - 1)) 9223372036854775807) True) ∧
                        FlatH
                            (hp
                              [Blk.cells cs 1 false, Blk.cells (List.map u8v (enc n)) 1 true,
                                Blk.cells (List.map u8v (ptxt s)) 1 true]) ∧
                          tmps 172
                                [(0, Value.int IntKind.u64 n), (1, Value.string s), (3, Value.int IntKind.i64 cut),
                                  (9, Value.slice (some { block := 1, off := 0 }) (enc n).length (enc n).length),
                                  (10, Value.slice (some { block := 2, off := 0 }) (ptxt s).length (ptxt s).length),
                                  (12, Value.int IntKind.u64 n), (13, Value.int IntKind.i64 (↑(enc n).length : Int)),
                                  (14, Value.bool true), (15, Value.string s),
                                  (16, Value.int IntKind.i64 (↑(ptxt s).length : Int)), (17, Value.bool true),
                                  (18, Value.int IntKind.u64 n), (19, Value.bool true),
                                  (22,
                                    Value.bool
                                      (getT
                                          (bytesAt
                                            (setAll
                                              (List.take ((ptxt s).length * 1) (List.drop 0 (List.map u8v (ptxt s))))
                                              (0 + (ptxt s).length * 1) (List.take (len * 1) (List.drop o cs)))
                                            0 ((ptxt s).length + len))
                                          (wr IntKind.i64 ((↑s.size : Int) - 1))).isSome)] =
                              tmps 172
                                [(0, Value.int IntKind.u64 n), (1, Value.string s), (3, Value.int IntKind.i64 cut),
                                  (9, Value.slice (some { block := 1, off := 0 }) (enc n).length (enc n).length),
                                  (10, Value.slice (some { block := 2, off := 0 }) (ptxt s).length (ptxt s).length),
                                  (12, Value.int IntKind.u64 n), (13, Value.int IntKind.i64 (↑(enc n).length : Int)),
                                  (14, Value.bool true), (15, Value.string s),
                                  (16, Value.int IntKind.i64 (↑(ptxt s).length : Int)), (17, Value.bool true),
                                  (18, Value.int IntKind.u64 n), (19, Value.bool true), (22, Value.bool false)] ∧
                            hp
                                  [Blk.cells cs 1 false, Blk.cells (List.map u8v (enc n)) 1 true,
                                    Blk.cells (List.map u8v (ptxt s)) 1 true] =
                                hp
                                  [Blk.cells cs 1 false, Blk.cells (List.map u8v (enc n)) 1 true,
                                    Blk.cells (List.map u8v (ptxt s)) 1 true] ∧
                              K AE.ret (tmps 172 [(8, Value.bool true)]) (hp [Blk.cells cs 1 false])))))
              (Need (leN (((ptxt s).length + len) * 1) 1099511627776)
                (Need (leN ((ptxt s).length + len) 1099511627776)
                  (Need ((List.take (len * 1) (List.drop o cs)).all oneV)
                    ((FlatL
                          (List.take ((ptxt s).length * 1)
                              (List.drop 0 (List.take ((ptxt s).length * 1) (List.drop 0 (List.map u8v (ptxt s))))) ++
                            List.take (len * 1) (List.drop o cs)) ∧
                        True) ∧
                      (IsBs
                            (List.take ((ptxt s).length * 1)
                                (List.drop 0 (List.take ((ptxt s).length * 1) (List.drop 0 (List.map u8v (ptxt s))))) ++
                              List.take (len * 1) (List.drop o cs))
                            0 ((ptxt s).length + len) ((ptxt s).length + len) ∧
                          Need (leI (wr IntKind.i64 ((↑s.size : Int) - 1)) 9223372036854775807) True) ∧
                        FlatH
                            (hp
                              [Blk.cells cs 1 false, Blk.cells (List.map u8v (enc n)) 1 true,
                                Blk.cells (List.map u8v (ptxt s)) 1 true]) ∧
                          tmps 172
                                [(0, Value.int IntKind.u64 n), (1, Value.string s), (3, Value.int IntKind.i64 cut),
                                  (9, Value.slice (some { block := 1, off := 0 }) (enc n).length (enc n).length),
                                  (10, Value.slice (some { block := 2, off := 0 }) (ptxt s).length (ptxt s).length),
                                  (12, Value.int IntKind.u64 n), (13, Value.int IntKind.i64 (↑(enc n).length : Int)),
                                  (14, Value.bool true), (15, Value.string s),
                                  (16, Value.int IntKind.i64 (↑(ptxt s).length : Int)), (17, Value.bool true),
                                  (18, Value.int IntKind.u64 n), (19, Value.bool true),
                                  (22,
                                    Value.bool
                                      (getT
                                          (bytesAt
                                            (List.take ((ptxt s).length * 1)
                                                (List.drop 0
                                                  (List.take ((ptxt s).length * 1)
                                                    (List.drop 0 (List.map u8v (ptxt s))))) ++
                                              List.take (len * 1) (List.drop o cs))
                                            0 ((ptxt s).length + len))
                                          (wr IntKind.i64 ((↑s.size : Int) - 1))).isSome)] =
                              tmps 172
                                [(0, Value.int IntKind.u64 n), (1, Value.string s), (3, Value.int IntKind.i64 cut),
                                  (9, Value.slice (some { block := 1, off := 0 }) (enc n).length (enc n).length),
                                  (10, Value.slice (some { block := 2, off := 0 }) (ptxt s).length (ptxt s).length),
                                  (12, Value.int IntKind.u64 n), (13, Value.int IntKind.i64 (↑(enc n).length : Int)),
                                  (14, Value.bool true), (15, Value.string s),
                                  (16, Value.int IntKind.i64 (↑(ptxt s).length : Int)), (17, Value.bool true),
                                  (18, Value.int IntKind.u64 n), (19, Value.bool true), (22, Value.bool false)] ∧
                            hp
                                  [Blk.cells cs 1 false, Blk.cells (List.map u8v (enc n)) 1 true,
                                    Blk.cells (List.map u8v (ptxt s)) 1 true] =
                                hp
                                  [Blk.cells cs 1 false, Blk.cells (List.map u8v (enc n)) 1 true,
                                    Blk.cells (List.map u8v (ptxt s)) 1 true] ∧
                              K AE.ret (tmps 172 [(8, Value.bool true)]) (hp [Blk.cells cs 1 false])))))))))))) := by kernel_rfl

theorem w8n5 (cs : List Value) (o : Nat) (sp : Option Nat) (len cap : Nat) (n : Int) (s : ByteArray) (cut cut' : Int) (K : Post) :
  roundK Try.prog S3 (gcLK 1 (cutLK ((l8 1 (N8 o sp len cap) [.cells cs 1 false] n s cut cut').drop 5))) F8 body8 1 [] [1,1,1,1,1,1,1,1] (c8_4 1 (N8 o sp len cap) [.cells cs 1 false] n s cut cut').t (c8_4 1 (N8 o sp len cap) [.cells cs 1 false] n s cut cut').h K = (
Alt (ltI cut 0)
  (FlatH
      (hp [Blk.cells cs 1 false, Blk.cells (List.map u8v (enc n)) 1 true, Blk.cells (List.map u8v (ptxt s)) 1 true]) ∧
    tmps 172
          [(0, Value.int IntKind.u64 n), (1, Value.string s), (3, Value.int IntKind.i64 0),
            (9, Value.slice (some { block := 1, off := 0 }) (enc n).length (enc n).length),
            (10, Value.slice (some { block := 2, off := 0 }) (ptxt s).length (ptxt s).length),
            (12, Value.int IntKind.u64 n), (13, Value.int IntKind.i64 (↑(enc n).length : Int)), (14, Value.bool true),
            (15, Value.string s), (16, Value.int IntKind.i64 (↑(ptxt s).length : Int)), (17, Value.bool true),
            (18, Value.int IntKind.u64 n), (19, Value.bool true), (22, Value.bool false)] =
        tmps 172
          [(0, Value.int IntKind.u64 n), (1, Value.string s), (3, Value.int IntKind.i64 cut'),
            (9, Value.slice (some { block := 1, off := 0 }) (enc n).length (enc n).length),
            (10, Value.slice (some { block := 2, off := 0 }) (ptxt s).length (ptxt s).length),
            (12, Value.int IntKind.u64 n), (13, Value.int IntKind.i64 (↑(enc n).length : Int)), (14, Value.bool true),
            (15, Value.string s), (16, Value.int IntKind.i64 (↑(ptxt s).length : Int)), (17, Value.bool true),
            (18, Value.int IntKind.u64 n), (19, Value.bool true), (22, Value.bool false)] ∧
      hp [Blk.cells cs 1 false, Blk.cells (List.map u8v (enc n)) 1 true, Blk.cells (List.map u8v (ptxt s)) 1 true] =
          hp [Blk.cells cs 1 false, Blk.cells (List.map u8v (enc n)) 1 true, Blk.cells (List.map u8v (ptxt s)) 1 true] ∧
        K AE.ret (tmps 172 [(8, Value.bool true)]) (hp [Blk.cells cs 1 false]))
  (FlatH
      (hp [Blk.cells cs 1 false, Blk.cells (List.map u8v (enc n)) 1 true, Blk.cells (List.map u8v (ptxt s)) 1 true]) ∧
    tmps 172
          [(0, Value.int IntKind.u64 n), (1, Value.string s), (3, Value.int IntKind.i64 cut),
            (9, Value.slice (some { block := 1, off := 0 }) (enc n).length (enc n).length),
            (10, Value.slice (some { block := 2, off := 0 }) (ptxt s).length (ptxt s).length),
            (12, Value.int IntKind.u64 n), (13, Value.int IntKind.i64 (↑(enc n).length : Int)), (14, Value.bool true),
            (15, Value.string s), (16, Value.int IntKind.i64 (↑(ptxt s).length : Int)), (17, Value.bool true),
            (18, Value.int IntKind.u64 n), (19, Value.bool true), (22, Value.bool false)] =
        tmps 172
          [(0, Value.int IntKind.u64 n), (1, Value.string s), (3, Value.int IntKind.i64 cut'),
            (9, Value.slice (some { block := 1, off := 0 }) (enc n).length (enc n).length),
            (10, Value.slice (some { block := 2, off := 0 }) (ptxt s).length (ptxt s).length),
            (12, Value.int IntKind.u64 n), (13, Value.int IntKind.i64 (↑(enc n).length : Int)), (14, Value.bool true),
            (15, Value.string s), (16, Value.int IntKind.i64 (↑(ptxt s).length : Int)), (17, Value.bool true),
            (18, Value.int IntKind.u64 n), (19, Value.bool true), (22, Value.bool false)] ∧
      hp [Blk.cells cs 1 false, Blk.cells (List.map u8v (enc n)) 1 true, Blk.cells (List.map u8v (ptxt s)) 1 true] =
          hp [Blk.cells cs 1 false, Blk.cells (List.map u8v (enc n)) 1 true, Blk.cells (List.map u8v (ptxt s)) 1 true] ∧
        K AE.ret (tmps 172 [(8, Value.bool true)]) (hp [Blk.cells cs 1 false]))) := by kernel_rfl

theorem w8n6 (cs : List Value) (o : Nat) (sp : Option Nat) (len cap : Nat) (n : Int) (s : ByteArray) (cut cut' : Int) (K : Post) :
  roundK Try.prog S3 (gcLK 1 (cutLK ((l8 1 (N8 o sp len cap) [.cells cs 1 false] n s cut cut').drop 6))) F8 body8 1 [] [1,1,1,1,1,1,1,1,1] (c8_5 1 (N8 o sp len cap) [.cells cs 1 false] n s cut cut').t (c8_5 1 (N8 o sp len cap) [.cells cs 1 false] n s cut cut').h K = (
Need (!eqI (↑(enc n).length : Int) 0)
  (Need (leI 0 (cut'.tmod (↑(enc n).length : Int)))
    (Need (leI (cut'.tmod (↑(enc n).length : Int)) (↑(enc n).length : Int))
      ((FlatL (List.map u8v (enc n)) ∧ True) ∧
        IsBs (List.map u8v (enc n)) 0 ((cut'.tmod (↑(enc n).length : Int)).toNat - 0) ((enc n).length - 0) ∧
          FlatH
              (hp
                [Blk.cells cs 1 false, Blk.cells (List.map u8v (enc n)) 1 true,
                  Blk.cells (List.map u8v (ptxt s)) 1 true]) ∧
            tmps 172
                  [(0, Value.int IntKind.u64 n), (1, Value.string s), (3, Value.int IntKind.i64 cut'),
                    (9, Value.slice (some { block := 1, off := 0 }) (enc n).length (enc n).length),
                    (10, Value.slice (some { block := 2, off := 0 }) (ptxt s).length (ptxt s).length),
                    (12, Value.int IntKind.u64 n), (13, Value.int IntKind.i64 (↑(enc n).length : Int)),
                    (14, Value.bool true), (15, Value.string s), (16, Value.int IntKind.i64 (↑(ptxt s).length : Int)),
                    (17, Value.bool true), (18, Value.int IntKind.u64 n), (19, Value.bool true), (22, Value.bool false),
                    (25,
                      Value.bool
                        (dec
                            (bytesAt (List.map u8v (enc n)) 0
                              ((cut'.tmod (↑(enc n).length : Int)).toNat - 0))).isSome)] =
                tmps 172
                  [(0, Value.int IntKind.u64 n), (1, Value.string s), (3, Value.int IntKind.i64 cut'),
                    (9, Value.slice (some { block := 1, off := 0 }) (enc n).length (enc n).length),
                    (10, Value.slice (some { block := 2, off := 0 }) (ptxt s).length (ptxt s).length),
                    (12, Value.int IntKind.u64 n), (13, Value.int IntKind.i64 (↑(enc n).length : Int)),
                    (14, Value.bool true), (15, Value.string s), (16, Value.int IntKind.i64 (↑(ptxt s).length : Int)),
                    (17, Value.bool true), (18, Value.int IntKind.u64 n), (19, Value.bool true), (22, Value.bool false),
                    (25, Value.bool false)] ∧
              hp
                    [Blk.cells cs 1 false, Blk.cells (List.map u8v (enc n)) 1 true,
                      Blk.cells (List.map u8v (ptxt s)) 1 true] =
                  hp
                    [Blk.cells cs 1 false, Blk.cells (List.map u8v (enc n)) 1 true,
                      Blk.cells (List.map u8v (ptxt s)) 1 true] ∧
                K AE.ret (tmps 172 [(8, Value.bool true)]) (hp [Blk.cells cs 1 false]))))) := by kernel_rfl

theorem w8n7 (cs : List Value) (o : Nat) (sp : Option Nat) (len cap : Nat) (n : Int) (s : ByteArray) (cut cut' : Int) (K : Post) :
  roundK Try.prog S3 (gcLK 1 (cutLK ((l8 1 (N8 o sp len cap) [.cells cs 1 false] n s cut cut').drop 7))) F8 body8 1 [] [1,1,1,1,1,1,1,1,1,1] (c8_6 1 (N8 o sp len cap) [.cells cs 1 false] n s cut cut').t (c8_6 1 (N8 o sp len cap) [.cells cs 1 false] n s cut cut').h K = (
Need (!eqI (↑(ptxt s).length : Int) 0)
  (Need (leI 0 (cut'.tmod (↑(ptxt s).length : Int)))
    (Need (leI (cut'.tmod (↑(ptxt s).length : Int)) (↑(ptxt s).length : Int))
      ((FlatL (List.map u8v (ptxt s)) ∧ True) ∧
        (IsBs (List.map u8v (ptxt s)) 0 ((cut'.tmod (↑(ptxt s).length : Int)).toNat - 0) ((ptxt s).length - 0) ∧
            Need (leI (↑s.size : Int) 9223372036854775807) True) ∧
          FlatH
              (hp
                [Blk.cells cs 1 false, Blk.cells (List.map u8v (enc n)) 1 true,
                  Blk.cells (List.map u8v (ptxt s)) 1 true]) ∧
            tmps 172
                  [(0, Value.int IntKind.u64 n), (1, Value.string s),
                    (9, Value.slice (some { block := 1, off := 0 }) (enc n).length (enc n).length),
                    (10, Value.slice (some { block := 2, off := 0 }) (ptxt s).length (ptxt s).length),
                    (12, Value.int IntKind.u64 n), (13, Value.int IntKind.i64 (↑(enc n).length : Int)),
                    (14, Value.bool true), (15, Value.string s), (16, Value.int IntKind.i64 (↑(ptxt s).length : Int)),
                    (17, Value.bool true), (18, Value.int IntKind.u64 n), (19, Value.bool true), (22, Value.bool false),
                    (25, Value.bool false),
                    (28,
                      Value.bool
                        (getT (bytesAt (List.map u8v (ptxt s)) 0 ((cut'.tmod (↑(ptxt s).length : Int)).toNat - 0))
                            (↑s.size : Int)).isSome)] =
                tmps 172
                  [(0, Value.int IntKind.u64 n), (1, Value.string s),
                    (9, Value.slice (some { block := 1, off := 0 }) (enc n).length (enc n).length),
                    (10, Value.slice (some { block := 2, off := 0 }) (ptxt s).length (ptxt s).length),
                    (12, Value.int IntKind.u64 n), (13, Value.int IntKind.i64 (↑(enc n).length : Int)),
                    (14, Value.bool true), (15, Value.string s), (16, Value.int IntKind.i64 (↑(ptxt s).length : Int)),
                    (17, Value.bool true), (18, Value.int IntKind.u64 n), (19, Value.bool true), (22, Value.bool false),
                    (25, Value.bool false), (28, Value.bool false)] ∧
              hp
                    [Blk.cells cs 1 false, Blk.cells (List.map u8v (enc n)) 1 true,
                      Blk.cells (List.map u8v (ptxt s)) 1 true] =
                  hp
                    [Blk.cells cs 1 false, Blk.cells (List.map u8v (enc n)) 1 true,
                      Blk.cells (List.map u8v (ptxt s)) 1 true] ∧
                K AE.ret (tmps 172 [(8, Value.bool true)]) (hp [Blk.cells cs 1 false]))))) := by kernel_rfl

theorem w8n8 (cs : List Value) (o : Nat) (sp : Option Nat) (len cap : Nat) (n : Int) (s : ByteArray) (cut cut' : Int) (K : Post) :
  roundK Try.prog S3 (gcLK 1 (cutLK ((l8 1 (N8 o sp len cap) [.cells cs 1 false] n s cut cut').drop 8))) F8 body8 1 [] [1,1,1,1,1,1,1,1,1,1,1] (c8_7 1 (N8 o sp len cap) [.cells cs 1 false] n s cut cut').t (c8_7 1 (N8 o sp len cap) [.cells cs 1 false] n s cut cut').h K = (
Alt (eqI n n)
  (Alt (eqI (↑(enc n).length : Int) (↑(enc n).length : Int))
    (Alt (eqS s s)
      (Alt (eqI (↑(ptxt s).length : Int) (↑(ptxt s).length : Int))
        (Alt (eqI n n) (True ∧ True ∧ K AE.ret (tmps 172 [(8, Value.bool true)]) (hp [Blk.cells cs 1 false]))
          (K AE.ret (tmps 172 [(8, Value.bool false)]) (hp [Blk.cells cs 1 false])))
        (K AE.ret (tmps 172 [(8, Value.bool false)]) (hp [Blk.cells cs 1 false])))
      (K AE.ret (tmps 172 [(8, Value.bool false)]) (hp [Blk.cells cs 1 false])))
    (K AE.ret (tmps 172 [(8, Value.bool false)]) (hp [Blk.cells cs 1 false])))
  (K AE.ret (tmps 172 [(8, Value.bool false)]) (hp [Blk.cells cs 1 false]))) := by kernel_rfl


/-- what the law stands on -/
structure F8F (n : Int) (s : ByteArray) : Prop where
  n0 : 0 ≤ n
  n1 : n < 18446744073709551616
  s1 : s.size ≤ 400
structure N8F (cs : List Value) (o : Nat) (ln cap : Nat) (tl : List Int) : Prop where
  len : tl.length = ln
  hc : ln ≤ cap
  l1 : ln ≤ 400
  hin : o + ln ≤ cs.length
  hB : BSl cs o tl
theorem N8F.take {cs : List Value} {o ln cap : Nat} {tl : List Int} (h : N8F cs o ln cap tl) : List.take (ln * 1) (List.drop o cs) = tl.map u8v ∧ o + ln * 1 ≤ cs.length := by
  obtain ⟨q1, q2⟩ := h.hB.take 0 ln (by rw [h.len]; omega)
  have := h.hin
  refine ⟨?_, by omega⟩
  rw [Nat.add_zero, List.drop_zero] at q1
  rw [Nat.mul_one, q1, List.take_of_length_le (by rw [h.len]; omega)]
theorem N8F.take' {cs : List Value} {o ln cap : Nat} {tl : List Int} (h : N8F cs o ln cap tl) : List.take ln (List.drop o cs) = tl.map u8v := by
  have := h.take.1
  rwa [Nat.mul_one] at this
theorem tk_all' (l : List Int) : List.take l.length (List.drop 0 (List.map u8v l)) = l.map u8v := by rw [List.drop_zero, List.take_of_length_le (by simp)]
theorem flatH_n (cs : List Value) (n : Int) (s : ByteArray) (h : FlatL cs) : FlatH (hp [.cells cs 1 false]) ∧ FlatH (hp ([.cells cs 1 false, .cells ((enc n).map u8v) 1 true, .cells ((ptxt s).map u8v) 1 true, .cells ((wordB n).map u8v) 1 true])) ∧ FlatH (hp ([.cells cs 1 false, .cells ((enc n).map u8v) 1 true, .cells ((ptxt s).map u8v) 1 true])) :=
  ⟨FlatH.hp ⟨h, trivial⟩, FlatH.hp ⟨h, flatL_u8 _, flatL_u8 _, flatL_u8 _, trivial⟩, FlatH.hp ⟨h, flatL_u8 _, flatL_u8 _, trivial⟩⟩
theorem flatH_z (n : Int) (s : ByteArray) : FlatH (hp ([.cells ((enc n).map u8v) 1 true, .cells ((ptxt s).map u8v) 1 true, .cells ((wordB n).map u8v) 1 true])) ∧ FlatH (hp ([.cells ((enc n).map u8v) 1 true, .cells ((ptxt s).map u8v) 1 true])) :=
  ⟨FlatH.hp ⟨flatL_u8 _, flatL_u8 _, flatL_u8 _, trivial⟩, FlatH.hp ⟨flatL_u8 _, flatL_u8 _, trivial⟩⟩
theorem gN_some (r : Int × Nat) : gN (some r) = r.1 := rfl
theorem gK_some (r : Int × Nat) : gK (some r) = r.2 := rfl
theorem seg8n1 (hmix : Try.prog.follows .mixedOrders = true) (cs : List Value) (o : Nat) (sp : Option Nat) (ln cap : Nat) (n : Int) (s : ByteArray) (cut cut' : Int) (tl : List Int) (hf : F8F n s) (hn : N8F cs o ln cap tl) 
    (hL : Loops Try.prog body8 1 (gcLK 1 (cutLK ((l8 1 (N8 o sp ln cap) [.cells cs 1 false] n s cut cut').drop 1)))) (K : Post) (hK : Q8 [.cells cs 1 false] K) :
    Says Try.prog 1 (sub body8 [1,1,1,1]) (c8_0 1 (N8 o sp ln cap) [.cells cs 1 false] n s cut cut').t (c8_0 1 (N8 o sp ln cap) [.cells cs 1 false] n s cut cut').h K := by
  refine (sure3 hmix).cut F8 hL ?_
  rw [w8n1]
  have t1 := hn.take'
  have hin := hn.hin
  have hl := hn.len
  have hl1 := hn.l1
  have b2 := hn.hB.ok
  have fl := hn.hB.flat
  obtain ⟨f1, f2, f3⟩ := flatH_n cs n s fl
  have el := enc_len n
  have hs := hf.s1
  have pl := ptxt_len s
  have el2 := enc_len s.size
  have b1 := enc_bytes n hf.n0 hf.n1
  have b3 := ptxt_bytes s (by omega)
  have b4 := wordB_bytes n
  simp only [Q8] at hK
  have d1 := dec_enc n tl hf.n0 hf.n1
  have d2 := dec_enc n [] hf.n0 hf.n1
  rw [List.append_nil] at d2
  simp only [show ¬ (enc n).length = 0 by omega, show (enc n).length ≤ 1099511627776 by omega, show (enc n).length + ln ≤ 1099511627776 by omega, Nat.zero_add, Nat.mul_one, tk_all', t1, hin, ← List.map_append, List.length_map, Nat.le_refl, hK, oneV_u8s, flatL_u8, f1, f2, f3, Alt_iff, Need_iff, ltI_eq, leI_eq, eqI_eq, leN_eq, eqN_eq, decide_eq_true_eq, decide_eq_false_iff_not, decide_true, decide_false, true_and, and_true, Bool.true_eq_false, Bool.false_eq_true, false_implies, true_implies, implies_true, not_true_eq_false, not_false_eq_true, Bool.not_eq_true', Bool.not_eq_false']
  refine ⟨fun h => ⟨fun h0 => ?_, fun h0 => by omega⟩, fun h => ?_⟩
  · simp only [bytesAt_lit (show (enc n).length = (enc n).length from rfl), d2, gS, gE, gN, gK, Option.isSome_some, Option.isSome_none, ofB_bytesS]
    refine ⟨isBs_lit rfl b1 (by omega) (by omega), ?_⟩
    and_intros <;> first | trivial | exact f2 | rfl
  · simp only [bytesAt_lit (show (enc n ++ tl).length = (enc n).length + ln from by simp [hl]), d1, gS, gE, gN, gK, Option.isSome_some, Option.isSome_none, ofB_bytesS]
    refine ⟨isBs_lit (by simp [hl]) (b1.app b2) (by omega) (by omega), ?_⟩
    and_intros <;> first | trivial | exact f2 | rfl
theorem seg8n2 (hmix : Try.prog.follows .mixedOrders = true) (cs : List Value) (o : Nat) (sp : Option Nat) (ln cap : Nat) (n : Int) (s : ByteArray) (cut cut' : Int) (tl : List Int) (hf : F8F n s) (hn : N8F cs o ln cap tl) 
    (hL : Loops Try.prog body8 1 (gcLK 1 (cutLK ((l8 1 (N8 o sp ln cap) [.cells cs 1 false] n s cut cut').drop 2)))) (K : Post) (hK : Q8 [.cells cs 1 false] K) :
    Says Try.prog 1 (sub body8 [1,1,1,1,1]) (c8_1 1 (N8 o sp ln cap) [.cells cs 1 false] n s cut cut').t (c8_1 1 (N8 o sp ln cap) [.cells cs 1 false] n s cut cut').h K := by
  refine (sure3 hmix).cut F8 hL ?_
  rw [w8n2]
  have t1 := hn.take'
  have hin := hn.hin
  have hl := hn.len
  have hl1 := hn.l1
  have b2 := hn.hB.ok
  have fl := hn.hB.flat
  obtain ⟨f1, f2, f3⟩ := flatH_n cs n s fl
  have el := enc_len n
  have hs := hf.s1
  have pl := ptxt_len s
  have el2 := enc_len s.size
  have b1 := enc_bytes n hf.n0 hf.n1
  have b3 := ptxt_bytes s (by omega)
  have b4 := wordB_bytes n
  simp only [Q8] at hK
  have d1 := getT_ptxt s tl (by omega)
  have d2 := getT_ptxt s [] (by omega)
  rw [List.append_nil] at d2
  simp only [show ¬ (ptxt s).length = 0 by omega, show (ptxt s).length ≤ 1099511627776 by omega, show (ptxt s).length + ln ≤ 1099511627776 by omega, show (s.size : Int) ≤ 9223372036854775807 by omega, Nat.zero_add, Nat.mul_one, tk_all', t1, hin, ← List.map_append, List.length_map, Nat.le_refl, hK, oneV_u8s, flatL_u8, f1, f2, f3, Alt_iff, Need_iff, ltI_eq, leI_eq, eqI_eq, leN_eq, eqN_eq, decide_eq_true_eq, decide_eq_false_iff_not, decide_true, decide_false, true_and, and_true, Bool.true_eq_false, Bool.false_eq_true, false_implies, true_implies, implies_true, not_true_eq_false, not_false_eq_true, Bool.not_eq_true', Bool.not_eq_false']
  refine ⟨fun h => ⟨fun h0 => ?_, fun h0 => by omega⟩, fun h => ?_⟩
  · simp only [bytesAt_lit (show (ptxt s).length = (ptxt s).length from rfl), d2, gS, gE, gN, gK, Option.isSome_some, Option.isSome_none, ofB_bytesS]
    refine ⟨isBs_lit rfl b3 (by omega) (by omega), ?_⟩
    and_intros <;> first | trivial | exact f2 | rfl
  · simp only [bytesAt_lit (show (ptxt s ++ tl).length = (ptxt s).length + ln from by simp [hl]), d1, gS, gE, gN, gK, Option.isSome_some, Option.isSome_none, ofB_bytesS]
    refine ⟨isBs_lit (by simp [hl]) (b3.app b2) (by omega) (by omega), ?_⟩
    and_intros <;> first | trivial | exact f2 | rfl
theorem seg8n3 (hmix : Try.prog.follows .mixedOrders = true) (cs : List Value) (o : Nat) (sp : Option Nat) (ln cap : Nat) (n : Int) (s : ByteArray) (cut cut' : Int) (tl : List Int) (hf : F8F n s) (hn : N8F cs o ln cap tl) 
    (hL : Loops Try.prog body8 1 (gcLK 1 (cutLK ((l8 1 (N8 o sp ln cap) [.cells cs 1 false] n s cut cut').drop 3)))) (K : Post) (hK : Q8 [.cells cs 1 false] K) :
    Says Try.prog 1 (sub body8 [1,1,1,1,1,1]) (c8_2 1 (N8 o sp ln cap) [.cells cs 1 false] n s cut cut').t (c8_2 1 (N8 o sp ln cap) [.cells cs 1 false] n s cut cut').h K := by
  refine (sure3 hmix).cut F8 hL ?_
  rw [w8n3]
  have t1 := hn.take'
  have hin := hn.hin
  have hl := hn.len
  have hl1 := hn.l1
  have b2 := hn.hB.ok
  have fl := hn.hB.flat
  obtain ⟨f1, f2, f3⟩ := flatH_n cs n s fl
  have el := enc_len n
  have hs := hf.s1
  have pl := ptxt_len s
  have el2 := enc_len s.size
  have b1 := enc_bytes n hf.n0 hf.n1
  have b3 := ptxt_bytes s (by omega)
  have b4 := wordB_bytes n
  simp only [Q8] at hK
  have d1 := gw_word n tl hf.n0 hf.n1
  have d2 := gw_word n [] hf.n0 hf.n1
  rw [List.append_nil] at d2
  have hw : [Value.int IntKind.u8 (wb n 0), Value.int IntKind.u8 (wb n 1), Value.int IntKind.u8 (wb n 2), Value.int IntKind.u8 (wb n 3), Value.int IntKind.u8 (wb n 4), Value.int IntKind.u8 (wb n 5), Value.int IntKind.u8 (wb n 6), Value.int IntKind.u8 (wb n 7)] = (wordB n).map u8v := rfl
  have lw : (wordB n).length = 8 := rfl
  simp only [hw, show 8 + ln ≤ 1099511627776 by omega, Nat.zero_add, Nat.mul_one, tk_all', t1, hin, ← List.map_append, List.length_map, Nat.le_refl, hK, oneV_u8s, flatL_u8, f1, f2, f3, Alt_iff, Need_iff, ltI_eq, leI_eq, eqI_eq, leN_eq, eqN_eq, decide_eq_true_eq, decide_eq_false_iff_not, decide_true, decide_false, true_and, and_true, Bool.true_eq_false, Bool.false_eq_true, false_implies, true_implies, implies_true, not_true_eq_false, not_false_eq_true, Bool.not_eq_true', Bool.not_eq_false']
  refine ⟨fun h => ⟨fun h0 => ?_, fun h0 => by omega⟩, fun h => ?_⟩
  · simp only [bytesAt_lit lw, lw, d2, show ¬ 8 < 8 by omega, if_false, leN_eq, Nat.le_refl, decide_true]
    refine ⟨isBs_lit lw b4 (by omega) (by omega), ?_⟩
    and_intros <;> first | trivial | exact f3 | rfl
  · simp only [bytesAt_lit (show (wordB n ++ tl).length = 8 + ln from by simp [hl, lw]), List.length_append, lw, d1, show ¬ 8 + tl.length < 8 by omega, show 8 ≤ 8 + tl.length by omega, if_false, leN_eq, decide_true]
    refine ⟨isBs_lit (by simp [hl, lw]) (b4.app b2) (by omega) (by omega), ?_⟩
    and_intros <;> first | trivial | exact f3 | rfl
theorem seg8n4 (hmix : Try.prog.follows .mixedOrders = true) (cs : List Value) (o : Nat) (sp : Option Nat) (ln cap : Nat) (n : Int) (s : ByteArray) (cut cut' : Int) (tl : List Int) (hf : F8F n s) (hn : N8F cs o ln cap tl) 
    (hL : Loops Try.prog body8 1 (gcLK 1 (cutLK ((l8 1 (N8 o sp ln cap) [.cells cs 1 false] n s cut cut').drop 4)))) (K : Post) (hK : Q8 [.cells cs 1 false] K) :
    Says Try.prog 1 (sub body8 [1,1,1,1,1,1,1]) (c8_3 1 (N8 o sp ln cap) [.cells cs 1 false] n s cut cut').t (c8_3 1 (N8 o sp ln cap) [.cells cs 1 false] n s cut cut').h K := by
  refine (sure3 hmix).cut F8 hL ?_
  rw [w8n4]
  have t1 := hn.take'
  have hin := hn.hin
  have hl := hn.len
  have hl1 := hn.l1
  have b2 := hn.hB.ok
  have fl := hn.hB.flat
  obtain ⟨f1, f2, f3⟩ := flatH_n cs n s fl
  have el := enc_len n
  have hs := hf.s1
  have pl := ptxt_len s
  have el2 := enc_len s.size
  have b1 := enc_bytes n hf.n0 hf.n1
  have b3 := ptxt_bytes s (by omega)
  have b4 := wordB_bytes n
  simp only [Q8] at hK
  have d1 := getT_less s tl (by omega)
  have d2 := getT_less s [] (by omega)
  rw [List.append_nil] at d2
  have hw : wr .i64 ((s.size : Int) - 1) = (s.size : Int) - 1 := by rw [wr_eq]; simp [IntKind.wrap, IntKind.bits, IntKind.signed]; omega
  simp only [show ¬ (ptxt s).length = 0 by omega, show (ptxt s).length ≤ 1099511627776 by omega, show (ptxt s).length + ln ≤ 1099511627776 by omega, show (s.size : Int) ≤ 9223372036854775807 by omega, hw, show (s.size : Int) - 1 ≤ 9223372036854775807 by omega, Nat.zero_add, Nat.mul_one, tk_all', t1, hin, ← List.map_append, List.length_map, Nat.le_refl, hK, oneV_u8s, flatL_u8, f1, f2, f3, Alt_iff, Need_iff, ltI_eq, leI_eq, eqI_eq, leN_eq, eqN_eq, decide_eq_true_eq, decide_eq_false_iff_not, decide_true, decide_false, true_and, and_true, Bool.true_eq_false, Bool.false_eq_true, false_implies, true_implies, implies_true, not_true_eq_false, not_false_eq_true, Bool.not_eq_true', Bool.not_eq_false']
  refine ⟨fun h => ⟨fun h0 => ?_, fun h0 => by omega⟩, fun h => ?_⟩
  · simp only [bytesAt_lit (show (ptxt s).length = (ptxt s).length from rfl), d2, gS, gE, gN, gK, Option.isSome_some, Option.isSome_none, ofB_bytesS]
    refine ⟨isBs_lit rfl b3 (by omega) (by omega), ?_⟩
    and_intros <;> first | trivial | exact f3 | rfl
  · simp only [bytesAt_lit (show (ptxt s ++ tl).length = (ptxt s).length + ln from by simp [hl]), d1, gS, gE, gN, gK, Option.isSome_some, Option.isSome_none, ofB_bytesS]
    refine ⟨isBs_lit (by simp [hl]) (b3.app b2) (by omega) (by omega), ?_⟩
    and_intros <;> first | trivial | exact f3 | rfl
theorem seg8n5 (hmix : Try.prog.follows .mixedOrders = true) (cs : List Value) (o : Nat) (sp : Option Nat) (ln cap : Nat) (n : Int) (s : ByteArray) (cut cut' : Int) (tl : List Int) (hf : F8F n s) (hn : N8F cs o ln cap tl) (hc : cut' = if cut < 0 then 0 else cut)
    (hL : Loops Try.prog body8 1 (gcLK 1 (cutLK ((l8 1 (N8 o sp ln cap) [.cells cs 1 false] n s cut cut').drop 5)))) (K : Post) (hK : Q8 [.cells cs 1 false] K) :
    Says Try.prog 1 (sub body8 [1,1,1,1,1,1,1,1]) (c8_4 1 (N8 o sp ln cap) [.cells cs 1 false] n s cut cut').t (c8_4 1 (N8 o sp ln cap) [.cells cs 1 false] n s cut cut').h K := by
  refine (sure3 hmix).cut F8 hL ?_
  rw [w8n5]
  have t1 := hn.take'
  have hin := hn.hin
  have hl := hn.len
  have hl1 := hn.l1
  have b2 := hn.hB.ok
  have fl := hn.hB.flat
  obtain ⟨f1, f2, f3⟩ := flatH_n cs n s fl
  have el := enc_len n
  have hs := hf.s1
  have pl := ptxt_len s
  have el2 := enc_len s.size
  have b1 := enc_bytes n hf.n0 hf.n1
  have b3 := ptxt_bytes s (by omega)
  have b4 := wordB_bytes n
  simp only [Q8] at hK
  simp only [Nat.zero_add, Nat.mul_one, tk_all', t1, hin, ← List.map_append, List.length_map, Nat.le_refl, hK, oneV_u8s, flatL_u8, f1, f2, f3, Alt_iff, Need_iff, ltI_eq, leI_eq, eqI_eq, leN_eq, eqN_eq, decide_eq_true_eq, decide_eq_false_iff_not, decide_true, decide_false, true_and, and_true, Bool.true_eq_false, Bool.false_eq_true, false_implies, true_implies, implies_true, not_true_eq_false, not_false_eq_true, Bool.not_eq_true', Bool.not_eq_false']
  refine ⟨fun h => ?_, fun h => ?_⟩
  · have e : cut' = 0 := by rw [hc, if_pos h]
    subst e
    and_intros <;> first | trivial | exact f3 | rfl
  · have e : cut' = cut := by rw [hc, if_neg h]
    subst e
    and_intros <;> first | trivial | exact f3 | rfl
theorem seg8n6 (hmix : Try.prog.follows .mixedOrders = true) (cs : List Value) (o : Nat) (sp : Option Nat) (ln cap : Nat) (n : Int) (s : ByteArray) (cut cut' : Int) (tl : List Int) (hf : F8F n s) (hn : N8F cs o ln cap tl) (h0 : 0 ≤ cut')
    (hL : Loops Try.prog body8 1 (gcLK 1 (cutLK ((l8 1 (N8 o sp ln cap) [.cells cs 1 false] n s cut cut').drop 6)))) (K : Post) (hK : Q8 [.cells cs 1 false] K) :
    Says Try.prog 1 (sub body8 [1,1,1,1,1,1,1,1,1]) (c8_5 1 (N8 o sp ln cap) [.cells cs 1 false] n s cut cut').t (c8_5 1 (N8 o sp ln cap) [.cells cs 1 false] n s cut cut').h K := by
  refine (sure3 hmix).cut F8 hL ?_
  rw [w8n6]
  have t1 := hn.take'
  have hin := hn.hin
  have hl := hn.len
  have hl1 := hn.l1
  have b2 := hn.hB.ok
  have fl := hn.hB.flat
  obtain ⟨f1, f2, f3⟩ := flatH_n cs n s fl
  have el := enc_len n
  have hs := hf.s1
  have pl := ptxt_len s
  have el2 := enc_len s.size
  have b1 := enc_bytes n hf.n0 hf.n1
  have b3 := ptxt_bytes s (by omega)
  have b4 := wordB_bytes n
  simp only [Q8] at hK
  have hj : 0 ≤ cut'.tmod ((enc n).length : Int) ∧ cut'.tmod ((enc n).length : Int) < ((enc n).length : Int) := by
    rw [Int.tmod_eq_emod_of_nonneg h0]
    exact ⟨Int.emod_nonneg _ (by omega), Int.emod_lt_of_pos _ (by omega)⟩
  obtain ⟨j, hj1⟩ := Int.eq_ofNat_of_zero_le hj.1
  simp only [hj1] at hj ⊢
  simp only [show ¬ ((enc n).length : Int) = 0 by omega, show (0 : Int) ≤ (j : Int) by omega, show (j : Int) ≤ ((enc n).length : Int) by omega, Int.toNat_natCast, show (s.size : Int) ≤ 9223372036854775807 by omega, Nat.zero_add, Nat.mul_one, tk_all', t1, hin, ← List.map_append, List.length_map, Nat.le_refl, hK, oneV_u8s, flatL_u8, f1, f2, f3, Alt_iff, Need_iff, ltI_eq, leI_eq, eqI_eq, leN_eq, eqN_eq, decide_eq_true_eq, decide_eq_false_iff_not, decide_true, decide_false, true_and, and_true, Bool.true_eq_false, Bool.false_eq_true, false_implies, true_implies, implies_true, not_true_eq_false, not_false_eq_true, Bool.not_eq_true', Bool.not_eq_false']
  rw [Nat.sub_zero, Nat.sub_zero, bytesAt_take, dec_cut n j (by omega)]
  refine ⟨isBs_take (by omega) b1 (by omega) (by omega), ?_⟩
  and_intros <;> first | trivial | exact f3 | rfl
theorem seg8n7 (hmix : Try.prog.follows .mixedOrders = true) (cs : List Value) (o : Nat) (sp : Option Nat) (ln cap : Nat) (n : Int) (s : ByteArray) (cut cut' : Int) (tl : List Int) (hf : F8F n s) (hn : N8F cs o ln cap tl) (h0 : 0 ≤ cut')
    (hL : Loops Try.prog body8 1 (gcLK 1 (cutLK ((l8 1 (N8 o sp ln cap) [.cells cs 1 false] n s cut cut').drop 7)))) (K : Post) (hK : Q8 [.cells cs 1 false] K) :
    Says Try.prog 1 (sub body8 [1,1,1,1,1,1,1,1,1,1]) (c8_6 1 (N8 o sp ln cap) [.cells cs 1 false] n s cut cut').t (c8_6 1 (N8 o sp ln cap) [.cells cs 1 false] n s cut cut').h K := by
  refine (sure3 hmix).cut F8 hL ?_
  rw [w8n7]
  have t1 := hn.take'
  have hin := hn.hin
  have hl := hn.len
  have hl1 := hn.l1
  have b2 := hn.hB.ok
  have fl := hn.hB.flat
  obtain ⟨f1, f2, f3⟩ := flatH_n cs n s fl
  have el := enc_len n
  have hs := hf.s1
  have pl := ptxt_len s
  have el2 := enc_len s.size
  have b1 := enc_bytes n hf.n0 hf.n1
  have b3 := ptxt_bytes s (by omega)
  have b4 := wordB_bytes n
  simp only [Q8] at hK
  have hj : 0 ≤ cut'.tmod ((ptxt s).length : Int) ∧ cut'.tmod ((ptxt s).length : Int) < ((ptxt s).length : Int) := by
    rw [Int.tmod_eq_emod_of_nonneg h0]
    exact ⟨Int.emod_nonneg _ (by omega), Int.emod_lt_of_pos _ (by omega)⟩
  obtain ⟨j, hj1⟩ := Int.eq_ofNat_of_zero_le hj.1
  simp only [hj1] at hj ⊢
  simp only [show ¬ ((ptxt s).length : Int) = 0 by omega, show (0 : Int) ≤ (j : Int) by omega, show (j : Int) ≤ ((ptxt s).length : Int) by omega, Int.toNat_natCast, show (s.size : Int) ≤ 9223372036854775807 by omega, Nat.zero_add, Nat.mul_one, tk_all', t1, hin, ← List.map_append, List.length_map, Nat.le_refl, hK, oneV_u8s, flatL_u8, f1, f2, f3, Alt_iff, Need_iff, ltI_eq, leI_eq, eqI_eq, leN_eq, eqN_eq, decide_eq_true_eq, decide_eq_false_iff_not, decide_true, decide_false, true_and, and_true, Bool.true_eq_false, Bool.false_eq_true, false_implies, true_implies, implies_true, not_true_eq_false, not_false_eq_true, Bool.not_eq_true', Bool.not_eq_false']
  rw [Nat.sub_zero, Nat.sub_zero, bytesAt_take, getT_cut s j _ (by omega) (by omega)]
  refine ⟨isBs_take (by omega) b3 (by omega) (by omega), ?_⟩
  and_intros <;> first | trivial | exact f3 | rfl
theorem seg8n8 (hmix : Try.prog.follows .mixedOrders = true) (cs : List Value) (o : Nat) (sp : Option Nat) (ln cap : Nat) (n : Int) (s : ByteArray) (cut cut' : Int) (tl : List Int) (hf : F8F n s) (hn : N8F cs o ln cap tl) 
    (hL : Loops Try.prog body8 1 (gcLK 1 (cutLK ((l8 1 (N8 o sp ln cap) [.cells cs 1 false] n s cut cut').drop 8)))) (K : Post) (hK : Q8 [.cells cs 1 false] K) :
    Says Try.prog 1 (sub body8 [1,1,1,1,1,1,1,1,1,1,1]) (c8_7 1 (N8 o sp ln cap) [.cells cs 1 false] n s cut cut').t (c8_7 1 (N8 o sp ln cap) [.cells cs 1 false] n s cut cut').h K := by
  refine (sure3 hmix).cut F8 hL ?_
  rw [w8n8]
  have t1 := hn.take'
  have hin := hn.hin
  have hl := hn.len
  have hl1 := hn.l1
  have b2 := hn.hB.ok
  have fl := hn.hB.flat
  obtain ⟨f1, f2, f3⟩ := flatH_n cs n s fl
  have el := enc_len n
  have hs := hf.s1
  have pl := ptxt_len s
  have el2 := enc_len s.size
  have b1 := enc_bytes n hf.n0 hf.n1
  have b3 := ptxt_bytes s (by omega)
  have b4 := wordB_bytes n
  simp only [Q8] at hK
  simp only [eqS_rfl, beqV_int, beqV_str, beqV_bool, Nat.zero_add, Nat.mul_one, tk_all', t1, hin, ← List.map_append, List.length_map, Nat.le_refl, hK, oneV_u8s, flatL_u8, f1, f2, f3, Alt_iff, Need_iff, ltI_eq, leI_eq, eqI_eq, leN_eq, eqN_eq, decide_eq_true_eq, decide_eq_false_iff_not, decide_true, decide_false, true_and, and_true, Bool.true_eq_false, Bool.false_eq_true, false_implies, true_implies, implies_true, not_true_eq_false, not_false_eq_true, Bool.not_eq_true', Bool.not_eq_false']
theorem seg8z5 (hmix : Try.prog.follows .mixedOrders = true) (n : Int) (s : ByteArray) (cut cut' : Int) (hf : F8F n s) (hc : cut' = if cut < 0 then 0 else cut)
    (hL : Loops Try.prog body8 0 (gcLK 0 (cutLK ((l8 0 Z8 [] n s cut cut').drop 5)))) (K : Post) (hK : Q8 [] K) :
    Says Try.prog 0 (sub body8 [1,1,1,1,1,1,1,1]) (c8_4 0 Z8 [] n s cut cut').t (c8_4 0 Z8 [] n s cut cut').h K := by
  refine (sure3 hmix).cut F8 hL ?_
  rw [w8z5]
  obtain ⟨f2, f3⟩ := flatH_z n s
  have f1 := FlatH.empty
  have el := enc_len n
  have hs := hf.s1
  have pl := ptxt_len s
  have el2 := enc_len s.size
  have b1 := enc_bytes n hf.n0 hf.n1
  have b3 := ptxt_bytes s (by omega)
  have b4 := wordB_bytes n
  simp only [Q8] at hK
  simp only [Nat.zero_add, Nat.mul_one, tk_all', ← List.map_append, List.length_map, Nat.le_refl, hK, oneV_u8s, flatL_u8, f1, f2, f3, Alt_iff, Need_iff, ltI_eq, leI_eq, eqI_eq, leN_eq, eqN_eq, decide_eq_true_eq, decide_eq_false_iff_not, decide_true, decide_false, true_and, and_true, Bool.true_eq_false, Bool.false_eq_true, false_implies, true_implies, implies_true, not_true_eq_false, not_false_eq_true, Bool.not_eq_true', Bool.not_eq_false']
  refine ⟨fun h => ?_, fun h => ?_⟩
  · have e : cut' = 0 := by rw [hc, if_pos h]
    subst e
    and_intros <;> first | trivial | exact f3 | rfl
  · have e : cut' = cut := by rw [hc, if_neg h]
    subst e
    and_intros <;> first | trivial | exact f3 | rfl
theorem seg8z6 (hmix : Try.prog.follows .mixedOrders = true) (n : Int) (s : ByteArray) (cut cut' : Int) (hf : F8F n s) (h0 : 0 ≤ cut')
    (hL : Loops Try.prog body8 0 (gcLK 0 (cutLK ((l8 0 Z8 [] n s cut cut').drop 6)))) (K : Post) (hK : Q8 [] K) :
    Says Try.prog 0 (sub body8 [1,1,1,1,1,1,1,1,1]) (c8_5 0 Z8 [] n s cut cut').t (c8_5 0 Z8 [] n s cut cut').h K := by
  refine (sure3 hmix).cut F8 hL ?_
  rw [w8z6]
  obtain ⟨f2, f3⟩ := flatH_z n s
  have f1 := FlatH.empty
  have el := enc_len n
  have hs := hf.s1
  have pl := ptxt_len s
  have el2 := enc_len s.size
  have b1 := enc_bytes n hf.n0 hf.n1
  have b3 := ptxt_bytes s (by omega)
  have b4 := wordB_bytes n
  simp only [Q8] at hK
  have hj : 0 ≤ cut'.tmod ((enc n).length : Int) ∧ cut'.tmod ((enc n).length : Int) < ((enc n).length : Int) := by
    rw [Int.tmod_eq_emod_of_nonneg h0]
    exact ⟨Int.emod_nonneg _ (by omega), Int.emod_lt_of_pos _ (by omega)⟩
  obtain ⟨j, hj1⟩ := Int.eq_ofNat_of_zero_le hj.1
  simp only [hj1] at hj ⊢
  simp only [show ¬ ((enc n).length : Int) = 0 by omega, show (0 : Int) ≤ (j : Int) by omega, show (j : Int) ≤ ((enc n).length : Int) by omega, Int.toNat_natCast, show (s.size : Int) ≤ 9223372036854775807 by omega, Nat.zero_add, Nat.mul_one, tk_all', ← List.map_append, List.length_map, Nat.le_refl, hK, oneV_u8s, flatL_u8, f1, f2, f3, Alt_iff, Need_iff, ltI_eq, leI_eq, eqI_eq, leN_eq, eqN_eq, decide_eq_true_eq, decide_eq_false_iff_not, decide_true, decide_false, true_and, and_true, Bool.true_eq_false, Bool.false_eq_true, false_implies, true_implies, implies_true, not_true_eq_false, not_false_eq_true, Bool.not_eq_true', Bool.not_eq_false']
  rw [Nat.sub_zero, Nat.sub_zero, bytesAt_take, dec_cut n j (by omega)]
  refine ⟨isBs_take (by omega) b1 (by omega) (by omega), ?_⟩
  and_intros <;> first | trivial | exact f3 | rfl
theorem seg8z7 (hmix : Try.prog.follows .mixedOrders = true) (n : Int) (s : ByteArray) (cut cut' : Int) (hf : F8F n s) (h0 : 0 ≤ cut')
    (hL : Loops Try.prog body8 0 (gcLK 0 (cutLK ((l8 0 Z8 [] n s cut cut').drop 7)))) (K : Post) (hK : Q8 [] K) :
    Says Try.prog 0 (sub body8 [1,1,1,1,1,1,1,1,1,1]) (c8_6 0 Z8 [] n s cut cut').t (c8_6 0 Z8 [] n s cut cut').h K := by
  refine (sure3 hmix).cut F8 hL ?_
  rw [w8z7]
  obtain ⟨f2, f3⟩ := flatH_z n s
  have f1 := FlatH.empty
  have el := enc_len n
  have hs := hf.s1
  have pl := ptxt_len s
  have el2 := enc_len s.size
  have b1 := enc_bytes n hf.n0 hf.n1
  have b3 := ptxt_bytes s (by omega)
  have b4 := wordB_bytes n
  simp only [Q8] at hK
  have hj : 0 ≤ cut'.tmod ((ptxt s).length : Int) ∧ cut'.tmod ((ptxt s).length : Int) < ((ptxt s).length : Int) := by
    rw [Int.tmod_eq_emod_of_nonneg h0]
    exact ⟨Int.emod_nonneg _ (by omega), Int.emod_lt_of_pos _ (by omega)⟩
  obtain ⟨j, hj1⟩ := Int.eq_ofNat_of_zero_le hj.1
  simp only [hj1] at hj ⊢
  simp only [show ¬ ((ptxt s).length : Int) = 0 by omega, show (0 : Int) ≤ (j : Int) by omega, show (j : Int) ≤ ((ptxt s).length : Int) by omega, Int.toNat_natCast, show (s.size : Int) ≤ 9223372036854775807 by omega, Nat.zero_add, Nat.mul_one, tk_all', ← List.map_append, List.length_map, Nat.le_refl, hK, oneV_u8s, flatL_u8, f1, f2, f3, Alt_iff, Need_iff, ltI_eq, leI_eq, eqI_eq, leN_eq, eqN_eq, decide_eq_true_eq, decide_eq_false_iff_not, decide_true, decide_false, true_and, and_true, Bool.true_eq_false, Bool.false_eq_true, false_implies, true_implies, implies_true, not_true_eq_false, not_false_eq_true, Bool.not_eq_true', Bool.not_eq_false']
  rw [Nat.sub_zero, Nat.sub_zero, bytesAt_take, getT_cut s j _ (by omega) (by omega)]
  refine ⟨isBs_take (by omega) b3 (by omega) (by omega), ?_⟩
  and_intros <;> first | trivial | exact f3 | rfl
theorem seg8z8 (hmix : Try.prog.follows .mixedOrders = true) (n : Int) (s : ByteArray) (cut cut' : Int) (hf : F8F n s) 
    (hL : Loops Try.prog body8 0 (gcLK 0 (cutLK ((l8 0 Z8 [] n s cut cut').drop 8)))) (K : Post) (hK : Q8 [] K) :
    Says Try.prog 0 (sub body8 [1,1,1,1,1,1,1,1,1,1,1]) (c8_7 0 Z8 [] n s cut cut').t (c8_7 0 Z8 [] n s cut cut').h K := by
  refine (sure3 hmix).cut F8 hL ?_
  rw [w8z8]
  obtain ⟨f2, f3⟩ := flatH_z n s
  have f1 := FlatH.empty
  have el := enc_len n
  have hs := hf.s1
  have pl := ptxt_len s
  have el2 := enc_len s.size
  have b1 := enc_bytes n hf.n0 hf.n1
  have b3 := ptxt_bytes s (by omega)
  have b4 := wordB_bytes n
  simp only [Q8] at hK
  simp only [eqS_rfl, beqV_int, beqV_str, beqV_bool, Nat.zero_add, Nat.mul_one, tk_all', ← List.map_append, List.length_map, Nat.le_refl, hK, oneV_u8s, flatL_u8, f1, f2, f3, Alt_iff, Need_iff, ltI_eq, leI_eq, eqI_eq, leN_eq, eqN_eq, decide_eq_true_eq, decide_eq_false_iff_not, decide_true, decide_false, true_and, and_true, Bool.true_eq_false, Bool.false_eq_true, false_implies, true_implies, implies_true, not_true_eq_false, not_false_eq_true, Bool.not_eq_true', Bool.not_eq_false']
theorem seg8z1 (hmix : Try.prog.follows .mixedOrders = true) (n : Int) (s : ByteArray) (cut cut' : Int) (hf : F8F n s) 
    (hL : Loops Try.prog body8 0 (gcLK 0 (cutLK ((l8 0 Z8 [] n s cut cut').drop 1)))) (K : Post) (hK : Q8 [] K) :
    Says Try.prog 0 (sub body8 [1,1,1,1]) (c8_0 0 Z8 [] n s cut cut').t (c8_0 0 Z8 [] n s cut cut').h K := by
  refine (sure3 hmix).cut F8 hL ?_
  rw [w8z1]
  obtain ⟨f2, f3⟩ := flatH_z n s
  have f1 := FlatH.empty
  have el := enc_len n
  have hs := hf.s1
  have pl := ptxt_len s
  have el2 := enc_len s.size
  have b1 := enc_bytes n hf.n0 hf.n1
  have b3 := ptxt_bytes s (by omega)
  have b4 := wordB_bytes n
  simp only [Q8] at hK
  have d2 := dec_enc n [] hf.n0 hf.n1
  rw [List.append_nil] at d2
  simp only [Nat.add_zero, show ¬ (enc n).length = 0 by omega, show (enc n).length ≤ 1099511627776 by omega, Nat.zero_add, Nat.mul_one, tk_all', ← List.map_append, List.length_map, Nat.le_refl, hK, oneV_u8s, flatL_u8, f1, f2, f3, Alt_iff, Need_iff, ltI_eq, leI_eq, eqI_eq, leN_eq, eqN_eq, decide_eq_true_eq, decide_eq_false_iff_not, decide_true, decide_false, true_and, and_true, Bool.true_eq_false, Bool.false_eq_true, false_implies, true_implies, implies_true, not_true_eq_false, not_false_eq_true, Bool.not_eq_true', Bool.not_eq_false']
  simp only [bytesAt_lit (show (enc n).length = (enc n).length from rfl), d2, gS, gE, gN, gK, Option.isSome_some, Option.isSome_none, ofB_bytesS]
  and_intros <;> first | trivial | exact f2 | exact isBs_lit rfl b1 (by omega) (by omega) | rfl
theorem seg8z2 (hmix : Try.prog.follows .mixedOrders = true) (n : Int) (s : ByteArray) (cut cut' : Int) (hf : F8F n s) 
    (hL : Loops Try.prog body8 0 (gcLK 0 (cutLK ((l8 0 Z8 [] n s cut cut').drop 2)))) (K : Post) (hK : Q8 [] K) :
    Says Try.prog 0 (sub body8 [1,1,1,1,1]) (c8_1 0 Z8 [] n s cut cut').t (c8_1 0 Z8 [] n s cut cut').h K := by
  refine (sure3 hmix).cut F8 hL ?_
  rw [w8z2]
  obtain ⟨f2, f3⟩ := flatH_z n s
  have f1 := FlatH.empty
  have el := enc_len n
  have hs := hf.s1
  have pl := ptxt_len s
  have el2 := enc_len s.size
  have b1 := enc_bytes n hf.n0 hf.n1
  have b3 := ptxt_bytes s (by omega)
  have b4 := wordB_bytes n
  simp only [Q8] at hK
  have d2 := getT_ptxt s [] (by omega)
  rw [List.append_nil] at d2
  simp only [Nat.add_zero, show ¬ (ptxt s).length = 0 by omega, show (ptxt s).length ≤ 1099511627776 by omega, show (s.size : Int) ≤ 9223372036854775807 by omega, Nat.zero_add, Nat.mul_one, tk_all', ← List.map_append, List.length_map, Nat.le_refl, hK, oneV_u8s, flatL_u8, f1, f2, f3, Alt_iff, Need_iff, ltI_eq, leI_eq, eqI_eq, leN_eq, eqN_eq, decide_eq_true_eq, decide_eq_false_iff_not, decide_true, decide_false, true_and, and_true, Bool.true_eq_false, Bool.false_eq_true, false_implies, true_implies, implies_true, not_true_eq_false, not_false_eq_true, Bool.not_eq_true', Bool.not_eq_false']
  simp only [bytesAt_lit (show (ptxt s).length = (ptxt s).length from rfl), d2, gS, gE, gN, gK, Option.isSome_some, Option.isSome_none, ofB_bytesS]
  and_intros <;> first | trivial | exact f2 | exact isBs_lit rfl b3 (by omega) (by omega) | rfl
theorem seg8z3 (hmix : Try.prog.follows .mixedOrders = true) (n : Int) (s : ByteArray) (cut cut' : Int) (hf : F8F n s) 
    (hL : Loops Try.prog body8 0 (gcLK 0 (cutLK ((l8 0 Z8 [] n s cut cut').drop 3)))) (K : Post) (hK : Q8 [] K) :
    Says Try.prog 0 (sub body8 [1,1,1,1,1,1]) (c8_2 0 Z8 [] n s cut cut').t (c8_2 0 Z8 [] n s cut cut').h K := by
  refine (sure3 hmix).cut F8 hL ?_
  rw [w8z3]
  obtain ⟨f2, f3⟩ := flatH_z n s
  have f1 := FlatH.empty
  have el := enc_len n
  have hs := hf.s1
  have pl := ptxt_len s
  have el2 := enc_len s.size
  have b1 := enc_bytes n hf.n0 hf.n1
  have b3 := ptxt_bytes s (by omega)
  have b4 := wordB_bytes n
  simp only [Q8] at hK
  have d2 := gw_word n [] hf.n0 hf.n1
  rw [List.append_nil] at d2
  have hw : [Value.int IntKind.u8 (wb n 0), Value.int IntKind.u8 (wb n 1), Value.int IntKind.u8 (wb n 2), Value.int IntKind.u8 (wb n 3), Value.int IntKind.u8 (wb n 4), Value.int IntKind.u8 (wb n 5), Value.int IntKind.u8 (wb n 6), Value.int IntKind.u8 (wb n 7)] = (wordB n).map u8v := rfl
  have lw : (wordB n).length = 8 := rfl
  simp only [hw, Nat.zero_add, Nat.mul_one, tk_all', ← List.map_append, List.length_map, Nat.le_refl, hK, oneV_u8s, flatL_u8, f1, f2, f3, Alt_iff, Need_iff, ltI_eq, leI_eq, eqI_eq, leN_eq, eqN_eq, decide_eq_true_eq, decide_eq_false_iff_not, decide_true, decide_false, true_and, and_true, Bool.true_eq_false, Bool.false_eq_true, false_implies, true_implies, implies_true, not_true_eq_false, not_false_eq_true, Bool.not_eq_true', Bool.not_eq_false']
  simp only [bytesAt_lit lw, lw, d2, show ¬ 8 < 8 by omega, if_false, leN_eq, Nat.le_refl, decide_true]
  and_intros <;> first | trivial | exact f3 | exact isBs_lit lw b4 (by omega) (by omega) | rfl
theorem seg8z4 (hmix : Try.prog.follows .mixedOrders = true) (n : Int) (s : ByteArray) (cut cut' : Int) (hf : F8F n s) 
    (hL : Loops Try.prog body8 0 (gcLK 0 (cutLK ((l8 0 Z8 [] n s cut cut').drop 4)))) (K : Post) (hK : Q8 [] K) :
    Says Try.prog 0 (sub body8 [1,1,1,1,1,1,1]) (c8_3 0 Z8 [] n s cut cut').t (c8_3 0 Z8 [] n s cut cut').h K := by
  refine (sure3 hmix).cut F8 hL ?_
  rw [w8z4]
  obtain ⟨f2, f3⟩ := flatH_z n s
  have f1 := FlatH.empty
  have el := enc_len n
  have hs := hf.s1
  have pl := ptxt_len s
  have el2 := enc_len s.size
  have b1 := enc_bytes n hf.n0 hf.n1
  have b3 := ptxt_bytes s (by omega)
  have b4 := wordB_bytes n
  simp only [Q8] at hK
  have d2 := getT_less s [] (by omega)
  rw [List.append_nil] at d2
  have hw : wr .i64 ((s.size : Int) - 1) = (s.size : Int) - 1 := by rw [wr_eq]; simp [IntKind.wrap, IntKind.bits, IntKind.signed]; omega
  simp only [Nat.add_zero, show ¬ (ptxt s).length = 0 by omega, show (ptxt s).length ≤ 1099511627776 by omega, show (s.size : Int) ≤ 9223372036854775807 by omega, hw, show (s.size : Int) - 1 ≤ 9223372036854775807 by omega, Nat.zero_add, Nat.mul_one, tk_all', ← List.map_append, List.length_map, Nat.le_refl, hK, oneV_u8s, flatL_u8, f1, f2, f3, Alt_iff, Need_iff, ltI_eq, leI_eq, eqI_eq, leN_eq, eqN_eq, decide_eq_true_eq, decide_eq_false_iff_not, decide_true, decide_false, true_and, and_true, Bool.true_eq_false, Bool.false_eq_true, false_implies, true_implies, implies_true, not_true_eq_false, not_false_eq_true, Bool.not_eq_true', Bool.not_eq_false']
  simp only [bytesAt_lit (show (ptxt s).length = (ptxt s).length from rfl), d2, gS, gE, gN, gK, Option.isSome_some, Option.isSome_none, ofB_bytesS]
  and_intros <;> first | trivial | exact f3 | exact isBs_lit rfl b3 (by omega) (by omega) | rfl
theorem loops8n (hmix : Try.prog.follows .mixedOrders = true) (cs : List Value) (o : Nat) (sp : Option Nat) (ln cap : Nat) (n : Int) (s : ByteArray) (cut cut' : Int) (tl : List Int) (hf : F8F n s) (hn : N8F cs o ln cap tl) (hc : cut' = if cut < 0 then 0 else cut) :
    Loops Try.prog body8 1 (cutLK (l8 1 (N8 o sp ln cap) [.cells cs 1 false] n s cut cut')) := by
  have h0 : 0 ≤ cut' := by rw [hc]; split <;> omega
  have L8 := (show Loops Try.prog body8 1 (cutLK ((l8 1 (N8 o sp ln cap) [.cells cs 1 false] n s cut cut').drop 8)) from Loops.none)
  have L7 := (show Loops Try.prog body8 1 (cutLK ((l8 1 (N8 o sp ln cap) [.cells cs 1 false] n s cut cut').drop 7)) from L8.more (c8_7 1 (N8 o sp ln cap) [.cells cs 1 false] n s cut cut') fun K hK => seg8n8 hmix cs o sp ln cap n s cut cut' tl hf hn L8.gc K hK)
  have L6 := (show Loops Try.prog body8 1 (cutLK ((l8 1 (N8 o sp ln cap) [.cells cs 1 false] n s cut cut').drop 6)) from L7.more (c8_6 1 (N8 o sp ln cap) [.cells cs 1 false] n s cut cut') fun K hK => seg8n7 hmix cs o sp ln cap n s cut cut' tl hf hn h0 L7.gc K hK)
  have L5 := (show Loops Try.prog body8 1 (cutLK ((l8 1 (N8 o sp ln cap) [.cells cs 1 false] n s cut cut').drop 5)) from L6.more (c8_5 1 (N8 o sp ln cap) [.cells cs 1 false] n s cut cut') fun K hK => seg8n6 hmix cs o sp ln cap n s cut cut' tl hf hn h0 L6.gc K hK)
  have L4 := (show Loops Try.prog body8 1 (cutLK ((l8 1 (N8 o sp ln cap) [.cells cs 1 false] n s cut cut').drop 4)) from L5.more (c8_4 1 (N8 o sp ln cap) [.cells cs 1 false] n s cut cut') fun K hK => seg8n5 hmix cs o sp ln cap n s cut cut' tl hf hn hc L5.gc K hK)
  have L3 := (show Loops Try.prog body8 1 (cutLK ((l8 1 (N8 o sp ln cap) [.cells cs 1 false] n s cut cut').drop 3)) from L4.more (c8_3 1 (N8 o sp ln cap) [.cells cs 1 false] n s cut cut') fun K hK => seg8n4 hmix cs o sp ln cap n s cut cut' tl hf hn L4.gc K hK)
  have L2 := (show Loops Try.prog body8 1 (cutLK ((l8 1 (N8 o sp ln cap) [.cells cs 1 false] n s cut cut').drop 2)) from L3.more (c8_2 1 (N8 o sp ln cap) [.cells cs 1 false] n s cut cut') fun K hK => seg8n3 hmix cs o sp ln cap n s cut cut' tl hf hn L3.gc K hK)
  have L1 := (show Loops Try.prog body8 1 (cutLK ((l8 1 (N8 o sp ln cap) [.cells cs 1 false] n s cut cut').drop 1)) from L2.more (c8_1 1 (N8 o sp ln cap) [.cells cs 1 false] n s cut cut') fun K hK => seg8n2 hmix cs o sp ln cap n s cut cut' tl hf hn L2.gc K hK)
  exact L1.more (c8_0 1 (N8 o sp ln cap) [.cells cs 1 false] n s cut cut') fun K hK => seg8n1 hmix cs o sp ln cap n s cut cut' tl hf hn L1.gc K hK
theorem law8n (hmix : Try.prog.follows .mixedOrders = true) (cs : List Value) (o : Nat) (sp : Option Nat) (ln cap : Nat) (n : Int) (s : ByteArray) (cut : Int) (tl : List Int) (hf : F8F n s) (hn : N8F cs o ln cap tl) : FunSays Try.prog 8 [.int .u64 n, .string s, .slice (some ⟨0,o,sp⟩) ln cap, .int .i64 cut] (hp [.cells cs 1 false]) fun v _ => v = .bool true := by
  refine (sure3 hmix).fun F8 body8 Try.func8 rfl (loops8n hmix cs o sp ln cap n s cut (if cut < 0 then 0 else cut) tl hf hn rfl).gc ?_
  rw [w8n0]
  have el := enc_len n
  have hs := hf.s1
  have pl := ptxt_len s
  have el2 := enc_len s.size
  have h0 := hf.n0
  have h1 := hf.n1
  have hl := hn.len
  have hl1 := hn.l1
  obtain ⟨f1, f2, f3⟩ := flatH_n cs n s hn.hB.flat
  simp only [f1, f2, f3, Q8, h0, show n ≤ 18446744073709551615 by omega, show ¬ (400 : Int) < (s.size : Int) by omega, show s.size ≤ 1000000000000 by omega, show ¬ ((enc n).length : Int) < 1 by omega, show ¬ ((ptxt s).length : Int) < 1 by omega, Alt_iff, Need_iff, ltI_eq, leI_eq, eqI_eq, leN_eq, eqN_eq, decide_eq_true_eq, decide_eq_false_iff_not, decide_true, decide_false, true_and, and_true, Bool.true_eq_false, Bool.false_eq_true, false_implies, true_implies, implies_true, not_true_eq_false, not_false_eq_true, Bool.not_eq_true', Bool.not_eq_false']
  exact ⟨fun _ => rfl, fun _ => ⟨f2, rfl⟩⟩

theorem w8nb (cs : List Value) (o : Nat) (sp : Option Nat) (ln cap : Nat) (n : Int) (s : ByteArray) (cut : Int) (K : Value → Heap → Prop) :
  funK Try.prog S3 noLoop F8 body8 Try.f8 [.int .u64 n, .string s, .slice (some ⟨0,o,sp⟩) ln cap, .int .i64 cut] (hp [.cells cs 1 false]) K = (
Alt (ltI 400 (↑s.size : Int)) (True ∧ True ∧ K (Value.bool true) (hp [Blk.cells cs 1 false]))
  (Alt (ltI 400 (↑ln : Int)) (True ∧ True ∧ K (Value.bool true) (hp [Blk.cells cs 1 false]))
    (True ∧
      Need (leI 0 n) (Need (leI n 18446744073709551615) True) ∧
        True ∧
          Need (leN s.size 1000000000000) True ∧
            True ∧
              Need (leI 0 n) True ∧
                Alt (ltI (↑(enc n).length : Int) 1) (K (Value.bool false) (hp [Blk.cells cs 1 false]))
                  (Need (ltI (↑(ptxt s).length : Int) 1) (K (Value.bool false) (hp [Blk.cells cs 1 false])))))) := by kernel_rfl

theorem law8nb (hmix : Try.prog.follows .mixedOrders = true) (cs : List Value) (o : Nat) (sp : Option Nat) (ln cap : Nat) (n : Int) (s : ByteArray) (cut : Int) (hb : 400 < s.size ∨ 400 < ln) (hfl : FlatL cs) : FunSays Try.prog 8 [.int .u64 n, .string s, .slice (some ⟨0,o,sp⟩) ln cap, .int .i64 cut] (hp [.cells cs 1 false]) fun v _ => v = .bool true := by
  refine (sure3 hmix).fun F8 body8 Try.func8 rfl noLoops ?_
  rw [w8nb]
  have f1 : FlatH (hp [.cells cs 1 false]) := FlatH.hp ⟨hfl, trivial⟩
  simp only [f1, Alt_iff, Need_iff, ltI_eq, leI_eq, eqI_eq, leN_eq, eqN_eq, decide_eq_true_eq, decide_eq_false_iff_not, decide_true, decide_false, true_and, and_true, Bool.true_eq_false, Bool.false_eq_true, false_implies, true_implies, implies_true, not_true_eq_false, not_false_eq_true, Bool.not_eq_true', Bool.not_eq_false']
  refine ⟨fun _ => rfl, fun h => ⟨fun _ => rfl, fun h' => by omega⟩⟩
theorem loops8z (hmix : Try.prog.follows .mixedOrders = true) (n : Int) (s : ByteArray) (cut cut' : Int) (hf : F8F n s) (hc : cut' = if cut < 0 then 0 else cut) :
    Loops Try.prog body8 0 (cutLK (l8 0 Z8 [] n s cut cut')) := by
  have h0 : 0 ≤ cut' := by rw [hc]; split <;> omega
  have L8 := (show Loops Try.prog body8 0 (cutLK ((l8 0 Z8 [] n s cut cut').drop 8)) from Loops.none)
  have L7 := (show Loops Try.prog body8 0 (cutLK ((l8 0 Z8 [] n s cut cut').drop 7)) from L8.more (c8_7 0 Z8 [] n s cut cut') fun K hK => seg8z8 hmix n s cut cut' hf L8.gc K hK)
  have L6 := (show Loops Try.prog body8 0 (cutLK ((l8 0 Z8 [] n s cut cut').drop 6)) from L7.more (c8_6 0 Z8 [] n s cut cut') fun K hK => seg8z7 hmix n s cut cut' hf h0 L7.gc K hK)
  have L5 := (show Loops Try.prog body8 0 (cutLK ((l8 0 Z8 [] n s cut cut').drop 5)) from L6.more (c8_5 0 Z8 [] n s cut cut') fun K hK => seg8z6 hmix n s cut cut' hf h0 L6.gc K hK)
  have L4 := (show Loops Try.prog body8 0 (cutLK ((l8 0 Z8 [] n s cut cut').drop 4)) from L5.more (c8_4 0 Z8 [] n s cut cut') fun K hK => seg8z5 hmix n s cut cut' hf hc L5.gc K hK)
  have L3 := (show Loops Try.prog body8 0 (cutLK ((l8 0 Z8 [] n s cut cut').drop 3)) from L4.more (c8_3 0 Z8 [] n s cut cut') fun K hK => seg8z4 hmix n s cut cut' hf L4.gc K hK)
  have L2 := (show Loops Try.prog body8 0 (cutLK ((l8 0 Z8 [] n s cut cut').drop 2)) from L3.more (c8_2 0 Z8 [] n s cut cut') fun K hK => seg8z3 hmix n s cut cut' hf L3.gc K hK)
  have L1 := (show Loops Try.prog body8 0 (cutLK ((l8 0 Z8 [] n s cut cut').drop 1)) from L2.more (c8_1 0 Z8 [] n s cut cut') fun K hK => seg8z2 hmix n s cut cut' hf L2.gc K hK)
  exact L1.more (c8_0 0 Z8 [] n s cut cut') fun K hK => seg8z1 hmix n s cut cut' hf L1.gc K hK
theorem law8z (hmix : Try.prog.follows .mixedOrders = true) (n : Int) (s : ByteArray) (cut : Int) (hf : F8F n s) : FunSays Try.prog 8 [.int .u64 n, .string s, .slice none 0 0, .int .i64 cut] (hp []) fun v _ => v = .bool true := by
  refine (sure3 hmix).fun F8 body8 Try.func8 rfl (loops8z hmix n s cut (if cut < 0 then 0 else cut) hf rfl).gc ?_
  rw [w8z0]
  have el := enc_len n
  have hs := hf.s1
  have pl := ptxt_len s
  have el2 := enc_len s.size
  have h0 := hf.n0
  have h1 := hf.n1
  obtain ⟨f2, f3⟩ := flatH_z n s
  have f1 := FlatH.empty
  simp only [f1, f2, f3, Q8, h0, show n ≤ 18446744073709551615 by omega, show ¬ (400 : Int) < (s.size : Int) by omega, show s.size ≤ 1000000000000 by omega, show ¬ ((enc n).length : Int) < 1 by omega, show ¬ ((ptxt s).length : Int) < 1 by omega, Alt_iff, Need_iff, ltI_eq, leI_eq, eqI_eq, leN_eq, eqN_eq, decide_eq_true_eq, decide_eq_false_iff_not, decide_true, decide_false, true_and, and_true, Bool.true_eq_false, Bool.false_eq_true, false_implies, true_implies, implies_true, not_true_eq_false, not_false_eq_true, Bool.not_eq_true', Bool.not_eq_false']
  exact ⟨f2, rfl⟩

theorem w8zb (n : Int) (s : ByteArray) (cut : Int) (K : Value → Heap → Prop) :
  funK Try.prog S3 noLoop F8 body8 Try.f8 [.int .u64 n, .string s, .slice none 0 0, .int .i64 cut] (hp []) K = (
Alt (ltI 400 (↑s.size : Int)) (True ∧ True ∧ K (Value.bool true) (hp []))
  (True ∧
    Need (leI 0 n) (Need (leI n 18446744073709551615) True) ∧
      True ∧
        Need (leN s.size 1000000000000) True ∧
          True ∧
            Need (leI 0 n) True ∧
              Alt (ltI (↑(enc n).length : Int) 1) (K (Value.bool false) (hp []))
                (Need (ltI (↑(ptxt s).length : Int) 1) (K (Value.bool false) (hp []))))) := by kernel_rfl

theorem law8zb (hmix : Try.prog.follows .mixedOrders = true) (n : Int) (s : ByteArray) (cut : Int) (hb : 400 < s.size) : FunSays Try.prog 8 [.int .u64 n, .string s, .slice none 0 0, .int .i64 cut] (hp []) fun v _ => v = .bool true := by
  refine (sure3 hmix).fun F8 body8 Try.func8 rfl noLoops ?_
  rw [w8zb]
  simp only [show (400 : Int) < (s.size : Int) by omega, Alt_iff, Need_iff, ltI_eq, leI_eq, eqI_eq, leN_eq, eqN_eq, decide_eq_true_eq, decide_eq_false_iff_not, decide_true, decide_false, true_and, and_true, Bool.true_eq_false, Bool.false_eq_true, false_implies, true_implies, implies_true, not_true_eq_false, not_false_eq_true, Bool.not_eq_true', Bool.not_eq_false']
  exact ⟨rfl, FlatH.empty⟩
end Go.Proofs.Ytfbjgddeipligaa
