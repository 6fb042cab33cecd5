/- Proved: what functions of the program come to, by their conditions over the abstract machine. Conditions: those that each theorem states. -/
import Derived.Test.YtdpfmaimhimfcaaCh1
set_option linter.unusedVariables false
set_option linter.unusedSimpArgs false
namespace Go.Proofs.Ytdpfmaimhimfcaa
open Go.RowKit Go.Proofs.Ytdpfmaimhimfcaa.AM
set_option maxRecDepth 100000
set_option maxHeartbeats 4000000
noncomputable def S42 : Book := bookOf [(20, getLC), (28, mksetC), (34, knameC), (35, withinC), (36, kvalC)]
theorem sure42 (hmix : Try.prog.follows .mixedOrders = true) : Sure Try.prog S42 := ⟨hmix, plain, bookOf_ok ⟨getl_says hmix, mkset_says hmix, kname_says hmix, within_says hmix, kval_says hmix, trivial⟩⟩
noncomputable def T121 (a : Value) (m i : Nat) : List Value := tmps 54 [(0, a), (3, .slice (some ⟨1,0,some 1⟩) m m), (4, .int .i64 i)]

theorem r121 (cs c2 : List Value) (own : Bool) (o : Nat) (sp : Option Nat) (len cap m i : Nat) (K : Post) :
  roundX Try.prog S42 noLoop F121 body121 1 [] [] [] [] [0,3,4] [0,0,1,0,1,1] (T121 (.slice (some ⟨0,o,sp⟩) len cap) m i) (hp [.cells cs 1 own, .cells c2 2 true]) K = (
Alt (ltI (↑i : Int) (↑len : Int))
  (Alt (ltI (↑i : Int) 5)
    (Need (ltI (↑i : Int) (↑len : Int))
      (Need (isInt IntKind.i64 ((getO cs (o + (↑i : Int).toNat * 1)).getD undef))
        (True ∧
          True ∧
            True ∧
              Need (leI 0 (0 + intV ((getO cs (o + (↑i : Int).toNat * 1)).getD undef) % 5))
                  (Need (leI (0 + intV ((getO cs (o + (↑i : Int).toNat * 1)).getD undef) % 5) 4) True) ∧
                Need (ltI (↑i : Int) (↑len : Int))
                  (Need (isInt IntKind.i64 ((getO cs (o + (↑i : Int).toNat * 1)).getD undef))
                    (True ∧
                      True ∧
                        True ∧
                          Need
                              (leI 0
                                (0 +
                                  wr IntKind.i64 ((intV ((getO cs (o + (↑i : Int).toNat * 1)).getD undef)).tdiv 5) % 7))
                              (Need
                                (leI
                                  (0 +
                                    wr IntKind.i64 ((intV ((getO cs (o + (↑i : Int).toNat * 1)).getD undef)).tdiv 5) %
                                      7)
                                  6)
                                True) ∧
                            Need
                              (beqV 64
                                (Value.int IntKind.i64
                                  (wr IntKind.i64 ((intV ((getO cs (o + (↑i : Int).toNat * 1)).getD undef)).tdiv 5)))
                                (Value.int IntKind.i64
                                  (wr IntKind.i64 ((intV ((getO cs (o + (↑i : Int).toNat * 1)).getD undef)).tdiv 5))))
                              (Need
                                (beqV 64
                                  (Value.int IntKind.i64
                                    (wr IntKind.i64 ((intV ((getO cs (o + (↑i : Int).toNat * 1)).getD undef)).tdiv 5)))
                                  (Value.int IntKind.i64
                                    (wr IntKind.i64 ((intV ((getO cs (o + (↑i : Int).toNat * 1)).getD undef)).tdiv 5))))
                                (Need (isInt IntKind.i64 ((getO cs (o + (↑i : Int).toNat * 1)).getD undef))
                                  (Need
                                    (beqV 64
                                      (Value.int IntKind.i64 (intV ((getO cs (o + (↑i : Int).toNat * 1)).getD undef)))
                                      (Value.int IntKind.i64 (intV ((getO cs (o + (↑i : Int).toNat * 1)).getD undef))))
                                    (Need (isInt IntKind.i64 ((getO cs (o + (↑i : Int).toNat * 1)).getD undef))
                                      (Need
                                        (beqV 64
                                          (Value.int IntKind.i64
                                            (intV ((getO cs (o + (↑i : Int).toNat * 1)).getD undef)))
                                          (Value.int IntKind.i64
                                            (intV ((getO cs (o + (↑i : Int).toNat * 1)).getD undef))))
                                        (Need (ltI (↑i : Int) (↑len : Int))
                                          (Need
                                            (beqV 64
                                              (Value.pointer
                                                (some { block := 0, off := o + (↑i : Int).toNat * 1 : Addr }))
                                              (Value.pointer
                                                (some { block := 0, off := o + (↑i : Int).toNat * 1 : Addr })))
                                            (Need (ltI (↑i : Int) (↑len : Int))
                                              (Need
                                                (beqV 64
                                                  (Value.pointer
                                                    (some { block := 0, off := o + (↑i : Int).toNat * 1 : Addr }))
                                                  (Value.pointer
                                                    (some { block := 0, off := o + (↑i : Int).toNat * 1 : Addr })))
                                                (Need
                                                  (beqV 64 (Value.int IntKind.i64 (↑i : Int))
                                                    (Value.int IntKind.i64 (↑i : Int)))
                                                  (Need
                                                    (beqV 64 (Value.int IntKind.i64 (↑i : Int))
                                                      (Value.int IntKind.i64 (↑i : Int)))
                                                    (Need
                                                      (beqV 64
                                                        (Value.slice (some { block := 0, off := o, spot := sp : Addr })
                                                          len cap)
                                                        (Value.slice (some { block := 0, off := o, spot := sp : Addr })
                                                          len cap))
                                                      (Need
                                                        (beqV 64
                                                          (Value.slice
                                                            (some { block := 0, off := o, spot := sp : Addr }) len cap)
                                                          (Value.slice
                                                            (some { block := 0, off := o, spot := sp : Addr }) len cap))
                                                        ((FlatL c2 ∧ True) ∧
                                                          (IsLs c2 0 m m ∧ True) ∧
                                                            Alt
                                                              (eqS
                                                                (getF
                                                                  (strV
                                                                    (Value.string
                                                                      (strV
                                                                        (Value.string
                                                                          (nameS
                                                                            (0 +
                                                                              intV
                                                                                  ((getO cs
                                                                                        (o + (↑i : Int).toNat * 1)).getD
                                                                                    undef) %
                                                                                5))))))
                                                                  (labsAt c2 0 m))
                                                                { data := #[] : ByteArray })
                                                              (Need (leN (0 + m * 2) c2.length)
                                                                (Need (leN ((m + 1) * 32) 1099511627776)
                                                                  (Need (leN (m + 1) 1099511627776)
                                                                    (K AE.normal
                                                                      (tmps 54
                                                                        [(0,
                                                                            Value.slice
                                                                              (some
                                                                                { block := 0, off := o, spot := sp :
                                                                                  Addr })
                                                                              len cap),
                                                                          (3,
                                                                            Value.slice
                                                                              (some
                                                                                { block := 1, off := 0, spot := some 1 :
                                                                                  Addr })
                                                                              (m + 1) (m + 1)),
                                                                          (4,
                                                                            Value.int IntKind.i64
                                                                              (wr IntKind.i64 ((↑i : Int) + 1)))])
                                                                      (hp
                                                                        [Blk.cells cs 1 own,
                                                                          Blk.cells
                                                                            (List.take (m * 2) (List.drop 0 c2) ++
                                                                              [Value.string
                                                                                  (strV
                                                                                    (Value.string
                                                                                      (nameS
                                                                                        (0 +
                                                                                          intV
                                                                                              ((getO cs
                                                                                                    (o +
                                                                                                      (↑i : Int).toNat *
                                                                                                        1)).getD
                                                                                                undef) %
                                                                                            5)))),
                                                                                Value.string
                                                                                  (strV
                                                                                    (Value.string
                                                                                      (valS
                                                                                        (0 +
                                                                                          wr IntKind.i64
                                                                                              ((intV
                                                                                                    ((getO cs
                                                                                                          (o +
                                                                                                            (↑i :
                                                                                                                  Int).toNat *
                                                                                                              1)).getD
                                                                                                      undef)).tdiv
                                                                                                5) %
                                                                                            7))))])
                                                                            2 true])))))
                                                              (K AE.normal
                                                                (tmps 54
                                                                  [(0,
                                                                      Value.slice
                                                                        (some
                                                                          { block := 0, off := o, spot := sp : Addr })
                                                                        len cap),
                                                                    (3,
                                                                      Value.slice
                                                                        (some
                                                                          { block := 1, off := 0, spot := some 1 :
                                                                            Addr })
                                                                        m m),
                                                                    (4,
                                                                      Value.int IntKind.i64
                                                                        (wr IntKind.i64 ((↑i : Int) + 1)))])
                                                                (hp
                                                                  [Blk.cells cs 1 own,
                                                                    Blk.cells c2 2 true])))))))))))))))))))))
    (K (AE.exit 0) (tmps 54 [(3, Value.slice (some { block := 1, off := 0, spot := some 1 : Addr }) m m)])
      (hp [Blk.cells cs 1 own, Blk.cells c2 2 true])))
  (K (AE.exit 0) (tmps 54 [(3, Value.slice (some { block := 1, off := 0, spot := some 1 : Addr }) m m)])
    (hp [Blk.cells cs 1 own, Blk.cells c2 2 true]))) := by kernel_rfl

theorem w121 (cs : List Value) (own : Bool) (o : Nat) (sp : Option Nat) (len cap : Nat) (c2 : List Value) (m : Nat) (K : Value → Heap → Prop) :
  funX Try.prog S42 (gcLKX (at0 []) (at0 [.tmp 3 2]) 1 (cutLK [⟨[0,1,0,1,1], T121 (.slice (some ⟨0,o,sp⟩) len cap) 0 0, hp [.cells cs 1 own, .cells [] 2 true], fun K => K (.exit 0) (tmps 54 [(3, .slice (some ⟨1,0,some 1⟩) m m)]) (hp [.cells cs 1 own, .cells c2 2 true])⟩])) F121 body121 Try.f21 [] [.tmp 0 2] [.slice (some ⟨0,o,sp⟩) len cap] (hp [.cells cs 1 own]) K = (
FlatD [] (hp [Blk.cells cs 1 own, Blk.cells [] 2 true]) ∧
  tmps 54
        [(0, Value.slice (some { block := 0, off := o, spot := sp : Addr }) len cap),
          (3, Value.slice (some { block := 1, off := 0, spot := some 1 : Addr }) 0 0), (4, Value.int IntKind.i64 0)] =
      tmps 54
        [(0, Value.slice (some { block := 0, off := o, spot := sp : Addr }) len cap),
          (3, Value.slice (some { block := 1, off := 0, spot := some 1 : Addr }) 0 0), (4, Value.int IntKind.i64 0)] ∧
    hp [Blk.cells cs 1 own, Blk.cells [] 2 true] = hp [Blk.cells cs 1 own, Blk.cells [] 2 true] ∧
      Alt (eqI (↑m : Int) 0)
        (Need (leN (0 + m * 2) c2.length)
          (Need (leN ((m + 1) * 32) 1099511627776)
            (Need (leN (m + 1) 1099511627776)
              ((FlatL
                    (List.take (m * 2) (List.drop 0 c2) ++
                      [Value.string { data := #[OfNat.ofNat 115, OfNat.ofNat 101, OfNat.ofNat 118] : ByteArray },
                        Value.string { data := #[OfNat.ofNat 97] : ByteArray }]) ∧
                  True) ∧
                (IsLs
                      (List.take (m * 2) (List.drop 0 c2) ++
                        [Value.string { data := #[OfNat.ofNat 115, OfNat.ofNat 101, OfNat.ofNat 118] : ByteArray },
                          Value.string { data := #[OfNat.ofNat 97] : ByteArray }])
                      0 (m + 1) (m + 1) ∧
                    Need (leN (m + 1) 1000000) True) ∧
                  K
                    (Value.slice (some { block := 1, off := 0, spot := some 1 : Addr })
                      (mkR
                          (labsAt
                            (List.take (m * 2) (List.drop 0 c2) ++
                              [Value.string
                                  { data := #[OfNat.ofNat 115, OfNat.ofNat 101, OfNat.ofNat 118] : ByteArray },
                                Value.string { data := #[OfNat.ofNat 97] : ByteArray }])
                            0 (m + 1))).length
                      (mkR
                          (labsAt
                            (List.take (m * 2) (List.drop 0 c2) ++
                              [Value.string
                                  { data := #[OfNat.ofNat 115, OfNat.ofNat 101, OfNat.ofNat 118] : ByteArray },
                                Value.string { data := #[OfNat.ofNat 97] : ByteArray }])
                            0 (m + 1))).length)
                    (hp
                      [Blk.cells cs 1 own,
                        Blk.cells
                          (labC
                            (mkR
                              (labsAt
                                (List.take (m * 2) (List.drop 0 c2) ++
                                  [Value.string
                                      { data := #[OfNat.ofNat 115, OfNat.ofNat 101, OfNat.ofNat 118] : ByteArray },
                                    Value.string { data := #[OfNat.ofNat 97] : ByteArray }])
                                0 (m + 1))))
                          2 true])))))
        ((FlatL c2 ∧ True) ∧
          (IsLs c2 0 m m ∧ Need (leN m 1000000) True) ∧
            K
              (Value.slice (some { block := 1, off := 0, spot := some 1 : Addr }) (mkR (labsAt c2 0 m)).length
                (mkR (labsAt c2 0 m)).length)
              (hp [Blk.cells cs 1 own, Blk.cells (labC (mkR (labsAt c2 0 m))) 2 true]))) := by kernel_rfl

def addK (L : List Lb) (n : Int) : List Lb := if eqS (getF (nameS (n % 5)) L) ⟨#[]⟩ = true then L ++ [(nameS (n % 5), valS (n.tdiv 5 % 7))] else L
def keepS (l : List Int) : List Lb := (l.take 5).foldl addK []
def keepO (l : List Int) : List Lb := if (keepS l).length = 0 then [(nameS 0, valS 0)] else keepS l
theorem addK_small {L : List Lb} (h : Small L) (n : Int) : Small (addK L n) := by
  unfold addK
  split
  · intro x hx
    rcases List.mem_append.1 hx with hx | hx
    · exact h x hx
    · simp at hx
      subst hx
      obtain ⟨a, _⟩ := few_facts (n % 5)
      obtain ⟨_, _, b, _⟩ := few_facts (n.tdiv 5 % 7)
      exact ⟨by show (nameS _).size ≤ _; omega, by show (valS _).size ≤ _; omega⟩
  · exact h
theorem addK_len (L : List Lb) (n : Int) : (addK L n).length ≤ L.length + 1 := by unfold addK; split <;> simp
theorem keepS_small (l : List Int) : ∀ L : List Lb, Small L → Small (l.foldl addK L) ∧ (l.foldl addK L).length ≤ L.length + l.length := by
  induction l with
  | nil => intro L h; exact ⟨h, Nat.le_refl _⟩
  | cons x l ih =>
    intro L h
    obtain ⟨a, b⟩ := ih _ (addK_small h x)
    have := addK_len L x
    rw [List.foldl_cons]
    exact ⟨a, by simp; omega⟩
theorem tdiv5 (n : Int) (h : ZP .i64 n) : wr .i64 (n.tdiv 5) = n.tdiv 5 := by
  have := ZP.i64.1 h
  refine wr_i64 _ ?_ ?_ <;> (rcases Int.le_total 0 n with h | h)
  · have := Int.tdiv_nonneg h (show (0 : Int) ≤ 5 by decide); omega
  · have : -n.tdiv 5 = (-n).tdiv 5 := (Int.neg_tdiv n 5).symm
    have : (-n).tdiv 5 = (-n) / 5 := Int.tdiv_eq_ediv_of_nonneg (by omega)
    omega
  · have : n.tdiv 5 = n / 5 := Int.tdiv_eq_ediv_of_nonneg h
    omega
  · have : -n.tdiv 5 = (-n).tdiv 5 := (Int.neg_tdiv n 5).symm
    have : (-n).tdiv 5 = (-n) / 5 := Int.tdiv_eq_ediv_of_nonneg (by omega)
    omega
theorem keep_loop (hmix : Try.prog.follows .mixedOrders = true) (l : List Int) (cs : List Value) (own : Bool) (o : Nat) (sp : Option Nat) (cap : Nat) (hB : ESl (iE .i64) (ZP .i64) cs o l) (K : Post) : ∀ (t : List Int) (i : Nat) (L : List Lb), (l.take 5).drop i = t → i ≤ 5 → i ≤ l.length → Small L → L.length + t.length ≤ 5 →
    K (.exit 0) (tmps 54 [(3, .slice (some ⟨1,0,some 1⟩) (t.foldl addK L).length (t.foldl addK L).length)]) (hp [.cells cs 1 own, .cells (labC (t.foldl addK L)) 2 true]) →
    LSays Try.prog 1 (sub body121 [0,0,1,0,1,1]) (T121 (.slice (some ⟨0,o,sp⟩) l.length cap) L.length i) (hp [.cells cs 1 own, .cells (labC L) 2 true]) K := by
  have hsh := hB.short
  intro t
  induction t with
  | nil =>
    intro i L ht hi5 hi hs hL hK
    have hF : FlatD [] (hp [.cells cs 1 own, .cells (labC L) 2 true]) := FlatD.hp ⟨hB.flat, labC_flat L, trivial⟩
    have hge := List.drop_eq_nil_iff.1 ht
    rw [List.length_take] at hge
    refine (sure42 hmix).roundX F121 noLoops [] [] [] [] [0,3,4] ?_
    rw [r121]
    by_cases h1 : (i : Int) < (l.length : Int)
    · simp only [h1, show ¬ ((i : Int) < 5) by omega, hF, Alt_iff, Need_iff, ltI_eq, leI_eq, eqI_eq, leN_eq, eqN_eq, decide_eq_true_eq, decide_eq_false_iff_not, decide_true, decide_false, true_and, and_true, Bool.true_eq_false, Bool.false_eq_true, false_implies, true_implies, implies_true, not_true_eq_false, not_false_eq_true, Bool.not_eq_true', Bool.not_eq_false', Nat.zero_add, Nat.add_zero, Nat.sub_zero, Nat.zero_mul, Nat.mul_one, Int.toNat_natCast, List.drop_zero, beqV_int, beqV_sl, beqV_str, beqV_bool, beqV_ptr, beqV_flt, beqV_agg, beqV_tuple, List.all_cons, List.all_nil, Bool.and_self, Bool.and_true, Bool.true_and, Nat.le_refl, Int.le_refl, Nat.zero_le, Option.getD_some, isStr, strV, isInt, intV, isBool, boolV, kindEq, at0, isJunk, Option.isSome_some, Option.isSome_none, if_true, if_false, Nat.add_sub_cancel_left, Nat.add_sub_cancel]; exact hK
    · simp only [h1, hF, Alt_iff, Need_iff, ltI_eq, leI_eq, eqI_eq, leN_eq, eqN_eq, decide_eq_true_eq, decide_eq_false_iff_not, decide_true, decide_false, true_and, and_true, Bool.true_eq_false, Bool.false_eq_true, false_implies, true_implies, implies_true, not_true_eq_false, not_false_eq_true, Bool.not_eq_true', Bool.not_eq_false', Nat.zero_add, Nat.add_zero, Nat.sub_zero, Nat.zero_mul, Nat.mul_one, Int.toNat_natCast, List.drop_zero, beqV_int, beqV_sl, beqV_str, beqV_bool, beqV_ptr, beqV_flt, beqV_agg, beqV_tuple, List.all_cons, List.all_nil, Bool.and_self, Bool.and_true, Bool.true_and, Nat.le_refl, Int.le_refl, Nat.zero_le, Option.getD_some, isStr, strV, isInt, intV, isBool, boolV, kindEq, at0, isJunk, Option.isSome_some, Option.isSome_none, if_true, if_false, Nat.add_sub_cancel_left, Nat.add_sub_cancel]; exact hK
  | cons x t ih =>
    intro i L ht hi5 hi hs hL hK
    obtain ⟨hlt, hx, hd⟩ := cons_of_drop ht
    rw [List.length_take] at hlt
    rw [List.getElem?_take, if_pos (by omega)] at hx
    have hl2 : (i : Int) < (l.length : Int) := by omega
    have hg1 := hB.cell i x hx
    have hzx := hB.ok x (List.mem_of_getElem? hx)
    have hF : FlatD [] (hp [.cells cs 1 own, .cells (labC L) 2 true]) := FlatD.hp ⟨hB.flat, labC_flat L, trivial⟩
    have hF2 : ∀ L, FlatD [] (hp [.cells cs 1 own, .cells (labC L) 2 true]) := fun L => FlatD.hp ⟨hB.flat, labC_flat L, trivial⟩
    simp only [List.length_cons] at hL
    have hls : LSl (labC L) 0 L := labC_ls L hs (by omega)
    have hat : labsAt (labC L) 0 L.length = L := hls.labsAt
    have hil : IsLs (labC L) 0 L.length L.length := ⟨L, rfl, Nat.le_refl _, hls⟩
    have hfl := labC_flat L
    have hlen := labC_len L
    have next := ih (i + 1) (addK L x) hd (by omega) (by omega) (addK_small hs x) (by have := addK_len L x; omega) hK
    refine (sure42 hmix).roundX F121 noLoops [] [] [] [] [0,3,4] ?_
    rw [r121]
    simp only [hl2, show ((i : Int) < 5) by omega, hg1, iE, tdiv5 x hzx, hat, hil, hfl, hF, Int.zero_add, nx i (by omega), Alt_iff, Need_iff, ltI_eq, leI_eq, eqI_eq, leN_eq, eqN_eq, decide_eq_true_eq, decide_eq_false_iff_not, decide_true, decide_false, true_and, and_true, Bool.true_eq_false, Bool.false_eq_true, false_implies, true_implies, implies_true, not_true_eq_false, not_false_eq_true, Bool.not_eq_true', Bool.not_eq_false', Nat.zero_add, Nat.add_zero, Nat.sub_zero, Nat.zero_mul, Nat.mul_one, Int.toNat_natCast, List.drop_zero, beqV_int, beqV_sl, beqV_str, beqV_bool, beqV_ptr, beqV_flt, beqV_agg, beqV_tuple, List.all_cons, List.all_nil, Bool.and_self, Bool.and_true, Bool.true_and, Nat.le_refl, Int.le_refl, Nat.zero_le, Option.getD_some, isStr, strV, isInt, intV, isBool, boolV, kindEq, at0, isJunk, Option.isSome_some, Option.isSome_none, if_true, if_false, Nat.add_sub_cancel_left, Nat.add_sub_cancel]
    have hm1 := Int.emod_nonneg x (show (5 : Int) ≠ 0 by decide)
    have hm2 := Int.emod_lt_of_pos x (show (0 : Int) < 5 by decide)
    have hm3 := Int.emod_nonneg (x.tdiv 5) (show (7 : Int) ≠ 0 by decide)
    have hm4 := Int.emod_lt_of_pos (x.tdiv 5) (show (0 : Int) < 7 by decide)
    refine ⟨by omega, by omega, fun h => ?_, fun h => ?_⟩
    · have e : addK L x = L ++ [(nameS (x % 5), valS (x.tdiv 5 % 7))] := by unfold addK; rw [if_pos h]
      rw [e] at next
      rw [← hlen, List.take_length]
      have hc : labC (L ++ [(nameS (x % 5), valS (x.tdiv 5 % 7))]) = labC L ++ [Value.string (nameS (x % 5)), Value.string (valS (x.tdiv 5 % 7))] := labC_append _ _
      rw [← hc]
      simp only [List.length_append, List.length_cons, List.length_nil] at next
      exact ⟨by omega, by omega, by omega, hF2 _, next⟩
    · have e : addK L x = L := by unfold addK; rw [if_neg (by rw [h]; simp)]
      rw [e] at next
      exact next
theorem keepO_small (l : List Int) : Small (keepO l) ∧ (keepO l).length ≤ 6 := by
  obtain ⟨a, b⟩ := keepS_small (l.take 5) [] small_nil
  rw [List.length_take] at b
  unfold keepO
  split
  · refine ⟨fun x hx => ?_, by simp⟩
    simp at hx; subst hx; exact ⟨by decide, by decide⟩
  · exact ⟨a, by unfold keepS; simp at b; omega⟩
noncomputable def okE (cs : List Value) (o len cap : Nat) : Prop := IsE (iE .i64) (ZP .i64) cs o len cap
noncomputable def keepC : Ctr where
  pre := fun args blks => match args, blks with
    | [.slice (some ⟨0, o, _⟩) len cap], [.cells cs 1 _] => okE cs o len cap
    | _, _ => False
  val := fun args blks => match args, blks with
    | [.slice (some ⟨0, o, _⟩) len _], [.cells cs 1 _] => .slice (some ⟨1,0,some 1⟩) (mkR (keepO (elAt intV cs o len))).length (mkR (keepO (elAt intV cs o len))).length
    | _, _ => .bool false
  new := fun args blks => match args, blks with
    | [.slice (some ⟨0, o, _⟩) len _], [.cells cs 1 _] => [.cells (labC (mkR (keepO (elAt intV cs o len)))) 2 true]
    | _, _ => []
theorem keep_says (hmix : Try.prog.follows .mixedOrders = true) : keepC.Holds Try.prog 21 := by
  intro args blks hf hp
  simp only [keepC] at hp ⊢
  split at hp
  · rename_i o sp len cap cs own
    obtain ⟨l, rfl, hc, hB⟩ := hp
    simp only [hB.elAt (dec := intV) (fun _ => rfl)]
    refine ⟨⟨labC_flat _, trivial⟩, ?_⟩
    have hF : ∀ L, FlatD [] (AM.hp [.cells cs 1 own, .cells (labC L) 2 true]) := fun L => FlatD.hp ⟨hB.flat, labC_flat L, trivial⟩
    obtain ⟨k1, k2⟩ := keepS_small (l.take 5) [] small_nil
    obtain ⟨k3, k4⟩ := keepO_small l
    have hL : Loops Try.prog body121 1 (cutLK [⟨[0,1,0,1,1], T121 (.slice (some ⟨0,o,sp⟩) l.length cap) 0 0, AM.hp [.cells cs 1 own, .cells [] 2 true], fun K => K (.exit 0) (tmps 54 [(3, .slice (some ⟨1,0,some 1⟩) (keepS l).length (keepS l).length)]) (AM.hp [.cells cs 1 own, .cells (labC (keepS l)) 2 true])⟩]) := Loops.none.more _ fun K hK => by
      show LSays Try.prog _ (sub body121 [0,0,1,0,1,1]) _ _ _
      exact keep_loop hmix l cs own o sp cap hB K (l.take 5) 0 [] rfl (by omega) (by omega) small_nil (by simp; omega) hK
    rw [List.length_take] at k2
    have k2 : (keepS l).length ≤ 5 := by unfold keepS; simp at k2; omega
    refine (sure42 hmix).funX F121 body121 [] [.tmp 0 2] Try.func21 rfl (hL.gcX (at0 []) (at0 [.tmp 3 2])) ?_
    rw [w121]
    refine ⟨hF [], rfl, rfl, ?_⟩
    simp only [Alt_iff, Need_iff, ltI_eq, leI_eq, eqI_eq, leN_eq, eqN_eq, decide_eq_true_eq, decide_eq_false_iff_not, decide_true, decide_false, true_and, and_true, Bool.true_eq_false, Bool.false_eq_true, false_implies, true_implies, implies_true, not_true_eq_false, not_false_eq_true, Bool.not_eq_true', Bool.not_eq_false', Nat.zero_add, Nat.add_zero, Nat.sub_zero, Nat.zero_mul, Nat.mul_one, Int.toNat_natCast, List.drop_zero, beqV_int, beqV_sl, beqV_str, beqV_bool, beqV_ptr, beqV_flt, beqV_agg, beqV_tuple, List.all_cons, List.all_nil, Bool.and_self, Bool.and_true, Bool.true_and, Nat.le_refl, Int.le_refl, Nat.zero_le, Option.getD_some, isStr, strV, isInt, intV, isBool, boolV, kindEq, at0, isJunk, Option.isSome_some, Option.isSome_none, if_true, if_false, Nat.add_sub_cancel_left, Nat.add_sub_cancel]
    have fin : ∀ L : List Lb, L = keepO l → IsLs (labC L) 0 L.length L.length ∧ labsAt (labC L) 0 L.length = L := fun L e => by
      have hs : LSl (labC L) 0 L := labC_ls L (by rw [e]; exact k3) (by rw [e]; omega)
      exact ⟨⟨L, rfl, Nat.le_refl _, hs⟩, hs.labsAt⟩
    refine ⟨fun h0 => ?_, fun h0 => ?_⟩
    · have h0 : (keepS l).length = 0 := by omega
      have e : keepO l = [(nameS 0, valS 0)] := by unfold keepO; rw [if_pos h0]
      obtain ⟨f1, f2⟩ := fin [(nameS 0, valS 0)] e.symm
      rw [h0, Nat.zero_mul, List.take_zero, e]
      change IsLs _ 0 1 1 at f1
      have f2 : labsAt ([] ++ [Value.string ⟨#[115, 101, 118]⟩, Value.string ⟨#[97]⟩]) 0 (0 + 1) = [(nameS 0, valS 0)] := f2
      rw [f2]
      and_intros <;> first | omega | exact labC_flat [(nameS 0, valS 0)] | exact f1 | exact hF _ | rfl
    · have e : keepO l = keepS l := by unfold keepO; rw [if_neg (by omega)]
      obtain ⟨f1, f2⟩ := fin (keepS l) e.symm
      rw [f2, e]
      and_intros <;> first | omega | exact labC_flat _ | exact f1 | exact hF _ | rfl
  · exact hp.elim
end Go.Proofs.Ytdpfmaimhimfcaa

namespace Go.Proofs.Ytdpfmaimhimfcaa
open Go.RowKit Go.Proofs.Ytdpfmaimhimfcaa.AM
set_option maxRecDepth 100000
set_option maxHeartbeats 4000000
noncomputable def S43 : Book := bookOf [(29, ptxtC), (37, ptxtC), (19, getLC), (20, getLC)]
theorem sure43 (hmix : Try.prog.follows .mixedOrders = true) : Sure Try.prog S43 := ⟨hmix, plain, bookOf_ok ⟨ptxtC_holds hmix, rptxtC_holds hmix, getk_says hmix, getl_says hmix, trivial⟩⟩
noncomputable def T110 (a n : Value) (m len i : Nat) : List Value := tmps 23 [(0, a), (5, .slice (some ⟨2,0,some 1⟩) m m), (8, n), (9, .int .i64 len), (10, .int .i64 i)]

theorem r110 (cs cn c2 : List Value) (own own2 : Bool) (o : Nat) (sp : Option Nat) (len cap : Nat) (on : Nat) (sn : Option Nat) (ln cn' m i : Nat) (K : Post) :
  roundX Try.prog S43 noLoop F110 body110 2 [] [] [] [] [0,5,8,9,10] [0,0,1,0,1,1] (T110 (.slice (some ⟨0,o,sp⟩) len cap) (.slice (some ⟨1,on,sn⟩) ln cn') m ln i) (hp [.cells cs 2 own, .cells cn 1 own2, .cells c2 1 true]) K = (
Alt (ltI (↑i : Int) (↑ln : Int))
  (Need (ltI (↑i : Int) (↑ln : Int))
    (Need (isStr ((getO cn (on + (↑i : Int).toNat * 1)).getD undef))
      ((FlatL cs ∧ True) ∧
        (IsLs cs o len cap ∧ True) ∧
          True ∧
            Need
                (leN
                  (getF (strV (Value.string (strV ((getO cn (on + (↑i : Int).toNat * 1)).getD undef))))
                      (labsAt cs o len)).size
                  1000000000000)
                True ∧
              Need
                (leN
                  (0 +
                    (ptxt
                          (getF (strV (Value.string (strV ((getO cn (on + (↑i : Int).toNat * 1)).getD undef))))
                            (labsAt cs o len))).length *
                      1)
                  (List.map u8v
                      (ptxt
                        (getF (strV (Value.string (strV ((getO cn (on + (↑i : Int).toNat * 1)).getD undef))))
                          (labsAt cs o len)))).length)
                (Need (leN (0 + m * 1) c2.length)
                  (Need
                    (leN
                      ((m +
                          (ptxt
                              (getF (strV (Value.string (strV ((getO cn (on + (↑i : Int).toNat * 1)).getD undef))))
                                (labsAt cs o len))).length) *
                        1)
                      1099511627776)
                    (Need
                      (leN
                        (m +
                          (ptxt
                              (getF (strV (Value.string (strV ((getO cn (on + (↑i : Int).toNat * 1)).getD undef))))
                                (labsAt cs o len))).length)
                        1099511627776)
                      (Need
                        ((List.take
                              ((ptxt
                                    (getF
                                      (strV (Value.string (strV ((getO cn (on + (↑i : Int).toNat * 1)).getD undef))))
                                      (labsAt cs o len))).length *
                                1)
                              (List.drop 0
                                (List.map u8v
                                  (ptxt
                                    (getF
                                      (strV (Value.string (strV ((getO cn (on + (↑i : Int).toNat * 1)).getD undef))))
                                      (labsAt cs o len)))))).all
                          oneV)
                        (K AE.normal
                          (tmps 23
                            [(0, Value.slice (some { block := 0, off := o, spot := sp : Addr }) len cap),
                              (5,
                                Value.slice (some { block := 2, off := 0, spot := some 1 : Addr })
                                  (m +
                                    (ptxt
                                        (getF
                                          (strV
                                            (Value.string (strV ((getO cn (on + (↑i : Int).toNat * 1)).getD undef))))
                                          (labsAt cs o len))).length)
                                  (m +
                                    (ptxt
                                        (getF
                                          (strV
                                            (Value.string (strV ((getO cn (on + (↑i : Int).toNat * 1)).getD undef))))
                                          (labsAt cs o len))).length)),
                              (8, Value.slice (some { block := 1, off := on, spot := sn : Addr }) ln cn'),
                              (9, Value.int IntKind.i64 (↑ln : Int)),
                              (10, Value.int IntKind.i64 (wr IntKind.i64 ((↑i : Int) + 1)))])
                          (hp
                            [Blk.cells cs 2 own, Blk.cells cn 1 own2,
                              Blk.cells
                                (List.take (m * 1) (List.drop 0 c2) ++
                                  List.take
                                    ((ptxt
                                          (getF
                                            (strV
                                              (Value.string (strV ((getO cn (on + (↑i : Int).toNat * 1)).getD undef))))
                                            (labsAt cs o len))).length *
                                      1)
                                    (List.drop 0
                                      (List.map u8v
                                        (ptxt
                                          (getF
                                            (strV
                                              (Value.string (strV ((getO cn (on + (↑i : Int).toNat * 1)).getD undef))))
                                            (labsAt cs o len))))))
                                1 true])))))))))
  (K (AE.exit 0) (tmps 23 [(5, Value.slice (some { block := 2, off := 0, spot := some 1 : Addr }) m m)])
    (hp [Blk.cells cs 2 own, Blk.cells cn 1 own2, Blk.cells c2 1 true]))) := by kernel_rfl

theorem w110 (cs cn c2 : List Value) (own own2 : Bool) (o : Nat) (sp : Option Nat) (len cap : Nat) (on : Nat) (sn : Option Nat) (ln cn' m : Nat) (K : Value → Heap → Prop) :
  funX Try.prog S43 (gcLKX (at0 []) (at0 [.tmp 5 1]) 2 (cutLK [⟨[0,1,0,1,1], T110 (.slice (some ⟨0,o,sp⟩) len cap) (.slice (some ⟨1,on,sn⟩) ln cn') 0 ln 0, hp [.cells cs 2 own, .cells cn 1 own2, .cells [] 1 true], fun K => K (.exit 0) (tmps 23 [(5, .slice (some ⟨2,0,some 1⟩) m m)]) (hp [.cells cs 2 own, .cells cn 1 own2, .cells c2 1 true])⟩])) F110 body110 Try.f10 [] [] [.slice (some ⟨0,o,sp⟩) len cap, .slice (some ⟨1,on,sn⟩) ln cn'] (hp [.cells cs 2 own, .cells cn 1 own2]) K = (
FlatD [] (hp [Blk.cells cs 2 own, Blk.cells cn 1 own2, Blk.cells [] 1 true]) ∧
  tmps 23
        [(0, Value.slice (some { block := 0, off := o, spot := sp : Addr }) len cap),
          (5, Value.slice (some { block := 2, off := 0, spot := some 1 : Addr }) 0 0),
          (8, Value.slice (some { block := 1, off := on, spot := sn : Addr }) ln cn'),
          (9, Value.int IntKind.i64 (↑ln : Int)), (10, Value.int IntKind.i64 0)] =
      tmps 23
        [(0, Value.slice (some { block := 0, off := o, spot := sp : Addr }) len cap),
          (5, Value.slice (some { block := 2, off := 0, spot := some 1 : Addr }) 0 0),
          (8, Value.slice (some { block := 1, off := on, spot := sn : Addr }) ln cn'),
          (9, Value.int IntKind.i64 (↑ln : Int)), (10, Value.int IntKind.i64 0)] ∧
    hp [Blk.cells cs 2 own, Blk.cells cn 1 own2, Blk.cells [] 1 true] =
        hp [Blk.cells cs 2 own, Blk.cells cn 1 own2, Blk.cells [] 1 true] ∧
      Need (leN (0 + m) c2.length)
        (Need (strOf (List.take m (List.drop 0 c2))).isSome
          (K (Value.string { data := ((strOf (List.take m (List.drop 0 c2))).getD []).toArray : ByteArray })
            (hp [Blk.cells cs 2 own, Blk.cells cn 1 own2])))) := by kernel_rfl

noncomputable def T122 (a n : Value) (s : ByteArray) (i : Nat) : List Value := tmps 24 [(0, a), (1, n), (5, .string s), (6, .int .i64 i)]

theorem r122 (cs cn : List Value) (own own2 : Bool) (o : Nat) (sp : Option Nat) (len cap : Nat) (on : Nat) (sn : Option Nat) (ln cn' : Nat) (s : ByteArray) (i : Nat) (K : Post) :
  roundX Try.prog S43 noLoop F122 body122 2 [] [] [] [] [0,1,5,6] [0,0,1,0,1,1] (T122 (.slice (some ⟨0,o,sp⟩) len cap) (.slice (some ⟨1,on,sn⟩) ln cn') s i) (hp [.cells cs 2 own, .cells cn 1 own2]) K = (
Alt (ltI (↑i : Int) (↑ln : Int))
  (Need (ltI (↑i : Int) (↑ln : Int))
    (Need (isStr ((getO cn (on + (↑i : Int).toNat * 1)).getD undef))
      ((FlatL cs ∧ True) ∧
        (IsLs cs o len cap ∧ True) ∧
          True ∧
            Need
                (leN
                  (getF (strV (Value.string (strV ((getO cn (on + (↑i : Int).toNat * 1)).getD undef))))
                      (labsAt cs o len)).size
                  1000000000000)
                True ∧
              Need
                (leN
                  (0 +
                    (ptxt
                        (getF (strV (Value.string (strV ((getO cn (on + (↑i : Int).toNat * 1)).getD undef))))
                          (labsAt cs o len))).length)
                  (List.map u8v
                      (ptxt
                        (getF (strV (Value.string (strV ((getO cn (on + (↑i : Int).toNat * 1)).getD undef))))
                          (labsAt cs o len)))).length)
                (Need
                  (strOf
                      (List.take
                        (ptxt
                            (getF (strV (Value.string (strV ((getO cn (on + (↑i : Int).toNat * 1)).getD undef))))
                              (labsAt cs o len))).length
                        (List.drop 0
                          (List.map u8v
                            (ptxt
                              (getF (strV (Value.string (strV ((getO cn (on + (↑i : Int).toNat * 1)).getD undef))))
                                (labsAt cs o len))))))).isSome
                  (Need
                    (leI
                      (↑(s.size +
                            {
                                data :=
                                  ((strOf
                                          (List.take
                                            (ptxt
                                                (getF
                                                  (strV
                                                    (Value.string
                                                      (strV ((getO cn (on + (↑i : Int).toNat * 1)).getD undef))))
                                                  (labsAt cs o len))).length
                                            (List.drop 0
                                              (List.map u8v
                                                (ptxt
                                                  (getF
                                                    (strV
                                                      (Value.string
                                                        (strV ((getO cn (on + (↑i : Int).toNat * 1)).getD undef))))
                                                    (labsAt cs o len))))))).getD
                                      []).toArray :
                                ByteArray }.size) :
                        Int)
                      9223372036854775807)
                    (K AE.normal
                      (tmps 24
                        [(0, Value.slice (some { block := 0, off := o, spot := sp : Addr }) len cap),
                          (1, Value.slice (some { block := 1, off := on, spot := sn : Addr }) ln cn'),
                          (5,
                            Value.string
                              (s ++
                                {
                                  data :=
                                    ((strOf
                                            (List.take
                                              (ptxt
                                                  (getF
                                                    (strV
                                                      (Value.string
                                                        (strV ((getO cn (on + (↑i : Int).toNat * 1)).getD undef))))
                                                    (labsAt cs o len))).length
                                              (List.drop 0
                                                (List.map u8v
                                                  (ptxt
                                                    (getF
                                                      (strV
                                                        (Value.string
                                                          (strV ((getO cn (on + (↑i : Int).toNat * 1)).getD undef))))
                                                      (labsAt cs o len))))))).getD
                                        []).toArray :
                                  ByteArray })),
                          (6, Value.int IntKind.i64 (wr IntKind.i64 ((↑i : Int) + 1)))])
                      (hp [Blk.cells cs 2 own, Blk.cells cn 1 own2])))))))
  (K (AE.exit 0) (tmps 24 [(5, Value.string s)]) (hp [Blk.cells cs 2 own, Blk.cells cn 1 own2]))) := by kernel_rfl

theorem w122 (cs cn : List Value) (own own2 : Bool) (o : Nat) (sp : Option Nat) (len cap : Nat) (on : Nat) (sn : Option Nat) (ln cn' : Nat) (s : ByteArray) (K : Value → Heap → Prop) :
  funX Try.prog S43 (gcLKX (at0 []) (at0 []) 2 (cutLK [⟨[0,1,0,1,1], T122 (.slice (some ⟨0,o,sp⟩) len cap) (.slice (some ⟨1,on,sn⟩) ln cn') ⟨#[]⟩ 0, hp [.cells cs 2 own, .cells cn 1 own2], fun K => K (.exit 0) (tmps 24 [(5, .string s)]) (hp [.cells cs 2 own, .cells cn 1 own2])⟩])) F122 body122 Try.f22 [] [] [.slice (some ⟨0,o,sp⟩) len cap, .slice (some ⟨1,on,sn⟩) ln cn'] (hp [.cells cs 2 own, .cells cn 1 own2]) K = (
FlatD [] (hp [Blk.cells cs 2 own, Blk.cells cn 1 own2]) ∧
  tmps 24
        [(0, Value.slice (some { block := 0, off := o, spot := sp : Addr }) len cap),
          (1, Value.slice (some { block := 1, off := on, spot := sn : Addr }) ln cn'),
          (5, Value.string { data := #[] : ByteArray }), (6, Value.int IntKind.i64 0)] =
      tmps 24
        [(0, Value.slice (some { block := 0, off := o, spot := sp : Addr }) len cap),
          (1, Value.slice (some { block := 1, off := on, spot := sn : Addr }) ln cn'),
          (5, Value.string { data := #[] : ByteArray }), (6, Value.int IntKind.i64 0)] ∧
    hp [Blk.cells cs 2 own, Blk.cells cn 1 own2] = hp [Blk.cells cs 2 own, Blk.cells cn 1 own2] ∧
      K (Value.string s) (hp [Blk.cells cs 2 own, Blk.cells cn 1 own2])) := by kernel_rfl

/-- no value is long -/
inductive Vals (l : List Lb) : Prop
  | mk (h : ∀ n, (getF n l).size ≤ 1000)
theorem Vals.le {l : List Lb} (h : Vals l) (n : ByteArray) : (getF n l).size ≤ 1000 := by obtain ⟨h⟩ := h; exact h n
def projB (l : List Lb) (ns : List ByteArray) : List Int := ns.flatMap fun n => ptxt (getF n l)
theorem projB_cons (l : List Lb) (n : ByteArray) (ns : List ByteArray) : projB l (n :: ns) = ptxt (getF n l) ++ projB l ns := List.flatMap_cons
theorem projB_len {l : List Lb} (h : Vals l) (ns : List ByteArray) : (projB l ns).length ≤ ns.length * 1010 := by
  induction ns with
  | nil => exact Nat.zero_le _
  | cons n ns ih =>
    rw [projB_cons, List.length_append, ptxt_len, List.length_cons]
    obtain ⟨h⟩ := h
    have := h n
    have := enc_len (getF n l).size
    omega
theorem ofB_append (a b : List Int) : ofB (a ++ b) = ofB a ++ ofB b := by
  unfold ofB
  simp [ByteArray.ext_iff]
theorem strOf_take (l : List Int) : strOf (List.take l.length (List.map u8v l)) = some (l.map fun c => UInt8.ofNat c.toNat) := by
  rw [List.take_of_length_le (by simp), strOf_u8]
theorem proj_loop (hmix : Try.prog.follows .mixedOrders = true) (l : List Lb) (cs : List Value) (own : Bool) (o : Nat) (sp : Option Nat) (cap : Nat) (hc : l.length ≤ cap) (hB : LSl cs o l) (hv : Vals l) (ns : List ByteArray) (cn : List Value) (own2 : Bool) (on : Nat) (sn : Option Nat) (cap2 : Nat) (hN : ESl sE (fun _ => True) cn on ns) (hns : ns.length ≤ 1000) (K : Post) : ∀ (t : List ByteArray) (i : Nat) (L : List Int), ns.drop i = t → i ≤ ns.length → L.length + t.length * 1010 ≤ 2000000 →
    K (.exit 0) (tmps 23 [(5, .slice (some ⟨2,0,some 1⟩) (L ++ projB l t).length (L ++ projB l t).length)]) (hp [.cells cs 2 own, .cells cn 1 own2, .cells ((L ++ projB l t).map u8v) 1 true]) →
    LSays Try.prog 2 (sub body110 [0,0,1,0,1,1]) (T110 (.slice (some ⟨0,o,sp⟩) l.length cap) (.slice (some ⟨1,on,sn⟩) ns.length cap2) L.length ns.length i) (hp [.cells cs 2 own, .cells cn 1 own2, .cells (L.map u8v) 1 true]) K := by
  have hF : ∀ L : List Int, FlatD [] (hp [.cells cs 2 own, .cells cn 1 own2, .cells (L.map u8v) 1 true]) := fun L => FlatD.hp ⟨hB.flat, hN.flat, ⟨flat_u8s L⟩, trivial⟩
  intro t
  induction t with
  | nil =>
    intro i L ht hi hL hK
    have hge : ¬ ((i : Int) < (ns.length : Int)) := by have := List.drop_eq_nil_iff.1 ht; omega
    refine (sure43 hmix).roundX F110 noLoops [] [] [] [] [0,5,8,9,10] ?_
    rw [r110]
    rw [show projB l [] = [] from rfl, List.append_nil] at hK
    simp only [hge, hF, Alt_iff, Need_iff, ltI_eq, leI_eq, eqI_eq, leN_eq, eqN_eq, decide_eq_true_eq, decide_eq_false_iff_not, decide_true, decide_false, true_and, and_true, Bool.true_eq_false, Bool.false_eq_true, false_implies, true_implies, implies_true, not_true_eq_false, not_false_eq_true, Bool.not_eq_true', Bool.not_eq_false', Nat.zero_add, Nat.add_zero, Nat.sub_zero, Nat.zero_mul, Nat.mul_one, Int.toNat_natCast, List.drop_zero, beqV_int, beqV_sl, beqV_str, beqV_bool, beqV_ptr, beqV_flt, beqV_agg, beqV_tuple, List.all_cons, List.all_nil, Bool.and_self, Bool.and_true, Bool.true_and, Nat.le_refl, Int.le_refl, Nat.zero_le, Option.getD_some, isStr, strV, isInt, intV, isBool, boolV, kindEq, at0, isJunk, Option.isSome_some, Option.isSome_none, if_true, if_false, Nat.add_sub_cancel_left, Nat.add_sub_cancel]; exact hK
  | cons x t ih =>
    intro i L ht hi hL hK
    obtain ⟨hlt, hx, hd⟩ := cons_of_drop ht
    have hl2 : (i : Int) < (ns.length : Int) := by omega
    have hg1 := hN.cell i x hx
    have hvx := hv.le x
    have hel := enc_len (getF x l).size
    have hpl := ptxt_len (getF x l)
    simp only [List.length_cons] at hL
    have next := ih (i + 1) (L ++ ptxt (getF x l)) hd (by omega) (by rw [List.length_append]; omega) (by rw [List.append_assoc, ← projB_cons]; exact hK)
    have hF2 := hF (L ++ ptxt (getF x l))
    rw [List.map_append] at next hF2
    rw [List.length_append] at next
    have hil : IsLs cs o l.length cap := ⟨l, rfl, hc, hB⟩
    have hfl := hB.flat
    refine (sure43 hmix).roundX F110 noLoops [] [] [] [] [0,5,8,9,10] ?_
    rw [r110]
    have e1 : List.take (ptxt (getF x l)).length (List.map u8v (ptxt (getF x l))) = List.map u8v (ptxt (getF x l)) := List.take_of_length_le (by simp)
    have e2 : List.take L.length (List.map u8v L) = List.map u8v L := List.take_of_length_le (by simp)
    simp only [hl2, hg1, sE, hil, hfl, hB.labsAt, hF, nx i (by omega), List.length_map, e1, e2, oneV_u8s, hF2, Alt_iff, Need_iff, ltI_eq, leI_eq, eqI_eq, leN_eq, eqN_eq, decide_eq_true_eq, decide_eq_false_iff_not, decide_true, decide_false, true_and, and_true, Bool.true_eq_false, Bool.false_eq_true, false_implies, true_implies, implies_true, not_true_eq_false, not_false_eq_true, Bool.not_eq_true', Bool.not_eq_false', Nat.zero_add, Nat.add_zero, Nat.sub_zero, Nat.zero_mul, Nat.mul_one, Int.toNat_natCast, List.drop_zero, beqV_int, beqV_sl, beqV_str, beqV_bool, beqV_ptr, beqV_flt, beqV_agg, beqV_tuple, List.all_cons, List.all_nil, Bool.and_self, Bool.and_true, Bool.true_and, Nat.le_refl, Int.le_refl, Nat.zero_le, Option.getD_some, isStr, strV, isInt, intV, isBool, boolV, kindEq, at0, isJunk, Option.isSome_some, Option.isSome_none, if_true, if_false, Nat.add_sub_cancel_left, Nat.add_sub_cancel]
    exact ⟨by omega, by omega, by omega, next⟩
theorem rproj_loop (hmix : Try.prog.follows .mixedOrders = true) (l : List Lb) (cs : List Value) (own : Bool) (o : Nat) (sp : Option Nat) (cap : Nat) (hc : l.length ≤ cap) (hB : LSl cs o l) (hv : Vals l) (ns : List ByteArray) (cn : List Value) (own2 : Bool) (on : Nat) (sn : Option Nat) (cap2 : Nat) (hN : ESl sE (fun _ => True) cn on ns) (hns : ns.length ≤ 1000) (K : Post) : ∀ (t : List ByteArray) (i : Nat) (L : List Int), ns.drop i = t → i ≤ ns.length → L.length + t.length * 1010 ≤ 2000000 →
    K (.exit 0) (tmps 24 [(5, .string (ofB (L ++ projB l t)))]) (hp [.cells cs 2 own, .cells cn 1 own2]) →
    LSays Try.prog 2 (sub body122 [0,0,1,0,1,1]) (T122 (.slice (some ⟨0,o,sp⟩) l.length cap) (.slice (some ⟨1,on,sn⟩) ns.length cap2) (ofB L) i) (hp [.cells cs 2 own, .cells cn 1 own2]) K := by
  have hF : FlatD [] (hp [.cells cs 2 own, .cells cn 1 own2]) := FlatD.hp ⟨hB.flat, hN.flat, trivial⟩
  intro t
  induction t with
  | nil =>
    intro i L ht hi hL hK
    have hge : ¬ ((i : Int) < (ns.length : Int)) := by have := List.drop_eq_nil_iff.1 ht; omega
    refine (sure43 hmix).roundX F122 noLoops [] [] [] [] [0,1,5,6] ?_
    rw [r122]
    rw [show projB l [] = [] from rfl, List.append_nil] at hK
    simp only [hge, hF, Alt_iff, Need_iff, ltI_eq, leI_eq, eqI_eq, leN_eq, eqN_eq, decide_eq_true_eq, decide_eq_false_iff_not, decide_true, decide_false, true_and, and_true, Bool.true_eq_false, Bool.false_eq_true, false_implies, true_implies, implies_true, not_true_eq_false, not_false_eq_true, Bool.not_eq_true', Bool.not_eq_false', Nat.zero_add, Nat.add_zero, Nat.sub_zero, Nat.zero_mul, Nat.mul_one, Int.toNat_natCast, List.drop_zero, beqV_int, beqV_sl, beqV_str, beqV_bool, beqV_ptr, beqV_flt, beqV_agg, beqV_tuple, List.all_cons, List.all_nil, Bool.and_self, Bool.and_true, Bool.true_and, Nat.le_refl, Int.le_refl, Nat.zero_le, Option.getD_some, isStr, strV, isInt, intV, isBool, boolV, kindEq, at0, isJunk, Option.isSome_some, Option.isSome_none, if_true, if_false, Nat.add_sub_cancel_left, Nat.add_sub_cancel]; exact hK
  | cons x t ih =>
    intro i L ht hi hL hK
    obtain ⟨hlt, hx, hd⟩ := cons_of_drop ht
    have hl2 : (i : Int) < (ns.length : Int) := by omega
    have hg1 := hN.cell i x hx
    have hvx := hv.le x
    have hel := enc_len (getF x l).size
    have hpl := ptxt_len (getF x l)
    simp only [List.length_cons] at hL
    have next := ih (i + 1) (L ++ ptxt (getF x l)) hd (by omega) (by rw [List.length_append]; omega) (by rw [List.append_assoc, ← projB_cons]; exact hK)
    rw [ofB_append] at next
    have hil : IsLs cs o l.length cap := ⟨l, rfl, hc, hB⟩
    have hfl := hB.flat
    have hsz : ∀ l : List Int, (ofB l).size = l.length := fun l => by unfold ofB; simp [ByteArray.size]
    have hs1 := hsz L
    have hs2 := hsz (ptxt (getF x l))
    refine (sure43 hmix).roundX F122 noLoops [] [] [] [] [0,1,5,6] ?_
    rw [r122]
    simp only [hl2, hg1, sE, hil, hfl, hB.labsAt, hF, nx i (by omega), List.length_map, strOf_take, Option.isSome_some, Alt_iff, Need_iff, ltI_eq, leI_eq, eqI_eq, leN_eq, eqN_eq, decide_eq_true_eq, decide_eq_false_iff_not, decide_true, decide_false, true_and, and_true, Bool.true_eq_false, Bool.false_eq_true, false_implies, true_implies, implies_true, not_true_eq_false, not_false_eq_true, Bool.not_eq_true', Bool.not_eq_false', Nat.zero_add, Nat.add_zero, Nat.sub_zero, Nat.zero_mul, Nat.mul_one, Int.toNat_natCast, List.drop_zero, beqV_int, beqV_sl, beqV_str, beqV_bool, beqV_ptr, beqV_flt, beqV_agg, beqV_tuple, List.all_cons, List.all_nil, Bool.and_self, Bool.and_true, Bool.true_and, Nat.le_refl, Int.le_refl, Nat.zero_le, Option.getD_some, isStr, strV, isInt, intV, isBool, boolV, kindEq, at0, isJunk, Option.isSome_some, Option.isSome_none, if_true, if_false, Nat.add_sub_cancel_left, Nat.add_sub_cancel]
    exact ⟨by omega, by show (((ofB L).size + (ofB (ptxt (getF x l))).size : Nat) : Int) ≤ _; omega, next⟩
noncomputable def projC : Ctr where
  pre := fun args blks => match args, blks with
    | [.slice (some ⟨0, o, _⟩) len cap, .slice (some ⟨1, on, _⟩) ln cn], [.cells cs 2 _, .cells c2 1 _] => IsLs cs o len cap ∧ Vals (labsAt cs o len) ∧ IsE sE (fun _ => True) c2 on ln cn ∧ Need (leN ln 1000) True
    | _, _ => False
  val := fun args blks => match args, blks with
    | [.slice (some ⟨0, o, _⟩) len cap, .slice (some ⟨1, on, _⟩) ln cn], [.cells cs 2 _, .cells c2 1 _] => .string (ofB (projB (labsAt cs o len) (elAt strV c2 on ln)))
    | _, _ => .bool false
  new := fun _ _ => []
theorem proj_says (hmix : Try.prog.follows .mixedOrders = true) : projC.Holds Try.prog 10 := by
  intro args blks hf hp
  refine ⟨trivial, ?_⟩
  simp only [projC] at hp ⊢
  split at hp
  · rename_i o sp len cap on sn ln cap2 cs own cn own2
    obtain ⟨⟨l, rfl, hc, hB⟩, hv, ⟨ns, rfl, hc2, hN⟩, hln⟩ := hp
    simp only [Alt_iff, Need_iff, ltI_eq, leI_eq, eqI_eq, leN_eq, eqN_eq, decide_eq_true_eq, decide_eq_false_iff_not, decide_true, decide_false, true_and, and_true, Bool.true_eq_false, Bool.false_eq_true, false_implies, true_implies, implies_true, not_true_eq_false, not_false_eq_true, Bool.not_eq_true', Bool.not_eq_false'] at hln
    rw [hB.labsAt] at hv
    simp only [hB.labsAt, hN.elAt (dec := strV) (fun _ => rfl), List.append_nil]
    have hF : ∀ L : List Int, FlatD [] (AM.hp [.cells cs 2 own, .cells cn 1 own2, .cells (L.map u8v) 1 true]) := fun L => FlatD.hp ⟨hB.flat, hN.flat, ⟨flat_u8s L⟩, trivial⟩
    have hL : Loops Try.prog body110 2 (cutLK [⟨[0,1,0,1,1], T110 (.slice (some ⟨0,o,sp⟩) l.length cap) (.slice (some ⟨1,on,sn⟩) ns.length cap2) 0 ns.length 0, AM.hp [.cells cs 2 own, .cells cn 1 own2, .cells [] 1 true], fun K => K (.exit 0) (tmps 23 [(5, .slice (some ⟨2,0,some 1⟩) (projB l ns).length (projB l ns).length)]) (AM.hp [.cells cs 2 own, .cells cn 1 own2, .cells ((projB l ns).map u8v) 1 true])⟩]) := Loops.none.more _ fun K hK => by
      show LSays Try.prog _ (sub body110 [0,0,1,0,1,1]) _ _ _
      exact proj_loop hmix l cs own o sp cap hc hB hv ns cn own2 on sn cap2 hN hln K ns 0 [] rfl (by omega) (by simp; omega) hK
    refine (sure43 hmix).funX F110 body110 [] [] Try.func10 rfl (hL.gcX (at0 []) (at0 [.tmp 5 1])) ?_
    rw [w110]
    simp only [strOf_take, Option.isSome_some, List.length_map, Alt_iff, Need_iff, ltI_eq, leI_eq, eqI_eq, leN_eq, eqN_eq, decide_eq_true_eq, decide_eq_false_iff_not, decide_true, decide_false, true_and, and_true, Bool.true_eq_false, Bool.false_eq_true, false_implies, true_implies, implies_true, not_true_eq_false, not_false_eq_true, Bool.not_eq_true', Bool.not_eq_false', Nat.zero_add, Nat.add_zero, Nat.sub_zero, Nat.zero_mul, Nat.mul_one, Int.toNat_natCast, List.drop_zero, beqV_int, beqV_sl, beqV_str, beqV_bool, beqV_ptr, beqV_flt, beqV_agg, beqV_tuple, List.all_cons, List.all_nil, Bool.and_self, Bool.and_true, Bool.true_and, Nat.le_refl, Int.le_refl, Nat.zero_le, Option.getD_some, isStr, strV, isInt, intV, isBool, boolV, kindEq, at0, isJunk, Option.isSome_some, Option.isSome_none, if_true, if_false, Nat.add_sub_cancel_left, Nat.add_sub_cancel]
    and_intros <;> first | exact hF [] | exact FlatD.hp ⟨hB.flat, hN.flat, trivial⟩ | rfl
  · exact hp.elim
theorem rproj_says (hmix : Try.prog.follows .mixedOrders = true) : projC.Holds Try.prog 22 := by
  intro args blks hf hp
  refine ⟨trivial, ?_⟩
  simp only [projC] at hp ⊢
  split at hp
  · rename_i o sp len cap on sn ln cap2 cs own cn own2
    obtain ⟨⟨l, rfl, hc, hB⟩, hv, ⟨ns, rfl, hc2, hN⟩, hln⟩ := hp
    simp only [Alt_iff, Need_iff, ltI_eq, leI_eq, eqI_eq, leN_eq, eqN_eq, decide_eq_true_eq, decide_eq_false_iff_not, decide_true, decide_false, true_and, and_true, Bool.true_eq_false, Bool.false_eq_true, false_implies, true_implies, implies_true, not_true_eq_false, not_false_eq_true, Bool.not_eq_true', Bool.not_eq_false'] at hln
    rw [hB.labsAt] at hv
    simp only [hB.labsAt, hN.elAt (dec := strV) (fun _ => rfl), List.append_nil]
    have hF : FlatD [] (AM.hp [.cells cs 2 own, .cells cn 1 own2]) := FlatD.hp ⟨hB.flat, hN.flat, trivial⟩
    have hL : Loops Try.prog body122 2 (cutLK [⟨[0,1,0,1,1], T122 (.slice (some ⟨0,o,sp⟩) l.length cap) (.slice (some ⟨1,on,sn⟩) ns.length cap2) ⟨#[]⟩ 0, AM.hp [.cells cs 2 own, .cells cn 1 own2], fun K => K (.exit 0) (tmps 24 [(5, .string (ofB (projB l ns)))]) (AM.hp [.cells cs 2 own, .cells cn 1 own2])⟩]) := Loops.none.more _ fun K hK => by
      show LSays Try.prog _ (sub body122 [0,0,1,0,1,1]) _ _ _
      exact rproj_loop hmix l cs own o sp cap hc hB hv ns cn own2 on sn cap2 hN hln K ns 0 [] rfl (by omega) (by simp; omega) hK
    refine (sure43 hmix).funX F122 body122 [] [] Try.func22 rfl (hL.gcX (at0 []) (at0 [])) ?_
    rw [w122]
    exact ⟨hF, rfl, rfl, hF, rfl, rfl, rfl⟩
  · exact hp.elim
end Go.Proofs.Ytdpfmaimhimfcaa

namespace Go.Proofs.Ytdpfmaimhimfcaa
open Go.RowKit Go.Proofs.Ytdpfmaimhimfcaa.AM
set_option maxRecDepth 100000
set_option maxHeartbeats 4000000
noncomputable def body105 : Code := (Try.f5.body).getD .skip
def F105 : List Nat → Option (List Nat) := fun p => match p with
  | [1] => some [0, 1, 2]
  | [1, 0, 1] => some [0, 1, 2, 23]
  | [1, 0, 1, 0, 1] => some [6]
  | [1, 1] => some [0, 1, 2]
  | [1, 1, 1] => some [2, 7, 8]
  | [1, 1, 1, 1] => some [2, 7, 8, 9]
  | [1, 0, 1, 1, 1, 1] => some [2, 7, 8, 9, 10]
  | [1, 0, 0, 0, 1, 0, 1, 1, 1, 1] => some [2, 7, 8, 9, 10, 32]
  | [1, 1, 0, 0, 0, 1, 0, 1, 1, 1, 1] => some [2, 7, 8, 9]
  | [1, 0, 0, 1, 0, 1, 1, 1, 1] => some [2, 7, 8, 9, 10]
  | [1, 0, 0, 0, 1, 0, 0, 1, 0, 1, 1, 1, 1] => some [2, 7, 8, 9, 10, 40]
  | [1, 0, 1, 0, 0, 0, 1, 0, 0, 1, 0, 1, 1, 1, 1] => some [6]
  | [1, 0, 0, 1, 0, 0, 1, 0, 1, 1, 1, 1] => some [2, 7, 8, 9, 10]
  | [1, 1, 0, 0, 1, 0, 1, 1, 1, 1] => some [2, 7, 8, 9, 10]
  | [1, 1, 1, 1, 1] => some [2, 7, 8, 9]
  | [1, 1, 1, 1, 1, 1] => some [6]
  | _ => none
noncomputable def S44 : Book := bookOf [(3, trueC), (10, projC), (19, getLC), (21, keepC), (22, projC)]
theorem sure44 (hmix : Try.prog.follows .mixedOrders = true) : Sure Try.prog S44 := ⟨hmix, plain, bookOf_ok ⟨runs_holds hmix, proj_says hmix, getk_says hmix, keep_says hmix, rproj_says hmix, trivial⟩⟩
noncomputable def sl1 (B n : Nat) : Value := .slice (some ⟨B,0,some 1⟩) n n
noncomputable def T105 (n : Value) (x y : Nat) (b : Bool) (i : Nat) : List Value := tmps 79 [(2, n), (7, sl1 3 x), (8, sl1 4 y), (9, .bool b), (10, .int .i64 i)]
noncomputable def H105 (cl cr cn ca cb : List Value) : Heap := hp [.cells cl 1 false, .cells cr 1 false, .cells cn 1 false, .cells ca 2 true, .cells cb 2 true]

theorem r105t (cl cr cn ca cb : List Value) (on : Nat) (sn : Option Nat) (ln cn' x y i : Nat) (K : Post) :
  roundX Try.prog S44 noLoop F105 body105 3 [] [] [] [] [2,7,8,9,10] [0,0,1,0,1,1,1,1] (T105 (.slice (some ⟨2,on,sn⟩) ln cn') x y true i) (H105 cl cr cn ca cb) K = (
Alt (ltI (↑i : Int) (↑ln : Int))
  (Need (ltI (↑i : Int) (↑ln : Int))
    (Need (isStr ((getO cn (on + (↑i : Int).toNat * 1)).getD undef))
      (Alt (ltI 300 (↑(strV ((getO cn (on + (↑i : Int).toNat * 1)).getD undef)).size : Int))
        (True ∧
          True ∧
            K AE.ret (tmps 79 [(6, Value.bool true)])
              (hp [Blk.cells cl 1 false, Blk.cells cr 1 false, Blk.cells cn 1 false]))
        (Need (ltI (↑i : Int) (↑ln : Int))
          (Need (isStr ((getO cn (on + (↑i : Int).toNat * 1)).getD undef))
            ((FlatL ca ∧ True) ∧
              (IsLs ca 0 x x ∧ True) ∧
                Need (ltI (↑i : Int) (↑ln : Int))
                  (Need (isStr ((getO cn (on + (↑i : Int).toNat * 1)).getD undef))
                    ((FlatL cb ∧ True) ∧
                      (IsLs cb 0 y y ∧ True) ∧
                        Need (isStr ((getO cn (on + (↑i : Int).toNat * 1)).getD undef))
                          (Need
                            (beqV 64 (Value.string (strV ((getO cn (on + (↑i : Int).toNat * 1)).getD undef)))
                              (Value.string (strV ((getO cn (on + (↑i : Int).toNat * 1)).getD undef))))
                            (Need (ltI (↑i : Int) (↑ln : Int))
                              (Need
                                (beqV 64 (Value.pointer (some { block := 2, off := on + (↑i : Int).toNat * 1 : Addr }))
                                  (Value.pointer (some { block := 2, off := on + (↑i : Int).toNat * 1 : Addr })))
                                (Need (beqV 64 (Value.int IntKind.i64 (↑i : Int)) (Value.int IntKind.i64 (↑i : Int)))
                                  (Need
                                    (beqV 64 (Value.slice (some { block := 2, off := on, spot := sn : Addr }) ln cn')
                                      (Value.slice (some { block := 2, off := on, spot := sn : Addr }) ln cn'))
                                    (Need
                                      (beqV 64 (Value.slice (some { block := 4, off := 0, spot := some 1 : Addr }) y y)
                                        (Value.slice (some { block := 4, off := 0, spot := some 1 : Addr }) y y))
                                      (K AE.normal
                                        (tmps 79
                                          [(2, Value.slice (some { block := 2, off := on, spot := sn : Addr }) ln cn'),
                                            (7, Value.slice (some { block := 3, off := 0, spot := some 1 : Addr }) x x),
                                            (8, Value.slice (some { block := 4, off := 0, spot := some 1 : Addr }) y y),
                                            (9,
                                              Value.bool
                                                (eqS
                                                  (getF
                                                    (strV
                                                      (Value.string
                                                        (strV ((getO cn (on + (↑i : Int).toNat * 1)).getD undef))))
                                                    (labsAt ca 0 x))
                                                  (getF
                                                    (strV
                                                      (Value.string
                                                        (strV ((getO cn (on + (↑i : Int).toNat * 1)).getD undef))))
                                                    (labsAt cb 0 y)))),
                                            (10, Value.int IntKind.i64 (wr IntKind.i64 ((↑i : Int) + 1)))])
                                        (hp
                                          [Blk.cells cl 1 false, Blk.cells cr 1 false, Blk.cells cn 1 false,
                                            Blk.cells ca 2 true, Blk.cells cb 2 true]))))))))))))))))
  (K (AE.exit 0)
    (tmps 79
      [(2, Value.slice (some { block := 2, off := on, spot := sn : Addr }) ln cn'),
        (7, Value.slice (some { block := 3, off := 0, spot := some 1 : Addr }) x x),
        (8, Value.slice (some { block := 4, off := 0, spot := some 1 : Addr }) y y), (9, Value.bool true)])
    (hp [Blk.cells cl 1 false, Blk.cells cr 1 false, Blk.cells cn 1 false, Blk.cells ca 2 true, Blk.cells cb 2 true]))) := by kernel_rfl

theorem r105f (cl cr cn ca cb : List Value) (on : Nat) (sn : Option Nat) (ln cn' x y i : Nat) (K : Post) :
  roundX Try.prog S44 noLoop F105 body105 3 [] [] [] [] [2,7,8,9,10] [0,0,1,0,1,1,1,1] (T105 (.slice (some ⟨2,on,sn⟩) ln cn') x y false i) (H105 cl cr cn ca cb) K = (
Alt (ltI (↑i : Int) (↑ln : Int))
  (Need (ltI (↑i : Int) (↑ln : Int))
    (Need (isStr ((getO cn (on + (↑i : Int).toNat * 1)).getD undef))
      (Alt (ltI 300 (↑(strV ((getO cn (on + (↑i : Int).toNat * 1)).getD undef)).size : Int))
        (True ∧
          True ∧
            K AE.ret (tmps 79 [(6, Value.bool true)])
              (hp [Blk.cells cl 1 false, Blk.cells cr 1 false, Blk.cells cn 1 false]))
        (K AE.normal
          (tmps 79
            [(2, Value.slice (some { block := 2, off := on, spot := sn : Addr }) ln cn'),
              (7, Value.slice (some { block := 3, off := 0, spot := some 1 : Addr }) x x),
              (8, Value.slice (some { block := 4, off := 0, spot := some 1 : Addr }) y y), (9, Value.bool false),
              (10, Value.int IntKind.i64 (wr IntKind.i64 ((↑i : Int) + 1)))])
          (hp
            [Blk.cells cl 1 false, Blk.cells cr 1 false, Blk.cells cn 1 false, Blk.cells ca 2 true,
              Blk.cells cb 2 true])))))
  (K (AE.exit 0)
    (tmps 79
      [(2, Value.slice (some { block := 2, off := on, spot := sn : Addr }) ln cn'),
        (7, Value.slice (some { block := 3, off := 0, spot := some 1 : Addr }) x x),
        (8, Value.slice (some { block := 4, off := 0, spot := some 1 : Addr }) y y), (9, Value.bool false)])
    (hp [Blk.cells cl 1 false, Blk.cells cr 1 false, Blk.cells cn 1 false, Blk.cells ca 2 true, Blk.cells cb 2 true]))) := by kernel_rfl

noncomputable def c105 (cl cr cn ca cb : List Value) (n : Value) (x y : Nat) (ok b : Bool) : Cut := ⟨[0,1,0,1,1,1,1], T105 n x y true 0, H105 cl cr cn ca cb, fun K => Alt ok (K (.exit 0) (tmps 79 [(2, n), (7, sl1 3 x), (8, sl1 4 y), (9, .bool b)]) (H105 cl cr cn ca cb)) (K .ret (tmps 79 [(6, .bool true)]) (hp [.cells cl 1 false, .cells cr 1 false, .cells cn 1 false]))⟩

theorem w105t (cl cr cn ca cb : List Value) (ol or on : Nat) (sl sr sn : Option Nat) (ll cl' lr cr' ln cn' : Nat) (x y : Nat) (ok : Bool) (K : Value → Heap → Prop) :
  funX Try.prog S44 (gcLKX (at0 []) (at0 []) 3 (cutLK [c105 cl cr cn ca cb (.slice (some ⟨2,on,sn⟩) ln cn') x y ok true])) F105 body105 Try.f5 [] [] [.slice (some ⟨0,ol,sl⟩) ll cl', .slice (some ⟨1,or,sr⟩) lr cr', .slice (some ⟨2,on,sn⟩) ln cn'] (hp [.cells cl 1 false, .cells cr 1 false, .cells cn 1 false]) K = (
Alt (ltI 20 (↑ll : Int))
  (True ∧ True ∧ K (Value.bool true) (hp [Blk.cells cl 1 false, Blk.cells cr 1 false, Blk.cells cn 1 false]))
  (Alt (ltI 20 (↑lr : Int))
    (True ∧ True ∧ K (Value.bool true) (hp [Blk.cells cl 1 false, Blk.cells cr 1 false, Blk.cells cn 1 false]))
    (Alt (ltI 20 (↑ln : Int))
      (True ∧ True ∧ K (Value.bool true) (hp [Blk.cells cl 1 false, Blk.cells cr 1 false, Blk.cells cn 1 false]))
      ((FlatL cl ∧ True) ∧
        IsE (iE IntKind.i64) (ZP IntKind.i64) cl ol ll cl' ∧
          (FlatL cr ∧ True) ∧
            IsE (iE IntKind.i64) (ZP IntKind.i64) cr or lr cr' ∧
              FlatD []
                  (hp
                    [Blk.cells cl 1 false, Blk.cells cr 1 false, Blk.cells cn 1 false,
                      Blk.cells (labC (mkR (keepO (elAt intV cl ol ll)))) 2 true,
                      Blk.cells (labC (mkR (keepO (elAt intV cr or lr)))) 2 true]) ∧
                tmps 79
                      [(2, Value.slice (some { block := 2, off := on, spot := sn : Addr }) ln cn'),
                        (7,
                          Value.slice (some { block := 3, off := 0, spot := some 1 : Addr })
                            (mkR (keepO (elAt intV cl ol ll))).length (mkR (keepO (elAt intV cl ol ll))).length),
                        (8,
                          Value.slice (some { block := 4, off := 0, spot := some 1 : Addr })
                            (mkR (keepO (elAt intV cr or lr))).length (mkR (keepO (elAt intV cr or lr))).length),
                        (9, Value.bool true), (10, Value.int IntKind.i64 0)] =
                    tmps 79
                      [(2, Value.slice (some { block := 2, off := on, spot := sn : Addr }) ln cn'),
                        (7, Value.slice (some { block := 3, off := 0, spot := some 1 : Addr }) x x),
                        (8, Value.slice (some { block := 4, off := 0, spot := some 1 : Addr }) y y),
                        (9, Value.bool true), (10, Value.int IntKind.i64 0)] ∧
                  hp
                        [Blk.cells cl 1 false, Blk.cells cr 1 false, Blk.cells cn 1 false,
                          Blk.cells (labC (mkR (keepO (elAt intV cl ol ll)))) 2 true,
                          Blk.cells (labC (mkR (keepO (elAt intV cr or lr)))) 2 true] =
                      hp
                        [Blk.cells cl 1 false, Blk.cells cr 1 false, Blk.cells cn 1 false, Blk.cells ca 2 true,
                          Blk.cells cb 2 true] ∧
                    Alt ok
                      ((FlatL ca ∧ FlatL cn ∧ True) ∧
                        (IsLs ca 0 x x ∧
                            Vals (labsAt ca 0 x) ∧ IsE sE (fun x => True) cn on ln cn' ∧ Need (leN ln 1000) True) ∧
                          (FlatL cb ∧ FlatL cn ∧ True) ∧
                            (IsLs cb 0 y y ∧
                                Vals (labsAt cb 0 y) ∧ IsE sE (fun x => True) cn on ln cn' ∧ Need (leN ln 1000) True) ∧
                              Alt
                                (eqS (ofB (projB (labsAt ca 0 x) (elAt strV cn on ln)))
                                    (ofB (projB (labsAt cb 0 y) (elAt strV cn on ln))) ==
                                  true)
                                ((FlatL ca ∧ FlatL cn ∧ True) ∧
                                  (IsLs ca 0 x x ∧
                                      Vals (labsAt ca 0 x) ∧
                                        IsE sE (fun x => True) cn on ln cn' ∧ Need (leN ln 1000) True) ∧
                                    (FlatL ca ∧ FlatL cn ∧ True) ∧
                                      (IsLs ca 0 x x ∧
                                          Vals (labsAt ca 0 x) ∧
                                            IsE sE (fun x => True) cn on ln cn' ∧ Need (leN ln 1000) True) ∧
                                        Alt
                                          (eqS (ofB (projB (labsAt ca 0 x) (elAt strV cn on ln)))
                                            (ofB (projB (labsAt ca 0 x) (elAt strV cn on ln))))
                                          (True ∧
                                            True ∧
                                              K (Value.bool true)
                                                (hp [Blk.cells cl 1 false, Blk.cells cr 1 false, Blk.cells cn 1 false]))
                                          (K (Value.bool false)
                                            (hp [Blk.cells cl 1 false, Blk.cells cr 1 false, Blk.cells cn 1 false])))
                                (K (Value.bool false)
                                  (hp [Blk.cells cl 1 false, Blk.cells cr 1 false, Blk.cells cn 1 false])))
                      (K (Value.bool true) (hp [Blk.cells cl 1 false, Blk.cells cr 1 false, Blk.cells cn 1 false])))))) := by kernel_rfl

theorem w105f (cl cr cn ca cb : List Value) (ol or on : Nat) (sl sr sn : Option Nat) (ll cl' lr cr' ln cn' : Nat) (x y : Nat) (ok : Bool) (K : Value → Heap → Prop) :
  funX Try.prog S44 (gcLKX (at0 []) (at0 []) 3 (cutLK [c105 cl cr cn ca cb (.slice (some ⟨2,on,sn⟩) ln cn') x y ok false])) F105 body105 Try.f5 [] [] [.slice (some ⟨0,ol,sl⟩) ll cl', .slice (some ⟨1,or,sr⟩) lr cr', .slice (some ⟨2,on,sn⟩) ln cn'] (hp [.cells cl 1 false, .cells cr 1 false, .cells cn 1 false]) K = (
Alt (ltI 20 (↑ll : Int))
  (True ∧ True ∧ K (Value.bool true) (hp [Blk.cells cl 1 false, Blk.cells cr 1 false, Blk.cells cn 1 false]))
  (Alt (ltI 20 (↑lr : Int))
    (True ∧ True ∧ K (Value.bool true) (hp [Blk.cells cl 1 false, Blk.cells cr 1 false, Blk.cells cn 1 false]))
    (Alt (ltI 20 (↑ln : Int))
      (True ∧ True ∧ K (Value.bool true) (hp [Blk.cells cl 1 false, Blk.cells cr 1 false, Blk.cells cn 1 false]))
      ((FlatL cl ∧ True) ∧
        IsE (iE IntKind.i64) (ZP IntKind.i64) cl ol ll cl' ∧
          (FlatL cr ∧ True) ∧
            IsE (iE IntKind.i64) (ZP IntKind.i64) cr or lr cr' ∧
              FlatD []
                  (hp
                    [Blk.cells cl 1 false, Blk.cells cr 1 false, Blk.cells cn 1 false,
                      Blk.cells (labC (mkR (keepO (elAt intV cl ol ll)))) 2 true,
                      Blk.cells (labC (mkR (keepO (elAt intV cr or lr)))) 2 true]) ∧
                tmps 79
                      [(2, Value.slice (some { block := 2, off := on, spot := sn : Addr }) ln cn'),
                        (7,
                          Value.slice (some { block := 3, off := 0, spot := some 1 : Addr })
                            (mkR (keepO (elAt intV cl ol ll))).length (mkR (keepO (elAt intV cl ol ll))).length),
                        (8,
                          Value.slice (some { block := 4, off := 0, spot := some 1 : Addr })
                            (mkR (keepO (elAt intV cr or lr))).length (mkR (keepO (elAt intV cr or lr))).length),
                        (9, Value.bool true), (10, Value.int IntKind.i64 0)] =
                    tmps 79
                      [(2, Value.slice (some { block := 2, off := on, spot := sn : Addr }) ln cn'),
                        (7, Value.slice (some { block := 3, off := 0, spot := some 1 : Addr }) x x),
                        (8, Value.slice (some { block := 4, off := 0, spot := some 1 : Addr }) y y),
                        (9, Value.bool true), (10, Value.int IntKind.i64 0)] ∧
                  hp
                        [Blk.cells cl 1 false, Blk.cells cr 1 false, Blk.cells cn 1 false,
                          Blk.cells (labC (mkR (keepO (elAt intV cl ol ll)))) 2 true,
                          Blk.cells (labC (mkR (keepO (elAt intV cr or lr)))) 2 true] =
                      hp
                        [Blk.cells cl 1 false, Blk.cells cr 1 false, Blk.cells cn 1 false, Blk.cells ca 2 true,
                          Blk.cells cb 2 true] ∧
                    Alt ok
                      ((FlatL ca ∧ FlatL cn ∧ True) ∧
                        (IsLs ca 0 x x ∧
                            Vals (labsAt ca 0 x) ∧ IsE sE (fun x => True) cn on ln cn' ∧ Need (leN ln 1000) True) ∧
                          (FlatL cb ∧ FlatL cn ∧ True) ∧
                            (IsLs cb 0 y y ∧
                                Vals (labsAt cb 0 y) ∧ IsE sE (fun x => True) cn on ln cn' ∧ Need (leN ln 1000) True) ∧
                              Alt
                                (eqS (ofB (projB (labsAt ca 0 x) (elAt strV cn on ln)))
                                    (ofB (projB (labsAt cb 0 y) (elAt strV cn on ln))) ==
                                  false)
                                ((FlatL ca ∧ FlatL cn ∧ True) ∧
                                  (IsLs ca 0 x x ∧
                                      Vals (labsAt ca 0 x) ∧
                                        IsE sE (fun x => True) cn on ln cn' ∧ Need (leN ln 1000) True) ∧
                                    (FlatL ca ∧ FlatL cn ∧ True) ∧
                                      (IsLs ca 0 x x ∧
                                          Vals (labsAt ca 0 x) ∧
                                            IsE sE (fun x => True) cn on ln cn' ∧ Need (leN ln 1000) True) ∧
                                        Alt
                                          (eqS (ofB (projB (labsAt ca 0 x) (elAt strV cn on ln)))
                                            (ofB (projB (labsAt ca 0 x) (elAt strV cn on ln))))
                                          (True ∧
                                            True ∧
                                              K (Value.bool true)
                                                (hp [Blk.cells cl 1 false, Blk.cells cr 1 false, Blk.cells cn 1 false]))
                                          (K (Value.bool false)
                                            (hp [Blk.cells cl 1 false, Blk.cells cr 1 false, Blk.cells cn 1 false])))
                                (K (Value.bool false)
                                  (hp [Blk.cells cl 1 false, Blk.cells cr 1 false, Blk.cells cn 1 false])))
                      (K (Value.bool true) (hp [Blk.cells cl 1 false, Blk.cells cr 1 false, Blk.cells cn 1 false])))))) := by kernel_rfl

def okF (ns : List ByteArray) : Bool := ns.all fun n => decide (n.size ≤ 300)
def sameF (a b : List Lb) (ns : List ByteArray) : Bool := ns.all fun n => eqS (getF n a) (getF n b)
theorem getF_mem (n : ByteArray) : ∀ L : List Lb, getF n L = ⟨#[]⟩ ∨ ∃ x ∈ L, getF n L = x.2 := by
  intro L
  induction L with
  | nil => exact .inl rfl
  | cons x L ih =>
    unfold getF
    split
    · exact .inr ⟨x, List.mem_cons_self, rfl⟩
    · rcases ih with h | ⟨y, hy, h⟩
      · exact .inl h
      · exact .inr ⟨y, List.mem_cons_of_mem _ hy, h⟩
theorem few_mem (l : List Int) (L : List Lb) (h : ∀ x ∈ L, x.1.size ≤ 5 ∧ x.2.size ≤ 24) : ∀ x ∈ l.foldl addK L, x.1.size ≤ 5 ∧ x.2.size ≤ 24 := by
  induction l generalizing L with
  | nil => exact h
  | cons n l ih =>
    rw [List.foldl_cons]
    refine ih _ fun x hx => ?_
    unfold addK at hx
    split at hx
    · rcases List.mem_append.1 hx with hx | hx
      · exact h x hx
      · simp at hx
        subst hx
        exact ⟨(few_facts (n % 5)).1, (few_facts (n.tdiv 5 % 7)).2.2.1⟩
    · exact h x hx
theorem keepO_few (l : List Int) : ∀ x ∈ keepO l, x.1.size ≤ 5 ∧ x.2.size ≤ 24 := by
  unfold keepO
  split
  · intro x hx; simp at hx; subst hx; exact ⟨(few_facts 0).1, (few_facts 0).2.2.1⟩
  · exact few_mem _ _ (fun x hx => by simp at hx)
theorem mkR_few {l : List Lb} (h : ∀ x ∈ l, x.1.size ≤ 5 ∧ x.2.size ≤ 24) : ∀ x ∈ mkR l, x.1.size ≤ 5 ∧ x.2.size ≤ 24 := by
  unfold mkR
  split
  · intro x hx
    rcases (mkS_mem l [] x).1 hx with hh | hh
    · simp at hh
    · exact h x hh
  · intro x hx; simp at hx
theorem mkR_len (l : List Lb) : (mkR l).length ≤ l.length := by
  unfold mkR
  split
  · have := mkS_len l []; unfold mkS; simp at this; omega
  · simp
theorem keep_facts (l : List Int) : LSl (labC (mkR (keepO l))) 0 (mkR (keepO l)) ∧ Vals (mkR (keepO l)) ∧ (mkR (keepO l)).length ≤ 6 := by
  have h1 := mkR_few (keepO_few l)
  have h2 := mkR_len (keepO l)
  have h3 := (keepO_small l).2
  refine ⟨labC_ls _ (fun x hx => by have := h1 x hx; omega) (by omega), ⟨fun n => ?_⟩, by omega⟩
  rcases getF_mem n (mkR (keepO l)) with h | ⟨x, hx, h⟩
  · rw [h]; decide
  · rw [h]; have := h1 x hx; omega
theorem bytesS_ofB {l : List Int} (h : Bytes l) : bytesS (ofB l) = l := by
  unfold bytesS ofB
  simp only [List.map_map]
  refine (List.map_congr_left fun x hx => ?_).trans (List.map_id l)
  have := h x hx
  simp [UInt8.toNat_ofNat']
  omega
theorem projB_bytes {l : List Lb} (h : Vals l) (ns : List ByteArray) : Bytes (projB l ns) := by
  induction ns with
  | nil => intro x hx; simp [projB] at hx
  | cons n ns ih =>
    rw [projB_cons]
    exact Bytes.app (ptxt_bytes _ (by have := h.le n; omega)) ih
theorem ptxt_cancel {x y : ByteArray} {s t : List Int} (hx : x.size ≤ 1000) (hy : y.size ≤ 1000) (h : ptxt x ++ s = ptxt y ++ t) : x = y ∧ s = t := by
  have e1 := dec_enc x.size (bytesS x ++ s) (by omega) (by omega)
  have e2 := dec_enc y.size (bytesS y ++ t) (by omega) (by omega)
  unfold ptxt at h
  rw [List.append_assoc, List.append_assoc] at h
  rw [h, e2] at e1
  simp only [Option.some.injEq, Prod.mk.injEq] at e1
  have hs : x.size = y.size := by omega
  rw [hs] at h
  have h := List.append_cancel_left h
  have hl : (bytesS x).length = (bytesS y).length := by rw [bytesS_len, bytesS_len, hs]
  obtain ⟨h1, h2⟩ := List.append_inj h hl
  refine ⟨?_, h2⟩
  rw [← ofB_bytesS x, ← ofB_bytesS y, h1]
theorem proj_same {a b : List Lb} (ha : Vals a) (hb : Vals b) (ns : List ByteArray) : eqS (ofB (projB a ns)) (ofB (projB b ns)) = sameF a b ns := by
  have key : projB a ns = projB b ns ↔ sameF a b ns = true := by
    induction ns with
    | nil => exact ⟨fun _ => rfl, fun _ => rfl⟩
    | cons n ns ih =>
      rw [projB_cons, projB_cons]
      unfold sameF at ih ⊢
      simp only [List.all_cons, Bool.and_eq_true]
      constructor
      · intro h
        obtain ⟨h1, h2⟩ := ptxt_cancel (ha.le n) (hb.le n) h
        exact ⟨eqS_iff.2 h1, ih.1 h2⟩
      · rintro ⟨h1, h2⟩
        rw [eqS_iff.1 h1, ih.2 h2]
  rw [Bool.eq_iff_iff, eqS_iff, ← key]
  refine ⟨fun h => ?_, fun h => by rw [h]⟩
  rw [← bytesS_ofB (projB_bytes ha ns), ← bytesS_ofB (projB_bytes hb ns), h]
theorem keys_loopf (hmix : Try.prog.follows .mixedOrders = true) (cl cr cn : List Value) (on : Nat) (sn : Option Nat) (cap2 : Nat) (ns : List ByteArray) (hN : ESl sE (fun _ => True) cn on ns) (a b : List Lb) (fl : FlatL cl) (fr : FlatL cr) (K : Post) : ∀ (t : List ByteArray) (i : Nat), ns.drop i = t → i ≤ ns.length →
    Alt (okF t) (K (.exit 0) (tmps 79 [(2, .slice (some ⟨2,on,sn⟩) ns.length cap2), (7, sl1 3 a.length), (8, sl1 4 b.length), (9, .bool false)]) (H105 cl cr cn (labC a) (labC b))) (K .ret (tmps 79 [(6, .bool true)]) (hp [.cells cl 1 false, .cells cr 1 false, .cells cn 1 false])) →
    LSays Try.prog 3 (sub body105 [0,0,1,0,1,1,1,1]) (T105 (.slice (some ⟨2,on,sn⟩) ns.length cap2) a.length b.length false i) (H105 cl cr cn (labC a) (labC b)) K := by
  have hF : FlatD [] (hp [.cells cl 1 false, .cells cr 1 false, .cells cn 1 false, .cells (labC a) 2 true, .cells (labC b) 2 true]) := FlatD.hp ⟨fl, fr, hN.flat, labC_flat a, labC_flat b, trivial⟩
  have hF0 : FlatD [] (hp [.cells cl 1 false, .cells cr 1 false, .cells cn 1 false]) := FlatD.hp ⟨fl, fr, hN.flat, trivial⟩
  have hsh := hN.short
  intro t
  induction t with
  | nil =>
    intro i ht hi hK
    have hge : ¬ ((i : Int) < (ns.length : Int)) := by have := List.drop_eq_nil_iff.1 ht; omega
    refine (sure44 hmix).roundX F105 noLoops [] [] [] [] [2,7,8,9,10] ?_
    rw [r105f]
    simp only [hge, hF, Alt_iff, Need_iff, ltI_eq, leI_eq, eqI_eq, leN_eq, eqN_eq, decide_eq_true_eq, decide_eq_false_iff_not, decide_true, decide_false, true_and, and_true, Bool.true_eq_false, Bool.false_eq_true, false_implies, true_implies, implies_true, not_true_eq_false, not_false_eq_true, Bool.not_eq_true', Bool.not_eq_false', Nat.zero_add, Nat.add_zero, Nat.sub_zero, Nat.zero_mul, Nat.mul_one, Int.toNat_natCast, List.drop_zero, beqV_int, beqV_sl, beqV_str, beqV_bool, beqV_ptr, beqV_flt, beqV_agg, beqV_tuple, List.all_cons, List.all_nil, Bool.and_self, Bool.and_true, Bool.true_and, Nat.le_refl, Int.le_refl, Nat.zero_le, Option.getD_some, isStr, strV, isInt, intV, isBool, boolV, kindEq, at0, isJunk, Option.isSome_some, Option.isSome_none, if_true, if_false, Nat.add_sub_cancel_left, Nat.add_sub_cancel]; exact hK
  | cons x t ih =>
    intro i ht hi hK
    obtain ⟨hlt, hx, hd⟩ := cons_of_drop ht
    have hl2 : (i : Int) < (ns.length : Int) := by omega
    have hg1 := hN.cell i x hx
    refine (sure44 hmix).roundX F105 noLoops [] [] [] [] [2,7,8,9,10] ?_
    rw [r105f]
    simp only [hl2, hg1, sE, hF, hF0, nx i (by omega), Alt_iff, Need_iff, ltI_eq, leI_eq, eqI_eq, leN_eq, eqN_eq, decide_eq_true_eq, decide_eq_false_iff_not, decide_true, decide_false, true_and, and_true, Bool.true_eq_false, Bool.false_eq_true, false_implies, true_implies, implies_true, not_true_eq_false, not_false_eq_true, Bool.not_eq_true', Bool.not_eq_false', Nat.zero_add, Nat.add_zero, Nat.sub_zero, Nat.zero_mul, Nat.mul_one, Int.toNat_natCast, List.drop_zero, beqV_int, beqV_sl, beqV_str, beqV_bool, beqV_ptr, beqV_flt, beqV_agg, beqV_tuple, List.all_cons, List.all_nil, Bool.and_self, Bool.and_true, Bool.true_and, Nat.le_refl, Int.le_refl, Nat.zero_le, Option.getD_some, isStr, strV, isInt, intV, isBool, boolV, kindEq, at0, isJunk, Option.isSome_some, Option.isSome_none, if_true, if_false, Nat.add_sub_cancel_left, Nat.add_sub_cancel]
    refine ⟨fun h => ?_, fun h => ?_⟩
    · have : okF (x :: t) = false := by simp [okF, show ¬ x.size ≤ 300 by omega]
      rw [this] at hK; exact hK
    · have : okF (x :: t) = okF t := by simp [okF, show x.size ≤ 300 by omega]
      rw [this] at hK
      exact ih (i + 1) hd (by omega) hK
theorem keys_loop (hmix : Try.prog.follows .mixedOrders = true) (cl cr cn : List Value) (on : Nat) (sn : Option Nat) (cap2 : Nat) (ns : List ByteArray) (hN : ESl sE (fun _ => True) cn on ns) (a b : List Lb) (hA : LSl (labC a) 0 a) (hB : LSl (labC b) 0 b) (fl : FlatL cl) (fr : FlatL cr) (K : Post) : ∀ (t : List ByteArray) (i : Nat), ns.drop i = t → i ≤ ns.length →
    Alt (okF t) (K (.exit 0) (tmps 79 [(2, .slice (some ⟨2,on,sn⟩) ns.length cap2), (7, sl1 3 a.length), (8, sl1 4 b.length), (9, .bool (sameF a b t))]) (H105 cl cr cn (labC a) (labC b))) (K .ret (tmps 79 [(6, .bool true)]) (hp [.cells cl 1 false, .cells cr 1 false, .cells cn 1 false])) →
    LSays Try.prog 3 (sub body105 [0,0,1,0,1,1,1,1]) (T105 (.slice (some ⟨2,on,sn⟩) ns.length cap2) a.length b.length true i) (H105 cl cr cn (labC a) (labC b)) K := by
  have hF : FlatD [] (hp [.cells cl 1 false, .cells cr 1 false, .cells cn 1 false, .cells (labC a) 2 true, .cells (labC b) 2 true]) := FlatD.hp ⟨fl, fr, hN.flat, labC_flat a, labC_flat b, trivial⟩
  have hF0 : FlatD [] (hp [.cells cl 1 false, .cells cr 1 false, .cells cn 1 false]) := FlatD.hp ⟨fl, fr, hN.flat, trivial⟩
  have hsh := hN.short
  have fa := labC_flat a
  have fb := labC_flat b
  have ia : IsLs (labC a) 0 a.length a.length := ⟨a, rfl, Nat.le_refl _, hA⟩
  have ib : IsLs (labC b) 0 b.length b.length := ⟨b, rfl, Nat.le_refl _, hB⟩
  intro t
  induction t with
  | nil =>
    intro i ht hi hK
    have hge : ¬ ((i : Int) < (ns.length : Int)) := by have := List.drop_eq_nil_iff.1 ht; omega
    refine (sure44 hmix).roundX F105 noLoops [] [] [] [] [2,7,8,9,10] ?_
    rw [r105t]
    simp only [hge, hF, Alt_iff, Need_iff, ltI_eq, leI_eq, eqI_eq, leN_eq, eqN_eq, decide_eq_true_eq, decide_eq_false_iff_not, decide_true, decide_false, true_and, and_true, Bool.true_eq_false, Bool.false_eq_true, false_implies, true_implies, implies_true, not_true_eq_false, not_false_eq_true, Bool.not_eq_true', Bool.not_eq_false', Nat.zero_add, Nat.add_zero, Nat.sub_zero, Nat.zero_mul, Nat.mul_one, Int.toNat_natCast, List.drop_zero, beqV_int, beqV_sl, beqV_str, beqV_bool, beqV_ptr, beqV_flt, beqV_agg, beqV_tuple, List.all_cons, List.all_nil, Bool.and_self, Bool.and_true, Bool.true_and, Nat.le_refl, Int.le_refl, Nat.zero_le, Option.getD_some, isStr, strV, isInt, intV, isBool, boolV, kindEq, at0, isJunk, Option.isSome_some, Option.isSome_none, if_true, if_false, Nat.add_sub_cancel_left, Nat.add_sub_cancel]; exact hK
  | cons x t ih =>
    intro i ht hi hK
    obtain ⟨hlt, hx, hd⟩ := cons_of_drop ht
    have hl2 : (i : Int) < (ns.length : Int) := by omega
    have hg1 := hN.cell i x hx
    refine (sure44 hmix).roundX F105 noLoops [] [] [] [] [2,7,8,9,10] ?_
    rw [r105t]
    simp only [hl2, hg1, sE, hF, hF0, nx i (by omega), fa, fb, ia, ib, hA.labsAt, hB.labsAt, Alt_iff, Need_iff, ltI_eq, leI_eq, eqI_eq, leN_eq, eqN_eq, decide_eq_true_eq, decide_eq_false_iff_not, decide_true, decide_false, true_and, and_true, Bool.true_eq_false, Bool.false_eq_true, false_implies, true_implies, implies_true, not_true_eq_false, not_false_eq_true, Bool.not_eq_true', Bool.not_eq_false', Nat.zero_add, Nat.add_zero, Nat.sub_zero, Nat.zero_mul, Nat.mul_one, Int.toNat_natCast, List.drop_zero, beqV_int, beqV_sl, beqV_str, beqV_bool, beqV_ptr, beqV_flt, beqV_agg, beqV_tuple, List.all_cons, List.all_nil, Bool.and_self, Bool.and_true, Bool.true_and, Nat.le_refl, Int.le_refl, Nat.zero_le, Option.getD_some, isStr, strV, isInt, intV, isBool, boolV, kindEq, at0, isJunk, Option.isSome_some, Option.isSome_none, if_true, if_false, Nat.add_sub_cancel_left, Nat.add_sub_cancel]
    refine ⟨fun h => ?_, fun h => ?_⟩
    · have : okF (x :: t) = false := by simp [okF, show ¬ x.size ≤ 300 by omega]
      rw [this] at hK; exact hK
    · have : okF (x :: t) = okF t := by simp [okF, show x.size ≤ 300 by omega]
      rw [this] at hK
      have e : sameF a b (x :: t) = (eqS (getF x a) (getF x b) && sameF a b t) := by simp [sameF]
      rw [e] at hK
      cases hq : eqS (getF x a) (getF x b) with
      | true => rw [hq] at hK; exact ih (i + 1) hd (by omega) hK
      | false => rw [hq] at hK; exact keys_loopf hmix cl cr cn on sn cap2 ns hN a b fl fr K t (i + 1) hd (by omega) hK
theorem law105 (hmix : Try.prog.follows .mixedOrders = true) (cl cr cn : List Value) (ol or on : Nat) (sl sr sn : Option Nat) (cap0 cap1 cap2 : Nat) (l r : List Int) (ns : List ByteArray) (h0 : l.length ≤ cap0) (h1 : r.length ≤ cap1) (h2 : ns.length ≤ cap2) (hL : ESl (iE .i64) (ZP .i64) cl ol l) (hR : ESl (iE .i64) (ZP .i64) cr or r) (hN : ESl sE (fun _ => True) cn on ns) :
    FunSays Try.prog 5 [.slice (some ⟨0,ol,sl⟩) l.length cap0, .slice (some ⟨1,or,sr⟩) r.length cap1, .slice (some ⟨2,on,sn⟩) ns.length cap2] (hp [.cells cl 1 false, .cells cr 1 false, .cells cn 1 false]) fun v _ => v = .bool true := by
  obtain ⟨a1, a2, a3⟩ := keep_facts l
  obtain ⟨b1, b2, b3⟩ := keep_facts r
  have e1 := hL.elAt (dec := intV) (fun _ => rfl)
  have e2 := hR.elAt (dec := intV) (fun _ => rfl)
  have e3 := hN.elAt (dec := strV) (fun _ => rfl)
  have iL : IsE (iE .i64) (ZP .i64) cl ol l.length cap0 := ⟨l, rfl, h0, hL⟩
  have iR : IsE (iE .i64) (ZP .i64) cr or r.length cap1 := ⟨r, rfl, h1, hR⟩
  have iN : IsE sE (fun _ => True) cn on ns.length cap2 := ⟨ns, rfl, h2, hN⟩
  have loop : ∀ q, sameF (mkR (keepO l)) (mkR (keepO r)) ns = q → Loops Try.prog body105 3 (cutLK [c105 cl cr cn (labC (mkR (keepO l))) (labC (mkR (keepO r))) (.slice (some ⟨2,on,sn⟩) ns.length cap2) (mkR (keepO l)).length (mkR (keepO r)).length (okF ns) q]) := fun q hq => Loops.none.more _ fun K hK => by
    show LSays Try.prog _ (sub body105 [0,0,1,0,1,1,1,1]) _ _ _
    refine keys_loop hmix cl cr cn on sn cap2 ns hN _ _ a1 b1 hL.flat hR.flat K ns 0 rfl (by omega) ?_
    rw [hq]; exact hK
  have hF0 : FlatD [] (hp [.cells cl 1 false, .cells cr 1 false, .cells cn 1 false]) := FlatD.hp ⟨hL.flat, hR.flat, hN.flat, trivial⟩
  have ps := proj_same a2 b2 ns
  generalize hA : mkR (keepO l) = A at *
  generalize hB : mkR (keepO r) = B at *
  have hF : FlatD [] (hp [.cells cl 1 false, .cells cr 1 false, .cells cn 1 false, .cells (labC A) 2 true, .cells (labC B) 2 true]) := FlatD.hp ⟨hL.flat, hR.flat, hN.flat, labC_flat A, labC_flat B, trivial⟩
  have fa := labC_flat A
  have fb := labC_flat B
  have ia : IsLs (labC A) 0 A.length A.length := ⟨A, rfl, Nat.le_refl _, a1⟩
  have ib : IsLs (labC B) 0 B.length B.length := ⟨B, rfl, Nat.le_refl _, b1⟩
  cases hq : sameF A B ns with
  | true =>
    refine (sure44 hmix).funX F105 body105 [] [] Try.func5 rfl ((loop true hq).gcX (at0 []) (at0 [])) ?_
    rw [w105t]
    simp only [e1, e2, e3, hA, hB, iL, iR, iN, hF, hF0, fa, fb, ia, ib, a1.labsAt, b1.labsAt, a2, b2, ps, hq, hL.flat, hR.flat, hN.flat, eqS_rfl, isJunk, Alt_iff, Need_iff, ltI_eq, leI_eq, eqI_eq, leN_eq, eqN_eq, decide_eq_true_eq, decide_eq_false_iff_not, decide_true, decide_false, true_and, and_true, Bool.true_eq_false, Bool.false_eq_true, false_implies, true_implies, implies_true, not_true_eq_false, not_false_eq_true, Bool.not_eq_true', Bool.not_eq_false', Nat.zero_add, Nat.add_zero, Nat.sub_zero, Nat.zero_mul, Nat.mul_one, Int.toNat_natCast, List.drop_zero, beqV_int, beqV_sl, beqV_str, beqV_bool, beqV_ptr, beqV_flt, beqV_agg, beqV_tuple, List.all_cons, List.all_nil, Bool.and_self, Bool.and_true, Bool.true_and, Nat.le_refl, Int.le_refl, Nat.zero_le, Option.getD_some, isStr, strV, isInt, intV, isBool, boolV, kindEq, at0, isJunk, Option.isSome_some, Option.isSome_none, if_true, if_false, Nat.add_sub_cancel_left, Nat.add_sub_cancel]
    exact fun _ _ _ _ => ⟨by omega, by omega, fun _ => ⟨by omega, by omega⟩, fun h => absurd h (by decide)⟩
  | false =>
    refine (sure44 hmix).funX F105 body105 [] [] Try.func5 rfl ((loop false hq).gcX (at0 []) (at0 [])) ?_
    rw [w105f]
    simp only [e1, e2, e3, hA, hB, iL, iR, iN, hF, hF0, fa, fb, ia, ib, a1.labsAt, b1.labsAt, a2, b2, ps, hq, hL.flat, hR.flat, hN.flat, eqS_rfl, isJunk, Alt_iff, Need_iff, ltI_eq, leI_eq, eqI_eq, leN_eq, eqN_eq, decide_eq_true_eq, decide_eq_false_iff_not, decide_true, decide_false, true_and, and_true, Bool.true_eq_false, Bool.false_eq_true, false_implies, true_implies, implies_true, not_true_eq_false, not_false_eq_true, Bool.not_eq_true', Bool.not_eq_false', Nat.zero_add, Nat.add_zero, Nat.sub_zero, Nat.zero_mul, Nat.mul_one, Int.toNat_natCast, List.drop_zero, beqV_int, beqV_sl, beqV_str, beqV_bool, beqV_ptr, beqV_flt, beqV_agg, beqV_tuple, List.all_cons, List.all_nil, Bool.and_self, Bool.and_true, Bool.true_and, Nat.le_refl, Int.le_refl, Nat.zero_le, Option.getD_some, isStr, strV, isInt, intV, isBool, boolV, kindEq, at0, isJunk, Option.isSome_some, Option.isSome_none, if_true, if_false, Nat.add_sub_cancel_left, Nat.add_sub_cancel]
    exact fun _ _ _ _ => ⟨by omega, by omega, fun _ => ⟨by omega, by omega⟩, fun h => absurd h (by decide)⟩
end Go.Proofs.Ytdpfmaimhimfcaa

namespace Go.Proofs.Ytdpfmaimhimfcaa
open Go.RowKit Go.Proofs.Ytdpfmaimhimfcaa.AM
set_option maxRecDepth 100000
set_option maxHeartbeats 4000000
noncomputable def body112 : Code := (Try.f12.body).getD .skip
def F112 : List Nat → Option (List Nat) := fun p => match p with
  | [1] => some [0]
  | [1, 0, 1] => some [0, 8]
  | [1, 0, 1, 0, 1] => some [2]
  | [1, 1] => some [0]
  | [1, 1, 1] => some [0, 3]
  | [1, 0, 1, 1, 1] => some [3, 13, 14, 15]
  | [1, 0, 0, 1, 0, 1, 1, 1] => some [3, 13, 14, 15, 16]
  | [1, 0, 1, 0, 0, 1, 0, 1, 1, 1] => some [3]
  | [1, 1, 0, 0, 1, 0, 1, 1, 1] => some [3, 13, 14, 15]
  | [1, 0, 0, 1, 1, 0, 0, 1, 0, 1, 1, 1] => some [3, 5, 13, 14, 15]
  | [1, 1, 0, 0, 1, 1, 0, 0, 1, 0, 1, 1, 1] => some [3, 5, 13, 14, 15]
  | [1, 1, 1, 0, 0, 1, 0, 1, 1, 1] => some [3, 13, 14, 15]
  | [1, 1, 1, 1] => some [3]
  | [1, 1, 1, 1, 1] => some [2]
  | _ => none
noncomputable def body125 : Code := (Try.f25.body).getD .skip
def F125 : List Nat → Option (List Nat) := fun p => match p with
  | [1] => some [0]
  | [1, 0, 1] => some [0, 7]
  | [1, 0, 1, 0, 1] => some [2]
  | [1, 1] => some [0]
  | [1, 1, 1] => some [0, 3]
  | [1, 0, 1, 1, 1] => some [0, 3, 4]
  | [1, 0, 0, 0, 1, 0, 1, 1, 1] => some [0, 3, 4, 15]
  | [1, 1, 0, 0, 0, 1, 0, 1, 1, 1] => some [3]
  | [1, 0, 0, 1, 0, 1, 1, 1] => some [0, 3, 4]
  | [1, 1, 0, 0, 1, 0, 1, 1, 1] => some [0, 3, 4]
  | [1, 1, 1, 1] => some [3]
  | [1, 1, 1, 1, 1] => some [2]
  | _ => none
noncomputable def body126 : Code := (Try.f26.body).getD .skip
def F126 : List Nat → Option (List Nat) := fun p => match p with
  | [1] => some [0, 1]
  | [1, 0, 1] => some [0, 1, 10]
  | [1, 0, 1, 0, 1] => some [4]
  | [1, 1] => some [0, 1]
  | [1, 0, 1, 1] => some [0, 1, 5]
  | [1, 0, 0, 0, 1, 0, 1, 1] => some [0, 1, 5, 14]
  | [1, 1, 0, 0, 0, 1, 0, 1, 1] => some []
  | [1, 0, 0, 1, 0, 1, 1] => some [0, 1, 5]
  | [1, 0, 0, 1, 0, 0, 1, 0, 1, 1] => some [0, 1, 5, 25]
  | [1, 0, 1, 0, 0, 1, 0, 0, 1, 0, 1, 1] => some [4]
  | [1, 1, 0, 0, 1, 0, 1, 1] => some [0, 1, 5]
  | [1, 1, 1] => some []
  | [1, 1, 1, 1] => some [4]
  | _ => none
noncomputable def S45 : Book := bookOf [(30, putC), (29, ptxtC), (45, putC), (37, ptxtC), (11, isSetC), (18, isSetC)]
theorem sure45 (hmix : Try.prog.follows .mixedOrders = true) : Sure Try.prog S45 := ⟨hmix, plain, bookOf_ok ⟨putC_holds hmix, ptxtC_holds hmix, rputC_holds hmix, rptxtC_holds hmix, is_says hmix, isset_says hmix, trivial⟩⟩
noncomputable def T112 (a : Value) (m len i : Nat) : List Value := tmps 31 [(3, sl1 1 m), (13, a), (14, .int .i64 len), (15, .int .i64 i)]

theorem r112 (cs c2 : List Value) (own : Bool) (o : Nat) (sp : Option Nat) (len cap m i : Nat) (K : Post) :
  roundX Try.prog S45 noLoop F112 body112 1 [] [] [] [] [3,13,14,15] [0,0,1,0,1,1,1] (T112 (.slice (some ⟨0,o,sp⟩) len cap) m len i) (hp [.cells cs 2 own, .cells c2 1 true]) K = (
Alt (ltI (↑i : Int) (↑len : Int))
  (Need (ltI (↑i : Int) (↑len : Int))
    (Need (isStr ((getO cs (o + (↑i : Int).toNat * 2)).getD undef))
      (Need (isStr ((getO cs (o + (↑i : Int).toNat * 2 + 1)).getD undef))
        (True ∧
          Need (leN (strV (Value.string (strV ((getO cs (o + (↑i : Int).toNat * 2)).getD undef)))).size 1000000000000)
              True ∧
            Need
              (leN
                (0 + (ptxt (strV (Value.string (strV ((getO cs (o + (↑i : Int).toNat * 2)).getD undef))))).length * 1)
                (List.map u8v
                    (ptxt (strV (Value.string (strV ((getO cs (o + (↑i : Int).toNat * 2)).getD undef)))))).length)
              (Need (leN (0 + m * 1) c2.length)
                (Need
                  (leN
                    ((m +
                        (ptxt (strV (Value.string (strV ((getO cs (o + (↑i : Int).toNat * 2)).getD undef))))).length) *
                      1)
                    1099511627776)
                  (Need
                    (leN
                      (m + (ptxt (strV (Value.string (strV ((getO cs (o + (↑i : Int).toNat * 2)).getD undef))))).length)
                      1099511627776)
                    (Need
                      ((List.take
                            ((ptxt
                                  (strV
                                    (Value.string (strV ((getO cs (o + (↑i : Int).toNat * 2)).getD undef))))).length *
                              1)
                            (List.drop 0
                              (List.map u8v
                                (ptxt
                                  (strV (Value.string (strV ((getO cs (o + (↑i : Int).toNat * 2)).getD undef)))))))).all
                        oneV)
                      (True ∧
                        Need
                            (leN (strV (Value.string (strV ((getO cs (o + (↑i : Int).toNat * 2 + 1)).getD undef)))).size
                              1000000000000)
                            True ∧
                          Need
                            (leN
                              (0 +
                                (ptxt
                                      (strV
                                        (Value.string
                                          (strV ((getO cs (o + (↑i : Int).toNat * 2 + 1)).getD undef))))).length *
                                  1)
                              (List.map u8v
                                  (ptxt
                                    (strV
                                      (Value.string
                                        (strV ((getO cs (o + (↑i : Int).toNat * 2 + 1)).getD undef)))))).length)
                            (Need
                              (leN
                                (0 +
                                  (m +
                                      (ptxt
                                          (strV
                                            (Value.string
                                              (strV ((getO cs (o + (↑i : Int).toNat * 2)).getD undef))))).length) *
                                    1)
                                (List.take (m * 1) (List.drop 0 c2) ++
                                    List.take
                                      ((ptxt
                                            (strV
                                              (Value.string
                                                (strV ((getO cs (o + (↑i : Int).toNat * 2)).getD undef))))).length *
                                        1)
                                      (List.drop 0
                                        (List.map u8v
                                          (ptxt
                                            (strV
                                              (Value.string
                                                (strV ((getO cs (o + (↑i : Int).toNat * 2)).getD undef)))))))).length)
                              (Need
                                (leN
                                  ((m +
                                        (ptxt
                                            (strV
                                              (Value.string
                                                (strV ((getO cs (o + (↑i : Int).toNat * 2)).getD undef))))).length +
                                      (ptxt
                                          (strV
                                            (Value.string
                                              (strV ((getO cs (o + (↑i : Int).toNat * 2 + 1)).getD undef))))).length) *
                                    1)
                                  1099511627776)
                                (Need
                                  (leN
                                    (m +
                                        (ptxt
                                            (strV
                                              (Value.string
                                                (strV ((getO cs (o + (↑i : Int).toNat * 2)).getD undef))))).length +
                                      (ptxt
                                          (strV
                                            (Value.string
                                              (strV ((getO cs (o + (↑i : Int).toNat * 2 + 1)).getD undef))))).length)
                                    1099511627776)
                                  (Need
                                    ((List.take
                                          ((ptxt
                                                (strV
                                                  (Value.string
                                                    (strV
                                                      ((getO cs (o + (↑i : Int).toNat * 2 + 1)).getD undef))))).length *
                                            1)
                                          (List.drop 0
                                            (List.map u8v
                                              (ptxt
                                                (strV
                                                  (Value.string
                                                    (strV
                                                      ((getO cs (o + (↑i : Int).toNat * 2 + 1)).getD undef)))))))).all
                                      oneV)
                                    (K AE.normal
                                      (tmps 31
                                        [(3,
                                            Value.slice (some { block := 1, off := 0, spot := some 1 : Addr })
                                              (m +
                                                  (ptxt
                                                      (strV
                                                        (Value.string
                                                          (strV
                                                            ((getO cs (o + (↑i : Int).toNat * 2)).getD
                                                              undef))))).length +
                                                (ptxt
                                                    (strV
                                                      (Value.string
                                                        (strV
                                                          ((getO cs (o + (↑i : Int).toNat * 2 + 1)).getD
                                                            undef))))).length)
                                              (m +
                                                  (ptxt
                                                      (strV
                                                        (Value.string
                                                          (strV
                                                            ((getO cs (o + (↑i : Int).toNat * 2)).getD
                                                              undef))))).length +
                                                (ptxt
                                                    (strV
                                                      (Value.string
                                                        (strV
                                                          ((getO cs (o + (↑i : Int).toNat * 2 + 1)).getD
                                                            undef))))).length)),
                                          (13, Value.slice (some { block := 0, off := o, spot := sp : Addr }) len cap),
                                          (14, Value.int IntKind.i64 (↑len : Int)),
                                          (15, Value.int IntKind.i64 (wr IntKind.i64 ((↑i : Int) + 1)))])
                                      (hp
                                        [Blk.cells cs 2 own,
                                          Blk.cells
                                            (List.take
                                                ((m +
                                                    (ptxt
                                                        (strV
                                                          (Value.string
                                                            (strV
                                                              ((getO cs (o + (↑i : Int).toNat * 2)).getD
                                                                undef))))).length) *
                                                  1)
                                                (List.drop 0
                                                  (List.take (m * 1) (List.drop 0 c2) ++
                                                    List.take
                                                      ((ptxt
                                                            (strV
                                                              (Value.string
                                                                (strV
                                                                  ((getO cs (o + (↑i : Int).toNat * 2)).getD
                                                                    undef))))).length *
                                                        1)
                                                      (List.drop 0
                                                        (List.map u8v
                                                          (ptxt
                                                            (strV
                                                              (Value.string
                                                                (strV
                                                                  ((getO cs (o + (↑i : Int).toNat * 2)).getD
                                                                    undef))))))))) ++
                                              List.take
                                                ((ptxt
                                                      (strV
                                                        (Value.string
                                                          (strV
                                                            ((getO cs (o + (↑i : Int).toNat * 2 + 1)).getD
                                                              undef))))).length *
                                                  1)
                                                (List.drop 0
                                                  (List.map u8v
                                                    (ptxt
                                                      (strV
                                                        (Value.string
                                                          (strV
                                                            ((getO cs (o + (↑i : Int).toNat * 2 + 1)).getD undef))))))))
                                            1 true])))))))))))))))
  (K (AE.exit 0) (tmps 31 [(3, Value.slice (some { block := 1, off := 0, spot := some 1 : Addr }) m m)])
    (hp [Blk.cells cs 2 own, Blk.cells c2 1 true]))) := by kernel_rfl

theorem w112 (cs c1 c2 : List Value) (own : Bool) (o : Nat) (sp : Option Nat) (len cap n m : Nat) (K : Value → Heap → Prop) :
  funX Try.prog S45 (gcLKX (at0 []) (at0 []) 1 (cutLK [⟨[0,1,0,1,1,1], T112 (.slice (some ⟨0,o,sp⟩) len cap) n len 0, hp [.cells cs 2 own, .cells c1 1 true], fun K => K (.exit 0) (tmps 31 [(3, sl1 1 m)]) (hp [.cells cs 2 own, .cells c2 1 true])⟩])) F112 body112 Try.f12 [] [.tmp 0 1] [.slice (some ⟨0,o,sp⟩) len cap] (hp [.cells cs 2 own]) K = (
(FlatL cs ∧ True) ∧
  (IsLs cs o len cap ∧ True) ∧
    Alt (!isSetB (labsAt cs o len))
      (K (Value.slice (some { block := 1, off := 0, spot := some 1 : Addr }) 0 0)
        (hp [Blk.cells cs 2 own, Blk.cells [] 1 true]))
      (True ∧
        Need (leI (wr IntKind.u64 (↑len : Int)) 18446744073709551615) True ∧
          FlatD [] (hp [Blk.cells cs 2 own, Blk.cells (List.map u8v (enc (wr IntKind.u64 (↑len : Int)))) 1 true]) ∧
            tmps 31
                  [(3,
                      Value.slice (some { block := 1, off := 0, spot := some 1 : Addr })
                        (enc (wr IntKind.u64 (↑len : Int))).length (enc (wr IntKind.u64 (↑len : Int))).length),
                    (13, Value.slice (some { block := 0, off := o, spot := sp : Addr }) len cap),
                    (14, Value.int IntKind.i64 (↑len : Int)), (15, Value.int IntKind.i64 0)] =
                tmps 31
                  [(3, Value.slice (some { block := 1, off := 0, spot := some 1 : Addr }) n n),
                    (13, Value.slice (some { block := 0, off := o, spot := sp : Addr }) len cap),
                    (14, Value.int IntKind.i64 (↑len : Int)), (15, Value.int IntKind.i64 0)] ∧
              hp [Blk.cells cs 2 own, Blk.cells (List.map u8v (enc (wr IntKind.u64 (↑len : Int)))) 1 true] =
                  hp [Blk.cells cs 2 own, Blk.cells c1 1 true] ∧
                K (Value.slice (some { block := 1, off := 0, spot := some 1 : Addr }) m m)
                  (hp [Blk.cells cs 2 own, Blk.cells c2 1 true]))) := by kernel_rfl

theorem w112e (cs : List Value) (own : Bool) (o : Nat) (sp : Option Nat) (len cap : Nat) (K : Value → Heap → Prop) :
  funX Try.prog S45 noLoop F112 body112 Try.f12 [] [.tmp 0 1] [.slice (some ⟨0,o,sp⟩) len cap] (hp [.cells cs 2 own]) K = (
(FlatL cs ∧ True) ∧
  (IsLs cs o len cap ∧ True) ∧
    Alt (!isSetB (labsAt cs o len))
      (K (Value.slice (some { block := 1, off := 0, spot := some 1 : Addr }) 0 0)
        (hp [Blk.cells cs 2 own, Blk.cells [] 1 true]))
      (True ∧ Need (leI (wr IntKind.u64 (↑len : Int)) 18446744073709551615) True ∧ False)) := by kernel_rfl

noncomputable def T125 (a : Value) (m i : Nat) : List Value := tmps 34 [(0, a), (3, sl1 1 m), (4, .int .i64 i)]

theorem r125 (cs c2 : List Value) (own : Bool) (o : Nat) (sp : Option Nat) (len cap m i : Nat) (K : Post) :
  roundX Try.prog S45 noLoop F125 body125 1 [] [] [] [] [0,3,4] [0,0,1,0,1,1,1] (T125 (.slice (some ⟨0,o,sp⟩) len cap) m i) (hp [.cells cs 2 own, .cells c2 1 true]) K = (
Alt (ltI (↑i : Int) (↑len : Int))
  (Need (ltI (↑i : Int) (↑len : Int))
    (Need (isStr ((getO cs (o + (↑i : Int).toNat * 2 + 0)).getD undef))
      (True ∧
        Need (leN (strV ((getO cs (o + (↑i : Int).toNat * 2 + 0)).getD undef)).size 1000000000000) True ∧
          Need
            (leN (0 + (ptxt (strV ((getO cs (o + (↑i : Int).toNat * 2 + 0)).getD undef))).length * 1)
              (List.map u8v (ptxt (strV ((getO cs (o + (↑i : Int).toNat * 2 + 0)).getD undef)))).length)
            (Need (leN (0 + m * 1) c2.length)
              (Need
                (leN ((m + (ptxt (strV ((getO cs (o + (↑i : Int).toNat * 2 + 0)).getD undef))).length) * 1)
                  1099511627776)
                (Need
                  (leN (m + (ptxt (strV ((getO cs (o + (↑i : Int).toNat * 2 + 0)).getD undef))).length) 1099511627776)
                  (Need
                    ((List.take ((ptxt (strV ((getO cs (o + (↑i : Int).toNat * 2 + 0)).getD undef))).length * 1)
                          (List.drop 0
                            (List.map u8v (ptxt (strV ((getO cs (o + (↑i : Int).toNat * 2 + 0)).getD undef)))))).all
                      oneV)
                    (Need (ltI (↑i : Int) (↑len : Int))
                      (Need (isStr ((getO cs (o + (↑i : Int).toNat * 2 + 1)).getD undef))
                        (True ∧
                          Need (leN (strV ((getO cs (o + (↑i : Int).toNat * 2 + 1)).getD undef)).size 1000000000000)
                              True ∧
                            Need
                              (leN (0 + (ptxt (strV ((getO cs (o + (↑i : Int).toNat * 2 + 1)).getD undef))).length * 1)
                                (List.map u8v
                                    (ptxt (strV ((getO cs (o + (↑i : Int).toNat * 2 + 1)).getD undef)))).length)
                              (Need
                                (leN
                                  (0 +
                                    (m + (ptxt (strV ((getO cs (o + (↑i : Int).toNat * 2 + 0)).getD undef))).length) *
                                      1)
                                  (List.take (m * 1) (List.drop 0 c2) ++
                                      List.take
                                        ((ptxt (strV ((getO cs (o + (↑i : Int).toNat * 2 + 0)).getD undef))).length * 1)
                                        (List.drop 0
                                          (List.map u8v
                                            (ptxt
                                              (strV ((getO cs (o + (↑i : Int).toNat * 2 + 0)).getD undef)))))).length)
                                (Need
                                  (leN
                                    ((m + (ptxt (strV ((getO cs (o + (↑i : Int).toNat * 2 + 0)).getD undef))).length +
                                        (ptxt (strV ((getO cs (o + (↑i : Int).toNat * 2 + 1)).getD undef))).length) *
                                      1)
                                    1099511627776)
                                  (Need
                                    (leN
                                      (m + (ptxt (strV ((getO cs (o + (↑i : Int).toNat * 2 + 0)).getD undef))).length +
                                        (ptxt (strV ((getO cs (o + (↑i : Int).toNat * 2 + 1)).getD undef))).length)
                                      1099511627776)
                                    (Need
                                      ((List.take
                                            ((ptxt
                                                  (strV ((getO cs (o + (↑i : Int).toNat * 2 + 1)).getD undef))).length *
                                              1)
                                            (List.drop 0
                                              (List.map u8v
                                                (ptxt
                                                  (strV ((getO cs (o + (↑i : Int).toNat * 2 + 1)).getD undef)))))).all
                                        oneV)
                                      (Need (isStr ((getO cs (o + (↑i : Int).toNat * 2 + 1)).getD undef))
                                        (Need
                                          (beqV 64
                                            (Value.string (strV ((getO cs (o + (↑i : Int).toNat * 2 + 1)).getD undef)))
                                            (Value.string (strV ((getO cs (o + (↑i : Int).toNat * 2 + 1)).getD undef))))
                                          (Need (isStr ((getO cs (o + (↑i : Int).toNat * 2 + 1)).getD undef))
                                            (Need
                                              (beqV 64
                                                (Value.string
                                                  (strV ((getO cs (o + (↑i : Int).toNat * 2 + 1)).getD undef)))
                                                (Value.string
                                                  (strV ((getO cs (o + (↑i : Int).toNat * 2 + 1)).getD undef))))
                                              (Need
                                                (beqV 64
                                                  (Value.pointer
                                                    (some { block := 0, off := o + (↑i : Int).toNat * 2 + 1 : Addr }))
                                                  (Value.pointer
                                                    (some { block := 0, off := o + (↑i : Int).toNat * 2 + 1 : Addr })))
                                                (Need
                                                  (beqV 64
                                                    (Value.pointer
                                                      (some { block := 0, off := o + (↑i : Int).toNat * 2 + 1 : Addr }))
                                                    (Value.pointer
                                                      (some
                                                        { block := 0, off := o + (↑i : Int).toNat * 2 + 1 : Addr })))
                                                  (Need (ltI (↑i : Int) (↑len : Int))
                                                    (Need
                                                      (beqV 64
                                                        (Value.pointer
                                                          (some { block := 0, off := o + (↑i : Int).toNat * 2 : Addr }))
                                                        (Value.pointer
                                                          (some
                                                            { block := 0, off := o + (↑i : Int).toNat * 2 : Addr })))
                                                      (Need (ltI (↑i : Int) (↑len : Int))
                                                        (Need
                                                          (beqV 64
                                                            (Value.pointer
                                                              (some
                                                                { block := 0, off := o + (↑i : Int).toNat * 2 : Addr }))
                                                            (Value.pointer
                                                              (some
                                                                { block := 0, off := o + (↑i : Int).toNat * 2 :
                                                                  Addr })))
                                                          (Need
                                                            (beqV 64 (Value.int IntKind.i64 (↑i : Int))
                                                              (Value.int IntKind.i64 (↑i : Int)))
                                                            (Need
                                                              (beqV 64 (Value.int IntKind.i64 (↑i : Int))
                                                                (Value.int IntKind.i64 (↑i : Int)))
                                                              (Need
                                                                (beqV 64
                                                                  (Value.slice
                                                                    (some { block := 0, off := o, spot := sp : Addr })
                                                                    len cap)
                                                                  (Value.slice
                                                                    (some { block := 0, off := o, spot := sp : Addr })
                                                                    len cap))
                                                                (Need
                                                                  (beqV 64
                                                                    (Value.slice
                                                                      (some { block := 0, off := o, spot := sp : Addr })
                                                                      len cap)
                                                                    (Value.slice
                                                                      (some { block := 0, off := o, spot := sp : Addr })
                                                                      len cap))
                                                                  (Need
                                                                    (beqV 64
                                                                      (Value.slice
                                                                        (some
                                                                          { block := 1, off := 0, spot := some 1 :
                                                                            Addr })
                                                                        m m)
                                                                      (Value.slice
                                                                        (some
                                                                          { block := 1, off := 0, spot := some 1 :
                                                                            Addr })
                                                                        m m))
                                                                    (K AE.normal
                                                                      (tmps 34
                                                                        [(0,
                                                                            Value.slice
                                                                              (some
                                                                                { block := 0, off := o, spot := sp :
                                                                                  Addr })
                                                                              len cap),
                                                                          (3,
                                                                            Value.slice
                                                                              (some
                                                                                { block := 1, off := 0, spot := some 1 :
                                                                                  Addr })
                                                                              (m +
                                                                                  (ptxt
                                                                                      (strV
                                                                                        ((getO cs
                                                                                              (o +
                                                                                                  (↑i : Int).toNat * 2 +
                                                                                                0)).getD
                                                                                          undef))).length +
                                                                                (ptxt
                                                                                    (strV
                                                                                      ((getO cs
                                                                                            (o + (↑i : Int).toNat * 2 +
                                                                                              1)).getD
                                                                                        undef))).length)
                                                                              (m +
                                                                                  (ptxt
                                                                                      (strV
                                                                                        ((getO cs
                                                                                              (o +
                                                                                                  (↑i : Int).toNat * 2 +
                                                                                                0)).getD
                                                                                          undef))).length +
                                                                                (ptxt
                                                                                    (strV
                                                                                      ((getO cs
                                                                                            (o + (↑i : Int).toNat * 2 +
                                                                                              1)).getD
                                                                                        undef))).length)),
                                                                          (4,
                                                                            Value.int IntKind.i64
                                                                              (wr IntKind.i64 ((↑i : Int) + 1)))])
                                                                      (hp
                                                                        [Blk.cells cs 2 own,
                                                                          Blk.cells
                                                                            (List.take
                                                                                ((m +
                                                                                    (ptxt
                                                                                        (strV
                                                                                          ((getO cs
                                                                                                (o +
                                                                                                    (↑i : Int).toNat *
                                                                                                      2 +
                                                                                                  0)).getD
                                                                                            undef))).length) *
                                                                                  1)
                                                                                (List.drop 0
                                                                                  (List.take (m * 1) (List.drop 0 c2) ++
                                                                                    List.take
                                                                                      ((ptxt
                                                                                            (strV
                                                                                              ((getO cs
                                                                                                    (o +
                                                                                                        (↑i :
                                                                                                              Int).toNat *
                                                                                                          2 +
                                                                                                      0)).getD
                                                                                                undef))).length *
                                                                                        1)
                                                                                      (List.drop 0
                                                                                        (List.map u8v
                                                                                          (ptxt
                                                                                            (strV
                                                                                              ((getO cs
                                                                                                    (o +
                                                                                                        (↑i :
                                                                                                              Int).toNat *
                                                                                                          2 +
                                                                                                      0)).getD
                                                                                                undef))))))) ++
                                                                              List.take
                                                                                ((ptxt
                                                                                      (strV
                                                                                        ((getO cs
                                                                                              (o +
                                                                                                  (↑i : Int).toNat * 2 +
                                                                                                1)).getD
                                                                                          undef))).length *
                                                                                  1)
                                                                                (List.drop 0
                                                                                  (List.map u8v
                                                                                    (ptxt
                                                                                      (strV
                                                                                        ((getO cs
                                                                                              (o +
                                                                                                  (↑i : Int).toNat * 2 +
                                                                                                1)).getD
                                                                                          undef))))))
                                                                            1 true])))))))))))))))))))))))))))))))
  (K (AE.exit 0) (tmps 34 [(3, Value.slice (some { block := 1, off := 0, spot := some 1 : Addr }) m m)])
    (hp [Blk.cells cs 2 own, Blk.cells c2 1 true]))) := by kernel_rfl

theorem w125 (cs c1 c2 : List Value) (own : Bool) (o : Nat) (sp : Option Nat) (len cap n m : Nat) (K : Value → Heap → Prop) :
  funX Try.prog S45 (gcLKX (at0 []) (at0 []) 1 (cutLK [⟨[0,1,0,1,1,1], T125 (.slice (some ⟨0,o,sp⟩) len cap) n 0, hp [.cells cs 2 own, .cells c1 1 true], fun K => K (.exit 0) (tmps 34 [(3, sl1 1 m)]) (hp [.cells cs 2 own, .cells c2 1 true])⟩])) F125 body125 Try.f25 [] [.tmp 0 1] [.slice (some ⟨0,o,sp⟩) len cap] (hp [.cells cs 2 own]) K = (
(FlatL cs ∧ True) ∧
  (IsLs cs o len cap ∧ True) ∧
    Alt (!isSetB (labsAt cs o len))
      (K (Value.slice (some { block := 1, off := 0, spot := some 1 : Addr }) 0 0)
        (hp [Blk.cells cs 2 own, Blk.cells [] 1 true]))
      (True ∧
        Need (leI (wr IntKind.u64 (↑len : Int)) 18446744073709551615) True ∧
          FlatD [] (hp [Blk.cells cs 2 own, Blk.cells (List.map u8v (enc (wr IntKind.u64 (↑len : Int)))) 1 true]) ∧
            tmps 34
                  [(0, Value.slice (some { block := 0, off := o, spot := sp : Addr }) len cap),
                    (3,
                      Value.slice (some { block := 1, off := 0, spot := some 1 : Addr })
                        (enc (wr IntKind.u64 (↑len : Int))).length (enc (wr IntKind.u64 (↑len : Int))).length),
                    (4, Value.int IntKind.i64 0)] =
                tmps 34
                  [(0, Value.slice (some { block := 0, off := o, spot := sp : Addr }) len cap),
                    (3, Value.slice (some { block := 1, off := 0, spot := some 1 : Addr }) n n),
                    (4, Value.int IntKind.i64 0)] ∧
              hp [Blk.cells cs 2 own, Blk.cells (List.map u8v (enc (wr IntKind.u64 (↑len : Int)))) 1 true] =
                  hp [Blk.cells cs 2 own, Blk.cells c1 1 true] ∧
                K (Value.slice (some { block := 1, off := 0, spot := some 1 : Addr }) m m)
                  (hp [Blk.cells cs 2 own, Blk.cells c2 1 true]))) := by kernel_rfl

theorem w125e (cs : List Value) (own : Bool) (o : Nat) (sp : Option Nat) (len cap : Nat) (K : Value → Heap → Prop) :
  funX Try.prog S45 noLoop F125 body125 Try.f25 [] [.tmp 0 1] [.slice (some ⟨0,o,sp⟩) len cap] (hp [.cells cs 2 own]) K = (
(FlatL cs ∧ True) ∧
  (IsLs cs o len cap ∧ True) ∧
    Alt (!isSetB (labsAt cs o len))
      (K (Value.slice (some { block := 1, off := 0, spot := some 1 : Addr }) 0 0)
        (hp [Blk.cells cs 2 own, Blk.cells [] 1 true]))
      (True ∧ Need (leI (wr IntKind.u64 (↑len : Int)) 18446744073709551615) True ∧ False)) := by kernel_rfl

noncomputable def T126 (a b : Value) (i : Nat) : List Value := tmps 26 [(0, a), (1, b), (5, .int .i64 i)]

theorem r126 (ca cb : List Value) (own own2 : Bool) (o o2 : Nat) (sp s2 : Option Nat) (len cap len2 cap2 i : Nat) (K : Post) :
  roundX Try.prog S45 noLoop F126 body126 2 [] [] [] [] [0,1,5] [0,0,1,0,1,1] (T126 (.slice (some ⟨0,o,sp⟩) len cap) (.slice (some ⟨1,o2,s2⟩) len2 cap2) i) (hp [.cells ca 2 own, .cells cb 2 own2]) K = (
Alt (ltI (↑i : Int) (↑len : Int))
  (Need (ltI (↑i : Int) (↑len : Int))
    (Need (isStr ((getO ca (o + (↑i : Int).toNat * 2)).getD undef))
      (Need (isStr ((getO ca (o + (↑i : Int).toNat * 2 + 1)).getD undef))
        (Need (ltI (↑i : Int) (↑len2 : Int))
          (Need (isStr ((getO cb (o2 + (↑i : Int).toNat * 2)).getD undef))
            (Need (isStr ((getO cb (o2 + (↑i : Int).toNat * 2 + 1)).getD undef))
              (Alt
                (!(eqS (strV ((getO ca (o + (↑i : Int).toNat * 2)).getD undef))
                      (strV ((getO cb (o2 + (↑i : Int).toNat * 2)).getD undef)) &&
                    (eqS (strV ((getO ca (o + (↑i : Int).toNat * 2 + 1)).getD undef))
                        (strV ((getO cb (o2 + (↑i : Int).toNat * 2 + 1)).getD undef)) &&
                      true)))
                (K AE.ret (tmps 26 [(4, Value.bool false)]) (hp [Blk.cells ca 2 own, Blk.cells cb 2 own2]))
                (K AE.normal
                  (tmps 26
                    [(0, Value.slice (some { block := 0, off := o, spot := sp : Addr }) len cap),
                      (1, Value.slice (some { block := 1, off := o2, spot := s2 : Addr }) len2 cap2),
                      (5, Value.int IntKind.i64 (wr IntKind.i64 ((↑i : Int) + 1)))])
                  (hp [Blk.cells ca 2 own, Blk.cells cb 2 own2])))))))))
  (K (AE.exit 0) (tmps 26 []) (hp [Blk.cells ca 2 own, Blk.cells cb 2 own2]))) := by kernel_rfl

theorem w126 (ca cb : List Value) (own own2 : Bool) (o o2 : Nat) (sp s2 : Option Nat) (len cap len2 cap2 : Nat) (ok : Bool) (K : Value → Heap → Prop) :
  funX Try.prog S45 (gcLKX (at0 []) (at0 []) 2 (cutLK [⟨[0,1,0,1,1], T126 (.slice (some ⟨0,o,sp⟩) len cap) (.slice (some ⟨1,o2,s2⟩) len2 cap2) 0, hp [.cells ca 2 own, .cells cb 2 own2], fun K => Alt ok (K (.exit 0) (tmps 26 []) (hp [.cells ca 2 own, .cells cb 2 own2])) (K .ret (tmps 26 [(4, .bool false)]) (hp [.cells ca 2 own, .cells cb 2 own2]))⟩])) F126 body126 Try.f26 [] [] [.slice (some ⟨0,o,sp⟩) len cap, .slice (some ⟨1,o2,s2⟩) len2 cap2] (hp [.cells ca 2 own, .cells cb 2 own2]) K = (
Alt (!eqI (↑len : Int) (↑len2 : Int)) (K (Value.bool false) (hp [Blk.cells ca 2 own, Blk.cells cb 2 own2]))
  (FlatD [] (hp [Blk.cells ca 2 own, Blk.cells cb 2 own2]) ∧
    tmps 26
          [(0, Value.slice (some { block := 0, off := o, spot := sp : Addr }) len cap),
            (1, Value.slice (some { block := 1, off := o2, spot := s2 : Addr }) len2 cap2),
            (5, Value.int IntKind.i64 0)] =
        tmps 26
          [(0, Value.slice (some { block := 0, off := o, spot := sp : Addr }) len cap),
            (1, Value.slice (some { block := 1, off := o2, spot := s2 : Addr }) len2 cap2),
            (5, Value.int IntKind.i64 0)] ∧
      hp [Blk.cells ca 2 own, Blk.cells cb 2 own2] = hp [Blk.cells ca 2 own, Blk.cells cb 2 own2] ∧
        Alt ok (K (Value.bool true) (hp [Blk.cells ca 2 own, Blk.cells cb 2 own2]))
          (K (Value.bool false) (hp [Blk.cells ca 2 own, Blk.cells cb 2 own2])))) := by kernel_rfl

theorem w126e (ca cb : List Value) (own own2 : Bool) (o o2 : Nat) (sp s2 : Option Nat) (len cap len2 cap2 : Nat) (K : Value → Heap → Prop) :
  funX Try.prog S45 noLoop F126 body126 Try.f26 [] [] [.slice (some ⟨0,o,sp⟩) len cap, .slice (some ⟨1,o2,s2⟩) len2 cap2] (hp [.cells ca 2 own, .cells cb 2 own2]) K = (
Need (!eqI (↑len : Int) (↑len2 : Int)) (K (Value.bool false) (hp [Blk.cells ca 2 own, Blk.cells cb 2 own2]))) := by kernel_rfl

/-- the bytes of labels, without their number -/
def lB (l : List Lb) : List Int := l.flatMap fun x => ptxt x.1 ++ ptxt x.2
theorem lB_cons (x : Lb) (l : List Lb) : lB (x :: l) = ptxt x.1 ++ (ptxt x.2 ++ lB l) := by rw [lB, List.flatMap_cons, List.append_assoc]; rfl
/-- a set's bytes; none: nothing -/
def setB (l : List Lb) : List Int := if isSetB l then enc l.length ++ lB l else []
def Tiny (l : List Lb) : Prop := ∀ x ∈ l, x.1.size ≤ 12 ∧ x.2.size ≤ 24
theorem setF_tiny : ∀ (l : List Lb) (p : Option ByteArray), setF p l = true → Tiny l := by
  intro l
  induction l with
  | nil => intro p _ x hx; simp at hx
  | cons y l ih =>
    intro p h x hx
    simp only [setF, Bool.and_eq_true] at h
    obtain ⟨h1, h2, _, h4⟩ := h
    rcases List.mem_cons.1 hx with rfl | hx
    · simp only [nameB, valueB, Bool.and_eq_true, leN_iff] at h1 h2
      exact ⟨h1.1.1.2, h2.2⟩
    · exact ih _ h4 x hx
theorem isSet_tiny {l : List Lb} (h : isSetB l = true) : Tiny l ∧ 1 ≤ l.length ∧ l.length ≤ 6 := by
  simp only [isSetB, Bool.and_eq_true, leN_iff] at h
  exact ⟨setF_tiny l _ h.2, h.1.1, h.1.2⟩
theorem tk_u (l : List Int) : List.take l.length (List.map u8v l) = List.map u8v l := List.take_of_length_le (by simp)
theorem tk_u2 (a b : List Int) : List.take (a.length + b.length) (List.map u8v a ++ List.map u8v b) = List.map u8v a ++ List.map u8v b := List.take_of_length_le (by simp)
theorem bytes_loop (hmix : Try.prog.follows .mixedOrders = true) (l : List Lb) (cs : List Value) (own : Bool) (o : Nat) (sp : Option Nat) (cap : Nat) (hB : LSl cs o l) (hv : Tiny l) (K : Post) : ∀ (t : List Lb) (i : Nat) (L : List Int), l.drop i = t → i ≤ l.length → L.length + t.length * 100 ≤ 2000000 →
    K (.exit 0) (tmps 31 [(3, sl1 1 (L ++ lB t).length)]) (hp [.cells cs 2 own, .cells ((L ++ lB t).map u8v) 1 true]) →
    LSays Try.prog 1 (sub body112 [0,0,1,0,1,1,1]) (T112 (.slice (some ⟨0,o,sp⟩) l.length cap) L.length l.length i) (hp [.cells cs 2 own, .cells (L.map u8v) 1 true]) K := by
  have hF : ∀ L : List Int, FlatD [] (hp [.cells cs 2 own, .cells (L.map u8v) 1 true]) := fun L => FlatD.hp ⟨hB.flat, ⟨flat_u8s L⟩, trivial⟩
  have hsh := hB.short
  intro t
  induction t with
  | nil =>
    intro i L ht hi hL hK
    have hge : ¬ ((i : Int) < (l.length : Int)) := by have := List.drop_eq_nil_iff.1 ht; omega
    refine (sure45 hmix).roundX F112 noLoops [] [] [] [] [3,13,14,15] ?_
    rw [r112]
    rw [show lB [] = [] from rfl, List.append_nil] at hK
    simp only [hge, hF, Alt_iff, Need_iff, ltI_eq, leI_eq, eqI_eq, leN_eq, eqN_eq, decide_eq_true_eq, decide_eq_false_iff_not, decide_true, decide_false, true_and, and_true, Bool.true_eq_false, Bool.false_eq_true, false_implies, true_implies, implies_true, not_true_eq_false, not_false_eq_true, Bool.not_eq_true', Bool.not_eq_false', Nat.zero_add, Nat.add_zero, Nat.sub_zero, Nat.zero_mul, Nat.mul_one, Int.toNat_natCast, List.drop_zero, beqV_int, beqV_sl, beqV_str, beqV_bool, beqV_ptr, beqV_flt, beqV_agg, beqV_tuple, List.all_cons, List.all_nil, Bool.and_self, Bool.and_true, Bool.true_and, Nat.le_refl, Int.le_refl, Nat.zero_le, Option.getD_some, isStr, strV, isInt, intV, isBool, boolV, kindEq, at0, isJunk, Option.isSome_some, Option.isSome_none, if_true, if_false, Nat.add_sub_cancel_left, Nat.add_sub_cancel]; exact hK
  | cons x t ih =>
    intro i L ht hi hL hK
    obtain ⟨hlt, hx, hd⟩ := drop_cons ht
    have hl2 : (i : Int) < (l.length : Int) := by omega
    have hg1 := hB.name i x hx
    have hg2 := hB.value i x hx
    obtain ⟨z1, z2⟩ := hv x (List.mem_of_getElem? hx)
    have hn1 := enc_len x.1.size
    have hn2 := enc_len x.2.size
    have hp1 := ptxt_len x.1
    have hp2 := ptxt_len x.2
    simp only [List.length_cons] at hL
    have next := ih (i + 1) (L ++ ptxt x.1 ++ ptxt x.2) hd (by omega) (by rw [List.length_append, List.length_append]; omega) (by rw [List.append_assoc, List.append_assoc, ← lB_cons]; exact hK)
    have hF2 := hF (L ++ ptxt x.1 ++ ptxt x.2)
    rw [List.map_append, List.map_append] at next hF2
    rw [List.length_append, List.length_append] at next
    refine (sure45 hmix).roundX F112 noLoops [] [] [] [] [3,13,14,15] ?_
    rw [r112]
    simp only [hl2, hg1, hg2, hF, nx i (by omega), List.length_map, List.length_append, tk_u, tk_u2, oneV_u8s, hF2, next, Alt_iff, Need_iff, ltI_eq, leI_eq, eqI_eq, leN_eq, eqN_eq, decide_eq_true_eq, decide_eq_false_iff_not, decide_true, decide_false, true_and, and_true, Bool.true_eq_false, Bool.false_eq_true, false_implies, true_implies, implies_true, not_true_eq_false, not_false_eq_true, Bool.not_eq_true', Bool.not_eq_false', Nat.zero_add, Nat.add_zero, Nat.sub_zero, Nat.zero_mul, Nat.mul_one, Int.toNat_natCast, List.drop_zero, beqV_int, beqV_sl, beqV_str, beqV_bool, beqV_ptr, beqV_flt, beqV_agg, beqV_tuple, List.all_cons, List.all_nil, Bool.and_self, Bool.and_true, Bool.true_and, Nat.le_refl, Int.le_refl, Nat.zero_le, Option.getD_some, isStr, strV, isInt, intV, isBool, boolV, kindEq, at0, isJunk, Option.isSome_some, Option.isSome_none, if_true, if_false, Nat.add_sub_cancel_left, Nat.add_sub_cancel]
    and_intros <;> first | omega | exact next
theorem rbytes_loop (hmix : Try.prog.follows .mixedOrders = true) (l : List Lb) (cs : List Value) (own : Bool) (o : Nat) (sp : Option Nat) (cap : Nat) (hB : LSl cs o l) (hv : Tiny l) (K : Post) : ∀ (t : List Lb) (i : Nat) (L : List Int), l.drop i = t → i ≤ l.length → L.length + t.length * 100 ≤ 2000000 →
    K (.exit 0) (tmps 34 [(3, sl1 1 (L ++ lB t).length)]) (hp [.cells cs 2 own, .cells ((L ++ lB t).map u8v) 1 true]) →
    LSays Try.prog 1 (sub body125 [0,0,1,0,1,1,1]) (T125 (.slice (some ⟨0,o,sp⟩) l.length cap) L.length i) (hp [.cells cs 2 own, .cells (L.map u8v) 1 true]) K := by
  have hF : ∀ L : List Int, FlatD [] (hp [.cells cs 2 own, .cells (L.map u8v) 1 true]) := fun L => FlatD.hp ⟨hB.flat, ⟨flat_u8s L⟩, trivial⟩
  have hsh := hB.short
  intro t
  induction t with
  | nil =>
    intro i L ht hi hL hK
    have hge : ¬ ((i : Int) < (l.length : Int)) := by have := List.drop_eq_nil_iff.1 ht; omega
    refine (sure45 hmix).roundX F125 noLoops [] [] [] [] [0,3,4] ?_
    rw [r125]
    rw [show lB [] = [] from rfl, List.append_nil] at hK
    simp only [hge, hF, Alt_iff, Need_iff, ltI_eq, leI_eq, eqI_eq, leN_eq, eqN_eq, decide_eq_true_eq, decide_eq_false_iff_not, decide_true, decide_false, true_and, and_true, Bool.true_eq_false, Bool.false_eq_true, false_implies, true_implies, implies_true, not_true_eq_false, not_false_eq_true, Bool.not_eq_true', Bool.not_eq_false', Nat.zero_add, Nat.add_zero, Nat.sub_zero, Nat.zero_mul, Nat.mul_one, Int.toNat_natCast, List.drop_zero, beqV_int, beqV_sl, beqV_str, beqV_bool, beqV_ptr, beqV_flt, beqV_agg, beqV_tuple, List.all_cons, List.all_nil, Bool.and_self, Bool.and_true, Bool.true_and, Nat.le_refl, Int.le_refl, Nat.zero_le, Option.getD_some, isStr, strV, isInt, intV, isBool, boolV, kindEq, at0, isJunk, Option.isSome_some, Option.isSome_none, if_true, if_false, Nat.add_sub_cancel_left, Nat.add_sub_cancel]; exact hK
  | cons x t ih =>
    intro i L ht hi hL hK
    obtain ⟨hlt, hx, hd⟩ := drop_cons ht
    have hl2 : (i : Int) < (l.length : Int) := by omega
    have hg1 := hB.name i x hx
    have hg2 := hB.value i x hx
    obtain ⟨z1, z2⟩ := hv x (List.mem_of_getElem? hx)
    have hn1 := enc_len x.1.size
    have hn2 := enc_len x.2.size
    have hp1 := ptxt_len x.1
    have hp2 := ptxt_len x.2
    simp only [List.length_cons] at hL
    have next := ih (i + 1) (L ++ ptxt x.1 ++ ptxt x.2) hd (by omega) (by rw [List.length_append, List.length_append]; omega) (by rw [List.append_assoc, List.append_assoc, ← lB_cons]; exact hK)
    have hF2 := hF (L ++ ptxt x.1 ++ ptxt x.2)
    rw [List.map_append, List.map_append] at next hF2
    rw [List.length_append, List.length_append] at next
    refine (sure45 hmix).roundX F125 noLoops [] [] [] [] [0,3,4] ?_
    rw [r125]
    simp only [hl2, hg1, hg2, hF, nx i (by omega), List.length_map, List.length_append, tk_u, tk_u2, oneV_u8s, hF2, next, Alt_iff, Need_iff, ltI_eq, leI_eq, eqI_eq, leN_eq, eqN_eq, decide_eq_true_eq, decide_eq_false_iff_not, decide_true, decide_false, true_and, and_true, Bool.true_eq_false, Bool.false_eq_true, false_implies, true_implies, implies_true, not_true_eq_false, not_false_eq_true, Bool.not_eq_true', Bool.not_eq_false', Nat.zero_add, Nat.add_zero, Nat.sub_zero, Nat.zero_mul, Nat.mul_one, Int.toNat_natCast, List.drop_zero, beqV_int, beqV_sl, beqV_str, beqV_bool, beqV_ptr, beqV_flt, beqV_agg, beqV_tuple, List.all_cons, List.all_nil, Bool.and_self, Bool.and_true, Bool.true_and, Nat.le_refl, Int.le_refl, Nat.zero_le, Option.getD_some, isStr, strV, isInt, intV, isBool, boolV, kindEq, at0, isJunk, Option.isSome_some, Option.isSome_none, if_true, if_false, Nat.add_sub_cancel_left, Nat.add_sub_cancel]
    and_intros <;> first | omega | exact next
noncomputable def bytesC : Ctr where
  pre := fun args blks => match args, blks with
    | [.slice (some ⟨0, o, _⟩) len cap], [.cells cs 2 _] => IsLs cs o len cap
    | _, _ => False
  val := fun args blks => match args, blks with
    | [.slice (some ⟨0, o, _⟩) len _], [.cells cs 2 _] => sl1 1 (setB (labsAt cs o len)).length
    | _, _ => .bool false
  new := fun args blks => match args, blks with
    | [.slice (some ⟨0, o, _⟩) len _], [.cells cs 2 _] => [.cells ((setB (labsAt cs o len)).map u8v) 1 true]
    | _, _ => []
theorem u64_len (n : Nat) (h : n ≤ 9223372036854775807) : wr .u64 (n : Int) = n := by
  rw [wr_eq]; simp [IntKind.wrap, IntKind.bits, IntKind.signed]; omega
theorem bytesC_of {f : FuncId} (h : ∀ (l : List Lb) (cs : List Value) (own : Bool) (o : Nat) (sp : Option Nat) (cap : Nat), l.length ≤ cap → LSl cs o l → FunSays Try.prog f [.slice (some ⟨0,o,sp⟩) l.length cap] (hp [.cells cs 2 own]) fun v h' => v = sl1 1 (setB l).length ∧ h' = hp [.cells cs 2 own, .cells ((setB l).map u8v) 1 true]) : bytesC.Holds Try.prog f := by
  intro args blks hf hp
  simp only [bytesC] at hp ⊢
  split at hp
  · rename_i o sp len cap cs own
    obtain ⟨l, rfl, hc, hB⟩ := hp
    simp only [hB.labsAt]
    exact ⟨⟨⟨flat_u8s _⟩, trivial⟩, h l cs own o sp cap hc hB⟩
  · exact hp.elim
theorem bytes_says (hmix : Try.prog.follows .mixedOrders = true) : bytesC.Holds Try.prog 12 := by
  refine bytesC_of fun l cs own o sp cap hc hB => ?_
  have hF : ∀ L : List Int, FlatD [] (AM.hp [.cells cs 2 own, .cells (L.map u8v) 1 true]) := fun L => FlatD.hp ⟨hB.flat, ⟨flat_u8s L⟩, trivial⟩
  have hil : IsLs cs o l.length cap := ⟨l, rfl, hc, hB⟩
  have hwl := u64_len l.length hB.short
  have hsh := hB.short
  unfold setB
  cases hq : isSetB l with
  | false =>
    refine (sure45 hmix).funX F112 body112 [] [.tmp 0 1] Try.func12 rfl noLoops ?_
    rw [w112e]
    simp only [hil, hB.flat, hB.labsAt, hq, Alt_iff, Need_iff, ltI_eq, leI_eq, eqI_eq, leN_eq, eqN_eq, decide_eq_true_eq, decide_eq_false_iff_not, decide_true, decide_false, true_and, and_true, Bool.true_eq_false, Bool.false_eq_true, false_implies, true_implies, implies_true, not_true_eq_false, not_false_eq_true, Bool.not_eq_true', Bool.not_eq_false', Nat.zero_add, Nat.add_zero, Nat.sub_zero, Nat.zero_mul, Nat.mul_one, Int.toNat_natCast, List.drop_zero, beqV_int, beqV_sl, beqV_str, beqV_bool, beqV_ptr, beqV_flt, beqV_agg, beqV_tuple, List.all_cons, List.all_nil, Bool.and_self, Bool.and_true, Bool.true_and, Nat.le_refl, Int.le_refl, Nat.zero_le, Option.getD_some, isStr, strV, isInt, intV, isBool, boolV, kindEq, at0, isJunk, Option.isSome_some, Option.isSome_none, if_true, if_false, Nat.add_sub_cancel_left, Nat.add_sub_cancel]
    and_intros <;> first | exact hF [] | rfl
  | true =>
    obtain ⟨k1, k2, k3⟩ := isSet_tiny hq
    have hL : Loops Try.prog body112 1 (cutLK [⟨[0,1,0,1,1,1], T112 (.slice (some ⟨0,o,sp⟩) l.length cap) (enc l.length).length l.length 0, AM.hp [.cells cs 2 own, .cells ((enc l.length).map u8v) 1 true], fun K => K (.exit 0) (tmps 31 [(3, sl1 1 (enc l.length ++ lB l).length)]) (AM.hp [.cells cs 2 own, .cells ((enc l.length ++ lB l).map u8v) 1 true])⟩]) := Loops.none.more _ fun K hK => by
      show LSays Try.prog _ (sub body112 [0,0,1,0,1,1,1]) _ _ _
      have := enc_len l.length
      exact bytes_loop hmix l cs own o sp cap hB k1 K l 0 (enc l.length) rfl (by omega) (by omega) hK
    refine (sure45 hmix).funX F112 body112 [] [.tmp 0 1] Try.func12 rfl (hL.gcX (at0 []) (at0 [])) ?_
    rw [w112]
    simp only [hil, hB.flat, hB.labsAt, hq, hwl, Alt_iff, Need_iff, ltI_eq, leI_eq, eqI_eq, leN_eq, eqN_eq, decide_eq_true_eq, decide_eq_false_iff_not, decide_true, decide_false, true_and, and_true, Bool.true_eq_false, Bool.false_eq_true, false_implies, true_implies, implies_true, not_true_eq_false, not_false_eq_true, Bool.not_eq_true', Bool.not_eq_false', Nat.zero_add, Nat.add_zero, Nat.sub_zero, Nat.zero_mul, Nat.mul_one, Int.toNat_natCast, List.drop_zero, beqV_int, beqV_sl, beqV_str, beqV_bool, beqV_ptr, beqV_flt, beqV_agg, beqV_tuple, List.all_cons, List.all_nil, Bool.and_self, Bool.and_true, Bool.true_and, Nat.le_refl, Int.le_refl, Nat.zero_le, Option.getD_some, isStr, strV, isInt, intV, isBool, boolV, kindEq, at0, isJunk, Option.isSome_some, Option.isSome_none, if_true, if_false, Nat.add_sub_cancel_left, Nat.add_sub_cancel]
    and_intros <;> first | omega | exact hF _ | rfl
theorem rbytes_says (hmix : Try.prog.follows .mixedOrders = true) : bytesC.Holds Try.prog 25 := by
  refine bytesC_of fun l cs own o sp cap hc hB => ?_
  have hF : ∀ L : List Int, FlatD [] (AM.hp [.cells cs 2 own, .cells (L.map u8v) 1 true]) := fun L => FlatD.hp ⟨hB.flat, ⟨flat_u8s L⟩, trivial⟩
  have hil : IsLs cs o l.length cap := ⟨l, rfl, hc, hB⟩
  have hwl := u64_len l.length hB.short
  have hsh := hB.short
  unfold setB
  cases hq : isSetB l with
  | false =>
    refine (sure45 hmix).funX F125 body125 [] [.tmp 0 1] Try.func25 rfl noLoops ?_
    rw [w125e]
    simp only [hil, hB.flat, hB.labsAt, hq, Alt_iff, Need_iff, ltI_eq, leI_eq, eqI_eq, leN_eq, eqN_eq, decide_eq_true_eq, decide_eq_false_iff_not, decide_true, decide_false, true_and, and_true, Bool.true_eq_false, Bool.false_eq_true, false_implies, true_implies, implies_true, not_true_eq_false, not_false_eq_true, Bool.not_eq_true', Bool.not_eq_false', Nat.zero_add, Nat.add_zero, Nat.sub_zero, Nat.zero_mul, Nat.mul_one, Int.toNat_natCast, List.drop_zero, beqV_int, beqV_sl, beqV_str, beqV_bool, beqV_ptr, beqV_flt, beqV_agg, beqV_tuple, List.all_cons, List.all_nil, Bool.and_self, Bool.and_true, Bool.true_and, Nat.le_refl, Int.le_refl, Nat.zero_le, Option.getD_some, isStr, strV, isInt, intV, isBool, boolV, kindEq, at0, isJunk, Option.isSome_some, Option.isSome_none, if_true, if_false, Nat.add_sub_cancel_left, Nat.add_sub_cancel]
    and_intros <;> first | exact hF [] | rfl
  | true =>
    obtain ⟨k1, k2, k3⟩ := isSet_tiny hq
    have hL : Loops Try.prog body125 1 (cutLK [⟨[0,1,0,1,1,1], T125 (.slice (some ⟨0,o,sp⟩) l.length cap) (enc l.length).length 0, AM.hp [.cells cs 2 own, .cells ((enc l.length).map u8v) 1 true], fun K => K (.exit 0) (tmps 34 [(3, sl1 1 (enc l.length ++ lB l).length)]) (AM.hp [.cells cs 2 own, .cells ((enc l.length ++ lB l).map u8v) 1 true])⟩]) := Loops.none.more _ fun K hK => by
      show LSays Try.prog _ (sub body125 [0,0,1,0,1,1,1]) _ _ _
      have := enc_len l.length
      exact rbytes_loop hmix l cs own o sp cap hB k1 K l 0 (enc l.length) rfl (by omega) (by omega) hK
    refine (sure45 hmix).funX F125 body125 [] [.tmp 0 1] Try.func25 rfl (hL.gcX (at0 []) (at0 [])) ?_
    rw [w125]
    simp only [hil, hB.flat, hB.labsAt, hq, hwl, Alt_iff, Need_iff, ltI_eq, leI_eq, eqI_eq, leN_eq, eqN_eq, decide_eq_true_eq, decide_eq_false_iff_not, decide_true, decide_false, true_and, and_true, Bool.true_eq_false, Bool.false_eq_true, false_implies, true_implies, implies_true, not_true_eq_false, not_false_eq_true, Bool.not_eq_true', Bool.not_eq_false', Nat.zero_add, Nat.add_zero, Nat.sub_zero, Nat.zero_mul, Nat.mul_one, Int.toNat_natCast, List.drop_zero, beqV_int, beqV_sl, beqV_str, beqV_bool, beqV_ptr, beqV_flt, beqV_agg, beqV_tuple, List.all_cons, List.all_nil, Bool.and_self, Bool.and_true, Bool.true_and, Nat.le_refl, Int.le_refl, Nat.zero_le, Option.getD_some, isStr, strV, isInt, intV, isBool, boolV, kindEq, at0, isJunk, Option.isSome_some, Option.isSome_none, if_true, if_false, Nat.add_sub_cancel_left, Nat.add_sub_cancel]
    and_intros <;> first | omega | exact hF _ | rfl
/-- the same labels -/
def allB : List Lb → List Lb → Bool
  | [], _ => true
  | x :: a, y :: b => (eqS x.1 y.1 && eqS x.2 y.2) && allB a b
  | _, [] => false
def sameB (a b : List Lb) : Bool := decide (a.length = b.length) && allB a b
theorem allB_iff : ∀ {a b : List Lb}, a.length = b.length → (allB a b = true ↔ a = b) := by
  intro a
  induction a with
  | nil => intro b h; cases b with
    | nil => simp [allB]
    | cons => simp at h
  | cons x a ih =>
    intro b h
    cases b with
    | nil => simp at h
    | cons y b =>
      simp only [allB, Bool.and_eq_true, ih (by simpa using h), eqS_iff, List.cons.injEq]
      exact ⟨fun ⟨⟨h1, h2⟩, h3⟩ => ⟨Prod.ext h1 h2, h3⟩, fun ⟨h1, h2⟩ => ⟨⟨by rw [h1], by rw [h1]⟩, h2⟩⟩
theorem sameB_iff {a b : List Lb} : sameB a b = true ↔ a = b := by
  unfold sameB
  rw [Bool.and_eq_true, decide_eq_true_iff]
  exact ⟨fun ⟨h1, h2⟩ => (allB_iff h1).1 h2, fun h => by subst h; exact ⟨rfl, (allB_iff rfl).2 rfl⟩⟩
theorem same_loop (hmix : Try.prog.follows .mixedOrders = true) (a b : List Lb) (ca cb : List Value) (own own2 : Bool) (o o2 : Nat) (sp s2 : Option Nat) (cap cap2 : Nat) (hA : LSl ca o a) (hB : LSl cb o2 b) (hlen : a.length = b.length) (K : Post) : ∀ (t u : List Lb) (i : Nat), a.drop i = t → b.drop i = u → i ≤ a.length →
    Alt (allB t u) (K (.exit 0) (tmps 26 []) (hp [.cells ca 2 own, .cells cb 2 own2])) (K .ret (tmps 26 [(4, .bool false)]) (hp [.cells ca 2 own, .cells cb 2 own2])) →
    LSays Try.prog 2 (sub body126 [0,0,1,0,1,1]) (T126 (.slice (some ⟨0,o,sp⟩) a.length cap) (.slice (some ⟨1,o2,s2⟩) b.length cap2) i) (hp [.cells ca 2 own, .cells cb 2 own2]) K := by
  have hF : FlatD [] (hp [.cells ca 2 own, .cells cb 2 own2]) := FlatD.hp ⟨hA.flat, hB.flat, trivial⟩
  have hsh := hA.short
  intro t
  induction t with
  | nil =>
    intro u i ht hu hi hK
    have hge : ¬ ((i : Int) < (a.length : Int)) := by have := List.drop_eq_nil_iff.1 ht; omega
    refine (sure45 hmix).roundX F126 noLoops [] [] [] [] [0,1,5] ?_
    rw [r126]
    simp only [hge, hF, Alt_iff, Need_iff, ltI_eq, leI_eq, eqI_eq, leN_eq, eqN_eq, decide_eq_true_eq, decide_eq_false_iff_not, decide_true, decide_false, true_and, and_true, Bool.true_eq_false, Bool.false_eq_true, false_implies, true_implies, implies_true, not_true_eq_false, not_false_eq_true, Bool.not_eq_true', Bool.not_eq_false', Nat.zero_add, Nat.add_zero, Nat.sub_zero, Nat.zero_mul, Nat.mul_one, Int.toNat_natCast, List.drop_zero, beqV_int, beqV_sl, beqV_str, beqV_bool, beqV_ptr, beqV_flt, beqV_agg, beqV_tuple, List.all_cons, List.all_nil, Bool.and_self, Bool.and_true, Bool.true_and, Nat.le_refl, Int.le_refl, Nat.zero_le, Option.getD_some, isStr, strV, isInt, intV, isBool, boolV, kindEq, at0, isJunk, Option.isSome_some, Option.isSome_none, if_true, if_false, Nat.add_sub_cancel_left, Nat.add_sub_cancel]; exact hK
  | cons x t ih =>
    intro u i ht hu hi hK
    obtain ⟨hlt, hx, hd⟩ := drop_cons ht
    cases u with
    | nil => have := List.drop_eq_nil_iff.1 hu; omega
    | cons y u =>
      obtain ⟨hlt2, hy, hd2⟩ := drop_cons hu
      refine (sure45 hmix).roundX F126 noLoops [] [] [] [] [0,1,5] ?_
      rw [r126]
      simp only [show (i : Int) < (a.length : Int) by omega, show (i : Int) < (b.length : Int) by omega, hA.name i x hx, hA.value i x hx, hB.name i y hy, hB.value i y hy, hF, nx i (by omega), Alt_iff, Need_iff, ltI_eq, leI_eq, eqI_eq, leN_eq, eqN_eq, decide_eq_true_eq, decide_eq_false_iff_not, decide_true, decide_false, true_and, and_true, Bool.true_eq_false, Bool.false_eq_true, false_implies, true_implies, implies_true, not_true_eq_false, not_false_eq_true, Bool.not_eq_true', Bool.not_eq_false', Nat.zero_add, Nat.add_zero, Nat.sub_zero, Nat.zero_mul, Nat.mul_one, Int.toNat_natCast, List.drop_zero, beqV_int, beqV_sl, beqV_str, beqV_bool, beqV_ptr, beqV_flt, beqV_agg, beqV_tuple, List.all_cons, List.all_nil, Bool.and_self, Bool.and_true, Bool.true_and, Nat.le_refl, Int.le_refl, Nat.zero_le, Option.getD_some, isStr, strV, isInt, intV, isBool, boolV, kindEq, at0, isJunk, Option.isSome_some, Option.isSome_none, if_true, if_false, Nat.add_sub_cancel_left, Nat.add_sub_cancel]
      rw [allB] at hK
      refine ⟨fun h => ?_, fun h => ?_⟩
      · rw [h] at hK; exact hK
      · rw [h] at hK
        exact ih u (i + 1) hd hd2 (by omega) hK
noncomputable def sameC : Ctr where
  pre := fun args blks => match args, blks with
    | [.slice (some ⟨0, o, _⟩) len cap, .slice (some ⟨1, o2, _⟩) len2 cap2], [.cells ca 2 _, .cells cb 2 _] => IsLs ca o len cap ∧ IsLs cb o2 len2 cap2
    | _, _ => False
  val := fun args blks => match args, blks with
    | [.slice (some ⟨0, o, _⟩) len _, .slice (some ⟨1, o2, _⟩) len2 _], [.cells ca 2 _, .cells cb 2 _] => .bool (sameB (labsAt ca o len) (labsAt cb o2 len2))
    | _, _ => undef
  new := fun _ _ => []
theorem same_says (hmix : Try.prog.follows .mixedOrders = true) : sameC.Holds Try.prog 26 := by
  intro args blks hf hp
  refine ⟨trivial, ?_⟩
  simp only [sameC] at hp ⊢
  split at hp
  · rename_i o sp len cap o2 s2 len2 cap2 ca own cb own2
    obtain ⟨⟨a, rfl, hc, hA⟩, ⟨b, rfl, hc2, hB⟩⟩ := hp
    simp only [hA.labsAt, hB.labsAt, List.append_nil]
    have hF : FlatD [] (AM.hp [.cells ca 2 own, .cells cb 2 own2]) := FlatD.hp ⟨hA.flat, hB.flat, trivial⟩
    unfold sameB
    by_cases hlen : a.length = b.length
    · have hL : Loops Try.prog body126 2 (cutLK [⟨[0,1,0,1,1], T126 (.slice (some ⟨0,o,sp⟩) a.length cap) (.slice (some ⟨1,o2,s2⟩) b.length cap2) 0, AM.hp [.cells ca 2 own, .cells cb 2 own2], fun K => Alt (allB a b) (K (.exit 0) (tmps 26 []) (AM.hp [.cells ca 2 own, .cells cb 2 own2])) (K .ret (tmps 26 [(4, .bool false)]) (AM.hp [.cells ca 2 own, .cells cb 2 own2]))⟩]) := Loops.none.more _ fun K hK => by
        show LSays Try.prog _ (sub body126 [0,0,1,0,1,1]) _ _ _
        exact same_loop hmix a b ca cb own own2 o o2 sp s2 cap cap2 hA hB hlen K a b 0 rfl rfl (by omega) hK
      refine (sure45 hmix).funX F126 body126 [] [] Try.func26 rfl (hL.gcX (at0 []) (at0 [])) ?_
      rw [w126]
      have he : ((a.length : Nat) : Int) = (b.length : Int) := by rw [hlen]
      cases hq : allB a b with
      | true => simp only [he, hF, hlen, Bool.not_true, Alt_iff, Need_iff, ltI_eq, leI_eq, eqI_eq, leN_eq, eqN_eq, decide_eq_true_eq, decide_eq_false_iff_not, decide_true, decide_false, true_and, and_true, Bool.true_eq_false, Bool.false_eq_true, false_implies, true_implies, implies_true, not_true_eq_false, not_false_eq_true, Bool.not_eq_true', Bool.not_eq_false', Nat.zero_add, Nat.add_zero, Nat.sub_zero, Nat.zero_mul, Nat.mul_one, Int.toNat_natCast, List.drop_zero, beqV_int, beqV_sl, beqV_str, beqV_bool, beqV_ptr, beqV_flt, beqV_agg, beqV_tuple, List.all_cons, List.all_nil, Bool.and_self, Bool.and_true, Bool.true_and, Nat.le_refl, Int.le_refl, Nat.zero_le, Option.getD_some, isStr, strV, isInt, intV, isBool, boolV, kindEq, at0, isJunk, Option.isSome_some, Option.isSome_none, if_true, if_false, Nat.add_sub_cancel_left, Nat.add_sub_cancel]
      | false => simp only [he, hF, hlen, Bool.not_true, Bool.and_false, Alt_iff, Need_iff, ltI_eq, leI_eq, eqI_eq, leN_eq, eqN_eq, decide_eq_true_eq, decide_eq_false_iff_not, decide_true, decide_false, true_and, and_true, Bool.true_eq_false, Bool.false_eq_true, false_implies, true_implies, implies_true, not_true_eq_false, not_false_eq_true, Bool.not_eq_true', Bool.not_eq_false', Nat.zero_add, Nat.add_zero, Nat.sub_zero, Nat.zero_mul, Nat.mul_one, Int.toNat_natCast, List.drop_zero, beqV_int, beqV_sl, beqV_str, beqV_bool, beqV_ptr, beqV_flt, beqV_agg, beqV_tuple, List.all_cons, List.all_nil, Bool.and_self, Bool.and_true, Bool.true_and, Nat.le_refl, Int.le_refl, Nat.zero_le, Option.getD_some, isStr, strV, isInt, intV, isBool, boolV, kindEq, at0, isJunk, Option.isSome_some, Option.isSome_none, if_true, if_false, Nat.add_sub_cancel_left, Nat.add_sub_cancel]
    · refine (sure45 hmix).funX F126 body126 [] [] Try.func26 rfl noLoops ?_
      rw [w126e]
      have he : ¬ ((a.length : Nat) : Int) = (b.length : Int) := by omega
      simp only [he, hF, hlen, Bool.not_false, Bool.false_and, Alt_iff, Need_iff, ltI_eq, leI_eq, eqI_eq, leN_eq, eqN_eq, decide_eq_true_eq, decide_eq_false_iff_not, decide_true, decide_false, true_and, and_true, Bool.true_eq_false, Bool.false_eq_true, false_implies, true_implies, implies_true, not_true_eq_false, not_false_eq_true, Bool.not_eq_true', Bool.not_eq_false', Nat.zero_add, Nat.add_zero, Nat.sub_zero, Nat.zero_mul, Nat.mul_one, Int.toNat_natCast, List.drop_zero, beqV_int, beqV_sl, beqV_str, beqV_bool, beqV_ptr, beqV_flt, beqV_agg, beqV_tuple, List.all_cons, List.all_nil, Bool.and_self, Bool.and_true, Bool.true_and, Nat.le_refl, Int.le_refl, Nat.zero_le, Option.getD_some, isStr, strV, isInt, intV, isBool, boolV, kindEq, at0, isJunk, Option.isSome_some, Option.isSome_none, if_true, if_false, Nat.add_sub_cancel_left, Nat.add_sub_cancel]
  · exact hp.elim
end Go.Proofs.Ytdpfmaimhimfcaa

namespace Go.Proofs.Ytdpfmaimhimfcaa
open Go.RowKit Go.Proofs.Ytdpfmaimhimfcaa.AM
set_option maxRecDepth 100000
set_option maxHeartbeats 4000000
noncomputable def body138 : Code := (Try.f38.body).getD .skip
def F138 : List Nat → Option (List Nat) := fun p => match p with
  | [1] => some [0]
  | [1, 1] => some [2]
  | _ => none
noncomputable def body139 : Code := (Try.f39.body).getD .skip
def F139 : List Nat → Option (List Nat) := fun p => match p with
  | [1] => some [0, 1]
  | [1, 1] => some [0, 1, 5, 6, 7]
  | [1, 0, 1, 1] => some [5, 24]
  | [1, 0, 1, 0, 1, 1] => some [4]
  | [1, 1, 1] => some [5]
  | [1, 1, 1, 1] => some [4]
  | _ => none
noncomputable def body140 : Code := (Try.f40.body).getD .skip
def F140 : List Nat → Option (List Nat) := fun p => match p with
  | [1] => some [0, 1]
  | [1, 1] => some [0, 5, 6, 7]
  | [1, 0, 1, 1] => some [5, 20]
  | [1, 0, 1, 0, 1, 1] => some [4]
  | [1, 1, 1] => some [5]
  | [1, 1, 1, 1] => some [4]
  | _ => none
noncomputable def body141 : Code := (Try.f41.body).getD .skip
def F141 : List Nat → Option (List Nat) := fun p => match p with
  | _ => none
noncomputable def body142 : Code := (Try.f42.body).getD .skip
def F142 : List Nat → Option (List Nat) := fun p => match p with
  | [1] => some [0]
  | [1, 0, 1] => some [0, 7]
  | [1, 0, 1, 0, 1] => some [2, 3]
  | [1, 1] => some [0]
  | [1, 1, 1] => some [2, 3]
  | _ => none
noncomputable def body152 : Code := (Try.f52.body).getD .skip
def F152 : List Nat → Option (List Nat) := fun p => match p with
  | [1] => some [0]
  | [1, 1] => some [2]
  | _ => none
noncomputable def body153 : Code := (Try.f53.body).getD .skip
def F153 : List Nat → Option (List Nat) := fun p => match p with
  | [1] => some [0, 1, 2]
  | [1, 1] => some [0, 1]
  | [1, 0, 1, 1] => some [0, 1, 22]
  | [1, 1, 1] => some [0]
  | [1, 1, 1, 1] => some [6]
  | _ => none
/-- a reader's cells -/
noncomputable def rdC (o : Nat) (sp : Option Nat) (len cap : Nat) (a : Int) (bad : Bool) : List Value := [.slice (some ⟨1,o,sp⟩) len cap, .int .i64 a, .bool bad]
noncomputable def hR (o : Nat) (sp : Option Nat) (len cap : Nat) (a : Int) (bad : Bool) (cs : List Value) (own : Bool) : List Blk := [.cells (rdC o sp len cap a bad) 3 true, .cells cs 1 own]
noncomputable def pR : Value := .pointer (some ⟨0,0,none⟩)

theorem w152 (o : Nat) (sp : Option Nat) (len cap : Nat) (a : Int) (bad : Bool) (cs : List Value) (own : Bool) (K : Value → Heap → Prop) :
  funX Try.prog S0 noLoop F152 body152 Try.f52 [0] [] [pR] (hp (hR o sp len cap a bad cs own)) K = (
Need (leI 0 (intV (Value.int IntKind.i64 a)))
  (Need (leI (intV (Value.int IntKind.i64 a)) (↑len : Int))
    (K
      (Value.slice
        (some
          { block := 1, off := o + (intV (Value.int IntKind.i64 a)).toNat * 1,
            spot := bif fullS sp then some 3 else sp : Addr })
        (len - (intV (Value.int IntKind.i64 a)).toNat) (cap - (intV (Value.int IntKind.i64 a)).toNat))
      (hp
        [Blk.cells
            [Value.slice (some { block := 1, off := o, spot := sp : Addr }) len cap, Value.int IntKind.i64 a,
              Value.bool bad]
            3 true,
          Blk.cells cs 1 own])))) := by kernel_rfl

theorem w153 (o : Nat) (sp : Option Nat) (len cap : Nat) (a : Int) (bad : Bool) (cs : List Value) (own : Bool) (n : Int) (ok : Bool) (K : Value → Heap → Prop) :
  funX Try.prog S0 noLoop F153 body153 Try.f53 [0] [] [pR, .int .i64 n, .bool ok] (hp (hR o sp len cap a bad cs own)) K = (
Alt (boolV (Value.bool bad))
  (K (Value.bool !boolV (Value.bool true))
    (hp
      [Blk.cells
          [Value.slice (some { block := 1, off := o, spot := sp : Addr }) len cap, Value.int IntKind.i64 a,
            Value.bool true]
          3 true,
        Blk.cells cs 1 own]))
  (Alt (!boolV (Value.bool !ok))
    (K (Value.bool !boolV (Value.bool !ok))
      (hp
        [Blk.cells
            [Value.slice (some { block := 1, off := o, spot := sp : Addr }) len cap,
              Value.int IntKind.i64 (wr IntKind.i64 (intV (Value.int IntKind.i64 a) + n)), Value.bool !ok]
            3 true,
          Blk.cells cs 1 own]))
    (K (Value.bool !boolV (Value.bool !ok))
      (hp
        [Blk.cells
            [Value.slice (some { block := 1, off := o, spot := sp : Addr }) len cap, Value.int IntKind.i64 a,
              Value.bool !ok]
            3 true,
          Blk.cells cs 1 own])))) := by kernel_rfl

noncomputable def rdCtr (ok : List Value → Prop) (g : List Int → Nat → Bool → List Value → Value × Nat × Bool) : CtrW where
  D := [0]
  W := [0]
  E := [0]
  pre := fun args blks => match args, blks with
    | .pointer (some ⟨0,0,none⟩) :: xs, [.cells [.slice (some ⟨1,o,_⟩) len cap, .int .i64 a, .bool _] 3 true, .cells cs 1 _] => IsBs cs o len cap ∧ Need (leI 0 a) (Need (leI a len) (ok xs))
    | _, _ => False
  val := fun args blks => match args, blks with
    | .pointer (some ⟨0,0,none⟩) :: xs, [.cells [.slice (some ⟨1,o,_⟩) len _, .int .i64 a, .bool bad] 3 true, .cells cs 1 _] => (g (bytesAt cs o len) a.toNat bad xs).1
    | _, _ => undef
  out := fun args blks => match args, blks with
    | .pointer (some ⟨0,0,none⟩) :: xs, [.cells [.slice (some ⟨1,o,sp⟩) len cap, .int .i64 a, .bool bad] 3 true, .cells cs 1 own] => [.cells [.slice (some ⟨1,o,sp⟩) len cap, .int .i64 ((g (bytesAt cs o len) a.toNat bad xs).2.1 : Nat), .bool (g (bytesAt cs o len) a.toNat bad xs).2.2] 3 true, .cells cs 1 own]
    | _, b => b
theorem rdCtr_of {ok : List Value → Prop} {g : List Int → Nat → Bool → List Value → Value × Nat × Bool} {f : FuncId}
    (h : ∀ (l : List Int) (cs : List Value) (own : Bool) (o : Nat) (sp : Option Nat) (cap a : Nat) (bad : Bool) (xs : List Value), l.length ≤ cap → BSl cs o l → a ≤ l.length → ok xs →
      FunSays Try.prog f (pR :: xs) (hp (hR o sp l.length cap a bad cs own)) fun v h' => v = (g l a bad xs).1 ∧ h' = hp (hR o sp l.length cap ((g l a bad xs).2.1 : Nat) (g l a bad xs).2.2 cs own)) : (rdCtr ok g).Holds Try.prog f := by
  intro args blks hf hp
  simp only [rdCtr] at hp ⊢
  split at hp
  · rename_i xs o sp len cap a bad cs own
    obtain ⟨⟨l, rfl, hc, hB⟩, hk⟩ := hp
    simp only [Alt_iff, Need_iff, ltI_eq, leI_eq, eqI_eq, leN_eq, eqN_eq, decide_eq_true_eq, decide_eq_false_iff_not, decide_true, decide_false, true_and, and_true, Bool.true_eq_false, Bool.false_eq_true, false_implies, true_implies, implies_true, not_true_eq_false, not_false_eq_true, Bool.not_eq_true', Bool.not_eq_false'] at hk
    obtain ⟨h0, h1, h2⟩ := hk
    obtain ⟨n, rfl⟩ := Int.eq_ofNat_of_zero_le h0
    simp only [hB.bytesAt, Int.toNat_natCast]
    exact ⟨⟨trivial, rfl, trivial⟩, ⟨rfl, trivial⟩, h l cs own o sp cap n bad xs hc hB (by omega) h2⟩
  · exact hp.elim
noncomputable def restC : CtrW where
  D := [0]
  W := []
  E := []
  pre := fun args blks => match args, blks with
    | [.pointer (some ⟨0,0,none⟩)], [.cells [.slice (some ⟨1,_,_⟩) len _, .int .i64 a, .bool _] 3 true, .cells _ 1 _] => Need (leI 0 a) (Need (leI a len) True)
    | _, _ => False
  val := fun args blks => match args, blks with
    | [.pointer (some ⟨0,0,none⟩)], [.cells [.slice (some ⟨1,o,sp⟩) len cap, .int .i64 a, .bool _] 3 true, .cells _ 1 _] => .slice (some ⟨1, o + a.toNat, cutS false sp⟩) (len - a.toNat) (cap - a.toNat)
    | _, _ => undef
  out := fun _ blks => blks
theorem hR_flat {o : Nat} {sp : Option Nat} {len cap : Nat} {a : Int} {bad : Bool} {cs : List Value} {own : Bool} (h : FlatL cs) : FlatD [0] (hp (hR o sp len cap a bad cs own)) := FlatD.hp ⟨rfl, h, trivial⟩
theorem rest_says (hmix : Try.prog.follows .mixedOrders = true) : restC.Holds Try.prog 52 := by
  intro args blks hf hp
  simp only [restC] at hp ⊢
  split at hp
  · rename_i o sp len cap a bad cs own
    simp only [Alt_iff, Need_iff, ltI_eq, leI_eq, eqI_eq, leN_eq, eqN_eq, decide_eq_true_eq, decide_eq_false_iff_not, decide_true, decide_false, true_and, and_true, Bool.true_eq_false, Bool.false_eq_true, false_implies, true_implies, implies_true, not_true_eq_false, not_false_eq_true, Bool.not_eq_true', Bool.not_eq_false'] at hp
    obtain ⟨_, hfl, _⟩ := hf
    refine ⟨⟨rfl, rfl, trivial⟩, trivial, ?_⟩
    refine (sure0 hmix).funX F152 body152 [0] [] Try.func52 rfl noLoops ?_
    have := w152 o sp len cap a bad cs own
    unfold hR rdC pR at this
    rw [this]
    simp only [hp.1, hp.2, Nat.mul_one, Alt_iff, Need_iff, ltI_eq, leI_eq, eqI_eq, leN_eq, eqN_eq, decide_eq_true_eq, decide_eq_false_iff_not, decide_true, decide_false, true_and, and_true, Bool.true_eq_false, Bool.false_eq_true, false_implies, true_implies, implies_true, not_true_eq_false, not_false_eq_true, Bool.not_eq_true', Bool.not_eq_false', Nat.zero_add, Nat.add_zero, Nat.sub_zero, Nat.zero_mul, Nat.mul_one, Int.toNat_natCast, List.drop_zero, beqV_int, beqV_sl, beqV_str, beqV_bool, beqV_ptr, beqV_flt, beqV_agg, beqV_tuple, List.all_cons, List.all_nil, Bool.and_self, Bool.and_true, Bool.true_and, Nat.le_refl, Int.le_refl, Nat.zero_le, Option.getD_some, isStr, strV, isInt, intV, isBool, boolV, kindEq, at0, isJunk, Option.isSome_some, Option.isSome_none, if_true, if_false, Nat.add_sub_cancel_left, Nat.add_sub_cancel]
    and_intros <;> first | exact FlatD.hp ⟨rfl, hfl, trivial⟩ | rfl
  · exact hp.elim
noncomputable def tookG (l : List Int) (a : Nat) (bad : Bool) (xs : List Value) : Value × Nat × Bool := match xs with
  | [.int .i64 n, .bool ok] => (.bool (!bad && ok), if (!bad && ok) = true then a + n.toNat else a, !(!bad && ok))
  | _ => (undef, a, bad)
noncomputable def tookOk (xs : List Value) : Prop := match xs with
  | [.int .i64 n, .bool _] => Need (leI 0 n) (Need (leI n 1000000000000) True)
  | _ => False
noncomputable def tookC : CtrW := rdCtr tookOk tookG
theorem took_says (hmix : Try.prog.follows .mixedOrders = true) : tookC.Holds Try.prog 53 := by
  refine rdCtr_of fun l cs own o sp cap a bad xs hc hB ha hk => ?_
  unfold tookOk at hk
  split at hk
  · rename_i n ok
    simp only [Alt_iff, Need_iff, ltI_eq, leI_eq, eqI_eq, leN_eq, eqN_eq, decide_eq_true_eq, decide_eq_false_iff_not, decide_true, decide_false, true_and, and_true, Bool.true_eq_false, Bool.false_eq_true, false_implies, true_implies, implies_true, not_true_eq_false, not_false_eq_true, Bool.not_eq_true', Bool.not_eq_false'] at hk
    have hs := hB.short
    obtain ⟨m, rfl⟩ := Int.eq_ofNat_of_zero_le hk.1
    have hw : wr .i64 ((a : Int) + (m : Int)) = ((a + m : Nat) : Int) := by rw [wr_i64 _ (by omega) (by omega)]; rfl
    refine (sure0 hmix).funX F153 body153 [0] [] Try.func53 rfl noLoops ?_
    rw [w153, show intV (Value.int IntKind.i64 (a : Int)) = (a : Int) from rfl, hw]
    cases bad <;> cases ok <;> exact ⟨hR_flat hB.flat, rfl, rfl, rfl⟩
  · exact hk.elim
theorem sb : SumsOk Try.prog (bookOf []).sums := bookOf_ok trivial
noncomputable def S46 : Book := bookW [(52, restC), (53, tookC)] (bookOf [(51, getC), (54, gettC)])
theorem sure46 (hmix : Try.prog.follows .mixedOrders = true) : Sure Try.prog S46 := ⟨hmix, plain, bookW_ok (l := [(52, restC), (53, tookC)]) (bookOf_ok (l := [(51, getC), (54, gettC)]) ⟨getC_holds hmix, gettC_holds hmix, trivial⟩) ⟨rest_says hmix, took_says hmix, trivial⟩⟩

theorem w138 (o : Nat) (sp : Option Nat) (len cap : Nat) (cs : List Value) (own : Bool) (K : Value → Heap → Prop) :
  funX Try.prog S46 noLoop F138 body138 Try.f38 [1] [] [.slice (some ⟨0,o,sp⟩) len cap] (hp [.cells cs 1 own]) K = (
K (Value.pointer (some { block := 1, off := 0 : Addr }))
  (hp
    [Blk.cells cs 1 own,
      Blk.cells
        [Value.slice (some { block := 0, off := o, spot := sp : Addr }) len cap, Value.int IntKind.i64 0,
          Value.bool false]
        3 true])) := by kernel_rfl

theorem w139 (o : Nat) (sp : Option Nat) (len cap : Nat) (a : Int) (bad : Bool) (cs : List Value) (own : Bool) (m : Int) (K : Value → Heap → Prop) :
  funX Try.prog S46 noLoop F139 body139 Try.f39 [0] [] [pR, .int .u64 m] (hp (hR o sp len cap a bad cs own)) K = (
(nojL
        [Value.slice (some { block := 1, off := o, spot := sp : Addr }) len cap, Value.int IntKind.i64 a,
          Value.bool bad] =
      true ∧
    FlatL cs ∧ True) ∧
  Need (leI 0 a) (Need (leI a (↑len : Int)) True) ∧
    (FlatL cs ∧ True) ∧
      IsBs cs (o + a.toNat) (len - a.toNat) (cap - a.toNat) ∧
        Alt (dec (bytesAt cs (o + a.toNat) (len - a.toNat))).isSome
          ((nojL
                  [Value.slice (some { block := 1, off := o, spot := sp : Addr }) len cap, Value.int IntKind.i64 a,
                    Value.bool bad] =
                true ∧
              FlatL cs ∧ True) ∧
            (IsBs cs o len cap ∧
                Need (leI 0 a)
                  (Need (leI a (↑len : Int))
                    (Need (leI (↑(gK (dec (bytesAt cs (o + a.toNat) (len - a.toNat)))) : Int) 1000000000000) True))) ∧
              Alt (!(!bad && leI (gN (dec (bytesAt cs (o + a.toNat) (len - a.toNat)))) m))
                (K (Value.int IntKind.u64 0)
                  (hp
                    [Blk.cells
                        [Value.slice (some { block := 1, off := o, spot := sp : Addr }) len cap,
                          Value.int IntKind.i64
                            (↑(tookG (bytesAt cs o len) a.toNat bad
                                      [Value.int IntKind.i64
                                          (↑(gK (dec (bytesAt cs (o + a.toNat) (len - a.toNat)))) : Int),
                                        Value.bool
                                          (leI (gN (dec (bytesAt cs (o + a.toNat) (len - a.toNat)))) m)]).snd.fst :
                              Int),
                          Value.bool
                            (tookG (bytesAt cs o len) a.toNat bad
                                  [Value.int IntKind.i64 (↑(gK (dec (bytesAt cs (o + a.toNat) (len - a.toNat)))) : Int),
                                    Value.bool (leI (gN (dec (bytesAt cs (o + a.toNat) (len - a.toNat)))) m)]).snd.snd]
                        3 true,
                      Blk.cells cs 1 own]))
                (K (Value.int IntKind.u64 (gN (dec (bytesAt cs (o + a.toNat) (len - a.toNat)))))
                  (hp
                    [Blk.cells
                        [Value.slice (some { block := 1, off := o, spot := sp : Addr }) len cap,
                          Value.int IntKind.i64
                            (↑(tookG (bytesAt cs o len) a.toNat bad
                                      [Value.int IntKind.i64
                                          (↑(gK (dec (bytesAt cs (o + a.toNat) (len - a.toNat)))) : Int),
                                        Value.bool
                                          (leI (gN (dec (bytesAt cs (o + a.toNat) (len - a.toNat)))) m)]).snd.fst :
                              Int),
                          Value.bool
                            (tookG (bytesAt cs o len) a.toNat bad
                                  [Value.int IntKind.i64 (↑(gK (dec (bytesAt cs (o + a.toNat) (len - a.toNat)))) : Int),
                                    Value.bool (leI (gN (dec (bytesAt cs (o + a.toNat) (len - a.toNat)))) m)]).snd.snd]
                        3 true,
                      Blk.cells cs 1 own])))
          ((nojL
                  [Value.slice (some { block := 1, off := o, spot := sp : Addr }) len cap, Value.int IntKind.i64 a,
                    Value.bool bad] =
                true ∧
              FlatL cs ∧ True) ∧
            (IsBs cs o len cap ∧
                Need (leI 0 a)
                  (Need (leI a (↑len : Int))
                    (Need (leI (↑(gK (dec (bytesAt cs (o + a.toNat) (len - a.toNat)))) : Int) 1000000000000) True))) ∧
              Alt (!(!bad && false))
                (K (Value.int IntKind.u64 0)
                  (hp
                    [Blk.cells
                        [Value.slice (some { block := 1, off := o, spot := sp : Addr }) len cap,
                          Value.int IntKind.i64
                            (↑(tookG (bytesAt cs o len) a.toNat bad
                                      [Value.int IntKind.i64
                                          (↑(gK (dec (bytesAt cs (o + a.toNat) (len - a.toNat)))) : Int),
                                        Value.bool false]).snd.fst :
                              Int),
                          Value.bool
                            (tookG (bytesAt cs o len) a.toNat bad
                                  [Value.int IntKind.i64 (↑(gK (dec (bytesAt cs (o + a.toNat) (len - a.toNat)))) : Int),
                                    Value.bool false]).snd.snd]
                        3 true,
                      Blk.cells cs 1 own]))
                (K (Value.int IntKind.u64 (gN (dec (bytesAt cs (o + a.toNat) (len - a.toNat)))))
                  (hp
                    [Blk.cells
                        [Value.slice (some { block := 1, off := o, spot := sp : Addr }) len cap,
                          Value.int IntKind.i64
                            (↑(tookG (bytesAt cs o len) a.toNat bad
                                      [Value.int IntKind.i64
                                          (↑(gK (dec (bytesAt cs (o + a.toNat) (len - a.toNat)))) : Int),
                                        Value.bool false]).snd.fst :
                              Int),
                          Value.bool
                            (tookG (bytesAt cs o len) a.toNat bad
                                  [Value.int IntKind.i64 (↑(gK (dec (bytesAt cs (o + a.toNat) (len - a.toNat)))) : Int),
                                    Value.bool false]).snd.snd]
                        3 true,
                      Blk.cells cs 1 own])))) := by kernel_rfl

theorem w140 (o : Nat) (sp : Option Nat) (len cap : Nat) (a : Int) (bad : Bool) (cs : List Value) (own : Bool) (m : Int) (K : Value → Heap → Prop) :
  funX Try.prog S46 noLoop F140 body140 Try.f40 [0] [] [pR, .int .i64 m] (hp (hR o sp len cap a bad cs own)) K = (
(nojL
        [Value.slice (some { block := 1, off := o, spot := sp : Addr }) len cap, Value.int IntKind.i64 a,
          Value.bool bad] =
      true ∧
    FlatL cs ∧ True) ∧
  Need (leI 0 a) (Need (leI a (↑len : Int)) True) ∧
    (FlatL cs ∧ True) ∧
      (IsBs cs (o + a.toNat) (len - a.toNat) (cap - a.toNat) ∧ Need (leI m 9223372036854775807) True) ∧
        (nojL
                [Value.slice (some { block := 1, off := o, spot := sp : Addr }) len cap, Value.int IntKind.i64 a,
                  Value.bool bad] =
              true ∧
            FlatL cs ∧ True) ∧
          (IsBs cs o len cap ∧
              Need (leI 0 a)
                (Need (leI a (↑len : Int))
                  (Need (leI (↑(gE (getT (bytesAt cs (o + a.toNat) (len - a.toNat)) m)) : Int) 1000000000000) True))) ∧
            Alt (!(!bad && (getT (bytesAt cs (o + a.toNat) (len - a.toNat)) m).isSome))
              (K (Value.string { data := #[] : ByteArray })
                (hp
                  [Blk.cells
                      [Value.slice (some { block := 1, off := o, spot := sp : Addr }) len cap,
                        Value.int IntKind.i64
                          (↑(tookG (bytesAt cs o len) a.toNat bad
                                    [Value.int IntKind.i64
                                        (↑(gE (getT (bytesAt cs (o + a.toNat) (len - a.toNat)) m)) : Int),
                                      Value.bool (getT (bytesAt cs (o + a.toNat) (len - a.toNat)) m).isSome]).snd.fst :
                            Int),
                        Value.bool
                          (tookG (bytesAt cs o len) a.toNat bad
                                [Value.int IntKind.i64
                                    (↑(gE (getT (bytesAt cs (o + a.toNat) (len - a.toNat)) m)) : Int),
                                  Value.bool (getT (bytesAt cs (o + a.toNat) (len - a.toNat)) m).isSome]).snd.snd]
                      3 true,
                    Blk.cells cs 1 own]))
              (K (Value.string (ofB (gS (getT (bytesAt cs (o + a.toNat) (len - a.toNat)) m))))
                (hp
                  [Blk.cells
                      [Value.slice (some { block := 1, off := o, spot := sp : Addr }) len cap,
                        Value.int IntKind.i64
                          (↑(tookG (bytesAt cs o len) a.toNat bad
                                    [Value.int IntKind.i64
                                        (↑(gE (getT (bytesAt cs (o + a.toNat) (len - a.toNat)) m)) : Int),
                                      Value.bool (getT (bytesAt cs (o + a.toNat) (len - a.toNat)) m).isSome]).snd.fst :
                            Int),
                        Value.bool
                          (tookG (bytesAt cs o len) a.toNat bad
                                [Value.int IntKind.i64
                                    (↑(gE (getT (bytesAt cs (o + a.toNat) (len - a.toNat)) m)) : Int),
                                  Value.bool (getT (bytesAt cs (o + a.toNat) (len - a.toNat)) m).isSome]).snd.snd]
                      3 true,
                    Blk.cells cs 1 own]))) := by kernel_rfl

theorem w141 (o : Nat) (sp : Option Nat) (len cap : Nat) (a : Int) (bad : Bool) (cs : List Value) (own : Bool) (ok : Bool) (K : Value → Heap → Prop) :
  funX Try.prog S46 noLoop F141 body141 Try.f41 [0] [] [pR, .bool ok] (hp (hR o sp len cap a bad cs own)) K = (
(nojL
        [Value.slice (some { block := 1, off := o, spot := sp : Addr }) len cap, Value.int IntKind.i64 a,
          Value.bool bad] =
      true ∧
    FlatL cs ∧ True) ∧
  (IsBs cs o len cap ∧ Need (leI 0 a) (Need (leI a (↑len : Int)) True)) ∧
    K undef
      (hp
        [Blk.cells
            [Value.slice (some { block := 1, off := o, spot := sp : Addr }) len cap,
              Value.int IntKind.i64
                (↑(tookG (bytesAt cs o len) a.toNat bad [Value.int IntKind.i64 0, Value.bool ok]).snd.fst : Int),
              Value.bool (tookG (bytesAt cs o len) a.toNat bad [Value.int IntKind.i64 0, Value.bool ok]).snd.snd]
            3 true,
          Blk.cells cs 1 own])) := by kernel_rfl

theorem w142 (o : Nat) (sp : Option Nat) (len cap : Nat) (a : Int) (bad : Bool) (cs : List Value) (own : Bool) (K : Value → Heap → Prop) :
  funX Try.prog S46 noLoop F142 body142 Try.f42 [0] [] [pR] (hp (hR o sp len cap a bad cs own)) K = (
Alt (boolV (Value.bool bad))
  (K (Value.tuple #[Value.int IntKind.i64 0, Value.bool false])
    (hp
      [Blk.cells
          [Value.slice (some { block := 1, off := o, spot := sp : Addr }) len cap, Value.int IntKind.i64 a,
            Value.bool bad]
          3 true,
        Blk.cells cs 1 own]))
  (K (Value.tuple #[Value.int IntKind.i64 (intV (Value.int IntKind.i64 a)), Value.bool true])
    (hp
      [Blk.cells
          [Value.slice (some { block := 1, off := o, spot := sp : Addr }) len cap, Value.int IntKind.i64 a,
            Value.bool bad]
          3 true,
        Blk.cells cs 1 own]))) := by kernel_rfl

theorem BSl.drop {cs : List Value} {o : Nat} {l : List Int} (h : BSl cs o l) (a : Nat) (ha : a ≤ l.length) : BSl cs (o + a) (l.drop a) ∧ Go.Proofs.Ytdpfmaimhimfcaa.bytesAt cs (o + a) (l.length - a) = l.drop a := by
  have hb : BSl cs (o + a) (l.drop a) := ⟨fun x hx => h.ok x (List.mem_of_mem_drop hx), fun j c hj => by
    rw [List.getElem?_drop] at hj
    rw [Nat.add_assoc]; exact h.cell (a + j) c hj, by have := h.short; simp; omega, h.flat⟩
  refine ⟨hb, ?_⟩
  have := hb.bytesAt
  rw [List.length_drop] at this
  exact this
def numF (l : List Int) (a : Nat) (bad : Bool) (m : Int) : Int × Nat × Bool := match dec (l.drop a) with
  | some (n, k) => if (!bad && leI n m) = true then (n, a + k, false) else (0, a, true)
  | none => (0, a, true)
def textF (l : List Int) (a : Nat) (bad : Bool) (m : Int) : ByteArray × Nat × Bool := match getT (l.drop a) m with
  | some (s, k) => if bad = false then (ofB s, a + k, false) else (⟨#[]⟩, a, true)
  | none => (⟨#[]⟩, a, true)
noncomputable def numG (l : List Int) (a : Nat) (bad : Bool) (xs : List Value) : Value × Nat × Bool := match xs with
  | [.int .u64 m] => (.int .u64 (numF l a bad m).1, (numF l a bad m).2)
  | _ => (undef, a, bad)
noncomputable def numOk (xs : List Value) : Prop := match xs with
  | [.int .u64 _] => True
  | _ => False
noncomputable def textG (l : List Int) (a : Nat) (bad : Bool) (xs : List Value) : Value × Nat × Bool := match xs with
  | [.int .i64 m] => (.string (textF l a bad m).1, (textF l a bad m).2)
  | _ => (undef, a, bad)
noncomputable def textOk (xs : List Value) : Prop := match xs with
  | [.int .i64 m] => Need (leI m 1000000) True
  | _ => False
noncomputable def refG (l : List Int) (a : Nat) (bad : Bool) (xs : List Value) : Value × Nat × Bool := match xs with
  | [.bool ok] => (undef, a, !(!bad && ok))
  | _ => (undef, a, bad)
noncomputable def refOk (xs : List Value) : Prop := match xs with
  | [.bool _] => True
  | _ => False
noncomputable def endG (l : List Int) (a : Nat) (bad : Bool) (xs : List Value) : Value × Nat × Bool := (.tuple #[.int .i64 (cond bad 0 (a : Int)), .bool (!bad)], a, bad)
noncomputable def numC : CtrW := rdCtr numOk numG
noncomputable def textC : CtrW := rdCtr textOk textG
noncomputable def refC : CtrW := rdCtr refOk refG
noncomputable def endC : CtrW := rdCtr (fun xs => match xs with | [] => True | _ => False) endG
theorem num_says (hmix : Try.prog.follows .mixedOrders = true) : numC.Holds Try.prog 39 := by
  refine rdCtr_of fun l cs own o sp cap a bad xs hc hB ha hk => ?_
  unfold numOk at hk
  split at hk
  · rename_i m
    obtain ⟨hD, hat⟩ := hB.drop a ha
    have hil : IsBs cs o l.length cap := ⟨l, rfl, hc, hB⟩
    have hid : IsBs cs (o + a) (l.length - a) (cap - a) := ⟨l.drop a, by simp, by omega, hD⟩
    have hfl := hB.flat
    have hsh := hB.short
    refine (sure46 hmix).funX F139 body139 [0] [] Try.func39 rfl noLoops ?_
    rw [w139]
    simp only [Int.toNat_natCast, hat, hB.bytesAt, hil, hid, hfl, show nojL [Value.slice (some { block := 1, off := o, spot := sp }) l.length cap, Value.int IntKind.i64 (a : Int), Value.bool bad] = true from rfl, show (0 : Int) ≤ (a : Int) by omega, show (a : Int) ≤ (l.length : Int) by omega, Alt_iff, Need_iff, ltI_eq, leI_eq, eqI_eq, leN_eq, eqN_eq, decide_eq_true_eq, decide_eq_false_iff_not, decide_true, decide_false, true_and, and_true, Bool.true_eq_false, Bool.false_eq_true, false_implies, true_implies, implies_true, not_true_eq_false, not_false_eq_true, Bool.not_eq_true', Bool.not_eq_false', Nat.zero_add, Nat.add_zero, Nat.sub_zero, Nat.zero_mul, Nat.mul_one, Int.toNat_natCast, List.drop_zero, beqV_int, beqV_sl, beqV_str, beqV_bool, beqV_ptr, beqV_flt, beqV_agg, beqV_tuple, List.all_cons, List.all_nil, Bool.and_self, Bool.and_true, Bool.true_and, Nat.le_refl, Int.le_refl, Nat.zero_le, Option.getD_some, isStr, strV, isInt, intV, isBool, boolV, kindEq, at0, isJunk, Option.isSome_some, Option.isSome_none, if_true, if_false, Nat.add_sub_cancel_left, Nat.add_sub_cancel]
    cases hd : dec (l.drop a) with
    | none =>
      have e : numF l a bad m = (0, a, true) := by unfold numF; rw [hd]
      simp only [gN, gK, Option.isSome_none, numG, e, Alt_iff, Need_iff, ltI_eq, leI_eq, eqI_eq, leN_eq, eqN_eq, decide_eq_true_eq, decide_eq_false_iff_not, decide_true, decide_false, true_and, and_true, Bool.true_eq_false, Bool.false_eq_true, false_implies, true_implies, implies_true, not_true_eq_false, not_false_eq_true, Bool.not_eq_true', Bool.not_eq_false', Nat.zero_add, Nat.add_zero, Nat.sub_zero, Nat.zero_mul, Nat.mul_one, Int.toNat_natCast, List.drop_zero, beqV_int, beqV_sl, beqV_str, beqV_bool, beqV_ptr, beqV_flt, beqV_agg, beqV_tuple, List.all_cons, List.all_nil, Bool.and_self, Bool.and_true, Bool.true_and, Nat.le_refl, Int.le_refl, Nat.zero_le, Option.getD_some, isStr, strV, isInt, intV, isBool, boolV, kindEq, at0, isJunk, Option.isSome_some, Option.isSome_none, if_true, if_false, Nat.add_sub_cancel_left, Nat.add_sub_cancel]
      refine ⟨by omega, fun _ => ⟨hR_flat hfl, ?_⟩, fun h => ?_⟩
      · cases bad <;> first | rfl | exact ⟨rfl, rfl⟩
      · cases bad <;> cases h
    | some r =>
      obtain ⟨n, k⟩ := r
      obtain ⟨q0, q1, q2, q3, q4, q5, q6⟩ := decL_facts (l.drop a) 0 n k hD.ok (by omega) hd
      rw [List.length_drop] at q3
      have e : numF l a bad m = if (!bad && leI n m) = true then (n, a + k, false) else (0, a, true) := by unfold numF; rw [hd]
      rw [leI_eq] at e
      have hk1 : (k : Int) ≤ 1000000000000 := by omega
      by_cases hnm : n ≤ m <;> cases bad <;> simp only [gN, gK, Option.isSome_some, numG, e, hnm, hk1, tookG, hR, rdC, Bool.not_true, Bool.not_false, Bool.and_false, Bool.false_and, if_true, if_false, Alt_iff, Need_iff, ltI_eq, leI_eq, eqI_eq, leN_eq, eqN_eq, decide_eq_true_eq, decide_eq_false_iff_not, decide_true, decide_false, true_and, and_true, Bool.true_eq_false, Bool.false_eq_true, false_implies, true_implies, implies_true, not_true_eq_false, not_false_eq_true, Bool.not_eq_true', Bool.not_eq_false', Nat.zero_add, Nat.add_zero, Nat.sub_zero, Nat.zero_mul, Nat.mul_one, Int.toNat_natCast, List.drop_zero, beqV_int, beqV_sl, beqV_str, beqV_bool, beqV_ptr, beqV_flt, beqV_agg, beqV_tuple, List.all_cons, List.all_nil, Bool.and_self, Bool.and_true, Bool.true_and, Nat.le_refl, Int.le_refl, Nat.zero_le, Option.getD_some, isStr, strV, isInt, intV, isBool, boolV, kindEq, at0, isJunk, Option.isSome_some, Option.isSome_none, if_true, if_false, Nat.add_sub_cancel_left, Nat.add_sub_cancel]
      all_goals first | exact ⟨hR_flat hfl, rfl, rfl⟩ | exact hR_flat hfl | exact ⟨hR_flat hfl, rfl⟩
  · exact hk.elim
theorem text_says (hmix : Try.prog.follows .mixedOrders = true) : textC.Holds Try.prog 40 := by
  refine rdCtr_of fun l cs own o sp cap a bad xs hc hB ha hk => ?_
  unfold textOk at hk
  split at hk
  · rename_i m
    simp only [Alt_iff, Need_iff, ltI_eq, leI_eq, eqI_eq, leN_eq, eqN_eq, decide_eq_true_eq, decide_eq_false_iff_not, decide_true, decide_false, true_and, and_true, Bool.true_eq_false, Bool.false_eq_true, false_implies, true_implies, implies_true, not_true_eq_false, not_false_eq_true, Bool.not_eq_true', Bool.not_eq_false'] at hk
    obtain ⟨hD, hat⟩ := hB.drop a ha
    have hil : IsBs cs o l.length cap := ⟨l, rfl, hc, hB⟩
    have hid : IsBs cs (o + a) (l.length - a) (cap - a) := ⟨l.drop a, by simp, by omega, hD⟩
    have hfl := hB.flat
    have hsh := hB.short
    refine (sure46 hmix).funX F140 body140 [0] [] Try.func40 rfl noLoops ?_
    rw [w140]
    simp only [Int.toNat_natCast, hat, hB.bytesAt, hil, hid, hfl, show nojL [Value.slice (some { block := 1, off := o, spot := sp }) l.length cap, Value.int IntKind.i64 (a : Int), Value.bool bad] = true from rfl, show (0 : Int) ≤ (a : Int) by omega, show (a : Int) ≤ (l.length : Int) by omega, show m ≤ 9223372036854775807 by omega, Alt_iff, Need_iff, ltI_eq, leI_eq, eqI_eq, leN_eq, eqN_eq, decide_eq_true_eq, decide_eq_false_iff_not, decide_true, decide_false, true_and, and_true, Bool.true_eq_false, Bool.false_eq_true, false_implies, true_implies, implies_true, not_true_eq_false, not_false_eq_true, Bool.not_eq_true', Bool.not_eq_false', Nat.zero_add, Nat.add_zero, Nat.sub_zero, Nat.zero_mul, Nat.mul_one, Int.toNat_natCast, List.drop_zero, beqV_int, beqV_sl, beqV_str, beqV_bool, beqV_ptr, beqV_flt, beqV_agg, beqV_tuple, List.all_cons, List.all_nil, Bool.and_self, Bool.and_true, Bool.true_and, Nat.le_refl, Int.le_refl, Nat.zero_le, Option.getD_some, isStr, strV, isInt, intV, isBool, boolV, kindEq, at0, isJunk, Option.isSome_some, Option.isSome_none, if_true, if_false, Nat.add_sub_cancel_left, Nat.add_sub_cancel]
    cases hd : getT (l.drop a) m with
    | none =>
      have e : textF l a bad m = (⟨#[]⟩, a, true) := by unfold textF; rw [hd]
      simp only [gS, gE, Option.isSome_none, textG, e, Alt_iff, Need_iff, ltI_eq, leI_eq, eqI_eq, leN_eq, eqN_eq, decide_eq_true_eq, decide_eq_false_iff_not, decide_true, decide_false, true_and, and_true, Bool.true_eq_false, Bool.false_eq_true, false_implies, true_implies, implies_true, not_true_eq_false, not_false_eq_true, Bool.not_eq_true', Bool.not_eq_false', Nat.zero_add, Nat.add_zero, Nat.sub_zero, Nat.zero_mul, Nat.mul_one, Int.toNat_natCast, List.drop_zero, beqV_int, beqV_sl, beqV_str, beqV_bool, beqV_ptr, beqV_flt, beqV_agg, beqV_tuple, List.all_cons, List.all_nil, Bool.and_self, Bool.and_true, Bool.true_and, Nat.le_refl, Int.le_refl, Nat.zero_le, Option.getD_some, isStr, strV, isInt, intV, isBool, boolV, kindEq, at0, isJunk, Option.isSome_some, Option.isSome_none, if_true, if_false, Nat.add_sub_cancel_left, Nat.add_sub_cancel]
      refine ⟨by omega, fun _ => ⟨hR_flat hfl, ?_⟩, fun h => ?_⟩
      · cases bad <;> first | rfl | exact ⟨rfl, rfl⟩
      · cases bad <;> cases h
    | some r =>
      obtain ⟨n, k⟩ := r
      have hk2 : k ≤ l.length - a := by
        unfold getT at hd
        cases hdd : dec (l.drop a) with
        | none => rw [hdd] at hd; cases hd
        | some q =>
          obtain ⟨n2, k2⟩ := q
          obtain ⟨q0, q1, q2, q3, q4, q5, q6⟩ := decL_facts (l.drop a) 0 n2 k2 hD.ok (by omega) hdd
          rw [List.length_drop] at q3
          rw [hdd] at hd
          simp only at hd
          split at hd
          · cases hd
          · rename_i hn
            simp only [Option.some.injEq, Prod.mk.injEq] at hd
            rw [List.length_drop] at hn
            omega
      have e : textF l a bad m = if bad = false then (ofB n, a + k, false) else (⟨#[]⟩, a, true) := by unfold textF; rw [hd]
      simp only [gS, gE, Option.isSome_some, textG, e, Alt_iff, Need_iff, ltI_eq, leI_eq, eqI_eq, leN_eq, eqN_eq, decide_eq_true_eq, decide_eq_false_iff_not, decide_true, decide_false, true_and, and_true, Bool.true_eq_false, Bool.false_eq_true, false_implies, true_implies, implies_true, not_true_eq_false, not_false_eq_true, Bool.not_eq_true', Bool.not_eq_false', Nat.zero_add, Nat.add_zero, Nat.sub_zero, Nat.zero_mul, Nat.mul_one, Int.toNat_natCast, List.drop_zero, beqV_int, beqV_sl, beqV_str, beqV_bool, beqV_ptr, beqV_flt, beqV_agg, beqV_tuple, List.all_cons, List.all_nil, Bool.and_self, Bool.and_true, Bool.true_and, Nat.le_refl, Int.le_refl, Nat.zero_le, Option.getD_some, isStr, strV, isInt, intV, isBool, boolV, kindEq, at0, isJunk, Option.isSome_some, Option.isSome_none, if_true, if_false, Nat.add_sub_cancel_left, Nat.add_sub_cancel]
      cases bad with
      | true =>
        refine ⟨by omega, fun h => ?_, fun h => ?_⟩ <;> first | (cases h; done) | exact ⟨hR_flat hfl, rfl, rfl⟩ | exact ⟨hR_flat hfl, rfl⟩
      | false =>
        refine ⟨by omega, fun h => ?_, fun h => ?_⟩ <;> first | (cases h; done) | exact ⟨hR_flat hfl, rfl, rfl⟩ | exact ⟨hR_flat hfl, rfl⟩
  · exact hk.elim
theorem ref_says (hmix : Try.prog.follows .mixedOrders = true) : refC.Holds Try.prog 41 := by
  refine rdCtr_of fun l cs own o sp cap a bad xs hc hB ha hk => ?_
  unfold refOk at hk
  split at hk
  · rename_i ok
    have hil : IsBs cs o l.length cap := ⟨l, rfl, hc, hB⟩
    have hfl := hB.flat
    refine (sure46 hmix).funX F141 body141 [0] [] Try.func41 rfl noLoops ?_
    rw [w141]
    simp only [Int.toNat_natCast, hB.bytesAt, hil, hfl, show nojL [Value.slice (some { block := 1, off := o, spot := sp }) l.length cap, Value.int IntKind.i64 (a : Int), Value.bool bad] = true from rfl, show (0 : Int) ≤ (a : Int) by omega, show (a : Int) ≤ (l.length : Int) by omega, Alt_iff, Need_iff, ltI_eq, leI_eq, eqI_eq, leN_eq, eqN_eq, decide_eq_true_eq, decide_eq_false_iff_not, decide_true, decide_false, true_and, and_true, Bool.true_eq_false, Bool.false_eq_true, false_implies, true_implies, implies_true, not_true_eq_false, not_false_eq_true, Bool.not_eq_true', Bool.not_eq_false', Nat.zero_add, Nat.add_zero, Nat.sub_zero, Nat.zero_mul, Nat.mul_one, Int.toNat_natCast, List.drop_zero, beqV_int, beqV_sl, beqV_str, beqV_bool, beqV_ptr, beqV_flt, beqV_agg, beqV_tuple, List.all_cons, List.all_nil, Bool.and_self, Bool.and_true, Bool.true_and, Nat.le_refl, Int.le_refl, Nat.zero_le, Option.getD_some, isStr, strV, isInt, intV, isBool, boolV, kindEq, at0, isJunk, Option.isSome_some, Option.isSome_none, if_true, if_false, Nat.add_sub_cancel_left, Nat.add_sub_cancel]
    cases bad <;> cases ok <;> exact ⟨hR_flat hfl, rfl, rfl, rfl⟩
  · exact hk.elim
theorem end_says (hmix : Try.prog.follows .mixedOrders = true) : endC.Holds Try.prog 42 := by
  refine rdCtr_of fun l cs own o sp cap a bad xs hc hB ha hk => ?_
  split at hk
  · have hfl := hB.flat
    refine (sure46 hmix).funX F142 body142 [0] [] Try.func42 rfl noLoops ?_
    rw [w142]
    cases bad <;> exact ⟨hR_flat hfl, rfl, rfl, rfl⟩
  · exact hk.elim
noncomputable def newC : CtrW where
  D := []
  W := []
  E := [1]
  pre := fun args blks => match args, blks with
    | [.slice (some ⟨0,_,_⟩) _ _], [.cells _ 1 _] => True
    | _, _ => False
  val := fun _ _ => .pointer (some ⟨1,0,none⟩)
  out := fun args blks => match args, blks with
    | [.slice (some ⟨0,o,sp⟩) len cap], [.cells cs 1 own] => [.cells cs 1 own, .cells [.slice (some ⟨0,o,sp⟩) len cap, .int .i64 0, .bool false] 3 true]
    | _, b => b
theorem new_says (hmix : Try.prog.follows .mixedOrders = true) : newC.Holds Try.prog 38 := by
  intro args blks hf hp
  simp only [newC] at hp ⊢
  split at hp
  · rename_i o sp len cap cs own
    obtain ⟨hfl, _⟩ := hf
    refine ⟨⟨rfl, trivial⟩, ⟨rfl, trivial⟩, ?_⟩
    refine (sure46 hmix).funX F138 body138 [1] [] Try.func38 rfl noLoops ?_
    rw [w138]
    exact ⟨FlatD.hp ⟨hfl, rfl, trivial⟩, rfl, rfl, rfl⟩
  · exact hp.elim
end Go.Proofs.Ytdpfmaimhimfcaa

namespace Go.Proofs.Ytdpfmaimhimfcaa
open Go.RowKit Go.Proofs.Ytdpfmaimhimfcaa.AM
set_option maxRecDepth 100000
set_option maxHeartbeats 4000000
noncomputable def body123 : Code := (Try.f23.body).getD .skip
def F123 : List Nat → Option (List Nat) := fun p => match p with
  | [1] => some [0]
  | [1, 1] => some [5]
  | [1, 1, 1] => some [5, 6]
  | [1, 0, 1, 1, 1] => some [5, 6, 12, 13]
  | [1, 0, 0, 1, 0, 1, 1, 1] => some [5, 6, 12, 13, 14]
  | [1, 0, 1, 0, 0, 1, 0, 1, 1, 1] => some [5, 6]
  | [1, 1, 0, 0, 1, 0, 1, 1, 1] => some [5, 6, 12, 13]
  | [1, 1, 1, 0, 0, 1, 0, 1, 1, 1] => some [5, 6, 12, 13]
  | [1, 1, 1, 1] => some [5, 6]
  | [1, 1, 1, 1, 1] => some [5, 6]
  | [1, 1, 1, 1, 1, 1] => some [6, 7, 8]
  | [1, 0, 1, 1, 1, 1, 1, 1] => some [6, 7, 34]
  | [1, 0, 1, 0, 1, 1, 1, 1, 1, 1] => some [2, 3, 4]
  | [1, 1, 1, 1, 1, 1, 1] => some [6, 7]
  | [1, 1, 1, 1, 1, 1, 1, 1] => some [2, 3, 4]
  | _ => none
noncomputable def body124 : Code := (Try.f24.body).getD .skip
def F124 : List Nat → Option (List Nat) := fun p => match p with
  | [1] => some [0]
  | [1, 1] => some [0, 5, 6, 7]
  | [1, 0, 1, 1] => some [0, 5, 6, 27]
  | [1, 0, 1, 0, 1, 1] => some [2, 3, 4]
  | [1, 1, 1] => some [0, 5, 6]
  | [1, 1, 1, 1] => some [0, 5, 6, 8]
  | [1, 0, 1, 1, 1, 1] => some [0, 5, 6, 8, 9]
  | [1, 0, 0, 0, 1, 0, 1, 1, 1, 1] => some [0, 5, 6, 8, 9, 31]
  | [1, 1, 0, 0, 0, 1, 0, 1, 1, 1, 1] => some [6, 8]
  | [1, 0, 0, 1, 0, 1, 1, 1, 1] => some [0, 5, 6, 8, 9]
  | [1, 0, 0, 1, 0, 0, 1, 0, 1, 1, 1, 1] => some [0, 5, 6, 8, 9, 10, 11, 12]
  | [1, 0, 1, 0, 0, 1, 0, 0, 1, 0, 1, 1, 1, 1] => some [0, 5, 6, 8, 9, 10, 11, 43]
  | [1, 0, 1, 0, 1, 0, 0, 1, 0, 0, 1, 0, 1, 1, 1, 1] => some [2, 3, 4]
  | [1, 1, 0, 0, 1, 0, 0, 1, 0, 1, 1, 1, 1] => some [0, 5, 6, 8, 9, 10, 11]
  | [1, 1, 1, 0, 0, 1, 0, 0, 1, 0, 1, 1, 1, 1] => some [0, 5, 6, 8, 9, 10]
  | [1, 1, 1, 1, 0, 0, 1, 0, 0, 1, 0, 1, 1, 1, 1] => some [0, 5, 6, 8, 9, 10, 13, 14, 15]
  | [1, 0, 1, 1, 1, 1, 0, 0, 1, 0, 0, 1, 0, 1, 1, 1, 1] => some [0, 5, 6, 8, 9, 10, 13, 14, 56]
  | [1, 0, 1, 0, 1, 1, 1, 1, 0, 0, 1, 0, 0, 1, 0, 1, 1, 1, 1] => some [2, 3, 4]
  | [1, 1, 1, 1, 1, 0, 0, 1, 0, 0, 1, 0, 1, 1, 1, 1] => some [0, 5, 6, 8, 9, 10, 13, 14]
  | [1, 1, 1, 1, 1, 1, 0, 0, 1, 0, 0, 1, 0, 1, 1, 1, 1] => some [0, 5, 6, 8, 9, 10, 13]
  | [1, 1, 0, 0, 1, 0, 1, 1, 1, 1] => some [0, 5, 6, 8, 9]
  | [1, 1, 1, 1, 1] => some [6, 8]
  | [1, 0, 1, 1, 1, 1, 1] => some [6, 8, 68]
  | [1, 0, 1, 0, 1, 1, 1, 1, 1] => some [2, 3, 4]
  | [1, 1, 1, 1, 1, 1] => some [6, 8]
  | [1, 1, 1, 1, 1, 1, 1] => some [2, 3, 4]
  | _ => none
noncomputable def S47 : Book := bookW [(38, newC), (39, numC), (40, textC), (41, refC), (42, endC)] (bookOf [(43, getC), (44, gettC), (11, isSetC), (18, isSetC)])
theorem sure47 (hmix : Try.prog.follows .mixedOrders = true) : Sure Try.prog S47 := ⟨hmix, plain, bookW_ok (l := [(38, newC), (39, numC), (40, textC), (41, refC), (42, endC)]) (bookOf_ok (l := [(43, getC), (44, gettC), (11, isSetC), (18, isSetC)]) ⟨rgetC_holds hmix, rgettC_holds hmix, is_says hmix, isset_says hmix, trivial⟩) ⟨new_says hmix, num_says hmix, text_says hmix, ref_says hmix, end_says hmix, trivial⟩⟩
noncomputable def T123 (x : Nat) (n i : Int) : List Value := tmps 37 [(5, .pointer (some ⟨1,0,none⟩)), (6, sl1 2 x), (12, .int .u64 n), (13, .int .u64 i)]
noncomputable def H123 (o : Nat) (sp : Option Nat) (len cap : Nat) (a : Int) (bad : Bool) (cs : List Value) (own : Bool) (cl : List Value) : Heap := hp [.cells cs 1 own, .cells [.slice (some ⟨0,o,sp⟩) len cap, .int .i64 a, .bool bad] 3 true, .cells cl 2 true]

theorem r123 (o : Nat) (sp : Option Nat) (len cap : Nat) (a : Int) (bad : Bool) (cs : List Value) (own : Bool) (cl : List Value) (x : Nat) (n i : Int) (K : Post) :
  roundX Try.prog S47 noLoop F123 body123 1 [1] [] [1] [] [5,6,12,13] [0,0,1,0,1,1,1] (T123 x n i) (H123 o sp len cap a bad cs own cl) K = (
Alt (ltI i n)
  ((nojL
          [Value.slice (some { block := 1, off := o, spot := sp : Addr }) len cap, Value.int IntKind.i64 a,
            Value.bool bad] =
        true ∧
      FlatL cs ∧ True) ∧
    (IsBs cs o len cap ∧ Need (leI 0 a) (Need (leI a (↑len : Int)) True)) ∧
      (nojL
              [Value.slice (some { block := 1, off := o, spot := sp : Addr }) len cap,
                Value.int IntKind.i64
                  (↑(textG (bytesAt cs o len) a.toNat bad [Value.int IntKind.i64 12]).snd.fst : Int),
                Value.bool (textG (bytesAt cs o len) a.toNat bad [Value.int IntKind.i64 12]).snd.snd] =
            true ∧
          FlatL cs ∧ True) ∧
        (IsBs cs o len cap ∧
            Need (leI (↑(textG (bytesAt cs o len) a.toNat bad [Value.int IntKind.i64 12]).snd.fst : Int) (↑len : Int))
              True) ∧
          Need (leN (0 + x * 2) cl.length)
            (Need (leN ((x + 1) * 32) 1099511627776)
              (Need (leN (x + 1) 1099511627776)
                (K AE.normal
                  (tmps 37
                    [(5, Value.pointer (some { block := 1, off := 0 : Addr })),
                      (6, Value.slice (some { block := 2, off := 0, spot := some 1 : Addr }) (x + 1) (x + 1)),
                      (12, Value.int IntKind.u64 n), (13, Value.int IntKind.u64 (wr IntKind.u64 (i + 1)))])
                  (hp
                    [Blk.cells cs 1 own,
                      Blk.cells
                        [Value.slice (some { block := 0, off := o, spot := sp : Addr }) len cap,
                          Value.int IntKind.i64
                            (↑(textG (bytesAt cs o len)
                                      (↑(textG (bytesAt cs o len) a.toNat bad [Value.int IntKind.i64 12]).snd.fst :
                                          Int).toNat
                                      (textG (bytesAt cs o len) a.toNat bad [Value.int IntKind.i64 12]).snd.snd
                                      [Value.int IntKind.i64 24]).snd.fst :
                              Int),
                          Value.bool
                            (textG (bytesAt cs o len)
                                  (↑(textG (bytesAt cs o len) a.toNat bad [Value.int IntKind.i64 12]).snd.fst :
                                      Int).toNat
                                  (textG (bytesAt cs o len) a.toNat bad [Value.int IntKind.i64 12]).snd.snd
                                  [Value.int IntKind.i64 24]).snd.snd]
                        3 true,
                      Blk.cells
                        (List.take (x * 2) (List.drop 0 cl) ++
                          [Value.string (textF (bytesAt cs o len) a.toNat bad 12).fst,
                            Value.string
                              (textF (bytesAt cs o len)
                                  (↑(textG (bytesAt cs o len) a.toNat bad [Value.int IntKind.i64 12]).snd.fst :
                                      Int).toNat
                                  (textG (bytesAt cs o len) a.toNat bad [Value.int IntKind.i64 12]).snd.snd 24).fst])
                        2 true])))))
  (K (AE.exit 0)
    (tmps 37
      [(5, Value.pointer (some { block := 1, off := 0 : Addr })),
        (6, Value.slice (some { block := 2, off := 0, spot := some 1 : Addr }) x x)])
    (hp
      [Blk.cells cs 1 own,
        Blk.cells
          [Value.slice (some { block := 0, off := o, spot := sp : Addr }) len cap, Value.int IntKind.i64 a,
            Value.bool bad]
          3 true,
        Blk.cells cl 2 true]))) := by kernel_rfl

theorem w123 (o : Nat) (sp : Option Nat) (len cap : Nat) (cs : List Value) (own : Bool) (a1 : Int) (b1 : Bool) (n : Int) (a2 : Int) (b2 : Bool) (cl : List Value) (x : Nat) (K : Value → Heap → Prop) :
  funX Try.prog S47 (gcLKX (at0 [1]) (at0 [.tmp 6 2]) 1 (cutLK [⟨[0,1,0,1,1,1], T123 0 n 0, H123 o sp len cap a1 b1 cs own [], fun K => K (.exit 0) (tmps 37 [(5, .pointer (some ⟨1,0,none⟩)), (6, sl1 2 x)]) (H123 o sp len cap a2 b2 cs own cl)⟩])) F123 body123 Try.f23 [] [.tup 0 0 2] [.slice (some ⟨0,o,sp⟩) len cap] (hp [.cells cs 1 own]) K = (
(FlatL cs ∧ True) ∧
  True ∧
    (nojL
            [Value.slice (some { block := 1, off := o, spot := sp : Addr }) len cap, Value.int IntKind.i64 0,
              Value.bool false] =
          true ∧
        FlatL cs ∧ True) ∧
      (IsBs cs o len cap ∧ True) ∧
        FlatD [1]
            (hp
              [Blk.cells cs 1 own,
                Blk.cells
                  [Value.slice (some { block := 0, off := o, spot := sp : Addr }) len cap,
                    Value.int IntKind.i64 (↑(numG (bytesAt cs o len) 0 false [Value.int IntKind.u64 6]).snd.fst : Int),
                    Value.bool (numG (bytesAt cs o len) 0 false [Value.int IntKind.u64 6]).snd.snd]
                  3 true,
                Blk.cells [] 2 true]) ∧
          tmps 37
                [(5, Value.pointer (some { block := 1, off := 0 : Addr })),
                  (6, Value.slice (some { block := 2, off := 0, spot := some 1 : Addr }) 0 0),
                  (12, Value.int IntKind.u64 (numF (bytesAt cs o len) 0 false 6).fst), (13, Value.int IntKind.u64 0)] =
              tmps 37
                [(5, Value.pointer (some { block := 1, off := 0 : Addr })),
                  (6, Value.slice (some { block := 2, off := 0, spot := some 1 : Addr }) 0 0),
                  (12, Value.int IntKind.u64 n), (13, Value.int IntKind.u64 0)] ∧
            hp
                  [Blk.cells cs 1 own,
                    Blk.cells
                      [Value.slice (some { block := 0, off := o, spot := sp : Addr }) len cap,
                        Value.int IntKind.i64
                          (↑(numG (bytesAt cs o len) 0 false [Value.int IntKind.u64 6]).snd.fst : Int),
                        Value.bool (numG (bytesAt cs o len) 0 false [Value.int IntKind.u64 6]).snd.snd]
                      3 true,
                    Blk.cells [] 2 true] =
                hp
                  [Blk.cells cs 1 own,
                    Blk.cells
                      [Value.slice (some { block := 0, off := o, spot := sp : Addr }) len cap, Value.int IntKind.i64 a1,
                        Value.bool b1]
                      3 true,
                    Blk.cells [] 2 true] ∧
              (FlatL cl ∧ True) ∧
                (IsLs cl 0 x x ∧ True) ∧
                  (nojL
                          [Value.slice (some { block := 1, off := o, spot := sp : Addr }) len cap,
                            Value.int IntKind.i64 a2, Value.bool b2] =
                        true ∧
                      FlatL cs ∧ True) ∧
                    (IsBs cs o len cap ∧ Need (leI 0 a2) (Need (leI a2 (↑len : Int)) True)) ∧
                      (nojL
                              [Value.slice (some { block := 1, off := o, spot := sp : Addr }) len cap,
                                Value.int IntKind.i64
                                  (↑(refG (bytesAt cs o len) a2.toNat b2
                                            [Value.bool (isSetB (labsAt cl 0 x))]).snd.fst :
                                    Int),
                                Value.bool
                                  (refG (bytesAt cs o len) a2.toNat b2 [Value.bool (isSetB (labsAt cl 0 x))]).snd.snd] =
                            true ∧
                          FlatL cs ∧ True) ∧
                        (IsBs cs o len cap ∧
                            Need
                              (leI
                                (↑(refG (bytesAt cs o len) a2.toNat b2 [Value.bool (isSetB (labsAt cl 0 x))]).snd.fst :
                                  Int)
                                (↑len : Int))
                              True) ∧
                          Alt (!!(refG (bytesAt cs o len) a2.toNat b2 [Value.bool (isSetB (labsAt cl 0 x))]).snd.snd)
                            (K
                              (Value.tuple
                                #[Value.slice (some { block := 1, off := 0, spot := some 1 : Addr }) 0 0,
                                  Value.int IntKind.i64 0, Value.bool false])
                              (hp [Blk.cells cs 1 own, Blk.cells [] 2 true]))
                            (K
                              (Value.tuple
                                #[Value.slice (some { block := 1, off := 0, spot := some 1 : Addr }) x x,
                                  Value.int IntKind.i64
                                    (bif
                                        (refG (bytesAt cs o len) a2.toNat b2
                                              [Value.bool (isSetB (labsAt cl 0 x))]).snd.snd then
                                      0
                                    else
                                      (↑(↑(refG (bytesAt cs o len) a2.toNat b2
                                                      [Value.bool (isSetB (labsAt cl 0 x))]).snd.fst :
                                              Int).toNat :
                                        Int)),
                                  Value.bool true])
                              (hp [Blk.cells cs 1 own, Blk.cells cl 2 true]))) := by kernel_rfl

noncomputable def T124 (b : Value) (n : Int) (a : Nat) (x i : Nat) : List Value := tmps 71 [(0, b), (5, .int .u64 n), (6, .int .i64 a), (8, sl1 1 x), (9, .int .i64 i)]

theorem r124 (o : Nat) (sp : Option Nat) (len cap : Nat) (cs : List Value) (own : Bool) (n : Int) (a : Nat) (cl : List Value) (x i : Nat) (K : Post) :
  roundX Try.prog S47 noLoop F124 body124 1 [] [] [] [.tmp 2 2] [0,5,6,8,9] [0,0,1,0,1,1,1,1] (T124 (.slice (some ⟨0,o,sp⟩) len cap) n a x i) (hp [.cells cs 1 own, .cells cl 2 true]) K = (
Alt (ltI (↑i : Int) (wr IntKind.i64 n))
  (Need (leI (↑a : Int) (↑len : Int))
    ((FlatL cs ∧ True) ∧
      (IsBs cs (o + (↑a : Int).toNat * 1) (len - (↑a : Int).toNat) (cap - (↑a : Int).toNat) ∧ True) ∧
        Alt (!(getT (bytesAt cs (o + (↑a : Int).toNat * 1) (len - (↑a : Int).toNat)) 12).isSome)
          (K AE.ret
            (tmps 71
              [(2, Value.slice (some { block := 1, off := 0, spot := some 1 : Addr }) 0 0),
                (3, Value.int IntKind.i64 0), (4, Value.bool false)])
            (hp [Blk.cells cs 1 own, Blk.cells [] 2 true]))
          (Need
            (leI 0
              (wr IntKind.i64
                ((↑a : Int) +
                  (↑(gE (getT (bytesAt cs (o + (↑a : Int).toNat * 1) (len - (↑a : Int).toNat)) 12)) : Int))))
            (Need
              (leI
                (wr IntKind.i64
                  ((↑a : Int) +
                    (↑(gE (getT (bytesAt cs (o + (↑a : Int).toNat * 1) (len - (↑a : Int).toNat)) 12)) : Int)))
                (↑len : Int))
              ((FlatL cs ∧ True) ∧
                (IsBs cs
                      (o +
                        (wr IntKind.i64
                              ((↑a : Int) +
                                (↑(gE (getT (bytesAt cs (o + (↑a : Int).toNat * 1) (len - (↑a : Int).toNat)) 12)) :
                                  Int))).toNat *
                          1)
                      (len -
                        (wr IntKind.i64
                            ((↑a : Int) +
                              (↑(gE (getT (bytesAt cs (o + (↑a : Int).toNat * 1) (len - (↑a : Int).toNat)) 12)) :
                                Int))).toNat)
                      (cap -
                        (wr IntKind.i64
                            ((↑a : Int) +
                              (↑(gE (getT (bytesAt cs (o + (↑a : Int).toNat * 1) (len - (↑a : Int).toNat)) 12)) :
                                Int))).toNat) ∧
                    True) ∧
                  Alt
                    (!(getT
                          (bytesAt cs
                            (o +
                              (wr IntKind.i64
                                    ((↑a : Int) +
                                      (↑(gE
                                            (getT (bytesAt cs (o + (↑a : Int).toNat * 1) (len - (↑a : Int).toNat))
                                              12)) :
                                        Int))).toNat *
                                1)
                            (len -
                              (wr IntKind.i64
                                  ((↑a : Int) +
                                    (↑(gE (getT (bytesAt cs (o + (↑a : Int).toNat * 1) (len - (↑a : Int).toNat)) 12)) :
                                      Int))).toNat))
                          24).isSome)
                    (K AE.ret
                      (tmps 71
                        [(2, Value.slice (some { block := 1, off := 0, spot := some 1 : Addr }) 0 0),
                          (3, Value.int IntKind.i64 0), (4, Value.bool false)])
                      (hp [Blk.cells cs 1 own, Blk.cells [] 2 true]))
                    (Need (leN (0 + x * 2) cl.length)
                      (Need (leN ((x + 1) * 32) 1099511627776)
                        (Need (leN (x + 1) 1099511627776)
                          (K AE.normal
                            (tmps 71
                              [(0, Value.slice (some { block := 0, off := o, spot := sp : Addr }) len cap),
                                (5, Value.int IntKind.u64 n),
                                (6,
                                  Value.int IntKind.i64
                                    (wr IntKind.i64
                                      (wr IntKind.i64
                                          ((↑a : Int) +
                                            (↑(gE
                                                  (getT (bytesAt cs (o + (↑a : Int).toNat * 1) (len - (↑a : Int).toNat))
                                                    12)) :
                                              Int)) +
                                        (↑(gE
                                              (getT
                                                (bytesAt cs
                                                  (o +
                                                    (wr IntKind.i64
                                                          ((↑a : Int) +
                                                            (↑(gE
                                                                  (getT
                                                                    (bytesAt cs (o + (↑a : Int).toNat * 1)
                                                                      (len - (↑a : Int).toNat))
                                                                    12)) :
                                                              Int))).toNat *
                                                      1)
                                                  (len -
                                                    (wr IntKind.i64
                                                        ((↑a : Int) +
                                                          (↑(gE
                                                                (getT
                                                                  (bytesAt cs (o + (↑a : Int).toNat * 1)
                                                                    (len - (↑a : Int).toNat))
                                                                  12)) :
                                                            Int))).toNat))
                                                24)) :
                                          Int)))),
                                (8, Value.slice (some { block := 1, off := 0, spot := some 1 : Addr }) (x + 1) (x + 1)),
                                (9, Value.int IntKind.i64 (wr IntKind.i64 ((↑i : Int) + 1)))])
                            (hp
                              [Blk.cells cs 1 own,
                                Blk.cells
                                  (List.take (x * 2) (List.drop 0 cl) ++
                                    [Value.string
                                        (ofB
                                          (gS
                                            (getT (bytesAt cs (o + (↑a : Int).toNat * 1) (len - (↑a : Int).toNat))
                                              12))),
                                      Value.string
                                        (ofB
                                          (gS
                                            (getT
                                              (bytesAt cs
                                                (o +
                                                  (wr IntKind.i64
                                                        ((↑a : Int) +
                                                          (↑(gE
                                                                (getT
                                                                  (bytesAt cs (o + (↑a : Int).toNat * 1)
                                                                    (len - (↑a : Int).toNat))
                                                                  12)) :
                                                            Int))).toNat *
                                                    1)
                                                (len -
                                                  (wr IntKind.i64
                                                      ((↑a : Int) +
                                                        (↑(gE
                                                              (getT
                                                                (bytesAt cs (o + (↑a : Int).toNat * 1)
                                                                  (len - (↑a : Int).toNat))
                                                                12)) :
                                                          Int))).toNat))
                                              24)))])
                                  2 true]))))))))))
  (K (AE.exit 0)
    (tmps 71
      [(6, Value.int IntKind.i64 (↑a : Int)),
        (8, Value.slice (some { block := 1, off := 0, spot := some 1 : Addr }) x x)])
    (hp [Blk.cells cs 1 own, Blk.cells cl 2 true]))) := by kernel_rfl

theorem w124 (o : Nat) (sp : Option Nat) (len cap : Nat) (cs : List Value) (own : Bool) (n : Int) (a1 : Nat) (a2 : Nat) (cl : List Value) (x : Nat) (ok : Bool) (K : Value → Heap → Prop) :
  funX Try.prog S47 (gcLKX (at0 []) (at0 [.tmp 8 2]) 1 (cutLK [⟨[0,1,0,1,1,1,1], T124 (.slice (some ⟨0,o,sp⟩) len cap) n a1 0 0, hp [.cells cs 1 own, .cells [] 2 true], fun K => Alt ok (K (.exit 0) (tmps 71 [(6, .int .i64 a2), (8, sl1 1 x)]) (hp [.cells cs 1 own, .cells cl 2 true])) (K .ret (tmps 71 [(2, sl1 1 0), (3, .int .i64 0), (4, .bool false)]) (hp [.cells cs 1 own, .cells [] 2 true]))⟩])) F124 body124 Try.f24 [] [.tup 0 0 2] [.slice (some ⟨0,o,sp⟩) len cap] (hp [.cells cs 1 own]) K = (
(FlatL cs ∧ True) ∧
  IsBs cs o len cap ∧
    Alt (!(dec (bytesAt cs o len)).isSome)
      (K
        (Value.tuple
          #[Value.slice (some { block := 1, off := 0, spot := some 1 : Addr }) 0 0, Value.int IntKind.i64 0,
            Value.bool false])
        (hp [Blk.cells cs 1 own, Blk.cells [] 2 true]))
      (Alt (ltI 6 (gN (dec (bytesAt cs o len))))
        (K
          (Value.tuple
            #[Value.slice (some { block := 1, off := 0, spot := some 1 : Addr }) 0 0, Value.int IntKind.i64 0,
              Value.bool false])
          (hp [Blk.cells cs 1 own, Blk.cells [] 2 true]))
        (FlatD [] (hp [Blk.cells cs 1 own, Blk.cells [] 2 true]) ∧
          tmps 71
                [(0, Value.slice (some { block := 0, off := o, spot := sp : Addr }) len cap),
                  (5, Value.int IntKind.u64 (gN (dec (bytesAt cs o len)))),
                  (6, Value.int IntKind.i64 (↑(gK (dec (bytesAt cs o len))) : Int)),
                  (8, Value.slice (some { block := 1, off := 0, spot := some 1 : Addr }) 0 0),
                  (9, Value.int IntKind.i64 0)] =
              tmps 71
                [(0, Value.slice (some { block := 0, off := o, spot := sp : Addr }) len cap),
                  (5, Value.int IntKind.u64 n), (6, Value.int IntKind.i64 (↑a1 : Int)),
                  (8, Value.slice (some { block := 1, off := 0, spot := some 1 : Addr }) 0 0),
                  (9, Value.int IntKind.i64 0)] ∧
            hp [Blk.cells cs 1 own, Blk.cells [] 2 true] = hp [Blk.cells cs 1 own, Blk.cells [] 2 true] ∧
              Alt ok
                ((FlatL cl ∧ True) ∧
                  (IsLs cl 0 x x ∧ True) ∧
                    Alt (!isSetB (labsAt cl 0 x))
                      (K
                        (Value.tuple
                          #[Value.slice (some { block := 1, off := 0, spot := some 1 : Addr }) 0 0,
                            Value.int IntKind.i64 0, Value.bool false])
                        (hp [Blk.cells cs 1 own, Blk.cells [] 2 true]))
                      (K
                        (Value.tuple
                          #[Value.slice (some { block := 1, off := 0, spot := some 1 : Addr }) x x,
                            Value.int IntKind.i64 (↑a2 : Int), Value.bool true])
                        (hp [Blk.cells cs 1 own, Blk.cells cl 2 true])))
                (K
                  (Value.tuple
                    #[Value.slice (some { block := 1, off := 0, spot := some 1 : Addr }) 0 0, Value.int IntKind.i64 0,
                      Value.bool false])
                  (hp [Blk.cells cs 1 own, Blk.cells [] 2 true]))))) := by kernel_rfl

theorem w124e (o : Nat) (sp : Option Nat) (len cap : Nat) (cs : List Value) (own : Bool) (K : Value → Heap → Prop) :
  funX Try.prog S47 noLoop F124 body124 Try.f24 [] [.tup 0 0 2] [.slice (some ⟨0,o,sp⟩) len cap] (hp [.cells cs 1 own]) K = (
(FlatL cs ∧ True) ∧
  IsBs cs o len cap ∧
    Alt (!(dec (bytesAt cs o len)).isSome)
      (K
        (Value.tuple
          #[Value.slice (some { block := 1, off := 0, spot := some 1 : Addr }) 0 0, Value.int IntKind.i64 0,
            Value.bool false])
        (hp [Blk.cells cs 1 own, Blk.cells [] 2 true]))
      (Need (ltI 6 (gN (dec (bytesAt cs o len))))
        (K
          (Value.tuple
            #[Value.slice (some { block := 1, off := 0, spot := some 1 : Addr }) 0 0, Value.int IntKind.i64 0,
              Value.bool false])
          (hp [Blk.cells cs 1 own, Blk.cells [] 2 true])))) := by kernel_rfl

theorem getT_le {l : List Int} {m : Int} {s : List Int} {k : Nat} (hb : Bytes l) (h : getT l m = some (s, k)) : k ≤ l.length ∧ ((s.length : Nat) : Int) ≤ m ∧ 0 ≤ m := by
  unfold getT at h
  cases hd : dec l with
  | none => rw [hd] at h; cases h
  | some q =>
    obtain ⟨n, k2⟩ := q
    obtain ⟨q0, q1, q2, q3, q4, q5, q6⟩ := decL_facts l 0 n k2 hb (by omega) hd
    rw [hd] at h
    simp only at h
    split at h
    · cases h
    · rename_i hn
      simp only [Option.some.injEq, Prod.mk.injEq] at h
      obtain ⟨rfl, rfl⟩ := h
      rw [List.length_take, List.length_drop]
      omega
theorem ofB_size (l : List Int) : (ofB l).size = l.length := by unfold ofB; simp [ByteArray.size]
theorem textF_le {l : List Int} (hb : Bytes l) (a : Nat) (bad : Bool) (m : Int) (ha : a ≤ l.length) : (textF l a bad m).2.1 ≤ l.length ∧ (((textF l a bad m).1.size : Nat) : Int) ≤ max m 0 := by
  unfold textF
  cases hd : getT (l.drop a) m with
  | none => exact ⟨ha, by show ((0 : Nat) : Int) ≤ _; omega⟩
  | some r =>
    obtain ⟨s, k⟩ := r
    obtain ⟨h1, h2, h3⟩ := getT_le (fun x hx => hb x (List.mem_of_mem_drop hx)) hd
    rw [List.length_drop] at h1
    simp only
    split
    · exact ⟨by show a + k ≤ _; omega, by show (((ofB s).size : Nat) : Int) ≤ _; rw [ofB_size]; omega⟩
    · exact ⟨ha, by show ((0 : Nat) : Int) ≤ _; omega⟩
/-- what so many rounds of reading come to -/
def rdF (l : List Int) : Nat → List Lb × Nat × Bool → List Lb × Nat × Bool
  | 0, s => s
  | n + 1, s => rdF l n (s.1 ++ [((textF l s.2.1 s.2.2 12).1, (textF l (textF l s.2.1 s.2.2 12).2.1 (textF l s.2.1 s.2.2 12).2.2 24).1)], (textF l (textF l s.2.1 s.2.2 12).2.1 (textF l s.2.1 s.2.2 12).2.2 24).2)
theorem rdF_facts {l : List Int} (hb : Bytes l) : ∀ (n : Nat) (s : List Lb × Nat × Bool), s.2.1 ≤ l.length → Small s.1 → (rdF l n s).2.1 ≤ l.length ∧ Small (rdF l n s).1 ∧ (rdF l n s).1.length = s.1.length + n := by
  intro n
  induction n with
  | zero => intro s h1 h2; exact ⟨h1, h2, rfl⟩
  | succ n ih =>
    intro s h1 h2
    obtain ⟨a1, a2⟩ := textF_le hb s.2.1 s.2.2 12 h1
    obtain ⟨b1, b2⟩ := textF_le hb (textF l s.2.1 s.2.2 12).2.1 (textF l s.2.1 s.2.2 12).2.2 24 a1
    obtain ⟨c1, c2, c3⟩ := ih (s.1 ++ [((textF l s.2.1 s.2.2 12).1, (textF l (textF l s.2.1 s.2.2 12).2.1 (textF l s.2.1 s.2.2 12).2.2 24).1)], (textF l (textF l s.2.1 s.2.2 12).2.1 (textF l s.2.1 s.2.2 12).2.2 24).2) b1 (fun x hx => by
      rcases List.mem_append.1 hx with hx | hx
      · exact h2 x hx
      · simp at hx
        subst hx
        exact ⟨by show (textF _ _ _ _).1.size ≤ _; omega, by show (textF _ _ _ _).1.size ≤ _; omega⟩)
    refine ⟨c1, c2, ?_⟩
    rw [rdF, c3]; simp; omega
theorem noj3 (o : Nat) (sp : Option Nat) (len cap : Nat) (a : Int) (b : Bool) : nojL [Value.slice (some { block := 1, off := o, spot := sp }) len cap, Value.int IntKind.i64 a, Value.bool b] = true := rfl
theorem read_loop (hmix : Try.prog.follows .mixedOrders = true) (l : List Int) (cs : List Value) (own : Bool) (o : Nat) (sp : Option Nat) (cap : Nat) (hc : l.length ≤ cap) (hB : BSl cs o l) (n : Nat) (hn : n ≤ 6) (K : Post) : ∀ (j i : Nat) (s : List Lb × Nat × Bool), i + j = n → s.1.length = i → s.2.1 ≤ l.length →
    K (.exit 0) (tmps 37 [(5, .pointer (some ⟨1,0,none⟩)), (6, sl1 2 (rdF l j s).1.length)]) (H123 o sp l.length cap ((rdF l j s).2.1 : Nat) (rdF l j s).2.2 cs own (labC (rdF l j s).1)) →
    LSays Try.prog 1 (sub body123 [0,0,1,0,1,1,1]) (T123 s.1.length n i) (H123 o sp l.length cap (s.2.1 : Nat) s.2.2 cs own (labC s.1)) K := by
  have hfl := hB.flat
  have hil : IsBs cs o l.length cap := ⟨l, rfl, hc, hB⟩
  have hF : ∀ (a : Int) (b : Bool) (L : List Lb), FlatD [1] (hp [.cells cs 1 own, .cells [.slice (some ⟨0,o,sp⟩) l.length cap, .int .i64 a, .bool b] 3 true, .cells (labC L) 2 true]) := fun a b L => FlatD.hp ⟨hfl, rfl, labC_flat L, trivial⟩
  intro j
  induction j with
  | zero =>
    intro i s hij hs ha hK
    refine (sure47 hmix).roundX F123 noLoops [1] [] [1] [] [5,6,12,13] ?_
    rw [r123]
    simp only [show ¬ ((i : Int) < (n : Int)) by omega, hF, Alt_iff, Need_iff, ltI_eq, leI_eq, eqI_eq, leN_eq, eqN_eq, decide_eq_true_eq, decide_eq_false_iff_not, decide_true, decide_false, true_and, and_true, Bool.true_eq_false, Bool.false_eq_true, false_implies, true_implies, implies_true, not_true_eq_false, not_false_eq_true, Bool.not_eq_true', Bool.not_eq_false', Nat.zero_add, Nat.add_zero, Nat.sub_zero, Nat.zero_mul, Nat.mul_one, Int.toNat_natCast, List.drop_zero, beqV_int, beqV_sl, beqV_str, beqV_bool, beqV_ptr, beqV_flt, beqV_agg, beqV_tuple, List.all_cons, List.all_nil, Bool.and_self, Bool.and_true, Bool.true_and, Nat.le_refl, Int.le_refl, Nat.zero_le, Option.getD_some, isStr, strV, isInt, intV, isBool, boolV, kindEq, at0, isJunk, Option.isSome_some, Option.isSome_none, if_true, if_false, Nat.add_sub_cancel_left, Nat.add_sub_cancel]
    exact hK
  | succ j ih =>
    intro i s hij hs ha hK
    obtain ⟨a1, a2⟩ := textF_le hB.ok s.2.1 s.2.2 12 ha
    obtain ⟨b1, b2⟩ := textF_le hB.ok (textF l s.2.1 s.2.2 12).2.1 (textF l s.2.1 s.2.2 12).2.2 24 a1
    have next := ih (i + 1) (s.1 ++ [((textF l s.2.1 s.2.2 12).1, (textF l (textF l s.2.1 s.2.2 12).2.1 (textF l s.2.1 s.2.2 12).2.2 24).1)], (textF l (textF l s.2.1 s.2.2 12).2.1 (textF l s.2.1 s.2.2 12).2.2 24).2) (by omega) (by simp; omega) b1 hK
    have hlen := labC_len s.1
    have hcell : List.take (s.1.length * 2) (labC s.1) ++ [Value.string (textF l s.2.1 s.2.2 12).1, Value.string (textF l (textF l s.2.1 s.2.2 12).2.1 (textF l s.2.1 s.2.2 12).2.2 24).1] = labC (s.1 ++ [((textF l s.2.1 s.2.2 12).1, (textF l (textF l s.2.1 s.2.2 12).2.1 (textF l s.2.1 s.2.2 12).2.2 24).1)]) := by
      rw [← hlen, List.take_length, labC_append]; rfl
    have hw : wr .u64 ((i : Int) + 1) = ((i + 1 : Nat) : Int) := by rw [wr_eq]; simp [IntKind.wrap, IntKind.bits, IntKind.signed]; omega
    refine (sure47 hmix).roundX F123 noLoops [1] [] [1] [] [5,6,12,13] ?_
    rw [r123]
    simp only [show ((i : Int) < (n : Int)) by omega, hF, hfl, hil, hB.bytesAt, noj3, textG, hcell, hw, show (0 : Int) ≤ ((s.2.1 : Nat) : Int) by omega, show ((s.2.1 : Nat) : Int) ≤ (l.length : Int) by omega, show (((textF l s.2.1 s.2.2 12).2.1 : Nat) : Int) ≤ (l.length : Int) by omega, Alt_iff, Need_iff, ltI_eq, leI_eq, eqI_eq, leN_eq, eqN_eq, decide_eq_true_eq, decide_eq_false_iff_not, decide_true, decide_false, true_and, and_true, Bool.true_eq_false, Bool.false_eq_true, false_implies, true_implies, implies_true, not_true_eq_false, not_false_eq_true, Bool.not_eq_true', Bool.not_eq_false', Nat.zero_add, Nat.add_zero, Nat.sub_zero, Nat.zero_mul, Nat.mul_one, Int.toNat_natCast, List.drop_zero, beqV_int, beqV_sl, beqV_str, beqV_bool, beqV_ptr, beqV_flt, beqV_agg, beqV_tuple, List.all_cons, List.all_nil, Bool.and_self, Bool.and_true, Bool.true_and, Nat.le_refl, Int.le_refl, Nat.zero_le, Option.getD_some, isStr, strV, isInt, intV, isBool, boolV, kindEq, at0, isJunk, Option.isSome_some, Option.isSome_none, if_true, if_false, Nat.add_sub_cancel_left, Nat.add_sub_cancel]
    simp only [List.length_append, List.length_cons, List.length_nil, Nat.zero_add] at next
    exact ⟨by omega, by omega, by omega, next⟩
/-- a set that bytes begin with -/
def rsF (l : List Int) : Nat → Nat → List Lb → Option (List Lb × Nat)
  | 0, a, L => some (L, a)
  | n + 1, a, L => match getT (l.drop a) 12 with
    | none => none
    | some (s, k) => match getT (l.drop (a + k)) 24 with
      | none => none
      | some (v, m) => rsF l n (a + k + m) (L ++ [(ofB s, ofB v)])
def rsR (l : List Int) : Option (List Lb × Nat) := match dec l with
  | none => none
  | some (n, k) => if n ≤ 6 then match rsF l n.toNat k [] with
    | none => none
    | some (L, a) => if isSetB L = true then some (L, a) else none
    else none
theorem rdF_bad (l : List Int) : ∀ (n : Nat) (s : List Lb × Nat × Bool), s.2.2 = true → (rdF l n s).2.2 = true := by
  have hb : ∀ a m, (textF l a true m).2.2 = true := fun a m => by unfold textF; split <;> rfl
  intro n
  induction n with
  | zero => intro s h; exact h
  | succ n ih =>
    intro s h
    rw [rdF]
    exact ih _ (by simp only [h, hb])
theorem rdF_rsF (l : List Int) : ∀ (n a : Nat) (L : List Lb), match rsF l n a L with
    | some (L', a') => rdF l n (L, a, false) = (L', a', false)
    | none => (rdF l n (L, a, false)).2.2 = true := by
  intro n
  induction n with
  | zero => intro a L; rfl
  | succ n ih =>
    intro a L
    unfold rsF
    cases h1 : getT (l.drop a) 12 with
    | none =>
      have e : textF l a false 12 = (⟨#[]⟩, a, true) := by unfold textF; rw [h1]
      simp only [rdF, e]
      refine rdF_bad l n _ ?_
      show (textF l a true 24).2.2 = true
      unfold textF; split <;> rfl
    | some r =>
      obtain ⟨s, k⟩ := r
      have e : textF l a false 12 = (ofB s, a + k, false) := by unfold textF; rw [h1]; rfl
      simp only [rdF, e]
      cases h2 : getT (l.drop (a + k)) 24 with
      | none =>
        have e2 : textF l (a + k) false 24 = (⟨#[]⟩, a + k, true) := by unfold textF; rw [h2]
        simp only [e2]
        exact rdF_bad l n _ rfl
      | some r2 =>
        obtain ⟨v, m⟩ := r2
        have e2 : textF l (a + k) false 24 = (ofB v, a + k + m, false) := by unfold textF; rw [h2]; rfl
        simp only [e2]
        exact ih (a + k + m) (L ++ [(ofB s, ofB v)])
def rsL (r : Option (List Lb × Nat)) : List Lb := match r with | some r => r.1 | none => []
def rsN (r : Option (List Lb × Nat)) : Nat := match r with | some r => r.2 | none => 0
noncomputable def readC : Ctr where
  pre := fun args blks => match args, blks with
    | [.slice (some ⟨0, o, _⟩) len cap], [.cells cs 1 _] => IsBs cs o len cap
    | _, _ => False
  val := fun args blks => match args, blks with
    | [.slice (some ⟨0, o, _⟩) len _], [.cells cs 1 _] => .tuple #[sl1 1 (rsL (rsR (bytesAt cs o len))).length, .int .i64 (rsN (rsR (bytesAt cs o len))), .bool (rsR (bytesAt cs o len)).isSome]
    | _, _ => undef
  new := fun args blks => match args, blks with
    | [.slice (some ⟨0, o, _⟩) len _], [.cells cs 1 _] => [.cells (labC (rsL (rsR (bytesAt cs o len)))) 2 true]
    | _, _ => []
theorem readC_of {f : FuncId} (h : ∀ (l : List Int) (cs : List Value) (own : Bool) (o : Nat) (sp : Option Nat) (cap : Nat), l.length ≤ cap → BSl cs o l → FunSays Try.prog f [.slice (some ⟨0,o,sp⟩) l.length cap] (hp [.cells cs 1 own]) fun v h' => v = .tuple #[sl1 1 (rsL (rsR l)).length, .int .i64 (rsN (rsR l)), .bool (rsR l).isSome] ∧ h' = hp [.cells cs 1 own, .cells (labC (rsL (rsR l))) 2 true]) : readC.Holds Try.prog f := by
  intro args blks hf hp
  simp only [readC] at hp ⊢
  split at hp
  · rename_i o sp len cap cs own
    obtain ⟨l, rfl, hc, hB⟩ := hp
    simp only [hB.bytesAt]
    exact ⟨⟨labC_flat _, trivial⟩, h l cs own o sp cap hc hB⟩
  · exact hp.elim
theorem read_says (hmix : Try.prog.follows .mixedOrders = true) : readC.Holds Try.prog 23 := by
  refine readC_of fun l cs own o sp cap hc hB => ?_
  have hfl := hB.flat
  have hil : IsBs cs o l.length cap := ⟨l, rfl, hc, hB⟩
  have hF : ∀ (L : List Lb), FlatD [] (hp [.cells cs 1 own, .cells (labC L) 2 true]) := fun L => FlatD.hp ⟨hfl, labC_flat L, trivial⟩
  -- how many are read
  obtain ⟨n, a1, b1, hnum, hn6, ha1⟩ : ∃ (n a1 : Nat) (b1 : Bool), numF l 0 false 6 = ((n : Int), a1, b1) ∧ n ≤ 6 ∧ a1 ≤ l.length := by
    unfold numF
    rw [List.drop_zero]
    cases hd : dec l with
    | none => exact ⟨0, 0, true, rfl, by omega, by omega⟩
    | some r =>
      obtain ⟨n, k⟩ := r
      obtain ⟨q0, q1, q2, q3, q4, q5, q6⟩ := decL_facts l 0 n k hB.ok (by omega) hd
      simp only
      split
      · rename_i h6
        simp only [Bool.not_false, Bool.true_and, leI_iff] at h6
        exact ⟨n.toNat, 0 + k, false, by rw [Int.toNat_of_nonneg q0], by omega, by omega⟩
      · exact ⟨0, 0, true, rfl, by omega, by omega⟩
  obtain ⟨f1, f2, f3⟩ := rdF_facts hB.ok n ([], a1, b1) ha1 small_nil
  have hL : Loops Try.prog body123 1 (cutLK [⟨[0,1,0,1,1,1], T123 0 n 0, H123 o sp l.length cap (a1 : Nat) b1 cs own [], fun K => K (.exit 0) (tmps 37 [(5, .pointer (some ⟨1,0,none⟩)), (6, sl1 2 (rdF l n ([], a1, b1)).1.length)]) (H123 o sp l.length cap ((rdF l n ([], a1, b1)).2.1 : Nat) (rdF l n ([], a1, b1)).2.2 cs own (labC (rdF l n ([], a1, b1)).1))⟩]) := Loops.none.more _ fun K hK => by
    show LSays Try.prog _ (sub body123 [0,0,1,0,1,1,1]) _ _ _
    exact read_loop hmix l cs own o sp cap hc hB n hn6 K n 0 ([], a1, b1) (by omega) rfl ha1 hK
  -- the same, as the document has it
  have hR : (rdF l n ([], a1, b1)).2.2 = false ∧ isSetB (rdF l n ([], a1, b1)).1 = true ∧ rsR l = some ((rdF l n ([], a1, b1)).1, (rdF l n ([], a1, b1)).2.1) ∨ (!(rdF l n ([], a1, b1)).2.2 && isSetB (rdF l n ([], a1, b1)).1) = false ∧ rsR l = none := by
    unfold rsR
    unfold numF at hnum
    rw [List.drop_zero] at hnum
    cases hd : dec l with
    | none =>
      rw [hd] at hnum
      simp only [Prod.mk.injEq] at hnum
      obtain ⟨_, _, rfl⟩ := hnum
      right
      rw [rdF_bad l n ([], a1, true) rfl]
      exact ⟨rfl, rfl⟩
    | some r =>
      obtain ⟨m, k⟩ := r
      rw [hd] at hnum
      simp only at hnum ⊢
      by_cases h6 : m ≤ 6
      · rw [if_pos (by simpa [leI_iff] using h6)] at hnum
        simp only [Prod.mk.injEq] at hnum
        obtain ⟨h7, h8, rfl⟩ := hnum
        obtain rfl : k = a1 := by omega
        rw [if_pos h6, h7, Int.toNat_natCast]
        have := rdF_rsF l n k []
        cases hq : rsF l n k [] with
        | none =>
          rw [hq] at this
          right
          simp only at this
          rw [this]; exact ⟨rfl, rfl⟩
        | some q =>
          obtain ⟨L', a'⟩ := q
          rw [hq] at this
          simp only at this ⊢
          rw [this]
          cases hs : isSetB L' with
          | true => left; exact ⟨rfl, rfl, by simp⟩
          | false => right; exact ⟨by simp [hs], by simp⟩
      · rw [if_neg (by simp [leI_iff]; omega)] at hnum
        simp only [Prod.mk.injEq] at hnum
        obtain ⟨_, _, rfl⟩ := hnum
        right
        rw [rdF_bad l n ([], a1, true) rfl, if_neg h6]
        exact ⟨rfl, rfl⟩
  generalize hS : rdF l n ([], a1, b1) = s at *
  obtain ⟨L, a2, b2⟩ := s
  simp only at f1 f2 f3 hR hL
  have hs : LSl (labC L) 0 L := labC_ls L f2 (by simp at f3; omega)
  have hls : IsLs (labC L) 0 L.length L.length := ⟨L, rfl, Nat.le_refl _, hs⟩
  refine (sure47 hmix).funX F123 body123 [] [.tup 0 0 2] Try.func23 rfl (hL.gcX (at0 [1]) (at0 [.tmp 6 2])) ?_
  rw [w123]
  simp only [hfl, hil, hB.bytesAt, numG, hnum, noj3, hls, hs.labsAt, labC_flat, refG, show (0 : Int) ≤ ((a2 : Nat) : Int) by omega, show ((a2 : Nat) : Int) ≤ (l.length : Int) by omega, Alt_iff, Need_iff, ltI_eq, leI_eq, eqI_eq, leN_eq, eqN_eq, decide_eq_true_eq, decide_eq_false_iff_not, decide_true, decide_false, true_and, and_true, Bool.true_eq_false, Bool.false_eq_true, false_implies, true_implies, implies_true, not_true_eq_false, not_false_eq_true, Bool.not_eq_true', Bool.not_eq_false', Nat.zero_add, Nat.add_zero, Nat.sub_zero, Nat.zero_mul, Nat.mul_one, Int.toNat_natCast, List.drop_zero, beqV_int, beqV_sl, beqV_str, beqV_bool, beqV_ptr, beqV_flt, beqV_agg, beqV_tuple, List.all_cons, List.all_nil, Bool.and_self, Bool.and_true, Bool.true_and, Nat.le_refl, Int.le_refl, Nat.zero_le, Option.getD_some, isStr, strV, isInt, intV, isBool, boolV, kindEq, at0, isJunk, Option.isSome_some, Option.isSome_none, if_true, if_false, Nat.add_sub_cancel_left, Nat.add_sub_cancel]
  refine ⟨FlatD.hp ⟨hfl, rfl, labC_flat [], trivial⟩, fun h => ?_, fun h => ?_⟩
  · rcases hR with ⟨rfl, h2, h3⟩ | ⟨h2, h3⟩
    · rw [h2] at h; cases h
    · rw [h3]; exact ⟨hF [], rfl, rfl⟩
  · rcases hR with ⟨rfl, h2, h3⟩ | ⟨h2, h3⟩
    · rw [h3, h2]; exact ⟨hF L, rfl, rfl⟩
    · rw [h2] at h; cases h
theorem rread_loop (hmix : Try.prog.follows .mixedOrders = true) (l : List Int) (cs : List Value) (own : Bool) (o : Nat) (sp : Option Nat) (cap : Nat) (hc : l.length ≤ cap) (hB : BSl cs o l) (n : Nat) (hn : n ≤ 6) (K : Post) : ∀ (j i a : Nat) (L : List Lb), i + j = n → L.length = i → a ≤ l.length →
    (match rsF l j a L with
      | some (L', a') => K (.exit 0) (tmps 71 [(6, .int .i64 (a' : Nat)), (8, sl1 1 L'.length)]) (hp [.cells cs 1 own, .cells (labC L') 2 true])
      | none => K .ret (tmps 71 [(2, sl1 1 0), (3, .int .i64 0), (4, .bool false)]) (hp [.cells cs 1 own, .cells [] 2 true])) →
    LSays Try.prog 1 (sub body124 [0,0,1,0,1,1,1,1]) (T124 (.slice (some ⟨0,o,sp⟩) l.length cap) n a L.length i) (hp [.cells cs 1 own, .cells (labC L) 2 true]) K := by
  have hfl := hB.flat
  have hsh := hB.short
  have hF : ∀ (L : List Lb), FlatD [] (hp [.cells cs 1 own, .cells (labC L) 2 true]) := fun L => FlatD.hp ⟨hfl, labC_flat L, trivial⟩
  have hw6 : wr .i64 (n : Int) = n := wr_i64 _ (by omega) (by omega)
  have dr : ∀ a, a ≤ l.length → IsBs cs (o + a) (l.length - a) (cap - a) ∧ bytesAt cs (o + a) (l.length - a) = l.drop a := fun a ha => by
    obtain ⟨h1, h2⟩ := hB.drop a ha
    exact ⟨⟨l.drop a, by simp, by omega, h1⟩, h2⟩
  intro j
  induction j with
  | zero =>
    intro i a L hij hs ha hK
    refine (sure47 hmix).roundX F124 noLoops [] [] [] [.tmp 2 2] [0,5,6,8,9] ?_
    rw [r124, hw6]
    simp only [show ¬ ((i : Int) < (n : Int)) by omega, hF, Alt_iff, Need_iff, ltI_eq, leI_eq, eqI_eq, leN_eq, eqN_eq, decide_eq_true_eq, decide_eq_false_iff_not, decide_true, decide_false, true_and, and_true, Bool.true_eq_false, Bool.false_eq_true, false_implies, true_implies, implies_true, not_true_eq_false, not_false_eq_true, Bool.not_eq_true', Bool.not_eq_false', Nat.zero_add, Nat.add_zero, Nat.sub_zero, Nat.zero_mul, Nat.mul_one, Int.toNat_natCast, List.drop_zero, beqV_int, beqV_sl, beqV_str, beqV_bool, beqV_ptr, beqV_flt, beqV_agg, beqV_tuple, List.all_cons, List.all_nil, Bool.and_self, Bool.and_true, Bool.true_and, Nat.le_refl, Int.le_refl, Nat.zero_le, Option.getD_some, isStr, strV, isInt, intV, isBool, boolV, kindEq, at0, isJunk, Option.isSome_some, Option.isSome_none, if_true, if_false, Nat.add_sub_cancel_left, Nat.add_sub_cancel]
    exact hK
  | succ j ih =>
    intro i a L hij hs ha hK
    obtain ⟨d1, d2⟩ := dr a ha
    refine (sure47 hmix).roundX F124 noLoops [] [] [] [.tmp 2 2] [0,5,6,8,9] ?_
    rw [r124, hw6]
    unfold rsF at hK
    simp only [show ((i : Int) < (n : Int)) by omega, show ((a : Nat) : Int) ≤ (l.length : Int) by omega, hfl, d1, d2, Alt_iff, Need_iff, ltI_eq, leI_eq, eqI_eq, leN_eq, eqN_eq, decide_eq_true_eq, decide_eq_false_iff_not, decide_true, decide_false, true_and, and_true, Bool.true_eq_false, Bool.false_eq_true, false_implies, true_implies, implies_true, not_true_eq_false, not_false_eq_true, Bool.not_eq_true', Bool.not_eq_false', Nat.zero_add, Nat.add_zero, Nat.sub_zero, Nat.zero_mul, Nat.mul_one, Int.toNat_natCast, List.drop_zero, beqV_int, beqV_sl, beqV_str, beqV_bool, beqV_ptr, beqV_flt, beqV_agg, beqV_tuple, List.all_cons, List.all_nil, Bool.and_self, Bool.and_true, Bool.true_and, Nat.le_refl, Int.le_refl, Nat.zero_le, Option.getD_some, isStr, strV, isInt, intV, isBool, boolV, kindEq, at0, isJunk, Option.isSome_some, Option.isSome_none, if_true, if_false, Nat.add_sub_cancel_left, Nat.add_sub_cancel]
    cases h1 : getT (l.drop a) 12 with
    | none =>
      rw [h1] at hK
      exact ⟨fun _ => ⟨hF [], hK⟩, fun h => by cases h⟩
    | some r =>
      obtain ⟨s, k⟩ := r
      rw [h1] at hK
      obtain ⟨g1, g2, g3⟩ := getT_le (fun x hx => hB.ok x (List.mem_of_mem_drop hx)) h1
      rw [List.length_drop] at g1
      have hw : wr .i64 ((a : Int) + (k : Int)) = ((a + k : Nat) : Int) := by rw [wr_i64 _ (by omega) (by omega)]; rfl
      obtain ⟨e1, e2⟩ := dr (a + k) (by omega)
      simp only [gE, gS, hw, Option.isSome_some, show (0 : Int) ≤ ((a + k : Nat) : Int) by omega, show ((a + k : Nat) : Int) ≤ (l.length : Int) by omega, e1, e2, Alt_iff, Need_iff, ltI_eq, leI_eq, eqI_eq, leN_eq, eqN_eq, decide_eq_true_eq, decide_eq_false_iff_not, decide_true, decide_false, true_and, and_true, Bool.true_eq_false, Bool.false_eq_true, false_implies, true_implies, implies_true, not_true_eq_false, not_false_eq_true, Bool.not_eq_true', Bool.not_eq_false', Nat.zero_add, Nat.add_zero, Nat.sub_zero, Nat.zero_mul, Nat.mul_one, Int.toNat_natCast, List.drop_zero, beqV_int, beqV_sl, beqV_str, beqV_bool, beqV_ptr, beqV_flt, beqV_agg, beqV_tuple, List.all_cons, List.all_nil, Bool.and_self, Bool.and_true, Bool.true_and, Nat.le_refl, Int.le_refl, Nat.zero_le, Option.getD_some, isStr, strV, isInt, intV, isBool, boolV, kindEq, at0, isJunk, Option.isSome_some, Option.isSome_none, if_true, if_false, Nat.add_sub_cancel_left, Nat.add_sub_cancel]
      cases h2 : getT (l.drop (a + k)) 24 with
      | none =>
        simp only [h2] at hK
        exact ⟨fun _ => ⟨hF [], hK⟩, fun h => by cases h⟩
      | some r2 =>
        obtain ⟨v, m⟩ := r2
        simp only [h2] at hK
        obtain ⟨q1, q2, q3⟩ := getT_le (fun x hx => hB.ok x (List.mem_of_mem_drop hx)) h2
        rw [List.length_drop] at q1
        have hw2 : wr .i64 (((a + k : Nat) : Int) + (m : Int)) = ((a + k + m : Nat) : Int) := by rw [wr_i64 _ (by omega) (by omega)]; rfl
        have next := ih (i + 1) (a + k + m) (L ++ [(ofB s, ofB v)]) (by omega) (by simp; omega) (by omega) hK
        have hlen := labC_len L
        have hcell : List.take (L.length * 2) (labC L) ++ [Value.string (ofB s), Value.string (ofB v)] = labC (L ++ [(ofB s, ofB v)]) := by
          rw [← hlen, List.take_length, labC_append]; rfl
        simp only [List.length_append, List.length_cons, List.length_nil, Nat.zero_add] at next
        simp only [gE, gS, hw2, Option.isSome_some, hcell, nx i (by omega), hF, Alt_iff, Need_iff, ltI_eq, leI_eq, eqI_eq, leN_eq, eqN_eq, decide_eq_true_eq, decide_eq_false_iff_not, decide_true, decide_false, true_and, and_true, Bool.true_eq_false, Bool.false_eq_true, false_implies, true_implies, implies_true, not_true_eq_false, not_false_eq_true, Bool.not_eq_true', Bool.not_eq_false', Nat.zero_add, Nat.add_zero, Nat.sub_zero, Nat.zero_mul, Nat.mul_one, Int.toNat_natCast, List.drop_zero, beqV_int, beqV_sl, beqV_str, beqV_bool, beqV_ptr, beqV_flt, beqV_agg, beqV_tuple, List.all_cons, List.all_nil, Bool.and_self, Bool.and_true, Bool.true_and, Nat.le_refl, Int.le_refl, Nat.zero_le, Option.getD_some, isStr, strV, isInt, intV, isBool, boolV, kindEq, at0, isJunk, Option.isSome_some, Option.isSome_none, if_true, if_false, Nat.add_sub_cancel_left, Nat.add_sub_cancel]
        and_intros <;> first | omega | exact next
theorem rread_says (hmix : Try.prog.follows .mixedOrders = true) : readC.Holds Try.prog 24 := by
  refine readC_of fun l cs own o sp cap hc hB => ?_
  have hfl := hB.flat
  have hsh := hB.short
  have hil : IsBs cs o l.length cap := ⟨l, rfl, hc, hB⟩
  have hF : ∀ (L : List Lb), FlatD [] (hp [.cells cs 1 own, .cells (labC L) 2 true]) := fun L => FlatD.hp ⟨hfl, labC_flat L, trivial⟩
  unfold rsR
  cases hd : dec l with
  | none =>
    refine (sure47 hmix).funX F124 body124 [] [.tup 0 0 2] Try.func24 rfl noLoops ?_
    rw [w124e]
    simp only [hfl, hil, hB.bytesAt, hd, Alt_iff, Need_iff, ltI_eq, leI_eq, eqI_eq, leN_eq, eqN_eq, decide_eq_true_eq, decide_eq_false_iff_not, decide_true, decide_false, true_and, and_true, Bool.true_eq_false, Bool.false_eq_true, false_implies, true_implies, implies_true, not_true_eq_false, not_false_eq_true, Bool.not_eq_true', Bool.not_eq_false', Nat.zero_add, Nat.add_zero, Nat.sub_zero, Nat.zero_mul, Nat.mul_one, Int.toNat_natCast, List.drop_zero, beqV_int, beqV_sl, beqV_str, beqV_bool, beqV_ptr, beqV_flt, beqV_agg, beqV_tuple, List.all_cons, List.all_nil, Bool.and_self, Bool.and_true, Bool.true_and, Nat.le_refl, Int.le_refl, Nat.zero_le, Option.getD_some, isStr, strV, isInt, intV, isBool, boolV, kindEq, at0, isJunk, Option.isSome_some, Option.isSome_none, if_true, if_false, Nat.add_sub_cancel_left, Nat.add_sub_cancel]
    and_intros <;> first | exact hF [] | rfl
  | some r =>
    obtain ⟨n, k⟩ := r
    obtain ⟨q0, q1, q2, q3, q4, q5, q6⟩ := decL_facts l 0 n k hB.ok (by omega) hd
    simp only
    by_cases h6 : n ≤ 6
    · rw [if_pos h6]
      obtain ⟨m, rfl⟩ := Int.eq_ofNat_of_zero_le q0
      rw [Int.toNat_natCast]
      have small : ∀ (j a : Nat) (L : List Lb) (L' : List Lb) (a' : Nat), a ≤ l.length → Small L → rsF l j a L = some (L', a') → Small L' ∧ L'.length = L.length + j := by
        intro j a L L' a' ha hs hq
        have h1 := rdF_rsF l j a L
        rw [hq] at h1
        simp only at h1
        obtain ⟨f1, f2, f3⟩ := rdF_facts hB.ok j (L, a, false) ha hs
        rw [h1] at f2 f3
        exact ⟨f2, f3⟩
      have hL : ∀ (ok : Bool) (a2 : Nat) (L2 : List Lb), (match rsF l m k [] with
          | some (L', a') => ok = true ∧ a2 = a' ∧ L2 = L'
          | none => ok = false) → Loops Try.prog body124 1 (cutLK [⟨[0,1,0,1,1,1,1], T124 (.slice (some ⟨0,o,sp⟩) l.length cap) m k 0 0, hp [.cells cs 1 own, .cells [] 2 true], fun K => Alt ok (K (.exit 0) (tmps 71 [(6, .int .i64 a2), (8, sl1 1 L2.length)]) (hp [.cells cs 1 own, .cells (labC L2) 2 true])) (K .ret (tmps 71 [(2, sl1 1 0), (3, .int .i64 0), (4, .bool false)]) (hp [.cells cs 1 own, .cells [] 2 true]))⟩]) := fun ok a2 L2 hq => Loops.none.more _ fun K hK => by
        show LSays Try.prog _ (sub body124 [0,0,1,0,1,1,1,1]) _ _ _
        refine rread_loop hmix l cs own o sp cap hc hB m (by omega) K m 0 k [] (by omega) rfl (by omega) ?_
        cases hr : rsF l m k [] with
        | none => rw [hr] at hq; simp only at hq ⊢; subst hq; exact hK
        | some q =>
          obtain ⟨L', a'⟩ := q
          rw [hr] at hq
          simp only at hq ⊢
          obtain ⟨rfl, rfl, rfl⟩ := hq
          exact hK
      cases hr : rsF l m k [] with
      | none =>
        refine (sure47 hmix).funX F124 body124 [] [.tup 0 0 2] Try.func24 rfl ((hL false 0 [] (by rw [hr])).gcX (at0 []) (at0 [.tmp 8 2])) ?_
        rw [w124]
        simp only [hfl, hil, hB.bytesAt, hd, gN, gK, show ¬ (6 : Int) < (m : Int) by omega, Alt_iff, Need_iff, ltI_eq, leI_eq, eqI_eq, leN_eq, eqN_eq, decide_eq_true_eq, decide_eq_false_iff_not, decide_true, decide_false, true_and, and_true, Bool.true_eq_false, Bool.false_eq_true, false_implies, true_implies, implies_true, not_true_eq_false, not_false_eq_true, Bool.not_eq_true', Bool.not_eq_false', Nat.zero_add, Nat.add_zero, Nat.sub_zero, Nat.zero_mul, Nat.mul_one, Int.toNat_natCast, List.drop_zero, beqV_int, beqV_sl, beqV_str, beqV_bool, beqV_ptr, beqV_flt, beqV_agg, beqV_tuple, List.all_cons, List.all_nil, Bool.and_self, Bool.and_true, Bool.true_and, Nat.le_refl, Int.le_refl, Nat.zero_le, Option.getD_some, isStr, strV, isInt, intV, isBool, boolV, kindEq, at0, isJunk, Option.isSome_some, Option.isSome_none, if_true, if_false, Nat.add_sub_cancel_left, Nat.add_sub_cancel]
        and_intros <;> first | exact hF [] | rfl
      | some q =>
        obtain ⟨L', a'⟩ := q
        obtain ⟨s1, s2⟩ := small m k [] L' a' (by omega) small_nil hr
        have hs : LSl (labC L') 0 L' := labC_ls L' s1 (by simp at s2; omega)
        have hls : IsLs (labC L') 0 L'.length L'.length := ⟨L', rfl, Nat.le_refl _, hs⟩
        refine (sure47 hmix).funX F124 body124 [] [.tup 0 0 2] Try.func24 rfl ((hL true a' L' (by rw [hr]; exact ⟨rfl, rfl, rfl⟩)).gcX (at0 []) (at0 [.tmp 8 2])) ?_
        rw [w124]
        cases hq : isSetB L' with
        | true =>
          simp only [hfl, hil, hB.bytesAt, hd, gN, gK, hls, hs.labsAt, labC_flat, hq, show ¬ (6 : Int) < (m : Int) by omega, Alt_iff, Need_iff, ltI_eq, leI_eq, eqI_eq, leN_eq, eqN_eq, decide_eq_true_eq, decide_eq_false_iff_not, decide_true, decide_false, true_and, and_true, Bool.true_eq_false, Bool.false_eq_true, false_implies, true_implies, implies_true, not_true_eq_false, not_false_eq_true, Bool.not_eq_true', Bool.not_eq_false', Nat.zero_add, Nat.add_zero, Nat.sub_zero, Nat.zero_mul, Nat.mul_one, Int.toNat_natCast, List.drop_zero, beqV_int, beqV_sl, beqV_str, beqV_bool, beqV_ptr, beqV_flt, beqV_agg, beqV_tuple, List.all_cons, List.all_nil, Bool.and_self, Bool.and_true, Bool.true_and, Nat.le_refl, Int.le_refl, Nat.zero_le, Option.getD_some, isStr, strV, isInt, intV, isBool, boolV, kindEq, at0, isJunk, Option.isSome_some, Option.isSome_none, if_true, if_false, Nat.add_sub_cancel_left, Nat.add_sub_cancel]
          and_intros <;> first | exact hF _ | exact hF [] | rfl
        | false =>
          simp only [hfl, hil, hB.bytesAt, hd, gN, gK, hls, hs.labsAt, labC_flat, hq, show ¬ (6 : Int) < (m : Int) by omega, Alt_iff, Need_iff, ltI_eq, leI_eq, eqI_eq, leN_eq, eqN_eq, decide_eq_true_eq, decide_eq_false_iff_not, decide_true, decide_false, true_and, and_true, Bool.true_eq_false, Bool.false_eq_true, false_implies, true_implies, implies_true, not_true_eq_false, not_false_eq_true, Bool.not_eq_true', Bool.not_eq_false', Nat.zero_add, Nat.add_zero, Nat.sub_zero, Nat.zero_mul, Nat.mul_one, Int.toNat_natCast, List.drop_zero, beqV_int, beqV_sl, beqV_str, beqV_bool, beqV_ptr, beqV_flt, beqV_agg, beqV_tuple, List.all_cons, List.all_nil, Bool.and_self, Bool.and_true, Bool.true_and, Nat.le_refl, Int.le_refl, Nat.zero_le, Option.getD_some, isStr, strV, isInt, intV, isBool, boolV, kindEq, at0, isJunk, Option.isSome_some, Option.isSome_none, if_true, if_false, Nat.add_sub_cancel_left, Nat.add_sub_cancel]
          and_intros <;> first | exact hF _ | exact hF [] | rfl
    · rw [if_neg h6]
      refine (sure47 hmix).funX F124 body124 [] [.tup 0 0 2] Try.func24 rfl noLoops ?_
      rw [w124e]
      simp only [hfl, hil, hB.bytesAt, hd, gN, gK, show (6 : Int) < n by omega, Alt_iff, Need_iff, ltI_eq, leI_eq, eqI_eq, leN_eq, eqN_eq, decide_eq_true_eq, decide_eq_false_iff_not, decide_true, decide_false, true_and, and_true, Bool.true_eq_false, Bool.false_eq_true, false_implies, true_implies, implies_true, not_true_eq_false, not_false_eq_true, Bool.not_eq_true', Bool.not_eq_false', Nat.zero_add, Nat.add_zero, Nat.sub_zero, Nat.zero_mul, Nat.mul_one, Int.toNat_natCast, List.drop_zero, beqV_int, beqV_sl, beqV_str, beqV_bool, beqV_ptr, beqV_flt, beqV_agg, beqV_tuple, List.all_cons, List.all_nil, Bool.and_self, Bool.and_true, Bool.true_and, Nat.le_refl, Int.le_refl, Nat.zero_le, Option.getD_some, isStr, strV, isInt, intV, isBool, boolV, kindEq, at0, isJunk, Option.isSome_some, Option.isSome_none, if_true, if_false, Nat.add_sub_cancel_left, Nat.add_sub_cancel]
      and_intros <;> first | exact hF [] | rfl
end Go.Proofs.Ytdpfmaimhimfcaa

namespace Go.Proofs.Ytdpfmaimhimfcaa
open Go.RowKit Go.Proofs.Ytdpfmaimhimfcaa.AM
set_option maxRecDepth 100000
set_option maxHeartbeats 4000000
noncomputable def body106 : Code := (Try.f6.body).getD .skip
def F106 : List Nat → Option (List Nat) := fun p => match p with
  | [1] => some [0, 1]
  | [1, 0, 1] => some [0, 1, 18]
  | [1, 0, 1, 0, 1] => some [4]
  | [1, 1] => some [0, 1]
  | [1, 1, 1] => some [0, 1, 5, 6, 7]
  | [1, 1, 1, 1] => some [0, 5, 6, 7, 8, 9, 10]
  | [1, 1, 1, 1, 1] => some [4]
  | _ => none
noncomputable def S48 : Book := bookOf [(3, trueC), (12, bytesC), (14, wgtC), (23, readC), (24, readC), (25, bytesC), (26, sameC)]
theorem sure48 (hmix : Try.prog.follows .mixedOrders = true) : Sure Try.prog S48 := ⟨hmix, plain, bookOf_ok (l := [(3, trueC), (12, bytesC), (14, wgtC), (23, readC), (24, readC), (25, bytesC), (26, sameC)]) ⟨runs_holds hmix, bytes_says hmix, wgt_says hmix, read_says hmix, rread_says hmix, rbytes_says hmix, same_says hmix, trivial⟩⟩

theorem w106 (cl cb : List Value) (o o2 : Nat) (sp s2 : Option Nat) (len cap len2 cap2 : Nat) (K : Value → Heap → Prop) :
  funX Try.prog S48 noLoop F106 body106 Try.f6 [] [] [.slice (some ⟨0,o,sp⟩) len cap, .slice (some ⟨1,o2,s2⟩) len2 cap2] (hp [.cells cl 2 false, .cells cb 1 false]) K = (
(FlatL cl ∧ True) ∧
  (IsLs cl o len cap ∧ True) ∧
    Alt (ltI 300 (wgtV (labsAt cl o len) (intV (Value.int IntKind.i64 300))))
      (True ∧ True ∧ K (Value.bool true) (hp [Blk.cells cl 2 false, Blk.cells cb 1 false]))
      (Alt (ltI 300 (↑len2 : Int)) (True ∧ True ∧ K (Value.bool true) (hp [Blk.cells cl 2 false, Blk.cells cb 1 false]))
        ((FlatL cb ∧ True) ∧
          IsBs cb o2 len2 cap2 ∧
            (FlatL cb ∧ True) ∧
              IsBs cb o2 len2 cap2 ∧
                (FlatL cl ∧ True) ∧
                  IsLs cl o len cap ∧
                    Need (leN (0 + (setB (labsAt cl o len)).length) (List.map u8v (setB (labsAt cl o len))).length)
                      (Need
                        (strOf
                            (List.take (setB (labsAt cl o len)).length
                              (List.drop 0 (List.map u8v (setB (labsAt cl o len)))))).isSome
                        ((FlatL cl ∧ True) ∧
                          IsLs cl o len cap ∧
                            Need
                              (leN (0 + (setB (labsAt cl o len)).length) (List.map u8v (setB (labsAt cl o len))).length)
                              (Need
                                (strOf
                                    (List.take (setB (labsAt cl o len)).length
                                      (List.drop 0 (List.map u8v (setB (labsAt cl o len)))))).isSome
                                (Alt
                                  (eqS
                                    {
                                      data :=
                                        ((strOf
                                                (List.take (setB (labsAt cl o len)).length
                                                  (List.drop 0 (List.map u8v (setB (labsAt cl o len)))))).getD
                                            []).toArray :
                                      ByteArray }
                                    {
                                      data :=
                                        ((strOf
                                                (List.take (setB (labsAt cl o len)).length
                                                  (List.drop 0 (List.map u8v (setB (labsAt cl o len)))))).getD
                                            []).toArray :
                                      ByteArray })
                                  (Alt ((rsR (bytesAt cb o2 len2)).isSome == (rsR (bytesAt cb o2 len2)).isSome)
                                    (Alt
                                      (eqI (↑(rsN (rsR (bytesAt cb o2 len2))) : Int)
                                        (↑(rsN (rsR (bytesAt cb o2 len2))) : Int))
                                      ((FlatL (labC (rsL (rsR (bytesAt cb o2 len2)))) ∧
                                          FlatL (labC (rsL (rsR (bytesAt cb o2 len2)))) ∧ True) ∧
                                        (IsLs (labC (rsL (rsR (bytesAt cb o2 len2)))) 0
                                              (rsL (rsR (bytesAt cb o2 len2))).length
                                              (rsL (rsR (bytesAt cb o2 len2))).length ∧
                                            IsLs (labC (rsL (rsR (bytesAt cb o2 len2)))) 0
                                              (rsL (rsR (bytesAt cb o2 len2))).length
                                              (rsL (rsR (bytesAt cb o2 len2))).length) ∧
                                          Alt
                                            (sameB
                                              (labsAt (labC (rsL (rsR (bytesAt cb o2 len2)))) 0
                                                (rsL (rsR (bytesAt cb o2 len2))).length)
                                              (labsAt (labC (rsL (rsR (bytesAt cb o2 len2)))) 0
                                                (rsL (rsR (bytesAt cb o2 len2))).length))
                                            (True ∧
                                              True ∧
                                                Need
                                                  (beqV 64
                                                    (Value.slice (some { block := 0, off := o, spot := sp : Addr }) len
                                                      cap)
                                                    (Value.slice (some { block := 0, off := o, spot := sp : Addr }) len
                                                      cap))
                                                  (Need
                                                    (leN (0 + (setB (labsAt cl o len)).length)
                                                      (List.map u8v (setB (labsAt cl o len))).length)
                                                    (Need
                                                      (strOf
                                                          (List.take (setB (labsAt cl o len)).length
                                                            (List.drop 0
                                                              (List.map u8v (setB (labsAt cl o len)))))).isSome
                                                      (Need
                                                        (beqV 64
                                                          (Value.string
                                                            {
                                                              data :=
                                                                ((strOf
                                                                        (List.take (setB (labsAt cl o len)).length
                                                                          (List.drop 0
                                                                            (List.map u8v
                                                                              (setB (labsAt cl o len)))))).getD
                                                                    []).toArray :
                                                              ByteArray })
                                                          (Value.string
                                                            {
                                                              data :=
                                                                ((strOf
                                                                        (List.take (setB (labsAt cl o len)).length
                                                                          (List.drop 0
                                                                            (List.map u8v
                                                                              (setB (labsAt cl o len)))))).getD
                                                                    []).toArray :
                                                              ByteArray }))
                                                        (K (Value.bool true)
                                                          (hp [Blk.cells cl 2 false, Blk.cells cb 1 false]))))))
                                            (Need
                                              (beqV 64
                                                (Value.slice (some { block := 0, off := o, spot := sp : Addr }) len cap)
                                                (Value.slice (some { block := 0, off := o, spot := sp : Addr }) len
                                                  cap))
                                              (Need
                                                (leN (0 + (setB (labsAt cl o len)).length)
                                                  (List.map u8v (setB (labsAt cl o len))).length)
                                                (Need
                                                  (strOf
                                                      (List.take (setB (labsAt cl o len)).length
                                                        (List.drop 0 (List.map u8v (setB (labsAt cl o len)))))).isSome
                                                  (Need
                                                    (beqV 64
                                                      (Value.string
                                                        {
                                                          data :=
                                                            ((strOf
                                                                    (List.take (setB (labsAt cl o len)).length
                                                                      (List.drop 0
                                                                        (List.map u8v (setB (labsAt cl o len)))))).getD
                                                                []).toArray :
                                                          ByteArray })
                                                      (Value.string
                                                        {
                                                          data :=
                                                            ((strOf
                                                                    (List.take (setB (labsAt cl o len)).length
                                                                      (List.drop 0
                                                                        (List.map u8v (setB (labsAt cl o len)))))).getD
                                                                []).toArray :
                                                          ByteArray }))
                                                    (K (Value.bool false)
                                                      (hp [Blk.cells cl 2 false, Blk.cells cb 1 false])))))))
                                      (Need
                                        (beqV 64
                                          (Value.slice (some { block := 0, off := o, spot := sp : Addr }) len cap)
                                          (Value.slice (some { block := 0, off := o, spot := sp : Addr }) len cap))
                                        (Need
                                          (leN (0 + (setB (labsAt cl o len)).length)
                                            (List.map u8v (setB (labsAt cl o len))).length)
                                          (Need
                                            (strOf
                                                (List.take (setB (labsAt cl o len)).length
                                                  (List.drop 0 (List.map u8v (setB (labsAt cl o len)))))).isSome
                                            (Need
                                              (beqV 64
                                                (Value.string
                                                  {
                                                    data :=
                                                      ((strOf
                                                              (List.take (setB (labsAt cl o len)).length
                                                                (List.drop 0
                                                                  (List.map u8v (setB (labsAt cl o len)))))).getD
                                                          []).toArray :
                                                    ByteArray })
                                                (Value.string
                                                  {
                                                    data :=
                                                      ((strOf
                                                              (List.take (setB (labsAt cl o len)).length
                                                                (List.drop 0
                                                                  (List.map u8v (setB (labsAt cl o len)))))).getD
                                                          []).toArray :
                                                    ByteArray }))
                                              (K (Value.bool false)
                                                (hp [Blk.cells cl 2 false, Blk.cells cb 1 false])))))))
                                    (Need
                                      (beqV 64 (Value.slice (some { block := 0, off := o, spot := sp : Addr }) len cap)
                                        (Value.slice (some { block := 0, off := o, spot := sp : Addr }) len cap))
                                      (Need
                                        (leN (0 + (setB (labsAt cl o len)).length)
                                          (List.map u8v (setB (labsAt cl o len))).length)
                                        (Need
                                          (strOf
                                              (List.take (setB (labsAt cl o len)).length
                                                (List.drop 0 (List.map u8v (setB (labsAt cl o len)))))).isSome
                                          (Need
                                            (beqV 64
                                              (Value.string
                                                {
                                                  data :=
                                                    ((strOf
                                                            (List.take (setB (labsAt cl o len)).length
                                                              (List.drop 0
                                                                (List.map u8v (setB (labsAt cl o len)))))).getD
                                                        []).toArray :
                                                  ByteArray })
                                              (Value.string
                                                {
                                                  data :=
                                                    ((strOf
                                                            (List.take (setB (labsAt cl o len)).length
                                                              (List.drop 0
                                                                (List.map u8v (setB (labsAt cl o len)))))).getD
                                                        []).toArray :
                                                  ByteArray }))
                                            (K (Value.bool false)
                                              (hp [Blk.cells cl 2 false, Blk.cells cb 1 false])))))))
                                  (Need
                                    (beqV 64 (Value.slice (some { block := 0, off := o, spot := sp : Addr }) len cap)
                                      (Value.slice (some { block := 0, off := o, spot := sp : Addr }) len cap))
                                    (Need
                                      (leN (0 + (setB (labsAt cl o len)).length)
                                        (List.map u8v (setB (labsAt cl o len))).length)
                                      (Need
                                        (strOf
                                            (List.take (setB (labsAt cl o len)).length
                                              (List.drop 0 (List.map u8v (setB (labsAt cl o len)))))).isSome
                                        (Need
                                          (beqV 64
                                            (Value.string
                                              {
                                                data :=
                                                  ((strOf
                                                          (List.take (setB (labsAt cl o len)).length
                                                            (List.drop 0 (List.map u8v (setB (labsAt cl o len)))))).getD
                                                      []).toArray :
                                                ByteArray })
                                            (Value.string
                                              {
                                                data :=
                                                  ((strOf
                                                          (List.take (setB (labsAt cl o len)).length
                                                            (List.drop 0 (List.map u8v (setB (labsAt cl o len)))))).getD
                                                      []).toArray :
                                                ByteArray }))
                                          (K (Value.bool false)
                                            (hp [Blk.cells cl 2 false, Blk.cells cb 1 false]))))))))))))) := by kernel_rfl

theorem Tiny.small {l : List Lb} (h : Tiny l) : Small l := fun x hx => by have := h x hx; omega
theorem rsR_set {l : List Int} {L : List Lb} {a : Nat} (h : rsR l = some (L, a)) : isSetB L = true := by
  unfold rsR at h
  cases hd : dec l with
  | none => rw [hd] at h; cases h
  | some r =>
    rw [hd] at h
    simp only at h
    split at h
    · split at h
      · cases h
      · split at h
        · rename_i hs; injection h with h; injection h with h1 h2; subst h1; exact hs
        · cases h
    · cases h
theorem rs_ls (l : List Int) : LSl (labC (rsL (rsR l))) 0 (rsL (rsR l)) := by
  cases h : rsR l with
  | none => exact labC_ls [] small_nil (by decide)
  | some r =>
    obtain ⟨L, a⟩ := r
    obtain ⟨h1, h2, h3⟩ := isSet_tiny (rsR_set h)
    exact labC_ls L h1.small (by omega)
theorem sameB_rfl (l : List Lb) : sameB l l = true := sameB_iff.2 rfl
theorem law106 (hmix : Try.prog.follows .mixedOrders = true) (cl cb : List Value) (o o2 : Nat) (sp s2 : Option Nat) (cap cap2 : Nat) (l : List Lb) (b : List Int) (h0 : l.length ≤ cap) (h1 : b.length ≤ cap2) (hL : LSl cl o l) (fb : FlatL cb) (hB : b.length ≤ 300 → BSl cb o2 b) :
    FunSays Try.prog 6 [.slice (some ⟨0,o,sp⟩) l.length cap, .slice (some ⟨1,o2,s2⟩) b.length cap2] (hp [.cells cl 2 false, .cells cb 1 false]) fun v _ => v = .bool true := by
  have hF : FlatD [] (hp [.cells cl 2 false, .cells cb 1 false]) := FlatD.hp ⟨hL.flat, fb, trivial⟩
  have iL : IsLs cl o l.length cap := ⟨l, rfl, h0, hL⟩
  refine (sure48 hmix).funX F106 body106 [] [] Try.func6 rfl noLoops ?_
  rw [w106]
  by_cases hb : b.length ≤ 300
  · have hB := hB hb
    have iB : IsBs cb o2 b.length cap2 := ⟨b, rfl, h1, hB⟩
    have hs := rs_ls b
    have is : IsLs (labC (rsL (rsR b))) 0 (rsL (rsR b)).length (rsL (rsR b)).length := ⟨_, rfl, Nat.le_refl _, hs⟩
    simp only [hF, hL.flat, fb, iL, iB, hL.labsAt, hB.bytesAt, strOf_take, List.length_map, eqS_rfl, beq_self_eq_true, labC_flat, is, hs.labsAt, sameB_rfl, show ¬ (300 : Int) < (b.length : Int) by omega, Alt_iff, Need_iff, ltI_eq, leI_eq, eqI_eq, leN_eq, eqN_eq, decide_eq_true_eq, decide_eq_false_iff_not, decide_true, decide_false, true_and, and_true, Bool.true_eq_false, Bool.false_eq_true, false_implies, true_implies, implies_true, not_true_eq_false, not_false_eq_true, Bool.not_eq_true', Bool.not_eq_false', Nat.zero_add, Nat.add_zero, Nat.sub_zero, Nat.zero_mul, Nat.mul_one, Int.toNat_natCast, List.drop_zero, beqV_int, beqV_sl, beqV_str, beqV_bool, beqV_ptr, beqV_flt, beqV_agg, beqV_tuple, List.all_cons, List.all_nil, Bool.and_self, Bool.and_true, Bool.true_and, Nat.le_refl, Int.le_refl, Nat.zero_le, Option.getD_some, isStr, strV, isInt, intV, isBool, boolV, kindEq, at0, isJunk, Option.isSome_some, Option.isSome_none, if_true, if_false, Nat.add_sub_cancel_left, Nat.add_sub_cancel]
  · simp only [hF, hL.flat, fb, iL, hL.labsAt, show (300 : Int) < (b.length : Int) by omega, Alt_iff, Need_iff, ltI_eq, leI_eq, eqI_eq, leN_eq, eqN_eq, decide_eq_true_eq, decide_eq_false_iff_not, decide_true, decide_false, true_and, and_true, Bool.true_eq_false, Bool.false_eq_true, false_implies, true_implies, implies_true, not_true_eq_false, not_false_eq_true, Bool.not_eq_true', Bool.not_eq_false', Nat.zero_add, Nat.add_zero, Nat.sub_zero, Nat.zero_mul, Nat.mul_one, Int.toNat_natCast, List.drop_zero, beqV_int, beqV_sl, beqV_str, beqV_bool, beqV_ptr, beqV_flt, beqV_agg, beqV_tuple, List.all_cons, List.all_nil, Bool.and_self, Bool.and_true, Bool.true_and, Nat.le_refl, Int.le_refl, Nat.zero_le, Option.getD_some, isStr, strV, isInt, intV, isBool, boolV, kindEq, at0, isJunk, Option.isSome_some, Option.isSome_none, if_true, if_false, Nat.add_sub_cancel_left, Nat.add_sub_cancel]
end Go.Proofs.Ytdpfmaimhimfcaa
