/- Proved: what functions of the program come to, by their conditions over the abstract machine. Conditions: those that each theorem states. -/
import Derived.Test.YtdpfmaimhimfcaaCh1
set_option linter.unusedVariables false
set_option linter.unusedSimpArgs false
namespace Go.Proofs.Ytdpfmaimhimfcaa
open Go.RowKit Go.Proofs.Ytdpfmaimhimfcaa.AM
set_option maxRecDepth 100000
set_option maxHeartbeats 4000000
noncomputable def S42 : Book := bookOf [(20, getLC), (28, mksetC), (34, knameC), (35, withinC), (36, kvalC)]
theorem sure42 (hmix : Try.prog.follows .mixedOrders = true) : Sure Try.prog S42 := ⟨hmix, plain, bookOf_ok ⟨getl_says hmix, mkset_says hmix, kname_says hmix, within_says hmix, kval_says hmix, trivial⟩⟩
noncomputable def T121 (a : Value) (m i : Nat) : List Value := tmps 54 [(0, a), (3, .slice (some ⟨1,0,some 1⟩) m m), (4, .int .i64 i)]

theorem r121 (cs c2 : List Value) (own : Bool) (o : Nat) (sp : Option Nat) (len cap m i : Nat) (K : Post) :
  roundX Try.prog S42 noLoop F121 body121 1 [] [] [] [] [0,3,4] [0,0,1,0,1,1] (T121 (.slice (some ⟨0,o,sp⟩) len cap) m i) (hp [.cells cs 1 own, .cells c2 2 true]) K = (
Alt (ltI (↑i : Int) (↑len : Int))
  (Alt (ltI (↑i : Int) 5)
    (Need (ltI (↑i : Int) (↑len : Int))
      (Need (isInt IntKind.i64 ((getO cs (o + (↑i : Int).toNat * 1)).getD undef))
        (True ∧
          True ∧
            True ∧
              Need (leI 0 (0 + intV ((getO cs (o + (↑i : Int).toNat * 1)).getD undef) % 5))
                  (Need (leI (0 + intV ((getO cs (o + (↑i : Int).toNat * 1)).getD undef) % 5) 4) True) ∧
                Need (ltI (↑i : Int) (↑len : Int))
                  (Need (isInt IntKind.i64 ((getO cs (o + (↑i : Int).toNat * 1)).getD undef))
                    (True ∧
                      True ∧
                        True ∧
                          Need
                              (leI 0
                                (0 +
                                  wr IntKind.i64 ((intV ((getO cs (o + (↑i : Int).toNat * 1)).getD undef)).tdiv 5) % 7))
                              (Need
                                (leI
                                  (0 +
                                    wr IntKind.i64 ((intV ((getO cs (o + (↑i : Int).toNat * 1)).getD undef)).tdiv 5) %
                                      7)
                                  6)
                                True) ∧
                            Need
                              (beqV 64
                                (Value.int IntKind.i64
                                  (wr IntKind.i64 ((intV ((getO cs (o + (↑i : Int).toNat * 1)).getD undef)).tdiv 5)))
                                (Value.int IntKind.i64
                                  (wr IntKind.i64 ((intV ((getO cs (o + (↑i : Int).toNat * 1)).getD undef)).tdiv 5))))
                              (Need
                                (beqV 64
                                  (Value.int IntKind.i64
                                    (wr IntKind.i64 ((intV ((getO cs (o + (↑i : Int).toNat * 1)).getD undef)).tdiv 5)))
                                  (Value.int IntKind.i64
                                    (wr IntKind.i64 ((intV ((getO cs (o + (↑i : Int).toNat * 1)).getD undef)).tdiv 5))))
                                (Need (isInt IntKind.i64 ((getO cs (o + (↑i : Int).toNat * 1)).getD undef))
                                  (Need
                                    (beqV 64
                                      (Value.int IntKind.i64 (intV ((getO cs (o + (↑i : Int).toNat * 1)).getD undef)))
                                      (Value.int IntKind.i64 (intV ((getO cs (o + (↑i : Int).toNat * 1)).getD undef))))
                                    (Need (isInt IntKind.i64 ((getO cs (o + (↑i : Int).toNat * 1)).getD undef))
                                      (Need
                                        (beqV 64
                                          (Value.int IntKind.i64
                                            (intV ((getO cs (o + (↑i : Int).toNat * 1)).getD undef)))
                                          (Value.int IntKind.i64
                                            (intV ((getO cs (o + (↑i : Int).toNat * 1)).getD undef))))
                                        (Need (ltI (↑i : Int) (↑len : Int))
                                          (Need
                                            (beqV 64
                                              (Value.pointer
                                                (some { block := 0, off := o + (↑i : Int).toNat * 1 : Addr }))
                                              (Value.pointer
                                                (some { block := 0, off := o + (↑i : Int).toNat * 1 : Addr })))
                                            (Need (ltI (↑i : Int) (↑len : Int))
                                              (Need
                                                (beqV 64
                                                  (Value.pointer
                                                    (some { block := 0, off := o + (↑i : Int).toNat * 1 : Addr }))
                                                  (Value.pointer
                                                    (some { block := 0, off := o + (↑i : Int).toNat * 1 : Addr })))
                                                (Need
                                                  (beqV 64 (Value.int IntKind.i64 (↑i : Int))
                                                    (Value.int IntKind.i64 (↑i : Int)))
                                                  (Need
                                                    (beqV 64 (Value.int IntKind.i64 (↑i : Int))
                                                      (Value.int IntKind.i64 (↑i : Int)))
                                                    (Need
                                                      (beqV 64
                                                        (Value.slice (some { block := 0, off := o, spot := sp : Addr })
                                                          len cap)
                                                        (Value.slice (some { block := 0, off := o, spot := sp : Addr })
                                                          len cap))
                                                      (Need
                                                        (beqV 64
                                                          (Value.slice
                                                            (some { block := 0, off := o, spot := sp : Addr }) len cap)
                                                          (Value.slice
                                                            (some { block := 0, off := o, spot := sp : Addr }) len cap))
                                                        ((FlatL c2 ∧ True) ∧
                                                          (IsLs c2 0 m m ∧ True) ∧
                                                            Alt
                                                              (eqS
                                                                (getF
                                                                  (strV
                                                                    (Value.string
                                                                      (strV
                                                                        (Value.string
                                                                          (nameS
                                                                            (0 +
                                                                              intV
                                                                                  ((getO cs
                                                                                        (o + (↑i : Int).toNat * 1)).getD
                                                                                    undef) %
                                                                                5))))))
                                                                  (labsAt c2 0 m))
                                                                { data := #[] : ByteArray })
                                                              (Need (leN (0 + m * 2) c2.length)
                                                                (Need (leN ((m + 1) * 32) 1099511627776)
                                                                  (Need (leN (m + 1) 1099511627776)
                                                                    (K AE.normal
                                                                      (tmps 54
                                                                        [(0,
                                                                            Value.slice
                                                                              (some
                                                                                { block := 0, off := o, spot := sp :
                                                                                  Addr })
                                                                              len cap),
                                                                          (3,
                                                                            Value.slice
                                                                              (some
                                                                                { block := 1, off := 0, spot := some 1 :
                                                                                  Addr })
                                                                              (m + 1) (m + 1)),
                                                                          (4,
                                                                            Value.int IntKind.i64
                                                                              (wr IntKind.i64 ((↑i : Int) + 1)))])
                                                                      (hp
                                                                        [Blk.cells cs 1 own,
                                                                          Blk.cells
                                                                            (List.take (m * 2) (List.drop 0 c2) ++
                                                                              [Value.string
                                                                                  (strV
                                                                                    (Value.string
                                                                                      (nameS
                                                                                        (0 +
                                                                                          intV
                                                                                              ((getO cs
                                                                                                    (o +
                                                                                                      (↑i : Int).toNat *
                                                                                                        1)).getD
                                                                                                undef) %
                                                                                            5)))),
                                                                                Value.string
                                                                                  (strV
                                                                                    (Value.string
                                                                                      (valS
                                                                                        (0 +
                                                                                          wr IntKind.i64
                                                                                              ((intV
                                                                                                    ((getO cs
                                                                                                          (o +
                                                                                                            (↑i :
                                                                                                                  Int).toNat *
                                                                                                              1)).getD
                                                                                                      undef)).tdiv
                                                                                                5) %
                                                                                            7))))])
                                                                            2 true])))))
                                                              (K AE.normal
                                                                (tmps 54
                                                                  [(0,
                                                                      Value.slice
                                                                        (some
                                                                          { block := 0, off := o, spot := sp : Addr })
                                                                        len cap),
                                                                    (3,
                                                                      Value.slice
                                                                        (some
                                                                          { block := 1, off := 0, spot := some 1 :
                                                                            Addr })
                                                                        m m),
                                                                    (4,
                                                                      Value.int IntKind.i64
                                                                        (wr IntKind.i64 ((↑i : Int) + 1)))])
                                                                (hp
                                                                  [Blk.cells cs 1 own,
                                                                    Blk.cells c2 2 true])))))))))))))))))))))
    (K (AE.exit 0) (tmps 54 [(3, Value.slice (some { block := 1, off := 0, spot := some 1 : Addr }) m m)])
      (hp [Blk.cells cs 1 own, Blk.cells c2 2 true])))
  (K (AE.exit 0) (tmps 54 [(3, Value.slice (some { block := 1, off := 0, spot := some 1 : Addr }) m m)])
    (hp [Blk.cells cs 1 own, Blk.cells c2 2 true]))) := by kernel_rfl

theorem w121 (cs : List Value) (own : Bool) (o : Nat) (sp : Option Nat) (len cap : Nat) (c2 : List Value) (m : Nat) (K : Value → Heap → Prop) :
  funX Try.prog S42 (gcLKX (at0 []) (at0 [.tmp 3 2]) 1 (cutLK [⟨[0,1,0,1,1], T121 (.slice (some ⟨0,o,sp⟩) len cap) 0 0, hp [.cells cs 1 own, .cells [] 2 true], fun K => K (.exit 0) (tmps 54 [(3, .slice (some ⟨1,0,some 1⟩) m m)]) (hp [.cells cs 1 own, .cells c2 2 true])⟩])) F121 body121 Try.f21 [] [.tmp 0 2] [.slice (some ⟨0,o,sp⟩) len cap] (hp [.cells cs 1 own]) K = (
FlatD [] (hp [Blk.cells cs 1 own, Blk.cells [] 2 true]) ∧
  tmps 54
        [(0, Value.slice (some { block := 0, off := o, spot := sp : Addr }) len cap),
          (3, Value.slice (some { block := 1, off := 0, spot := some 1 : Addr }) 0 0), (4, Value.int IntKind.i64 0)] =
      tmps 54
        [(0, Value.slice (some { block := 0, off := o, spot := sp : Addr }) len cap),
          (3, Value.slice (some { block := 1, off := 0, spot := some 1 : Addr }) 0 0), (4, Value.int IntKind.i64 0)] ∧
    hp [Blk.cells cs 1 own, Blk.cells [] 2 true] = hp [Blk.cells cs 1 own, Blk.cells [] 2 true] ∧
      Alt (eqI (↑m : Int) 0)
        (Need (leN (0 + m * 2) c2.length)
          (Need (leN ((m + 1) * 32) 1099511627776)
            (Need (leN (m + 1) 1099511627776)
              ((FlatL
                    (List.take (m * 2) (List.drop 0 c2) ++
                      [Value.string { data := #[OfNat.ofNat 115, OfNat.ofNat 101, OfNat.ofNat 118] : ByteArray },
                        Value.string { data := #[OfNat.ofNat 97] : ByteArray }]) ∧
                  True) ∧
                (IsLs
                      (List.take (m * 2) (List.drop 0 c2) ++
                        [Value.string { data := #[OfNat.ofNat 115, OfNat.ofNat 101, OfNat.ofNat 118] : ByteArray },
                          Value.string { data := #[OfNat.ofNat 97] : ByteArray }])
                      0 (m + 1) (m + 1) ∧
                    Need (leN (m + 1) 1000000) True) ∧
                  K
                    (Value.slice (some { block := 1, off := 0, spot := some 1 : Addr })
                      (mkR
                          (labsAt
                            (List.take (m * 2) (List.drop 0 c2) ++
                              [Value.string
                                  { data := #[OfNat.ofNat 115, OfNat.ofNat 101, OfNat.ofNat 118] : ByteArray },
                                Value.string { data := #[OfNat.ofNat 97] : ByteArray }])
                            0 (m + 1))).length
                      (mkR
                          (labsAt
                            (List.take (m * 2) (List.drop 0 c2) ++
                              [Value.string
                                  { data := #[OfNat.ofNat 115, OfNat.ofNat 101, OfNat.ofNat 118] : ByteArray },
                                Value.string { data := #[OfNat.ofNat 97] : ByteArray }])
                            0 (m + 1))).length)
                    (hp
                      [Blk.cells cs 1 own,
                        Blk.cells
                          (labC
                            (mkR
                              (labsAt
                                (List.take (m * 2) (List.drop 0 c2) ++
                                  [Value.string
                                      { data := #[OfNat.ofNat 115, OfNat.ofNat 101, OfNat.ofNat 118] : ByteArray },
                                    Value.string { data := #[OfNat.ofNat 97] : ByteArray }])
                                0 (m + 1))))
                          2 true])))))
        ((FlatL c2 ∧ True) ∧
          (IsLs c2 0 m m ∧ Need (leN m 1000000) True) ∧
            K
              (Value.slice (some { block := 1, off := 0, spot := some 1 : Addr }) (mkR (labsAt c2 0 m)).length
                (mkR (labsAt c2 0 m)).length)
              (hp [Blk.cells cs 1 own, Blk.cells (labC (mkR (labsAt c2 0 m))) 2 true]))) := by kernel_rfl

def addK (L : List Lb) (n : Int) : List Lb := if eqS (getF (nameS (n % 5)) L) ⟨#[]⟩ = true then L ++ [(nameS (n % 5), valS (n.tdiv 5 % 7))] else L
def keepS (l : List Int) : List Lb := (l.take 5).foldl addK []
def keepO (l : List Int) : List Lb := if (keepS l).length = 0 then [(nameS 0, valS 0)] else keepS l
theorem addK_small {L : List Lb} (h : Small L) (n : Int) : Small (addK L n) := by
  unfold addK
  split
  · intro x hx
    rcases List.mem_append.1 hx with hx | hx
    · exact h x hx
    · simp at hx
      subst hx
      obtain ⟨a, _⟩ := few_facts (n % 5)
      obtain ⟨_, _, b, _⟩ := few_facts (n.tdiv 5 % 7)
      exact ⟨by show (nameS _).size ≤ _; omega, by show (valS _).size ≤ _; omega⟩
  · exact h
theorem addK_len (L : List Lb) (n : Int) : (addK L n).length ≤ L.length + 1 := by unfold addK; split <;> simp
theorem keepS_small (l : List Int) : ∀ L : List Lb, Small L → Small (l.foldl addK L) ∧ (l.foldl addK L).length ≤ L.length + l.length := by
  induction l with
  | nil => intro L h; exact ⟨h, Nat.le_refl _⟩
  | cons x l ih =>
    intro L h
    obtain ⟨a, b⟩ := ih _ (addK_small h x)
    have := addK_len L x
    rw [List.foldl_cons]
    exact ⟨a, by simp; omega⟩
theorem tdiv5 (n : Int) (h : ZP .i64 n) : wr .i64 (n.tdiv 5) = n.tdiv 5 := by
  have := ZP.i64.1 h
  refine wr_i64 _ ?_ ?_ <;> (rcases Int.le_total 0 n with h | h)
  · have := Int.tdiv_nonneg h (show (0 : Int) ≤ 5 by decide); omega
  · have : -n.tdiv 5 = (-n).tdiv 5 := (Int.neg_tdiv n 5).symm
    have : (-n).tdiv 5 = (-n) / 5 := Int.tdiv_eq_ediv_of_nonneg (by omega)
    omega
  · have : n.tdiv 5 = n / 5 := Int.tdiv_eq_ediv_of_nonneg h
    omega
  · have : -n.tdiv 5 = (-n).tdiv 5 := (Int.neg_tdiv n 5).symm
    have : (-n).tdiv 5 = (-n) / 5 := Int.tdiv_eq_ediv_of_nonneg (by omega)
    omega
theorem keep_loop (hmix : Try.prog.follows .mixedOrders = true) (l : List Int) (cs : List Value) (own : Bool) (o : Nat) (sp : Option Nat) (cap : Nat) (hB : ESl (iE .i64) (ZP .i64) cs o l) (K : Post) : ∀ (t : List Int) (i : Nat) (L : List Lb), (l.take 5).drop i = t → i ≤ 5 → i ≤ l.length → Small L → L.length + t.length ≤ 5 →
    K (.exit 0) (tmps 54 [(3, .slice (some ⟨1,0,some 1⟩) (t.foldl addK L).length (t.foldl addK L).length)]) (hp [.cells cs 1 own, .cells (labC (t.foldl addK L)) 2 true]) →
    LSays Try.prog 1 (sub body121 [0,0,1,0,1,1]) (T121 (.slice (some ⟨0,o,sp⟩) l.length cap) L.length i) (hp [.cells cs 1 own, .cells (labC L) 2 true]) K := by
  have hsh := hB.short
  intro t
  induction t with
  | nil =>
    intro i L ht hi5 hi hs hL hK
    have hF : FlatD [] (hp [.cells cs 1 own, .cells (labC L) 2 true]) := FlatD.hp ⟨hB.flat, labC_flat L, trivial⟩
    have hge := List.drop_eq_nil_iff.1 ht
    rw [List.length_take] at hge
    refine (sure42 hmix).roundX F121 noLoops [] [] [] [] [0,3,4] ?_
    rw [r121]
    by_cases h1 : (i : Int) < (l.length : Int)
    · simp only [h1, show ¬ ((i : Int) < 5) by omega, hF, Alt_iff, Need_iff, ltI_eq, leI_eq, eqI_eq, leN_eq, eqN_eq, decide_eq_true_eq, decide_eq_false_iff_not, decide_true, decide_false, true_and, and_true, Bool.true_eq_false, Bool.false_eq_true, false_implies, true_implies, implies_true, not_true_eq_false, not_false_eq_true, Bool.not_eq_true', Bool.not_eq_false', Nat.zero_add, Nat.add_zero, Nat.sub_zero, Nat.zero_mul, Nat.mul_one, Int.toNat_natCast, List.drop_zero, beqV_int, beqV_sl, beqV_str, beqV_bool, beqV_ptr, beqV_flt, beqV_agg, beqV_tuple, List.all_cons, List.all_nil, Bool.and_self, Bool.and_true, Bool.true_and, Nat.le_refl, Int.le_refl, Nat.zero_le, Option.getD_some, isStr, strV, isInt, intV, isBool, boolV, kindEq, at0, isJunk, Option.isSome_some, Option.isSome_none, if_true, if_false, Nat.add_sub_cancel_left, Nat.add_sub_cancel]; exact hK
    · simp only [h1, hF, Alt_iff, Need_iff, ltI_eq, leI_eq, eqI_eq, leN_eq, eqN_eq, decide_eq_true_eq, decide_eq_false_iff_not, decide_true, decide_false, true_and, and_true, Bool.true_eq_false, Bool.false_eq_true, false_implies, true_implies, implies_true, not_true_eq_false, not_false_eq_true, Bool.not_eq_true', Bool.not_eq_false', Nat.zero_add, Nat.add_zero, Nat.sub_zero, Nat.zero_mul, Nat.mul_one, Int.toNat_natCast, List.drop_zero, beqV_int, beqV_sl, beqV_str, beqV_bool, beqV_ptr, beqV_flt, beqV_agg, beqV_tuple, List.all_cons, List.all_nil, Bool.and_self, Bool.and_true, Bool.true_and, Nat.le_refl, Int.le_refl, Nat.zero_le, Option.getD_some, isStr, strV, isInt, intV, isBool, boolV, kindEq, at0, isJunk, Option.isSome_some, Option.isSome_none, if_true, if_false, Nat.add_sub_cancel_left, Nat.add_sub_cancel]; exact hK
  | cons x t ih =>
    intro i L ht hi5 hi hs hL hK
    obtain ⟨hlt, hx, hd⟩ := cons_of_drop ht
    rw [List.length_take] at hlt
    rw [List.getElem?_take, if_pos (by omega)] at hx
    have hl2 : (i : Int) < (l.length : Int) := by omega
    have hg1 := hB.cell i x hx
    have hzx := hB.ok x (List.mem_of_getElem? hx)
    have hF : FlatD [] (hp [.cells cs 1 own, .cells (labC L) 2 true]) := FlatD.hp ⟨hB.flat, labC_flat L, trivial⟩
    have hF2 : ∀ L, FlatD [] (hp [.cells cs 1 own, .cells (labC L) 2 true]) := fun L => FlatD.hp ⟨hB.flat, labC_flat L, trivial⟩
    simp only [List.length_cons] at hL
    have hls : LSl (labC L) 0 L := labC_ls L hs (by omega)
    have hat : labsAt (labC L) 0 L.length = L := hls.labsAt
    have hil : IsLs (labC L) 0 L.length L.length := ⟨L, rfl, Nat.le_refl _, hls⟩
    have hfl := labC_flat L
    have hlen := labC_len L
    have next := ih (i + 1) (addK L x) hd (by omega) (by omega) (addK_small hs x) (by have := addK_len L x; omega) hK
    refine (sure42 hmix).roundX F121 noLoops [] [] [] [] [0,3,4] ?_
    rw [r121]
    simp only [hl2, show ((i : Int) < 5) by omega, hg1, iE, tdiv5 x hzx, hat, hil, hfl, hF, Int.zero_add, nx i (by omega), Alt_iff, Need_iff, ltI_eq, leI_eq, eqI_eq, leN_eq, eqN_eq, decide_eq_true_eq, decide_eq_false_iff_not, decide_true, decide_false, true_and, and_true, Bool.true_eq_false, Bool.false_eq_true, false_implies, true_implies, implies_true, not_true_eq_false, not_false_eq_true, Bool.not_eq_true', Bool.not_eq_false', Nat.zero_add, Nat.add_zero, Nat.sub_zero, Nat.zero_mul, Nat.mul_one, Int.toNat_natCast, List.drop_zero, beqV_int, beqV_sl, beqV_str, beqV_bool, beqV_ptr, beqV_flt, beqV_agg, beqV_tuple, List.all_cons, List.all_nil, Bool.and_self, Bool.and_true, Bool.true_and, Nat.le_refl, Int.le_refl, Nat.zero_le, Option.getD_some, isStr, strV, isInt, intV, isBool, boolV, kindEq, at0, isJunk, Option.isSome_some, Option.isSome_none, if_true, if_false, Nat.add_sub_cancel_left, Nat.add_sub_cancel]
    have hm1 := Int.emod_nonneg x (show (5 : Int) ≠ 0 by decide)
    have hm2 := Int.emod_lt_of_pos x (show (0 : Int) < 5 by decide)
    have hm3 := Int.emod_nonneg (x.tdiv 5) (show (7 : Int) ≠ 0 by decide)
    have hm4 := Int.emod_lt_of_pos (x.tdiv 5) (show (0 : Int) < 7 by decide)
    refine ⟨by omega, by omega, fun h => ?_, fun h => ?_⟩
    · have e : addK L x = L ++ [(nameS (x % 5), valS (x.tdiv 5 % 7))] := by unfold addK; rw [if_pos h]
      rw [e] at next
      rw [← hlen, List.take_length]
      have hc : labC (L ++ [(nameS (x % 5), valS (x.tdiv 5 % 7))]) = labC L ++ [Value.string (nameS (x % 5)), Value.string (valS (x.tdiv 5 % 7))] := labC_append _ _
      rw [← hc]
      simp only [List.length_append, List.length_cons, List.length_nil] at next
      exact ⟨by omega, by omega, by omega, hF2 _, next⟩
    · have e : addK L x = L := by unfold addK; rw [if_neg (by rw [h]; simp)]
      rw [e] at next
      exact next
theorem keepO_small (l : List Int) : Small (keepO l) ∧ (keepO l).length ≤ 6 := by
  obtain ⟨a, b⟩ := keepS_small (l.take 5) [] small_nil
  rw [List.length_take] at b
  unfold keepO
  split
  · refine ⟨fun x hx => ?_, by simp⟩
    simp at hx; subst hx; exact ⟨by decide, by decide⟩
  · exact ⟨a, by unfold keepS; simp at b; omega⟩
noncomputable def okE (cs : List Value) (o len cap : Nat) : Prop := IsE (iE .i64) (ZP .i64) cs o len cap
noncomputable def keepC : Ctr where
  pre := fun args blks => match args, blks with
    | [.slice (some ⟨0, o, _⟩) len cap], [.cells cs 1 _] => okE cs o len cap
    | _, _ => False
  val := fun args blks => match args, blks with
    | [.slice (some ⟨0, o, _⟩) len _], [.cells cs 1 _] => .slice (some ⟨1,0,some 1⟩) (mkR (keepO (elAt intV cs o len))).length (mkR (keepO (elAt intV cs o len))).length
    | _, _ => .bool false
  new := fun args blks => match args, blks with
    | [.slice (some ⟨0, o, _⟩) len _], [.cells cs 1 _] => [.cells (labC (mkR (keepO (elAt intV cs o len)))) 2 true]
    | _, _ => []
theorem keep_says (hmix : Try.prog.follows .mixedOrders = true) : keepC.Holds Try.prog 21 := by
  intro args blks hf hp
  simp only [keepC] at hp ⊢
  split at hp
  · rename_i o sp len cap cs own
    obtain ⟨l, rfl, hc, hB⟩ := hp
    simp only [hB.elAt (dec := intV) (fun _ => rfl)]
    refine ⟨⟨labC_flat _, trivial⟩, ?_⟩
    have hF : ∀ L, FlatD [] (AM.hp [.cells cs 1 own, .cells (labC L) 2 true]) := fun L => FlatD.hp ⟨hB.flat, labC_flat L, trivial⟩
    obtain ⟨k1, k2⟩ := keepS_small (l.take 5) [] small_nil
    obtain ⟨k3, k4⟩ := keepO_small l
    have hL : Loops Try.prog body121 1 (cutLK [⟨[0,1,0,1,1], T121 (.slice (some ⟨0,o,sp⟩) l.length cap) 0 0, AM.hp [.cells cs 1 own, .cells [] 2 true], fun K => K (.exit 0) (tmps 54 [(3, .slice (some ⟨1,0,some 1⟩) (keepS l).length (keepS l).length)]) (AM.hp [.cells cs 1 own, .cells (labC (keepS l)) 2 true])⟩]) := Loops.none.more _ fun K hK => by
      show LSays Try.prog _ (sub body121 [0,0,1,0,1,1]) _ _ _
      exact keep_loop hmix l cs own o sp cap hB K (l.take 5) 0 [] rfl (by omega) (by omega) small_nil (by simp; omega) hK
    rw [List.length_take] at k2
    have k2 : (keepS l).length ≤ 5 := by unfold keepS; simp at k2; omega
    refine (sure42 hmix).funX F121 body121 [] [.tmp 0 2] Try.func21 rfl (hL.gcX (at0 []) (at0 [.tmp 3 2])) ?_
    rw [w121]
    refine ⟨hF [], rfl, rfl, ?_⟩
    simp only [Alt_iff, Need_iff, ltI_eq, leI_eq, eqI_eq, leN_eq, eqN_eq, decide_eq_true_eq, decide_eq_false_iff_not, decide_true, decide_false, true_and, and_true, Bool.true_eq_false, Bool.false_eq_true, false_implies, true_implies, implies_true, not_true_eq_false, not_false_eq_true, Bool.not_eq_true', Bool.not_eq_false', Nat.zero_add, Nat.add_zero, Nat.sub_zero, Nat.zero_mul, Nat.mul_one, Int.toNat_natCast, List.drop_zero, beqV_int, beqV_sl, beqV_str, beqV_bool, beqV_ptr, beqV_flt, beqV_agg, beqV_tuple, List.all_cons, List.all_nil, Bool.and_self, Bool.and_true, Bool.true_and, Nat.le_refl, Int.le_refl, Nat.zero_le, Option.getD_some, isStr, strV, isInt, intV, isBool, boolV, kindEq, at0, isJunk, Option.isSome_some, Option.isSome_none, if_true, if_false, Nat.add_sub_cancel_left, Nat.add_sub_cancel]
    have fin : ∀ L : List Lb, L = keepO l → IsLs (labC L) 0 L.length L.length ∧ labsAt (labC L) 0 L.length = L := fun L e => by
      have hs : LSl (labC L) 0 L := labC_ls L (by rw [e]; exact k3) (by rw [e]; omega)
      exact ⟨⟨L, rfl, Nat.le_refl _, hs⟩, hs.labsAt⟩
    refine ⟨fun h0 => ?_, fun h0 => ?_⟩
    · have h0 : (keepS l).length = 0 := by omega
      have e : keepO l = [(nameS 0, valS 0)] := by unfold keepO; rw [if_pos h0]
      obtain ⟨f1, f2⟩ := fin [(nameS 0, valS 0)] e.symm
      rw [h0, Nat.zero_mul, List.take_zero, e]
      change IsLs _ 0 1 1 at f1
      have f2 : labsAt ([] ++ [Value.string ⟨#[115, 101, 118]⟩, Value.string ⟨#[97]⟩]) 0 (0 + 1) = [(nameS 0, valS 0)] := f2
      rw [f2]
      and_intros <;> first | omega | exact labC_flat [(nameS 0, valS 0)] | exact f1 | exact hF _ | rfl
    · have e : keepO l = keepS l := by unfold keepO; rw [if_neg (by omega)]
      obtain ⟨f1, f2⟩ := fin (keepS l) e.symm
      rw [f2, e]
      and_intros <;> first | omega | exact labC_flat _ | exact f1 | exact hF _ | rfl
  · exact hp.elim
end Go.Proofs.Ytdpfmaimhimfcaa

namespace Go.Proofs.Ytdpfmaimhimfcaa
open Go.RowKit Go.Proofs.Ytdpfmaimhimfcaa.AM
set_option maxRecDepth 100000
set_option maxHeartbeats 4000000
noncomputable def S43 : Book := bookOf [(29, ptxtC), (37, ptxtC), (19, getLC), (20, getLC)]
theorem sure43 (hmix : Try.prog.follows .mixedOrders = true) : Sure Try.prog S43 := ⟨hmix, plain, bookOf_ok ⟨ptxtC_holds hmix, rptxtC_holds hmix, getk_says hmix, getl_says hmix, trivial⟩⟩
noncomputable def T110 (a n : Value) (m len i : Nat) : List Value := tmps 23 [(0, a), (5, .slice (some ⟨2,0,some 1⟩) m m), (8, n), (9, .int .i64 len), (10, .int .i64 i)]

theorem r110 (cs cn c2 : List Value) (own own2 : Bool) (o : Nat) (sp : Option Nat) (len cap : Nat) (on : Nat) (sn : Option Nat) (ln cn' m i : Nat) (K : Post) :
  roundX Try.prog S43 noLoop F110 body110 2 [] [] [] [] [0,5,8,9,10] [0,0,1,0,1,1] (T110 (.slice (some ⟨0,o,sp⟩) len cap) (.slice (some ⟨1,on,sn⟩) ln cn') m ln i) (hp [.cells cs 2 own, .cells cn 1 own2, .cells c2 1 true]) K = (
Alt (ltI (↑i : Int) (↑ln : Int))
  (Need (ltI (↑i : Int) (↑ln : Int))
    (Need (isStr ((getO cn (on + (↑i : Int).toNat * 1)).getD undef))
      ((FlatL cs ∧ True) ∧
        (IsLs cs o len cap ∧ True) ∧
          True ∧
            Need
                (leN
                  (getF (strV (Value.string (strV ((getO cn (on + (↑i : Int).toNat * 1)).getD undef))))
                      (labsAt cs o len)).size
                  1000000000000)
                True ∧
              Need
                (leN
                  (0 +
                    (ptxt
                          (getF (strV (Value.string (strV ((getO cn (on + (↑i : Int).toNat * 1)).getD undef))))
                            (labsAt cs o len))).length *
                      1)
                  (List.map u8v
                      (ptxt
                        (getF (strV (Value.string (strV ((getO cn (on + (↑i : Int).toNat * 1)).getD undef))))
                          (labsAt cs o len)))).length)
                (Need (leN (0 + m * 1) c2.length)
                  (Need
                    (leN
                      ((m +
                          (ptxt
                              (getF (strV (Value.string (strV ((getO cn (on + (↑i : Int).toNat * 1)).getD undef))))
                                (labsAt cs o len))).length) *
                        1)
                      1099511627776)
                    (Need
                      (leN
                        (m +
                          (ptxt
                              (getF (strV (Value.string (strV ((getO cn (on + (↑i : Int).toNat * 1)).getD undef))))
                                (labsAt cs o len))).length)
                        1099511627776)
                      (Need
                        ((List.take
                              ((ptxt
                                    (getF
                                      (strV (Value.string (strV ((getO cn (on + (↑i : Int).toNat * 1)).getD undef))))
                                      (labsAt cs o len))).length *
                                1)
                              (List.drop 0
                                (List.map u8v
                                  (ptxt
                                    (getF
                                      (strV (Value.string (strV ((getO cn (on + (↑i : Int).toNat * 1)).getD undef))))
                                      (labsAt cs o len)))))).all
                          oneV)
                        (K AE.normal
                          (tmps 23
                            [(0, Value.slice (some { block := 0, off := o, spot := sp : Addr }) len cap),
                              (5,
                                Value.slice (some { block := 2, off := 0, spot := some 1 : Addr })
                                  (m +
                                    (ptxt
                                        (getF
                                          (strV
                                            (Value.string (strV ((getO cn (on + (↑i : Int).toNat * 1)).getD undef))))
                                          (labsAt cs o len))).length)
                                  (m +
                                    (ptxt
                                        (getF
                                          (strV
                                            (Value.string (strV ((getO cn (on + (↑i : Int).toNat * 1)).getD undef))))
                                          (labsAt cs o len))).length)),
                              (8, Value.slice (some { block := 1, off := on, spot := sn : Addr }) ln cn'),
                              (9, Value.int IntKind.i64 (↑ln : Int)),
                              (10, Value.int IntKind.i64 (wr IntKind.i64 ((↑i : Int) + 1)))])
                          (hp
                            [Blk.cells cs 2 own, Blk.cells cn 1 own2,
                              Blk.cells
                                (List.take (m * 1) (List.drop 0 c2) ++
                                  List.take
                                    ((ptxt
                                          (getF
                                            (strV
                                              (Value.string (strV ((getO cn (on + (↑i : Int).toNat * 1)).getD undef))))
                                            (labsAt cs o len))).length *
                                      1)
                                    (List.drop 0
                                      (List.map u8v
                                        (ptxt
                                          (getF
                                            (strV
                                              (Value.string (strV ((getO cn (on + (↑i : Int).toNat * 1)).getD undef))))
                                            (labsAt cs o len))))))
                                1 true])))))))))
  (K (AE.exit 0) (tmps 23 [(5, Value.slice (some { block := 2, off := 0, spot := some 1 : Addr }) m m)])
    (hp [Blk.cells cs 2 own, Blk.cells cn 1 own2, Blk.cells c2 1 true]))) := by kernel_rfl

theorem w110 (cs cn c2 : List Value) (own own2 : Bool) (o : Nat) (sp : Option Nat) (len cap : Nat) (on : Nat) (sn : Option Nat) (ln cn' m : Nat) (K : Value → Heap → Prop) :
  funX Try.prog S43 (gcLKX (at0 []) (at0 [.tmp 5 1]) 2 (cutLK [⟨[0,1,0,1,1], T110 (.slice (some ⟨0,o,sp⟩) len cap) (.slice (some ⟨1,on,sn⟩) ln cn') 0 ln 0, hp [.cells cs 2 own, .cells cn 1 own2, .cells [] 1 true], fun K => K (.exit 0) (tmps 23 [(5, .slice (some ⟨2,0,some 1⟩) m m)]) (hp [.cells cs 2 own, .cells cn 1 own2, .cells c2 1 true])⟩])) F110 body110 Try.f10 [] [] [.slice (some ⟨0,o,sp⟩) len cap, .slice (some ⟨1,on,sn⟩) ln cn'] (hp [.cells cs 2 own, .cells cn 1 own2]) K = (
FlatD [] (hp [Blk.cells cs 2 own, Blk.cells cn 1 own2, Blk.cells [] 1 true]) ∧
  tmps 23
        [(0, Value.slice (some { block := 0, off := o, spot := sp : Addr }) len cap),
          (5, Value.slice (some { block := 2, off := 0, spot := some 1 : Addr }) 0 0),
          (8, Value.slice (some { block := 1, off := on, spot := sn : Addr }) ln cn'),
          (9, Value.int IntKind.i64 (↑ln : Int)), (10, Value.int IntKind.i64 0)] =
      tmps 23
        [(0, Value.slice (some { block := 0, off := o, spot := sp : Addr }) len cap),
          (5, Value.slice (some { block := 2, off := 0, spot := some 1 : Addr }) 0 0),
          (8, Value.slice (some { block := 1, off := on, spot := sn : Addr }) ln cn'),
          (9, Value.int IntKind.i64 (↑ln : Int)), (10, Value.int IntKind.i64 0)] ∧
    hp [Blk.cells cs 2 own, Blk.cells cn 1 own2, Blk.cells [] 1 true] =
        hp [Blk.cells cs 2 own, Blk.cells cn 1 own2, Blk.cells [] 1 true] ∧
      Need (leN (0 + m) c2.length)
        (Need (strOf (List.take m (List.drop 0 c2))).isSome
          (K (Value.string { data := ((strOf (List.take m (List.drop 0 c2))).getD []).toArray : ByteArray })
            (hp [Blk.cells cs 2 own, Blk.cells cn 1 own2])))) := by kernel_rfl

noncomputable def T122 (a n : Value) (s : ByteArray) (i : Nat) : List Value := tmps 24 [(0, a), (1, n), (5, .string s), (6, .int .i64 i)]

theorem r122 (cs cn : List Value) (own own2 : Bool) (o : Nat) (sp : Option Nat) (len cap : Nat) (on : Nat) (sn : Option Nat) (ln cn' : Nat) (s : ByteArray) (i : Nat) (K : Post) :
  roundX Try.prog S43 noLoop F122 body122 2 [] [] [] [] [0,1,5,6] [0,0,1,0,1,1] (T122 (.slice (some ⟨0,o,sp⟩) len cap) (.slice (some ⟨1,on,sn⟩) ln cn') s i) (hp [.cells cs 2 own, .cells cn 1 own2]) K = (
Alt (ltI (↑i : Int) (↑ln : Int))
  (Need (ltI (↑i : Int) (↑ln : Int))
    (Need (isStr ((getO cn (on + (↑i : Int).toNat * 1)).getD undef))
      ((FlatL cs ∧ True) ∧
        (IsLs cs o len cap ∧ True) ∧
          True ∧
            Need
                (leN
                  (getF (strV (Value.string (strV ((getO cn (on + (↑i : Int).toNat * 1)).getD undef))))
                      (labsAt cs o len)).size
                  1000000000000)
                True ∧
              Need
                (leN
                  (0 +
                    (ptxt
                        (getF (strV (Value.string (strV ((getO cn (on + (↑i : Int).toNat * 1)).getD undef))))
                          (labsAt cs o len))).length)
                  (List.map u8v
                      (ptxt
                        (getF (strV (Value.string (strV ((getO cn (on + (↑i : Int).toNat * 1)).getD undef))))
                          (labsAt cs o len)))).length)
                (Need
                  (strOf
                      (List.take
                        (ptxt
                            (getF (strV (Value.string (strV ((getO cn (on + (↑i : Int).toNat * 1)).getD undef))))
                              (labsAt cs o len))).length
                        (List.drop 0
                          (List.map u8v
                            (ptxt
                              (getF (strV (Value.string (strV ((getO cn (on + (↑i : Int).toNat * 1)).getD undef))))
                                (labsAt cs o len))))))).isSome
                  (Need
                    (leI
                      (↑(s.size +
                            {
                                data :=
                                  ((strOf
                                          (List.take
                                            (ptxt
                                                (getF
                                                  (strV
                                                    (Value.string
                                                      (strV ((getO cn (on + (↑i : Int).toNat * 1)).getD undef))))
                                                  (labsAt cs o len))).length
                                            (List.drop 0
                                              (List.map u8v
                                                (ptxt
                                                  (getF
                                                    (strV
                                                      (Value.string
                                                        (strV ((getO cn (on + (↑i : Int).toNat * 1)).getD undef))))
                                                    (labsAt cs o len))))))).getD
                                      []).toArray :
                                ByteArray }.size) :
                        Int)
                      9223372036854775807)
                    (K AE.normal
                      (tmps 24
                        [(0, Value.slice (some { block := 0, off := o, spot := sp : Addr }) len cap),
                          (1, Value.slice (some { block := 1, off := on, spot := sn : Addr }) ln cn'),
                          (5,
                            Value.string
                              (s ++
                                {
                                  data :=
                                    ((strOf
                                            (List.take
                                              (ptxt
                                                  (getF
                                                    (strV
                                                      (Value.string
                                                        (strV ((getO cn (on + (↑i : Int).toNat * 1)).getD undef))))
                                                    (labsAt cs o len))).length
                                              (List.drop 0
                                                (List.map u8v
                                                  (ptxt
                                                    (getF
                                                      (strV
                                                        (Value.string
                                                          (strV ((getO cn (on + (↑i : Int).toNat * 1)).getD undef))))
                                                      (labsAt cs o len))))))).getD
                                        []).toArray :
                                  ByteArray })),
                          (6, Value.int IntKind.i64 (wr IntKind.i64 ((↑i : Int) + 1)))])
                      (hp [Blk.cells cs 2 own, Blk.cells cn 1 own2])))))))
  (K (AE.exit 0) (tmps 24 [(5, Value.string s)]) (hp [Blk.cells cs 2 own, Blk.cells cn 1 own2]))) := by kernel_rfl

theorem w122 (cs cn : List Value) (own own2 : Bool) (o : Nat) (sp : Option Nat) (len cap : Nat) (on : Nat) (sn : Option Nat) (ln cn' : Nat) (s : ByteArray) (K : Value → Heap → Prop) :
  funX Try.prog S43 (gcLKX (at0 []) (at0 []) 2 (cutLK [⟨[0,1,0,1,1], T122 (.slice (some ⟨0,o,sp⟩) len cap) (.slice (some ⟨1,on,sn⟩) ln cn') ⟨#[]⟩ 0, hp [.cells cs 2 own, .cells cn 1 own2], fun K => K (.exit 0) (tmps 24 [(5, .string s)]) (hp [.cells cs 2 own, .cells cn 1 own2])⟩])) F122 body122 Try.f22 [] [] [.slice (some ⟨0,o,sp⟩) len cap, .slice (some ⟨1,on,sn⟩) ln cn'] (hp [.cells cs 2 own, .cells cn 1 own2]) K = (
FlatD [] (hp [Blk.cells cs 2 own, Blk.cells cn 1 own2]) ∧
  tmps 24
        [(0, Value.slice (some { block := 0, off := o, spot := sp : Addr }) len cap),
          (1, Value.slice (some { block := 1, off := on, spot := sn : Addr }) ln cn'),
          (5, Value.string { data := #[] : ByteArray }), (6, Value.int IntKind.i64 0)] =
      tmps 24
        [(0, Value.slice (some { block := 0, off := o, spot := sp : Addr }) len cap),
          (1, Value.slice (some { block := 1, off := on, spot := sn : Addr }) ln cn'),
          (5, Value.string { data := #[] : ByteArray }), (6, Value.int IntKind.i64 0)] ∧
    hp [Blk.cells cs 2 own, Blk.cells cn 1 own2] = hp [Blk.cells cs 2 own, Blk.cells cn 1 own2] ∧
      K (Value.string s) (hp [Blk.cells cs 2 own, Blk.cells cn 1 own2])) := by kernel_rfl

/-- no value is long -/
inductive Vals (l : List Lb) : Prop
  | mk (h : ∀ n, (getF n l).size ≤ 1000)
theorem Vals.le {l : List Lb} (h : Vals l) (n : ByteArray) : (getF n l).size ≤ 1000 := by obtain ⟨h⟩ := h; exact h n
def projB (l : List Lb) (ns : List ByteArray) : List Int := ns.flatMap fun n => ptxt (getF n l)
theorem projB_cons (l : List Lb) (n : ByteArray) (ns : List ByteArray) : projB l (n :: ns) = ptxt (getF n l) ++ projB l ns := List.flatMap_cons
theorem projB_len {l : List Lb} (h : Vals l) (ns : List ByteArray) : (projB l ns).length ≤ ns.length * 1010 := by
  induction ns with
  | nil => exact Nat.zero_le _
  | cons n ns ih =>
    rw [projB_cons, List.length_append, ptxt_len, List.length_cons]
    obtain ⟨h⟩ := h
    have := h n
    have := enc_len (getF n l).size
    omega
theorem ofB_append (a b : List Int) : ofB (a ++ b) = ofB a ++ ofB b := by
  unfold ofB
  simp [ByteArray.ext_iff]
theorem strOf_take (l : List Int) : strOf (List.take l.length (List.map u8v l)) = some (l.map fun c => UInt8.ofNat c.toNat) := by
  rw [List.take_of_length_le (by simp), strOf_u8]
theorem proj_loop (hmix : Try.prog.follows .mixedOrders = true) (l : List Lb) (cs : List Value) (own : Bool) (o : Nat) (sp : Option Nat) (cap : Nat) (hc : l.length ≤ cap) (hB : LSl cs o l) (hv : Vals l) (ns : List ByteArray) (cn : List Value) (own2 : Bool) (on : Nat) (sn : Option Nat) (cap2 : Nat) (hN : ESl sE (fun _ => True) cn on ns) (hns : ns.length ≤ 1000) (K : Post) : ∀ (t : List ByteArray) (i : Nat) (L : List Int), ns.drop i = t → i ≤ ns.length → L.length + t.length * 1010 ≤ 2000000 →
    K (.exit 0) (tmps 23 [(5, .slice (some ⟨2,0,some 1⟩) (L ++ projB l t).length (L ++ projB l t).length)]) (hp [.cells cs 2 own, .cells cn 1 own2, .cells ((L ++ projB l t).map u8v) 1 true]) →
    LSays Try.prog 2 (sub body110 [0,0,1,0,1,1]) (T110 (.slice (some ⟨0,o,sp⟩) l.length cap) (.slice (some ⟨1,on,sn⟩) ns.length cap2) L.length ns.length i) (hp [.cells cs 2 own, .cells cn 1 own2, .cells (L.map u8v) 1 true]) K := by
  have hF : ∀ L : List Int, FlatD [] (hp [.cells cs 2 own, .cells cn 1 own2, .cells (L.map u8v) 1 true]) := fun L => FlatD.hp ⟨hB.flat, hN.flat, ⟨flat_u8s L⟩, trivial⟩
  intro t
  induction t with
  | nil =>
    intro i L ht hi hL hK
    have hge : ¬ ((i : Int) < (ns.length : Int)) := by have := List.drop_eq_nil_iff.1 ht; omega
    refine (sure43 hmix).roundX F110 noLoops [] [] [] [] [0,5,8,9,10] ?_
    rw [r110]
    rw [show projB l [] = [] from rfl, List.append_nil] at hK
    simp only [hge, hF, Alt_iff, Need_iff, ltI_eq, leI_eq, eqI_eq, leN_eq, eqN_eq, decide_eq_true_eq, decide_eq_false_iff_not, decide_true, decide_false, true_and, and_true, Bool.true_eq_false, Bool.false_eq_true, false_implies, true_implies, implies_true, not_true_eq_false, not_false_eq_true, Bool.not_eq_true', Bool.not_eq_false', Nat.zero_add, Nat.add_zero, Nat.sub_zero, Nat.zero_mul, Nat.mul_one, Int.toNat_natCast, List.drop_zero, beqV_int, beqV_sl, beqV_str, beqV_bool, beqV_ptr, beqV_flt, beqV_agg, beqV_tuple, List.all_cons, List.all_nil, Bool.and_self, Bool.and_true, Bool.true_and, Nat.le_refl, Int.le_refl, Nat.zero_le, Option.getD_some, isStr, strV, isInt, intV, isBool, boolV, kindEq, at0, isJunk, Option.isSome_some, Option.isSome_none, if_true, if_false, Nat.add_sub_cancel_left, Nat.add_sub_cancel]; exact hK
  | cons x t ih =>
    intro i L ht hi hL hK
    obtain ⟨hlt, hx, hd⟩ := cons_of_drop ht
    have hl2 : (i : Int) < (ns.length : Int) := by omega
    have hg1 := hN.cell i x hx
    have hvx := hv.le x
    have hel := enc_len (getF x l).size
    have hpl := ptxt_len (getF x l)
    simp only [List.length_cons] at hL
    have next := ih (i + 1) (L ++ ptxt (getF x l)) hd (by omega) (by rw [List.length_append]; omega) (by rw [List.append_assoc, ← projB_cons]; exact hK)
    have hF2 := hF (L ++ ptxt (getF x l))
    rw [List.map_append] at next hF2
    rw [List.length_append] at next
    have hil : IsLs cs o l.length cap := ⟨l, rfl, hc, hB⟩
    have hfl := hB.flat
    refine (sure43 hmix).roundX F110 noLoops [] [] [] [] [0,5,8,9,10] ?_
    rw [r110]
    have e1 : List.take (ptxt (getF x l)).length (List.map u8v (ptxt (getF x l))) = List.map u8v (ptxt (getF x l)) := List.take_of_length_le (by simp)
    have e2 : List.take L.length (List.map u8v L) = List.map u8v L := List.take_of_length_le (by simp)
    simp only [hl2, hg1, sE, hil, hfl, hB.labsAt, hF, nx i (by omega), List.length_map, e1, e2, oneV_u8s, hF2, Alt_iff, Need_iff, ltI_eq, leI_eq, eqI_eq, leN_eq, eqN_eq, decide_eq_true_eq, decide_eq_false_iff_not, decide_true, decide_false, true_and, and_true, Bool.true_eq_false, Bool.false_eq_true, false_implies, true_implies, implies_true, not_true_eq_false, not_false_eq_true, Bool.not_eq_true', Bool.not_eq_false', Nat.zero_add, Nat.add_zero, Nat.sub_zero, Nat.zero_mul, Nat.mul_one, Int.toNat_natCast, List.drop_zero, beqV_int, beqV_sl, beqV_str, beqV_bool, beqV_ptr, beqV_flt, beqV_agg, beqV_tuple, List.all_cons, List.all_nil, Bool.and_self, Bool.and_true, Bool.true_and, Nat.le_refl, Int.le_refl, Nat.zero_le, Option.getD_some, isStr, strV, isInt, intV, isBool, boolV, kindEq, at0, isJunk, Option.isSome_some, Option.isSome_none, if_true, if_false, Nat.add_sub_cancel_left, Nat.add_sub_cancel]
    exact ⟨by omega, by omega, by omega, next⟩
theorem rproj_loop (hmix : Try.prog.follows .mixedOrders = true) (l : List Lb) (cs : List Value) (own : Bool) (o : Nat) (sp : Option Nat) (cap : Nat) (hc : l.length ≤ cap) (hB : LSl cs o l) (hv : Vals l) (ns : List ByteArray) (cn : List Value) (own2 : Bool) (on : Nat) (sn : Option Nat) (cap2 : Nat) (hN : ESl sE (fun _ => True) cn on ns) (hns : ns.length ≤ 1000) (K : Post) : ∀ (t : List ByteArray) (i : Nat) (L : List Int), ns.drop i = t → i ≤ ns.length → L.length + t.length * 1010 ≤ 2000000 →
    K (.exit 0) (tmps 24 [(5, .string (ofB (L ++ projB l t)))]) (hp [.cells cs 2 own, .cells cn 1 own2]) →
    LSays Try.prog 2 (sub body122 [0,0,1,0,1,1]) (T122 (.slice (some ⟨0,o,sp⟩) l.length cap) (.slice (some ⟨1,on,sn⟩) ns.length cap2) (ofB L) i) (hp [.cells cs 2 own, .cells cn 1 own2]) K := by
  have hF : FlatD [] (hp [.cells cs 2 own, .cells cn 1 own2]) := FlatD.hp ⟨hB.flat, hN.flat, trivial⟩
  intro t
  induction t with
  | nil =>
    intro i L ht hi hL hK
    have hge : ¬ ((i : Int) < (ns.length : Int)) := by have := List.drop_eq_nil_iff.1 ht; omega
    refine (sure43 hmix).roundX F122 noLoops [] [] [] [] [0,1,5,6] ?_
    rw [r122]
    rw [show projB l [] = [] from rfl, List.append_nil] at hK
    simp only [hge, hF, Alt_iff, Need_iff, ltI_eq, leI_eq, eqI_eq, leN_eq, eqN_eq, decide_eq_true_eq, decide_eq_false_iff_not, decide_true, decide_false, true_and, and_true, Bool.true_eq_false, Bool.false_eq_true, false_implies, true_implies, implies_true, not_true_eq_false, not_false_eq_true, Bool.not_eq_true', Bool.not_eq_false', Nat.zero_add, Nat.add_zero, Nat.sub_zero, Nat.zero_mul, Nat.mul_one, Int.toNat_natCast, List.drop_zero, beqV_int, beqV_sl, beqV_str, beqV_bool, beqV_ptr, beqV_flt, beqV_agg, beqV_tuple, List.all_cons, List.all_nil, Bool.and_self, Bool.and_true, Bool.true_and, Nat.le_refl, Int.le_refl, Nat.zero_le, Option.getD_some, isStr, strV, isInt, intV, isBool, boolV, kindEq, at0, isJunk, Option.isSome_some, Option.isSome_none, if_true, if_false, Nat.add_sub_cancel_left, Nat.add_sub_cancel]; exact hK
  | cons x t ih =>
    intro i L ht hi hL hK
    obtain ⟨hlt, hx, hd⟩ := cons_of_drop ht
    have hl2 : (i : Int) < (ns.length : Int) := by omega
    have hg1 := hN.cell i x hx
    have hvx := hv.le x
    have hel := enc_len (getF x l).size
    have hpl := ptxt_len (getF x l)
    simp only [List.length_cons] at hL
    have next := ih (i + 1) (L ++ ptxt (getF x l)) hd (by omega) (by rw [List.length_append]; omega) (by rw [List.append_assoc, ← projB_cons]; exact hK)
    rw [ofB_append] at next
    have hil : IsLs cs o l.length cap := ⟨l, rfl, hc, hB⟩
    have hfl := hB.flat
    have hsz : ∀ l : List Int, (ofB l).size = l.length := fun l => by unfold ofB; simp [ByteArray.size]
    have hs1 := hsz L
    have hs2 := hsz (ptxt (getF x l))
    refine (sure43 hmix).roundX F122 noLoops [] [] [] [] [0,1,5,6] ?_
    rw [r122]
    simp only [hl2, hg1, sE, hil, hfl, hB.labsAt, hF, nx i (by omega), List.length_map, strOf_take, Option.isSome_some, Alt_iff, Need_iff, ltI_eq, leI_eq, eqI_eq, leN_eq, eqN_eq, decide_eq_true_eq, decide_eq_false_iff_not, decide_true, decide_false, true_and, and_true, Bool.true_eq_false, Bool.false_eq_true, false_implies, true_implies, implies_true, not_true_eq_false, not_false_eq_true, Bool.not_eq_true', Bool.not_eq_false', Nat.zero_add, Nat.add_zero, Nat.sub_zero, Nat.zero_mul, Nat.mul_one, Int.toNat_natCast, List.drop_zero, beqV_int, beqV_sl, beqV_str, beqV_bool, beqV_ptr, beqV_flt, beqV_agg, beqV_tuple, List.all_cons, List.all_nil, Bool.and_self, Bool.and_true, Bool.true_and, Nat.le_refl, Int.le_refl, Nat.zero_le, Option.getD_some, isStr, strV, isInt, intV, isBool, boolV, kindEq, at0, isJunk, Option.isSome_some, Option.isSome_none, if_true, if_false, Nat.add_sub_cancel_left, Nat.add_sub_cancel]
    exact ⟨by omega, by show (((ofB L).size + (ofB (ptxt (getF x l))).size : Nat) : Int) ≤ _; omega, next⟩
noncomputable def projC : Ctr where
  pre := fun args blks => match args, blks with
    | [.slice (some ⟨0, o, _⟩) len cap, .slice (some ⟨1, on, _⟩) ln cn], [.cells cs 2 _, .cells c2 1 _] => IsLs cs o len cap ∧ Vals (labsAt cs o len) ∧ IsE sE (fun _ => True) c2 on ln cn ∧ Need (leN ln 1000) True
    | _, _ => False
  val := fun args blks => match args, blks with
    | [.slice (some ⟨0, o, _⟩) len cap, .slice (some ⟨1, on, _⟩) ln cn], [.cells cs 2 _, .cells c2 1 _] => .string (ofB (projB (labsAt cs o len) (elAt strV c2 on ln)))
    | _, _ => .bool false
  new := fun _ _ => []
theorem proj_says (hmix : Try.prog.follows .mixedOrders = true) : projC.Holds Try.prog 10 := by
  intro args blks hf hp
  refine ⟨trivial, ?_⟩
  simp only [projC] at hp ⊢
  split at hp
  · rename_i o sp len cap on sn ln cap2 cs own cn own2
    obtain ⟨⟨l, rfl, hc, hB⟩, hv, ⟨ns, rfl, hc2, hN⟩, hln⟩ := hp
    simp only [Alt_iff, Need_iff, ltI_eq, leI_eq, eqI_eq, leN_eq, eqN_eq, decide_eq_true_eq, decide_eq_false_iff_not, decide_true, decide_false, true_and, and_true, Bool.true_eq_false, Bool.false_eq_true, false_implies, true_implies, implies_true, not_true_eq_false, not_false_eq_true, Bool.not_eq_true', Bool.not_eq_false'] at hln
    rw [hB.labsAt] at hv
    simp only [hB.labsAt, hN.elAt (dec := strV) (fun _ => rfl), List.append_nil]
    have hF : ∀ L : List Int, FlatD [] (AM.hp [.cells cs 2 own, .cells cn 1 own2, .cells (L.map u8v) 1 true]) := fun L => FlatD.hp ⟨hB.flat, hN.flat, ⟨flat_u8s L⟩, trivial⟩
    have hL : Loops Try.prog body110 2 (cutLK [⟨[0,1,0,1,1], T110 (.slice (some ⟨0,o,sp⟩) l.length cap) (.slice (some ⟨1,on,sn⟩) ns.length cap2) 0 ns.length 0, AM.hp [.cells cs 2 own, .cells cn 1 own2, .cells [] 1 true], fun K => K (.exit 0) (tmps 23 [(5, .slice (some ⟨2,0,some 1⟩) (projB l ns).length (projB l ns).length)]) (AM.hp [.cells cs 2 own, .cells cn 1 own2, .cells ((projB l ns).map u8v) 1 true])⟩]) := Loops.none.more _ fun K hK => by
      show LSays Try.prog _ (sub body110 [0,0,1,0,1,1]) _ _ _
      exact proj_loop hmix l cs own o sp cap hc hB hv ns cn own2 on sn cap2 hN hln K ns 0 [] rfl (by omega) (by simp; omega) hK
    refine (sure43 hmix).funX F110 body110 [] [] Try.func10 rfl (hL.gcX (at0 []) (at0 [.tmp 5 1])) ?_
    rw [w110]
    simp only [strOf_take, Option.isSome_some, List.length_map, Alt_iff, Need_iff, ltI_eq, leI_eq, eqI_eq, leN_eq, eqN_eq, decide_eq_true_eq, decide_eq_false_iff_not, decide_true, decide_false, true_and, and_true, Bool.true_eq_false, Bool.false_eq_true, false_implies, true_implies, implies_true, not_true_eq_false, not_false_eq_true, Bool.not_eq_true', Bool.not_eq_false', Nat.zero_add, Nat.add_zero, Nat.sub_zero, Nat.zero_mul, Nat.mul_one, Int.toNat_natCast, List.drop_zero, beqV_int, beqV_sl, beqV_str, beqV_bool, beqV_ptr, beqV_flt, beqV_agg, beqV_tuple, List.all_cons, List.all_nil, Bool.and_self, Bool.and_true, Bool.true_and, Nat.le_refl, Int.le_refl, Nat.zero_le, Option.getD_some, isStr, strV, isInt, intV, isBool, boolV, kindEq, at0, isJunk, Option.isSome_some, Option.isSome_none, if_true, if_false, Nat.add_sub_cancel_left, Nat.add_sub_cancel]
    and_intros <;> first | exact hF [] | exact FlatD.hp ⟨hB.flat, hN.flat, trivial⟩ | rfl
  · exact hp.elim
theorem rproj_says (hmix : Try.prog.follows .mixedOrders = true) : projC.Holds Try.prog 22 := by
  intro args blks hf hp
  refine ⟨trivial, ?_⟩
  simp only [projC] at hp ⊢
  split at hp
  · rename_i o sp len cap on sn ln cap2 cs own cn own2
    obtain ⟨⟨l, rfl, hc, hB⟩, hv, ⟨ns, rfl, hc2, hN⟩, hln⟩ := hp
    simp only [Alt_iff, Need_iff, ltI_eq, leI_eq, eqI_eq, leN_eq, eqN_eq, decide_eq_true_eq, decide_eq_false_iff_not, decide_true, decide_false, true_and, and_true, Bool.true_eq_false, Bool.false_eq_true, false_implies, true_implies, implies_true, not_true_eq_false, not_false_eq_true, Bool.not_eq_true', Bool.not_eq_false'] at hln
    rw [hB.labsAt] at hv
    simp only [hB.labsAt, hN.elAt (dec := strV) (fun _ => rfl), List.append_nil]
    have hF : FlatD [] (AM.hp [.cells cs 2 own, .cells cn 1 own2]) := FlatD.hp ⟨hB.flat, hN.flat, trivial⟩
    have hL : Loops Try.prog body122 2 (cutLK [⟨[0,1,0,1,1], T122 (.slice (some ⟨0,o,sp⟩) l.length cap) (.slice (some ⟨1,on,sn⟩) ns.length cap2) ⟨#[]⟩ 0, AM.hp [.cells cs 2 own, .cells cn 1 own2], fun K => K (.exit 0) (tmps 24 [(5, .string (ofB (projB l ns)))]) (AM.hp [.cells cs 2 own, .cells cn 1 own2])⟩]) := Loops.none.more _ fun K hK => by
      show LSays Try.prog _ (sub body122 [0,0,1,0,1,1]) _ _ _
      exact rproj_loop hmix l cs own o sp cap hc hB hv ns cn own2 on sn cap2 hN hln K ns 0 [] rfl (by omega) (by simp; omega) hK
    refine (sure43 hmix).funX F122 body122 [] [] Try.func22 rfl (hL.gcX (at0 []) (at0 [])) ?_
    rw [w122]
    exact ⟨hF, rfl, rfl, hF, rfl, rfl, rfl⟩
  · exact hp.elim
end Go.Proofs.Ytdpfmaimhimfcaa

namespace Go.Proofs.Ytdpfmaimhimfcaa
open Go.RowKit Go.Proofs.Ytdpfmaimhimfcaa.AM
set_option maxRecDepth 100000
set_option maxHeartbeats 4000000
noncomputable def body105 : Code := (Try.f5.body).getD .skip
def F105 : List Nat → Option (List Nat) := fun p => match p with
  | [1] => some [0, 1, 2]
  | [1, 0, 1] => some [0, 1, 2, 23]
  | [1, 0, 1, 0, 1] => some [6]
  | [1, 1] => some [0, 1, 2]
  | [1, 1, 1] => some [2, 7, 8]
  | [1, 1, 1, 1] => some [2, 7, 8, 9]
  | [1, 0, 1, 1, 1, 1] => some [2, 7, 8, 9, 10]
  | [1, 0, 0, 0, 1, 0, 1, 1, 1, 1] => some [2, 7, 8, 9, 10, 32]
  | [1, 1, 0, 0, 0, 1, 0, 1, 1, 1, 1] => some [2, 7, 8, 9]
  | [1, 0, 0, 1, 0, 1, 1, 1, 1] => some [2, 7, 8, 9, 10]
  | [1, 0, 0, 0, 1, 0, 0, 1, 0, 1, 1, 1, 1] => some [2, 7, 8, 9, 10, 40]
  | [1, 0, 1, 0, 0, 0, 1, 0, 0, 1, 0, 1, 1, 1, 1] => some [6]
  | [1, 0, 0, 1, 0, 0, 1, 0, 1, 1, 1, 1] => some [2, 7, 8, 9, 10]
  | [1, 1, 0, 0, 1, 0, 1, 1, 1, 1] => some [2, 7, 8, 9, 10]
  | [1, 1, 1, 1, 1] => some [2, 7, 8, 9]
  | [1, 1, 1, 1, 1, 1] => some [6]
  | _ => none
noncomputable def S44 : Book := bookOf [(3, trueC), (10, projC), (19, getLC), (21, keepC), (22, projC)]
theorem sure44 (hmix : Try.prog.follows .mixedOrders = true) : Sure Try.prog S44 := ⟨hmix, plain, bookOf_ok ⟨runs_holds hmix, proj_says hmix, getk_says hmix, keep_says hmix, rproj_says hmix, trivial⟩⟩
noncomputable def sl1 (B n : Nat) : Value := .slice (some ⟨B,0,some 1⟩) n n
noncomputable def T105 (n : Value) (x y : Nat) (b : Bool) (i : Nat) : List Value := tmps 79 [(2, n), (7, sl1 3 x), (8, sl1 4 y), (9, .bool b), (10, .int .i64 i)]
noncomputable def H105 (cl cr cn ca cb : List Value) : Heap := hp [.cells cl 1 false, .cells cr 1 false, .cells cn 1 false, .cells ca 2 true, .cells cb 2 true]

theorem r105t (cl cr cn ca cb : List Value) (on : Nat) (sn : Option Nat) (ln cn' x y i : Nat) (K : Post) :
  roundX Try.prog S44 noLoop F105 body105 3 [] [] [] [] [2,7,8,9,10] [0,0,1,0,1,1,1,1] (T105 (.slice (some ⟨2,on,sn⟩) ln cn') x y true i) (H105 cl cr cn ca cb) K = (
Alt (ltI (↑i : Int) (↑ln : Int))
  (Need (ltI (↑i : Int) (↑ln : Int))
    (Need (isStr ((getO cn (on + (↑i : Int).toNat * 1)).getD undef))
      (Alt (ltI 300 (↑(strV ((getO cn (on + (↑i : Int).toNat * 1)).getD undef)).size : Int))
        (True ∧
          True ∧
            K AE.ret (tmps 79 [(6, Value.bool true)])
              (hp [Blk.cells cl 1 false, Blk.cells cr 1 false, Blk.cells cn 1 false]))
        (Need (ltI (↑i : Int) (↑ln : Int))
          (Need (isStr ((getO cn (on + (↑i : Int).toNat * 1)).getD undef))
            ((FlatL ca ∧ True) ∧
              (IsLs ca 0 x x ∧ True) ∧
                Need (ltI (↑i : Int) (↑ln : Int))
                  (Need (isStr ((getO cn (on + (↑i : Int).toNat * 1)).getD undef))
                    ((FlatL cb ∧ True) ∧
                      (IsLs cb 0 y y ∧ True) ∧
                        Need (isStr ((getO cn (on + (↑i : Int).toNat * 1)).getD undef))
                          (Need
                            (beqV 64 (Value.string (strV ((getO cn (on + (↑i : Int).toNat * 1)).getD undef)))
                              (Value.string (strV ((getO cn (on + (↑i : Int).toNat * 1)).getD undef))))
                            (Need (ltI (↑i : Int) (↑ln : Int))
                              (Need
                                (beqV 64 (Value.pointer (some { block := 2, off := on + (↑i : Int).toNat * 1 : Addr }))
                                  (Value.pointer (some { block := 2, off := on + (↑i : Int).toNat * 1 : Addr })))
                                (Need (beqV 64 (Value.int IntKind.i64 (↑i : Int)) (Value.int IntKind.i64 (↑i : Int)))
                                  (Need
                                    (beqV 64 (Value.slice (some { block := 2, off := on, spot := sn : Addr }) ln cn')
                                      (Value.slice (some { block := 2, off := on, spot := sn : Addr }) ln cn'))
                                    (Need
                                      (beqV 64 (Value.slice (some { block := 4, off := 0, spot := some 1 : Addr }) y y)
                                        (Value.slice (some { block := 4, off := 0, spot := some 1 : Addr }) y y))
                                      (K AE.normal
                                        (tmps 79
                                          [(2, Value.slice (some { block := 2, off := on, spot := sn : Addr }) ln cn'),
                                            (7, Value.slice (some { block := 3, off := 0, spot := some 1 : Addr }) x x),
                                            (8, Value.slice (some { block := 4, off := 0, spot := some 1 : Addr }) y y),
                                            (9,
                                              Value.bool
                                                (eqS
                                                  (getF
                                                    (strV
                                                      (Value.string
                                                        (strV ((getO cn (on + (↑i : Int).toNat * 1)).getD undef))))
                                                    (labsAt ca 0 x))
                                                  (getF
                                                    (strV
                                                      (Value.string
                                                        (strV ((getO cn (on + (↑i : Int).toNat * 1)).getD undef))))
                                                    (labsAt cb 0 y)))),
                                            (10, Value.int IntKind.i64 (wr IntKind.i64 ((↑i : Int) + 1)))])
                                        (hp
                                          [Blk.cells cl 1 false, Blk.cells cr 1 false, Blk.cells cn 1 false,
                                            Blk.cells ca 2 true, Blk.cells cb 2 true]))))))))))))))))
  (K (AE.exit 0)
    (tmps 79
      [(2, Value.slice (some { block := 2, off := on, spot := sn : Addr }) ln cn'),
        (7, Value.slice (some { block := 3, off := 0, spot := some 1 : Addr }) x x),
        (8, Value.slice (some { block := 4, off := 0, spot := some 1 : Addr }) y y), (9, Value.bool true)])
    (hp [Blk.cells cl 1 false, Blk.cells cr 1 false, Blk.cells cn 1 false, Blk.cells ca 2 true, Blk.cells cb 2 true]))) := by kernel_rfl

theorem r105f (cl cr cn ca cb : List Value) (on : Nat) (sn : Option Nat) (ln cn' x y i : Nat) (K : Post) :
  roundX Try.prog S44 noLoop F105 body105 3 [] [] [] [] [2,7,8,9,10] [0,0,1,0,1,1,1,1] (T105 (.slice (some ⟨2,on,sn⟩) ln cn') x y false i) (H105 cl cr cn ca cb) K = (
Alt (ltI (↑i : Int) (↑ln : Int))
  (Need (ltI (↑i : Int) (↑ln : Int))
    (Need (isStr ((getO cn (on + (↑i : Int).toNat * 1)).getD undef))
      (Alt (ltI 300 (↑(strV ((getO cn (on + (↑i : Int).toNat * 1)).getD undef)).size : Int))
        (True ∧
          True ∧
            K AE.ret (tmps 79 [(6, Value.bool true)])
              (hp [Blk.cells cl 1 false, Blk.cells cr 1 false, Blk.cells cn 1 false]))
        (K AE.normal
          (tmps 79
            [(2, Value.slice (some { block := 2, off := on, spot := sn : Addr }) ln cn'),
              (7, Value.slice (some { block := 3, off := 0, spot := some 1 : Addr }) x x),
              (8, Value.slice (some { block := 4, off := 0, spot := some 1 : Addr }) y y), (9, Value.bool false),
              (10, Value.int IntKind.i64 (wr IntKind.i64 ((↑i : Int) + 1)))])
          (hp
            [Blk.cells cl 1 false, Blk.cells cr 1 false, Blk.cells cn 1 false, Blk.cells ca 2 true,
              Blk.cells cb 2 true])))))
  (K (AE.exit 0)
    (tmps 79
      [(2, Value.slice (some { block := 2, off := on, spot := sn : Addr }) ln cn'),
        (7, Value.slice (some { block := 3, off := 0, spot := some 1 : Addr }) x x),
        (8, Value.slice (some { block := 4, off := 0, spot := some 1 : Addr }) y y), (9, Value.bool false)])
    (hp [Blk.cells cl 1 false, Blk.cells cr 1 false, Blk.cells cn 1 false, Blk.cells ca 2 true, Blk.cells cb 2 true]))) := by kernel_rfl

noncomputable def c105 (cl cr cn ca cb : List Value) (n : Value) (x y : Nat) (ok b : Bool) : Cut := ⟨[0,1,0,1,1,1,1], T105 n x y true 0, H105 cl cr cn ca cb, fun K => Alt ok (K (.exit 0) (tmps 79 [(2, n), (7, sl1 3 x), (8, sl1 4 y), (9, .bool b)]) (H105 cl cr cn ca cb)) (K .ret (tmps 79 [(6, .bool true)]) (hp [.cells cl 1 false, .cells cr 1 false, .cells cn 1 false]))⟩

theorem w105t (cl cr cn ca cb : List Value) (ol or on : Nat) (sl sr sn : Option Nat) (ll cl' lr cr' ln cn' : Nat) (x y : Nat) (ok : Bool) (K : Value → Heap → Prop) :
  funX Try.prog S44 (gcLKX (at0 []) (at0 []) 3 (cutLK [c105 cl cr cn ca cb (.slice (some ⟨2,on,sn⟩) ln cn') x y ok true])) F105 body105 Try.f5 [] [] [.slice (some ⟨0,ol,sl⟩) ll cl', .slice (some ⟨1,or,sr⟩) lr cr', .slice (some ⟨2,on,sn⟩) ln cn'] (hp [.cells cl 1 false, .cells cr 1 false, .cells cn 1 false]) K = (
Alt (ltI 20 (↑ll : Int))
  (True ∧ True ∧ K (Value.bool true) (hp [Blk.cells cl 1 false, Blk.cells cr 1 false, Blk.cells cn 1 false]))
  (Alt (ltI 20 (↑lr : Int))
    (True ∧ True ∧ K (Value.bool true) (hp [Blk.cells cl 1 false, Blk.cells cr 1 false, Blk.cells cn 1 false]))
    (Alt (ltI 20 (↑ln : Int))
      (True ∧ True ∧ K (Value.bool true) (hp [Blk.cells cl 1 false, Blk.cells cr 1 false, Blk.cells cn 1 false]))
      ((FlatL cl ∧ True) ∧
        IsE (iE IntKind.i64) (ZP IntKind.i64) cl ol ll cl' ∧
          (FlatL cr ∧ True) ∧
            IsE (iE IntKind.i64) (ZP IntKind.i64) cr or lr cr' ∧
              FlatD []
                  (hp
                    [Blk.cells cl 1 false, Blk.cells cr 1 false, Blk.cells cn 1 false,
                      Blk.cells (labC (mkR (keepO (elAt intV cl ol ll)))) 2 true,
                      Blk.cells (labC (mkR (keepO (elAt intV cr or lr)))) 2 true]) ∧
                tmps 79
                      [(2, Value.slice (some { block := 2, off := on, spot := sn : Addr }) ln cn'),
                        (7,
                          Value.slice (some { block := 3, off := 0, spot := some 1 : Addr })
                            (mkR (keepO (elAt intV cl ol ll))).length (mkR (keepO (elAt intV cl ol ll))).length),
                        (8,
                          Value.slice (some { block := 4, off := 0, spot := some 1 : Addr })
                            (mkR (keepO (elAt intV cr or lr))).length (mkR (keepO (elAt intV cr or lr))).length),
                        (9, Value.bool true), (10, Value.int IntKind.i64 0)] =
                    tmps 79
                      [(2, Value.slice (some { block := 2, off := on, spot := sn : Addr }) ln cn'),
                        (7, Value.slice (some { block := 3, off := 0, spot := some 1 : Addr }) x x),
                        (8, Value.slice (some { block := 4, off := 0, spot := some 1 : Addr }) y y),
                        (9, Value.bool true), (10, Value.int IntKind.i64 0)] ∧
                  hp
                        [Blk.cells cl 1 false, Blk.cells cr 1 false, Blk.cells cn 1 false,
                          Blk.cells (labC (mkR (keepO (elAt intV cl ol ll)))) 2 true,
                          Blk.cells (labC (mkR (keepO (elAt intV cr or lr)))) 2 true] =
                      hp
                        [Blk.cells cl 1 false, Blk.cells cr 1 false, Blk.cells cn 1 false, Blk.cells ca 2 true,
                          Blk.cells cb 2 true] ∧
                    Alt ok
                      ((FlatL ca ∧ FlatL cn ∧ True) ∧
                        (IsLs ca 0 x x ∧
                            Vals (labsAt ca 0 x) ∧
                              IsE sE (fun (x : ByteArray) => True) cn on ln cn' ∧ Need (leN ln 1000) True) ∧
                          (FlatL cb ∧ FlatL cn ∧ True) ∧
                            (IsLs cb 0 y y ∧
                                Vals (labsAt cb 0 y) ∧
                                  IsE sE (fun (x : ByteArray) => True) cn on ln cn' ∧ Need (leN ln 1000) True) ∧
                              Alt
                                (eqS (ofB (projB (labsAt ca 0 x) (elAt strV cn on ln)))
                                    (ofB (projB (labsAt cb 0 y) (elAt strV cn on ln))) ==
                                  true)
                                ((FlatL ca ∧ FlatL cn ∧ True) ∧
                                  (IsLs ca 0 x x ∧
                                      Vals (labsAt ca 0 x) ∧
                                        IsE sE (fun (x : ByteArray) => True) cn on ln cn' ∧ Need (leN ln 1000) True) ∧
                                    (FlatL ca ∧ FlatL cn ∧ True) ∧
                                      (IsLs ca 0 x x ∧
                                          Vals (labsAt ca 0 x) ∧
                                            IsE sE (fun (x : ByteArray) => True) cn on ln cn' ∧
                                              Need (leN ln 1000) True) ∧
                                        Alt
                                          (eqS (ofB (projB (labsAt ca 0 x) (elAt strV cn on ln)))
                                            (ofB (projB (labsAt ca 0 x) (elAt strV cn on ln))))
                                          (True ∧
                                            True ∧
                                              K (Value.bool true)
                                                (hp [Blk.cells cl 1 false, Blk.cells cr 1 false, Blk.cells cn 1 false]))
                                          (K (Value.bool false)
                                            (hp [Blk.cells cl 1 false, Blk.cells cr 1 false, Blk.cells cn 1 false])))
                                (K (Value.bool false)
                                  (hp [Blk.cells cl 1 false, Blk.cells cr 1 false, Blk.cells cn 1 false])))
                      (K (Value.bool true) (hp [Blk.cells cl 1 false, Blk.cells cr 1 false, Blk.cells cn 1 false])))))) := by kernel_rfl

theorem w105f (cl cr cn ca cb : List Value) (ol or on : Nat) (sl sr sn : Option Nat) (ll cl' lr cr' ln cn' : Nat) (x y : Nat) (ok : Bool) (K : Value → Heap → Prop) :
  funX Try.prog S44 (gcLKX (at0 []) (at0 []) 3 (cutLK [c105 cl cr cn ca cb (.slice (some ⟨2,on,sn⟩) ln cn') x y ok false])) F105 body105 Try.f5 [] [] [.slice (some ⟨0,ol,sl⟩) ll cl', .slice (some ⟨1,or,sr⟩) lr cr', .slice (some ⟨2,on,sn⟩) ln cn'] (hp [.cells cl 1 false, .cells cr 1 false, .cells cn 1 false]) K = (
Alt (ltI 20 (↑ll : Int))
  (True ∧ True ∧ K (Value.bool true) (hp [Blk.cells cl 1 false, Blk.cells cr 1 false, Blk.cells cn 1 false]))
  (Alt (ltI 20 (↑lr : Int))
    (True ∧ True ∧ K (Value.bool true) (hp [Blk.cells cl 1 false, Blk.cells cr 1 false, Blk.cells cn 1 false]))
    (Alt (ltI 20 (↑ln : Int))
      (True ∧ True ∧ K (Value.bool true) (hp [Blk.cells cl 1 false, Blk.cells cr 1 false, Blk.cells cn 1 false]))
      ((FlatL cl ∧ True) ∧
        IsE (iE IntKind.i64) (ZP IntKind.i64) cl ol ll cl' ∧
          (FlatL cr ∧ True) ∧
            IsE (iE IntKind.i64) (ZP IntKind.i64) cr or lr cr' ∧
              FlatD []
                  (hp
                    [Blk.cells cl 1 false, Blk.cells cr 1 false, Blk.cells cn 1 false,
                      Blk.cells (labC (mkR (keepO (elAt intV cl ol ll)))) 2 true,
                      Blk.cells (labC (mkR (keepO (elAt intV cr or lr)))) 2 true]) ∧
                tmps 79
                      [(2, Value.slice (some { block := 2, off := on, spot := sn : Addr }) ln cn'),
                        (7,
                          Value.slice (some { block := 3, off := 0, spot := some 1 : Addr })
                            (mkR (keepO (elAt intV cl ol ll))).length (mkR (keepO (elAt intV cl ol ll))).length),
                        (8,
                          Value.slice (some { block := 4, off := 0, spot := some 1 : Addr })
                            (mkR (keepO (elAt intV cr or lr))).length (mkR (keepO (elAt intV cr or lr))).length),
                        (9, Value.bool true), (10, Value.int IntKind.i64 0)] =
                    tmps 79
                      [(2, Value.slice (some { block := 2, off := on, spot := sn : Addr }) ln cn'),
                        (7, Value.slice (some { block := 3, off := 0, spot := some 1 : Addr }) x x),
                        (8, Value.slice (some { block := 4, off := 0, spot := some 1 : Addr }) y y),
                        (9, Value.bool true), (10, Value.int IntKind.i64 0)] ∧
                  hp
                        [Blk.cells cl 1 false, Blk.cells cr 1 false, Blk.cells cn 1 false,
                          Blk.cells (labC (mkR (keepO (elAt intV cl ol ll)))) 2 true,
                          Blk.cells (labC (mkR (keepO (elAt intV cr or lr)))) 2 true] =
                      hp
                        [Blk.cells cl 1 false, Blk.cells cr 1 false, Blk.cells cn 1 false, Blk.cells ca 2 true,
                          Blk.cells cb 2 true] ∧
                    Alt ok
                      ((FlatL ca ∧ FlatL cn ∧ True) ∧
                        (IsLs ca 0 x x ∧
                            Vals (labsAt ca 0 x) ∧
                              IsE sE (fun (x : ByteArray) => True) cn on ln cn' ∧ Need (leN ln 1000) True) ∧
                          (FlatL cb ∧ FlatL cn ∧ True) ∧
                            (IsLs cb 0 y y ∧
                                Vals (labsAt cb 0 y) ∧
                                  IsE sE (fun (x : ByteArray) => True) cn on ln cn' ∧ Need (leN ln 1000) True) ∧
                              Alt
                                (eqS (ofB (projB (labsAt ca 0 x) (elAt strV cn on ln)))
                                    (ofB (projB (labsAt cb 0 y) (elAt strV cn on ln))) ==
                                  false)
                                ((FlatL ca ∧ FlatL cn ∧ True) ∧
                                  (IsLs ca 0 x x ∧
                                      Vals (labsAt ca 0 x) ∧
                                        IsE sE (fun (x : ByteArray) => True) cn on ln cn' ∧ Need (leN ln 1000) True) ∧
                                    (FlatL ca ∧ FlatL cn ∧ True) ∧
                                      (IsLs ca 0 x x ∧
                                          Vals (labsAt ca 0 x) ∧
                                            IsE sE (fun (x : ByteArray) => True) cn on ln cn' ∧
                                              Need (leN ln 1000) True) ∧
                                        Alt
                                          (eqS (ofB (projB (labsAt ca 0 x) (elAt strV cn on ln)))
                                            (ofB (projB (labsAt ca 0 x) (elAt strV cn on ln))))
                                          (True ∧
                                            True ∧
                                              K (Value.bool true)
                                                (hp [Blk.cells cl 1 false, Blk.cells cr 1 false, Blk.cells cn 1 false]))
                                          (K (Value.bool false)
                                            (hp [Blk.cells cl 1 false, Blk.cells cr 1 false, Blk.cells cn 1 false])))
                                (K (Value.bool false)
                                  (hp [Blk.cells cl 1 false, Blk.cells cr 1 false, Blk.cells cn 1 false])))
                      (K (Value.bool true) (hp [Blk.cells cl 1 false, Blk.cells cr 1 false, Blk.cells cn 1 false])))))) := by kernel_rfl

def okF (ns : List ByteArray) : Bool := ns.all fun n => decide (n.size ≤ 300)
def sameF (a b : List Lb) (ns : List ByteArray) : Bool := ns.all fun n => eqS (getF n a) (getF n b)
theorem getF_mem (n : ByteArray) : ∀ L : List Lb, getF n L = ⟨#[]⟩ ∨ ∃ x ∈ L, getF n L = x.2 := by
  intro L
  induction L with
  | nil => exact .inl rfl
  | cons x L ih =>
    unfold getF
    split
    · exact .inr ⟨x, List.mem_cons_self, rfl⟩
    · rcases ih with h | ⟨y, hy, h⟩
      · exact .inl h
      · exact .inr ⟨y, List.mem_cons_of_mem _ hy, h⟩
theorem few_mem (l : List Int) (L : List Lb) (h : ∀ x ∈ L, x.1.size ≤ 5 ∧ x.2.size ≤ 24) : ∀ x ∈ l.foldl addK L, x.1.size ≤ 5 ∧ x.2.size ≤ 24 := by
  induction l generalizing L with
  | nil => exact h
  | cons n l ih =>
    rw [List.foldl_cons]
    refine ih _ fun x hx => ?_
    unfold addK at hx
    split at hx
    · rcases List.mem_append.1 hx with hx | hx
      · exact h x hx
      · simp at hx
        subst hx
        exact ⟨(few_facts (n % 5)).1, (few_facts (n.tdiv 5 % 7)).2.2.1⟩
    · exact h x hx
theorem keepO_few (l : List Int) : ∀ x ∈ keepO l, x.1.size ≤ 5 ∧ x.2.size ≤ 24 := by
  unfold keepO
  split
  · intro x hx; simp at hx; subst hx; exact ⟨(few_facts 0).1, (few_facts 0).2.2.1⟩
  · exact few_mem _ _ (fun x hx => by simp at hx)
theorem mkR_few {l : List Lb} (h : ∀ x ∈ l, x.1.size ≤ 5 ∧ x.2.size ≤ 24) : ∀ x ∈ mkR l, x.1.size ≤ 5 ∧ x.2.size ≤ 24 := by
  unfold mkR
  split
  · intro x hx
    rcases (mkS_mem l [] x).1 hx with hh | hh
    · simp at hh
    · exact h x hh
  · intro x hx; simp at hx
theorem mkR_len (l : List Lb) : (mkR l).length ≤ l.length := by
  unfold mkR
  split
  · have := mkS_len l []; unfold mkS; simp at this; omega
  · simp
theorem keep_facts (l : List Int) : LSl (labC (mkR (keepO l))) 0 (mkR (keepO l)) ∧ Vals (mkR (keepO l)) ∧ (mkR (keepO l)).length ≤ 6 := by
  have h1 := mkR_few (keepO_few l)
  have h2 := mkR_len (keepO l)
  have h3 := (keepO_small l).2
  refine ⟨labC_ls _ (fun x hx => by have := h1 x hx; omega) (by omega), ⟨fun n => ?_⟩, by omega⟩
  rcases getF_mem n (mkR (keepO l)) with h | ⟨x, hx, h⟩
  · rw [h]; decide
  · rw [h]; have := h1 x hx; omega
theorem bytesS_ofB {l : List Int} (h : Bytes l) : bytesS (ofB l) = l := by
  unfold bytesS ofB
  simp only [List.map_map]
  refine (List.map_congr_left fun x hx => ?_).trans (List.map_id l)
  have := h x hx
  simp [UInt8.toNat_ofNat']
  omega
theorem projB_bytes {l : List Lb} (h : Vals l) (ns : List ByteArray) : Bytes (projB l ns) := by
  induction ns with
  | nil => intro x hx; simp [projB] at hx
  | cons n ns ih =>
    rw [projB_cons]
    exact Bytes.app (ptxt_bytes _ (by have := h.le n; omega)) ih
theorem ptxt_cancel {x y : ByteArray} {s t : List Int} (hx : x.size ≤ 1000) (hy : y.size ≤ 1000) (h : ptxt x ++ s = ptxt y ++ t) : x = y ∧ s = t := by
  have e1 := dec_enc x.size (bytesS x ++ s) (by omega) (by omega)
  have e2 := dec_enc y.size (bytesS y ++ t) (by omega) (by omega)
  unfold ptxt at h
  rw [List.append_assoc, List.append_assoc] at h
  rw [h, e2] at e1
  simp only [Option.some.injEq, Prod.mk.injEq] at e1
  have hs : x.size = y.size := by omega
  rw [hs] at h
  have h := List.append_cancel_left h
  have hl : (bytesS x).length = (bytesS y).length := by rw [bytesS_len, bytesS_len, hs]
  obtain ⟨h1, h2⟩ := List.append_inj h hl
  refine ⟨?_, h2⟩
  rw [← ofB_bytesS x, ← ofB_bytesS y, h1]
theorem proj_same {a b : List Lb} (ha : Vals a) (hb : Vals b) (ns : List ByteArray) : eqS (ofB (projB a ns)) (ofB (projB b ns)) = sameF a b ns := by
  have key : projB a ns = projB b ns ↔ sameF a b ns = true := by
    induction ns with
    | nil => exact ⟨fun _ => rfl, fun _ => rfl⟩
    | cons n ns ih =>
      rw [projB_cons, projB_cons]
      unfold sameF at ih ⊢
      simp only [List.all_cons, Bool.and_eq_true]
      constructor
      · intro h
        obtain ⟨h1, h2⟩ := ptxt_cancel (ha.le n) (hb.le n) h
        exact ⟨eqS_iff.2 h1, ih.1 h2⟩
      · rintro ⟨h1, h2⟩
        rw [eqS_iff.1 h1, ih.2 h2]
  rw [Bool.eq_iff_iff, eqS_iff, ← key]
  refine ⟨fun h => ?_, fun h => by rw [h]⟩
  rw [← bytesS_ofB (projB_bytes ha ns), ← bytesS_ofB (projB_bytes hb ns), h]
theorem keys_loopf (hmix : Try.prog.follows .mixedOrders = true) (cl cr cn : List Value) (on : Nat) (sn : Option Nat) (cap2 : Nat) (ns : List ByteArray) (hN : ESl sE (fun _ => True) cn on ns) (a b : List Lb) (fl : FlatL cl) (fr : FlatL cr) (K : Post) : ∀ (t : List ByteArray) (i : Nat), ns.drop i = t → i ≤ ns.length →
    Alt (okF t) (K (.exit 0) (tmps 79 [(2, .slice (some ⟨2,on,sn⟩) ns.length cap2), (7, sl1 3 a.length), (8, sl1 4 b.length), (9, .bool false)]) (H105 cl cr cn (labC a) (labC b))) (K .ret (tmps 79 [(6, .bool true)]) (hp [.cells cl 1 false, .cells cr 1 false, .cells cn 1 false])) →
    LSays Try.prog 3 (sub body105 [0,0,1,0,1,1,1,1]) (T105 (.slice (some ⟨2,on,sn⟩) ns.length cap2) a.length b.length false i) (H105 cl cr cn (labC a) (labC b)) K := by
  have hF : FlatD [] (hp [.cells cl 1 false, .cells cr 1 false, .cells cn 1 false, .cells (labC a) 2 true, .cells (labC b) 2 true]) := FlatD.hp ⟨fl, fr, hN.flat, labC_flat a, labC_flat b, trivial⟩
  have hF0 : FlatD [] (hp [.cells cl 1 false, .cells cr 1 false, .cells cn 1 false]) := FlatD.hp ⟨fl, fr, hN.flat, trivial⟩
  have hsh := hN.short
  intro t
  induction t with
  | nil =>
    intro i ht hi hK
    have hge : ¬ ((i : Int) < (ns.length : Int)) := by have := List.drop_eq_nil_iff.1 ht; omega
    refine (sure44 hmix).roundX F105 noLoops [] [] [] [] [2,7,8,9,10] ?_
    rw [r105f]
    simp only [hge, hF, Alt_iff, Need_iff, ltI_eq, leI_eq, eqI_eq, leN_eq, eqN_eq, decide_eq_true_eq, decide_eq_false_iff_not, decide_true, decide_false, true_and, and_true, Bool.true_eq_false, Bool.false_eq_true, false_implies, true_implies, implies_true, not_true_eq_false, not_false_eq_true, Bool.not_eq_true', Bool.not_eq_false', Nat.zero_add, Nat.add_zero, Nat.sub_zero, Nat.zero_mul, Nat.mul_one, Int.toNat_natCast, List.drop_zero, beqV_int, beqV_sl, beqV_str, beqV_bool, beqV_ptr, beqV_flt, beqV_agg, beqV_tuple, List.all_cons, List.all_nil, Bool.and_self, Bool.and_true, Bool.true_and, Nat.le_refl, Int.le_refl, Nat.zero_le, Option.getD_some, isStr, strV, isInt, intV, isBool, boolV, kindEq, at0, isJunk, Option.isSome_some, Option.isSome_none, if_true, if_false, Nat.add_sub_cancel_left, Nat.add_sub_cancel]; exact hK
  | cons x t ih =>
    intro i ht hi hK
    obtain ⟨hlt, hx, hd⟩ := cons_of_drop ht
    have hl2 : (i : Int) < (ns.length : Int) := by omega
    have hg1 := hN.cell i x hx
    refine (sure44 hmix).roundX F105 noLoops [] [] [] [] [2,7,8,9,10] ?_
    rw [r105f]
    simp only [hl2, hg1, sE, hF, hF0, nx i (by omega), Alt_iff, Need_iff, ltI_eq, leI_eq, eqI_eq, leN_eq, eqN_eq, decide_eq_true_eq, decide_eq_false_iff_not, decide_true, decide_false, true_and, and_true, Bool.true_eq_false, Bool.false_eq_true, false_implies, true_implies, implies_true, not_true_eq_false, not_false_eq_true, Bool.not_eq_true', Bool.not_eq_false', Nat.zero_add, Nat.add_zero, Nat.sub_zero, Nat.zero_mul, Nat.mul_one, Int.toNat_natCast, List.drop_zero, beqV_int, beqV_sl, beqV_str, beqV_bool, beqV_ptr, beqV_flt, beqV_agg, beqV_tuple, List.all_cons, List.all_nil, Bool.and_self, Bool.and_true, Bool.true_and, Nat.le_refl, Int.le_refl, Nat.zero_le, Option.getD_some, isStr, strV, isInt, intV, isBool, boolV, kindEq, at0, isJunk, Option.isSome_some, Option.isSome_none, if_true, if_false, Nat.add_sub_cancel_left, Nat.add_sub_cancel]
    refine ⟨fun h => ?_, fun h => ?_⟩
    · have : okF (x :: t) = false := by simp [okF, show ¬ x.size ≤ 300 by omega]
      rw [this] at hK; exact hK
    · have : okF (x :: t) = okF t := by simp [okF, show x.size ≤ 300 by omega]
      rw [this] at hK
      exact ih (i + 1) hd (by omega) hK
theorem keys_loop (hmix : Try.prog.follows .mixedOrders = true) (cl cr cn : List Value) (on : Nat) (sn : Option Nat) (cap2 : Nat) (ns : List ByteArray) (hN : ESl sE (fun _ => True) cn on ns) (a b : List Lb) (hA : LSl (labC a) 0 a) (hB : LSl (labC b) 0 b) (fl : FlatL cl) (fr : FlatL cr) (K : Post) : ∀ (t : List ByteArray) (i : Nat), ns.drop i = t → i ≤ ns.length →
    Alt (okF t) (K (.exit 0) (tmps 79 [(2, .slice (some ⟨2,on,sn⟩) ns.length cap2), (7, sl1 3 a.length), (8, sl1 4 b.length), (9, .bool (sameF a b t))]) (H105 cl cr cn (labC a) (labC b))) (K .ret (tmps 79 [(6, .bool true)]) (hp [.cells cl 1 false, .cells cr 1 false, .cells cn 1 false])) →
    LSays Try.prog 3 (sub body105 [0,0,1,0,1,1,1,1]) (T105 (.slice (some ⟨2,on,sn⟩) ns.length cap2) a.length b.length true i) (H105 cl cr cn (labC a) (labC b)) K := by
  have hF : FlatD [] (hp [.cells cl 1 false, .cells cr 1 false, .cells cn 1 false, .cells (labC a) 2 true, .cells (labC b) 2 true]) := FlatD.hp ⟨fl, fr, hN.flat, labC_flat a, labC_flat b, trivial⟩
  have hF0 : FlatD [] (hp [.cells cl 1 false, .cells cr 1 false, .cells cn 1 false]) := FlatD.hp ⟨fl, fr, hN.flat, trivial⟩
  have hsh := hN.short
  have fa := labC_flat a
  have fb := labC_flat b
  have ia : IsLs (labC a) 0 a.length a.length := ⟨a, rfl, Nat.le_refl _, hA⟩
  have ib : IsLs (labC b) 0 b.length b.length := ⟨b, rfl, Nat.le_refl _, hB⟩
  intro t
  induction t with
  | nil =>
    intro i ht hi hK
    have hge : ¬ ((i : Int) < (ns.length : Int)) := by have := List.drop_eq_nil_iff.1 ht; omega
    refine (sure44 hmix).roundX F105 noLoops [] [] [] [] [2,7,8,9,10] ?_
    rw [r105t]
    simp only [hge, hF, Alt_iff, Need_iff, ltI_eq, leI_eq, eqI_eq, leN_eq, eqN_eq, decide_eq_true_eq, decide_eq_false_iff_not, decide_true, decide_false, true_and, and_true, Bool.true_eq_false, Bool.false_eq_true, false_implies, true_implies, implies_true, not_true_eq_false, not_false_eq_true, Bool.not_eq_true', Bool.not_eq_false', Nat.zero_add, Nat.add_zero, Nat.sub_zero, Nat.zero_mul, Nat.mul_one, Int.toNat_natCast, List.drop_zero, beqV_int, beqV_sl, beqV_str, beqV_bool, beqV_ptr, beqV_flt, beqV_agg, beqV_tuple, List.all_cons, List.all_nil, Bool.and_self, Bool.and_true, Bool.true_and, Nat.le_refl, Int.le_refl, Nat.zero_le, Option.getD_some, isStr, strV, isInt, intV, isBool, boolV, kindEq, at0, isJunk, Option.isSome_some, Option.isSome_none, if_true, if_false, Nat.add_sub_cancel_left, Nat.add_sub_cancel]; exact hK
  | cons x t ih =>
    intro i ht hi hK
    obtain ⟨hlt, hx, hd⟩ := cons_of_drop ht
    have hl2 : (i : Int) < (ns.length : Int) := by omega
    have hg1 := hN.cell i x hx
    refine (sure44 hmix).roundX F105 noLoops [] [] [] [] [2,7,8,9,10] ?_
    rw [r105t]
    simp only [hl2, hg1, sE, hF, hF0, nx i (by omega), fa, fb, ia, ib, hA.labsAt, hB.labsAt, Alt_iff, Need_iff, ltI_eq, leI_eq, eqI_eq, leN_eq, eqN_eq, decide_eq_true_eq, decide_eq_false_iff_not, decide_true, decide_false, true_and, and_true, Bool.true_eq_false, Bool.false_eq_true, false_implies, true_implies, implies_true, not_true_eq_false, not_false_eq_true, Bool.not_eq_true', Bool.not_eq_false', Nat.zero_add, Nat.add_zero, Nat.sub_zero, Nat.zero_mul, Nat.mul_one, Int.toNat_natCast, List.drop_zero, beqV_int, beqV_sl, beqV_str, beqV_bool, beqV_ptr, beqV_flt, beqV_agg, beqV_tuple, List.all_cons, List.all_nil, Bool.and_self, Bool.and_true, Bool.true_and, Nat.le_refl, Int.le_refl, Nat.zero_le, Option.getD_some, isStr, strV, isInt, intV, isBool, boolV, kindEq, at0, isJunk, Option.isSome_some, Option.isSome_none, if_true, if_false, Nat.add_sub_cancel_left, Nat.add_sub_cancel]
    refine ⟨fun h => ?_, fun h => ?_⟩
    · have : okF (x :: t) = false := by simp [okF, show ¬ x.size ≤ 300 by omega]
      rw [this] at hK; exact hK
    · have : okF (x :: t) = okF t := by simp [okF, show x.size ≤ 300 by omega]
      rw [this] at hK
      have e : sameF a b (x :: t) = (eqS (getF x a) (getF x b) && sameF a b t) := by simp [sameF]
      rw [e] at hK
      cases hq : eqS (getF x a) (getF x b) with
      | true => rw [hq] at hK; exact ih (i + 1) hd (by omega) hK
      | false => rw [hq] at hK; exact keys_loopf hmix cl cr cn on sn cap2 ns hN a b fl fr K t (i + 1) hd (by omega) hK
theorem law105 (hmix : Try.prog.follows .mixedOrders = true) (cl cr cn : List Value) (ol or on : Nat) (sl sr sn : Option Nat) (cap0 cap1 cap2 : Nat) (l r : List Int) (ns : List ByteArray) (h0 : l.length ≤ cap0) (h1 : r.length ≤ cap1) (h2 : ns.length ≤ cap2) (hL : ESl (iE .i64) (ZP .i64) cl ol l) (hR : ESl (iE .i64) (ZP .i64) cr or r) (hN : ESl sE (fun _ => True) cn on ns) :
    FunSays Try.prog 5 [.slice (some ⟨0,ol,sl⟩) l.length cap0, .slice (some ⟨1,or,sr⟩) r.length cap1, .slice (some ⟨2,on,sn⟩) ns.length cap2] (hp [.cells cl 1 false, .cells cr 1 false, .cells cn 1 false]) fun v _ => v = .bool true := by
  obtain ⟨a1, a2, a3⟩ := keep_facts l
  obtain ⟨b1, b2, b3⟩ := keep_facts r
  have e1 := hL.elAt (dec := intV) (fun _ => rfl)
  have e2 := hR.elAt (dec := intV) (fun _ => rfl)
  have e3 := hN.elAt (dec := strV) (fun _ => rfl)
  have iL : IsE (iE .i64) (ZP .i64) cl ol l.length cap0 := ⟨l, rfl, h0, hL⟩
  have iR : IsE (iE .i64) (ZP .i64) cr or r.length cap1 := ⟨r, rfl, h1, hR⟩
  have iN : IsE sE (fun _ => True) cn on ns.length cap2 := ⟨ns, rfl, h2, hN⟩
  have loop : ∀ q, sameF (mkR (keepO l)) (mkR (keepO r)) ns = q → Loops Try.prog body105 3 (cutLK [c105 cl cr cn (labC (mkR (keepO l))) (labC (mkR (keepO r))) (.slice (some ⟨2,on,sn⟩) ns.length cap2) (mkR (keepO l)).length (mkR (keepO r)).length (okF ns) q]) := fun q hq => Loops.none.more _ fun K hK => by
    show LSays Try.prog _ (sub body105 [0,0,1,0,1,1,1,1]) _ _ _
    refine keys_loop hmix cl cr cn on sn cap2 ns hN _ _ a1 b1 hL.flat hR.flat K ns 0 rfl (by omega) ?_
    rw [hq]; exact hK
  have hF0 : FlatD [] (hp [.cells cl 1 false, .cells cr 1 false, .cells cn 1 false]) := FlatD.hp ⟨hL.flat, hR.flat, hN.flat, trivial⟩
  have ps := proj_same a2 b2 ns
  generalize hA : mkR (keepO l) = A at *
  generalize hB : mkR (keepO r) = B at *
  have hF : FlatD [] (hp [.cells cl 1 false, .cells cr 1 false, .cells cn 1 false, .cells (labC A) 2 true, .cells (labC B) 2 true]) := FlatD.hp ⟨hL.flat, hR.flat, hN.flat, labC_flat A, labC_flat B, trivial⟩
  have fa := labC_flat A
  have fb := labC_flat B
  have ia : IsLs (labC A) 0 A.length A.length := ⟨A, rfl, Nat.le_refl _, a1⟩
  have ib : IsLs (labC B) 0 B.length B.length := ⟨B, rfl, Nat.le_refl _, b1⟩
  cases hq : sameF A B ns with
  | true =>
    refine (sure44 hmix).funX F105 body105 [] [] Try.func5 rfl ((loop true hq).gcX (at0 []) (at0 [])) ?_
    rw [w105t]
    simp only [e1, e2, e3, hA, hB, iL, iR, iN, hF, hF0, fa, fb, ia, ib, a1.labsAt, b1.labsAt, a2, b2, ps, hq, hL.flat, hR.flat, hN.flat, eqS_rfl, isJunk, Alt_iff, Need_iff, ltI_eq, leI_eq, eqI_eq, leN_eq, eqN_eq, decide_eq_true_eq, decide_eq_false_iff_not, decide_true, decide_false, true_and, and_true, Bool.true_eq_false, Bool.false_eq_true, false_implies, true_implies, implies_true, not_true_eq_false, not_false_eq_true, Bool.not_eq_true', Bool.not_eq_false', Nat.zero_add, Nat.add_zero, Nat.sub_zero, Nat.zero_mul, Nat.mul_one, Int.toNat_natCast, List.drop_zero, beqV_int, beqV_sl, beqV_str, beqV_bool, beqV_ptr, beqV_flt, beqV_agg, beqV_tuple, List.all_cons, List.all_nil, Bool.and_self, Bool.and_true, Bool.true_and, Nat.le_refl, Int.le_refl, Nat.zero_le, Option.getD_some, isStr, strV, isInt, intV, isBool, boolV, kindEq, at0, isJunk, Option.isSome_some, Option.isSome_none, if_true, if_false, Nat.add_sub_cancel_left, Nat.add_sub_cancel]
    exact fun _ _ _ _ => ⟨by omega, by omega, fun _ => ⟨by omega, by omega⟩, fun h => absurd h (by decide)⟩
  | false =>
    refine (sure44 hmix).funX F105 body105 [] [] Try.func5 rfl ((loop false hq).gcX (at0 []) (at0 [])) ?_
    rw [w105f]
    simp only [e1, e2, e3, hA, hB, iL, iR, iN, hF, hF0, fa, fb, ia, ib, a1.labsAt, b1.labsAt, a2, b2, ps, hq, hL.flat, hR.flat, hN.flat, eqS_rfl, isJunk, Alt_iff, Need_iff, ltI_eq, leI_eq, eqI_eq, leN_eq, eqN_eq, decide_eq_true_eq, decide_eq_false_iff_not, decide_true, decide_false, true_and, and_true, Bool.true_eq_false, Bool.false_eq_true, false_implies, true_implies, implies_true, not_true_eq_false, not_false_eq_true, Bool.not_eq_true', Bool.not_eq_false', Nat.zero_add, Nat.add_zero, Nat.sub_zero, Nat.zero_mul, Nat.mul_one, Int.toNat_natCast, List.drop_zero, beqV_int, beqV_sl, beqV_str, beqV_bool, beqV_ptr, beqV_flt, beqV_agg, beqV_tuple, List.all_cons, List.all_nil, Bool.and_self, Bool.and_true, Bool.true_and, Nat.le_refl, Int.le_refl, Nat.zero_le, Option.getD_some, isStr, strV, isInt, intV, isBool, boolV, kindEq, at0, isJunk, Option.isSome_some, Option.isSome_none, if_true, if_false, Nat.add_sub_cancel_left, Nat.add_sub_cancel]
    exact fun _ _ _ _ => ⟨by omega, by omega, fun _ => ⟨by omega, by omega⟩, fun h => absurd h (by decide)⟩
end Go.Proofs.Ytdpfmaimhimfcaa

namespace Go.Proofs.Ytdpfmaimhimfcaa
open Go.RowKit Go.Proofs.Ytdpfmaimhimfcaa.AM
set_option maxRecDepth 100000
set_option maxHeartbeats 4000000
noncomputable def body112 : Code := (Try.f12.body).getD .skip
def F112 : List Nat → Option (List Nat) := fun p => match p with
  | [1] => some [0]
  | [1, 0, 1] => some [0, 8]
  | [1, 0, 1, 0, 1] => some [2]
  | [1, 1] => some [0]
  | [1, 1, 1] => some [0, 3]
  | [1, 0, 1, 1, 1] => some [3, 13, 14, 15]
  | [1, 0, 0, 1, 0, 1, 1, 1] => some [3, 13, 14, 15, 16]
  | [1, 0, 1, 0, 0, 1, 0, 1, 1, 1] => some [3]
  | [1, 1, 0, 0, 1, 0, 1, 1, 1] => some [3, 13, 14, 15]
  | [1, 0, 0, 1, 1, 0, 0, 1, 0, 1, 1, 1] => some [3, 5, 13, 14, 15]
  | [1, 1, 0, 0, 1, 1, 0, 0, 1, 0, 1, 1, 1] => some [3, 5, 13, 14, 15]
  | [1, 1, 1, 0, 0, 1, 0, 1, 1, 1] => some [3, 13, 14, 15]
  | [1, 1, 1, 1] => some [3]
  | [1, 1, 1, 1, 1] => some [2]
  | _ => none
noncomputable def body125 : Code := (Try.f25.body).getD .skip
def F125 : List Nat → Option (List Nat) := fun p => match p with
  | [1] => some [0]
  | [1, 0, 1] => some [0, 7]
  | [1, 0, 1, 0, 1] => some [2]
  | [1, 1] => some [0]
  | [1, 1, 1] => some [0, 3]
  | [1, 0, 1, 1, 1] => some [0, 3, 4]
  | [1, 0, 0, 0, 1, 0, 1, 1, 1] => some [0, 3, 4, 15]
  | [1, 1, 0, 0, 0, 1, 0, 1, 1, 1] => some [3]
  | [1, 0, 0, 1, 0, 1, 1, 1] => some [0, 3, 4]
  | [1, 1, 0, 0, 1, 0, 1, 1, 1] => some [0, 3, 4]
  | [1, 1, 1, 1] => some [3]
  | [1, 1, 1, 1, 1] => some [2]
  | _ => none
noncomputable def body126 : Code := (Try.f26.body).getD .skip
def F126 : List Nat → Option (List Nat) := fun p => match p with
  | [1] => some [0, 1]
  | [1, 0, 1] => some [0, 1, 10]
  | [1, 0, 1, 0, 1] => some [4]
  | [1, 1] => some [0, 1]
  | [1, 0, 1, 1] => some [0, 1, 5]
  | [1, 0, 0, 0, 1, 0, 1, 1] => some [0, 1, 5, 14]
  | [1, 1, 0, 0, 0, 1, 0, 1, 1] => some []
  | [1, 0, 0, 1, 0, 1, 1] => some [0, 1, 5]
  | [1, 0, 0, 1, 0, 0, 1, 0, 1, 1] => some [0, 1, 5, 25]
  | [1, 0, 1, 0, 0, 1, 0, 0, 1, 0, 1, 1] => some [4]
  | [1, 1, 0, 0, 1, 0, 1, 1] => some [0, 1, 5]
  | [1, 1, 1] => some []
  | [1, 1, 1, 1] => some [4]
  | _ => none
noncomputable def S45 : Book := bookOf [(30, putC), (29, ptxtC), (45, putC), (37, ptxtC), (11, isSetC), (18, isSetC)]
theorem sure45 (hmix : Try.prog.follows .mixedOrders = true) : Sure Try.prog S45 := ⟨hmix, plain, bookOf_ok ⟨putC_holds hmix, ptxtC_holds hmix, rputC_holds hmix, rptxtC_holds hmix, is_says hmix, isset_says hmix, trivial⟩⟩
noncomputable def T112 (a : Value) (m len i : Nat) : List Value := tmps 31 [(3, sl1 1 m), (13, a), (14, .int .i64 len), (15, .int .i64 i)]

theorem r112 (cs c2 : List Value) (own : Bool) (o : Nat) (sp : Option Nat) (len cap m i : Nat) (K : Post) :
  roundX Try.prog S45 noLoop F112 body112 1 [] [] [] [] [3,13,14,15] [0,0,1,0,1,1,1] (T112 (.slice (some ⟨0,o,sp⟩) len cap) m len i) (hp [.cells cs 2 own, .cells c2 1 true]) K = (
Alt (ltI (↑i : Int) (↑len : Int))
  (Need (ltI (↑i : Int) (↑len : Int))
    (Need (isStr ((getO cs (o + (↑i : Int).toNat * 2)).getD undef))
      (Need (isStr ((getO cs (o + (↑i : Int).toNat * 2 + 1)).getD undef))
        (True ∧
          Need (leN (strV (Value.string (strV ((getO cs (o + (↑i : Int).toNat * 2)).getD undef)))).size 1000000000000)
              True ∧
            Need
              (leN
                (0 + (ptxt (strV (Value.string (strV ((getO cs (o + (↑i : Int).toNat * 2)).getD undef))))).length * 1)
                (List.map u8v
                    (ptxt (strV (Value.string (strV ((getO cs (o + (↑i : Int).toNat * 2)).getD undef)))))).length)
              (Need (leN (0 + m * 1) c2.length)
                (Need
                  (leN
                    ((m +
                        (ptxt (strV (Value.string (strV ((getO cs (o + (↑i : Int).toNat * 2)).getD undef))))).length) *
                      1)
                    1099511627776)
                  (Need
                    (leN
                      (m + (ptxt (strV (Value.string (strV ((getO cs (o + (↑i : Int).toNat * 2)).getD undef))))).length)
                      1099511627776)
                    (Need
                      ((List.take
                            ((ptxt
                                  (strV
                                    (Value.string (strV ((getO cs (o + (↑i : Int).toNat * 2)).getD undef))))).length *
                              1)
                            (List.drop 0
                              (List.map u8v
                                (ptxt
                                  (strV (Value.string (strV ((getO cs (o + (↑i : Int).toNat * 2)).getD undef)))))))).all
                        oneV)
                      (True ∧
                        Need
                            (leN (strV (Value.string (strV ((getO cs (o + (↑i : Int).toNat * 2 + 1)).getD undef)))).size
                              1000000000000)
                            True ∧
                          Need
                            (leN
                              (0 +
                                (ptxt
                                      (strV
                                        (Value.string
                                          (strV ((getO cs (o + (↑i : Int).toNat * 2 + 1)).getD undef))))).length *
                                  1)
                              (List.map u8v
                                  (ptxt
                                    (strV
                                      (Value.string
                                        (strV ((getO cs (o + (↑i : Int).toNat * 2 + 1)).getD undef)))))).length)
                            (Need
                              (leN
                                (0 +
                                  (m +
                                      (ptxt
                                          (strV
                                            (Value.string
                                              (strV ((getO cs (o + (↑i : Int).toNat * 2)).getD undef))))).length) *
                                    1)
                                (List.take (m * 1) (List.drop 0 c2) ++
                                    List.take
                                      ((ptxt
                                            (strV
                                              (Value.string
                                                (strV ((getO cs (o + (↑i : Int).toNat * 2)).getD undef))))).length *
                                        1)
                                      (List.drop 0
                                        (List.map u8v
                                          (ptxt
                                            (strV
                                              (Value.string
                                                (strV ((getO cs (o + (↑i : Int).toNat * 2)).getD undef)))))))).length)
                              (Need
                                (leN
                                  ((m +
                                        (ptxt
                                            (strV
                                              (Value.string
                                                (strV ((getO cs (o + (↑i : Int).toNat * 2)).getD undef))))).length +
                                      (ptxt
                                          (strV
                                            (Value.string
                                              (strV ((getO cs (o + (↑i : Int).toNat * 2 + 1)).getD undef))))).length) *
                                    1)
                                  1099511627776)
                                (Need
                                  (leN
                                    (m +
                                        (ptxt
                                            (strV
                                              (Value.string
                                                (strV ((getO cs (o + (↑i : Int).toNat * 2)).getD undef))))).length +
                                      (ptxt
                                          (strV
                                            (Value.string
                                              (strV ((getO cs (o + (↑i : Int).toNat * 2 + 1)).getD undef))))).length)
                                    1099511627776)
                                  (Need
                                    ((List.take
                                          ((ptxt
                                                (strV
                                                  (Value.string
                                                    (strV
                                                      ((getO cs (o + (↑i : Int).toNat * 2 + 1)).getD undef))))).length *
                                            1)
                                          (List.drop 0
                                            (List.map u8v
                                              (ptxt
                                                (strV
                                                  (Value.string
                                                    (strV
                                                      ((getO cs (o + (↑i : Int).toNat * 2 + 1)).getD undef)))))))).all
                                      oneV)
                                    (K AE.normal
                                      (tmps 31
                                        [(3,
                                            Value.slice (some { block := 1, off := 0, spot := some 1 : Addr })
                                              (m +
                                                  (ptxt
                                                      (strV
                                                        (Value.string
                                                          (strV
                                                            ((getO cs (o + (↑i : Int).toNat * 2)).getD
                                                              undef))))).length +
                                                (ptxt
                                                    (strV
                                                      (Value.string
                                                        (strV
                                                          ((getO cs (o + (↑i : Int).toNat * 2 + 1)).getD
                                                            undef))))).length)
                                              (m +
                                                  (ptxt
                                                      (strV
                                                        (Value.string
                                                          (strV
                                                            ((getO cs (o + (↑i : Int).toNat * 2)).getD
                                                              undef))))).length +
                                                (ptxt
                                                    (strV
                                                      (Value.string
                                                        (strV
                                                          ((getO cs (o + (↑i : Int).toNat * 2 + 1)).getD
                                                            undef))))).length)),
                                          (13, Value.slice (some { block := 0, off := o, spot := sp : Addr }) len cap),
                                          (14, Value.int IntKind.i64 (↑len : Int)),
                                          (15, Value.int IntKind.i64 (wr IntKind.i64 ((↑i : Int) + 1)))])
                                      (hp
                                        [Blk.cells cs 2 own,
                                          Blk.cells
                                            (List.take
                                                ((m +
                                                    (ptxt
                                                        (strV
                                                          (Value.string
                                                            (strV
                                                              ((getO cs (o + (↑i : Int).toNat * 2)).getD
                                                                undef))))).length) *
                                                  1)
                                                (List.drop 0
                                                  (List.take (m * 1) (List.drop 0 c2) ++
                                                    List.take
                                                      ((ptxt
                                                            (strV
                                                              (Value.string
                                                                (strV
                                                                  ((getO cs (o + (↑i : Int).toNat * 2)).getD
                                                                    undef))))).length *
                                                        1)
                                                      (List.drop 0
                                                        (List.map u8v
                                                          (ptxt
                                                            (strV
                                                              (Value.string
                                                                (strV
                                                                  ((getO cs (o + (↑i : Int).toNat * 2)).getD
                                                                    undef))))))))) ++
                                              List.take
                                                ((ptxt
                                                      (strV
                                                        (Value.string
                                                          (strV
                                                            ((getO cs (o + (↑i : Int).toNat * 2 + 1)).getD
                                                              undef))))).length *
                                                  1)
                                                (List.drop 0
                                                  (List.map u8v
                                                    (ptxt
                                                      (strV
                                                        (Value.string
                                                          (strV
                                                            ((getO cs (o + (↑i : Int).toNat * 2 + 1)).getD undef))))))))
                                            1 true])))))))))))))))
  (K (AE.exit 0) (tmps 31 [(3, Value.slice (some { block := 1, off := 0, spot := some 1 : Addr }) m m)])
    (hp [Blk.cells cs 2 own, Blk.cells c2 1 true]))) := by kernel_rfl

theorem w112 (cs c1 c2 : List Value) (own : Bool) (o : Nat) (sp : Option Nat) (len cap n m : Nat) (K : Value → Heap → Prop) :
  funX Try.prog S45 (gcLKX (at0 []) (at0 []) 1 (cutLK [⟨[0,1,0,1,1,1], T112 (.slice (some ⟨0,o,sp⟩) len cap) n len 0, hp [.cells cs 2 own, .cells c1 1 true], fun K => K (.exit 0) (tmps 31 [(3, sl1 1 m)]) (hp [.cells cs 2 own, .cells c2 1 true])⟩])) F112 body112 Try.f12 [] [.tmp 0 1] [.slice (some ⟨0,o,sp⟩) len cap] (hp [.cells cs 2 own]) K = (
(FlatL cs ∧ True) ∧
  (IsLs cs o len cap ∧ True) ∧
    Alt (!isSetB (labsAt cs o len))
      (K (Value.slice (some { block := 1, off := 0, spot := some 1 : Addr }) 0 0)
        (hp [Blk.cells cs 2 own, Blk.cells [] 1 true]))
      (True ∧
        Need (leI (wr IntKind.u64 (↑len : Int)) 18446744073709551615) True ∧
          FlatD [] (hp [Blk.cells cs 2 own, Blk.cells (List.map u8v (enc (wr IntKind.u64 (↑len : Int)))) 1 true]) ∧
            tmps 31
                  [(3,
                      Value.slice (some { block := 1, off := 0, spot := some 1 : Addr })
                        (enc (wr IntKind.u64 (↑len : Int))).length (enc (wr IntKind.u64 (↑len : Int))).length),
                    (13, Value.slice (some { block := 0, off := o, spot := sp : Addr }) len cap),
                    (14, Value.int IntKind.i64 (↑len : Int)), (15, Value.int IntKind.i64 0)] =
                tmps 31
                  [(3, Value.slice (some { block := 1, off := 0, spot := some 1 : Addr }) n n),
                    (13, Value.slice (some { block := 0, off := o, spot := sp : Addr }) len cap),
                    (14, Value.int IntKind.i64 (↑len : Int)), (15, Value.int IntKind.i64 0)] ∧
              hp [Blk.cells cs 2 own, Blk.cells (List.map u8v (enc (wr IntKind.u64 (↑len : Int)))) 1 true] =
                  hp [Blk.cells cs 2 own, Blk.cells c1 1 true] ∧
                K (Value.slice (some { block := 1, off := 0, spot := some 1 : Addr }) m m)
                  (hp [Blk.cells cs 2 own, Blk.cells c2 1 true]))) := by kernel_rfl

theorem w112e (cs : List Value) (own : Bool) (o : Nat) (sp : Option Nat) (len cap : Nat) (K : Value → Heap → Prop) :
  funX Try.prog S45 noLoop F112 body112 Try.f12 [] [.tmp 0 1] [.slice (some ⟨0,o,sp⟩) len cap] (hp [.cells cs 2 own]) K = (
(FlatL cs ∧ True) ∧
  (IsLs cs o len cap ∧ True) ∧
    Alt (!isSetB (labsAt cs o len))
      (K (Value.slice (some { block := 1, off := 0, spot := some 1 : Addr }) 0 0)
        (hp [Blk.cells cs 2 own, Blk.cells [] 1 true]))
      (True ∧ Need (leI (wr IntKind.u64 (↑len : Int)) 18446744073709551615) True ∧ False)) := by kernel_rfl

noncomputable def T125 (a : Value) (m i : Nat) : List Value := tmps 34 [(0, a), (3, sl1 1 m), (4, .int .i64 i)]

theorem r125 (cs c2 : List Value) (own : Bool) (o : Nat) (sp : Option Nat) (len cap m i : Nat) (K : Post) :
  roundX Try.prog S45 noLoop F125 body125 1 [] [] [] [] [0,3,4] [0,0,1,0,1,1,1] (T125 (.slice (some ⟨0,o,sp⟩) len cap) m i) (hp [.cells cs 2 own, .cells c2 1 true]) K = (
Alt (ltI (↑i : Int) (↑len : Int))
  (Need (ltI (↑i : Int) (↑len : Int))
    (Need (isStr ((getO cs (o + (↑i : Int).toNat * 2 + 0)).getD undef))
      (True ∧
        Need (leN (strV ((getO cs (o + (↑i : Int).toNat * 2 + 0)).getD undef)).size 1000000000000) True ∧
          Need
            (leN (0 + (ptxt (strV ((getO cs (o + (↑i : Int).toNat * 2 + 0)).getD undef))).length * 1)
              (List.map u8v (ptxt (strV ((getO cs (o + (↑i : Int).toNat * 2 + 0)).getD undef)))).length)
            (Need (leN (0 + m * 1) c2.length)
              (Need
                (leN ((m + (ptxt (strV ((getO cs (o + (↑i : Int).toNat * 2 + 0)).getD undef))).length) * 1)
                  1099511627776)
                (Need
                  (leN (m + (ptxt (strV ((getO cs (o + (↑i : Int).toNat * 2 + 0)).getD undef))).length) 1099511627776)
                  (Need
                    ((List.take ((ptxt (strV ((getO cs (o + (↑i : Int).toNat * 2 + 0)).getD undef))).length * 1)
                          (List.drop 0
                            (List.map u8v (ptxt (strV ((getO cs (o + (↑i : Int).toNat * 2 + 0)).getD undef)))))).all
                      oneV)
                    (Need (ltI (↑i : Int) (↑len : Int))
                      (Need (isStr ((getO cs (o + (↑i : Int).toNat * 2 + 1)).getD undef))
                        (True ∧
                          Need (leN (strV ((getO cs (o + (↑i : Int).toNat * 2 + 1)).getD undef)).size 1000000000000)
                              True ∧
                            Need
                              (leN (0 + (ptxt (strV ((getO cs (o + (↑i : Int).toNat * 2 + 1)).getD undef))).length * 1)
                                (List.map u8v
                                    (ptxt (strV ((getO cs (o + (↑i : Int).toNat * 2 + 1)).getD undef)))).length)
                              (Need
                                (leN
                                  (0 +
                                    (m + (ptxt (strV ((getO cs (o + (↑i : Int).toNat * 2 + 0)).getD undef))).length) *
                                      1)
                                  (List.take (m * 1) (List.drop 0 c2) ++
                                      List.take
                                        ((ptxt (strV ((getO cs (o + (↑i : Int).toNat * 2 + 0)).getD undef))).length * 1)
                                        (List.drop 0
                                          (List.map u8v
                                            (ptxt
                                              (strV ((getO cs (o + (↑i : Int).toNat * 2 + 0)).getD undef)))))).length)
                                (Need
                                  (leN
                                    ((m + (ptxt (strV ((getO cs (o + (↑i : Int).toNat * 2 + 0)).getD undef))).length +
                                        (ptxt (strV ((getO cs (o + (↑i : Int).toNat * 2 + 1)).getD undef))).length) *
                                      1)
                                    1099511627776)
                                  (Need
                                    (leN
                                      (m + (ptxt (strV ((getO cs (o + (↑i : Int).toNat * 2 + 0)).getD undef))).length +
                                        (ptxt (strV ((getO cs (o + (↑i : Int).toNat * 2 + 1)).getD undef))).length)
                                      1099511627776)
                                    (Need
                                      ((List.take
                                            ((ptxt
                                                  (strV ((getO cs (o + (↑i : Int).toNat * 2 + 1)).getD undef))).length *
                                              1)
                                            (List.drop 0
                                              (List.map u8v
                                                (ptxt
                                                  (strV ((getO cs (o + (↑i : Int).toNat * 2 + 1)).getD undef)))))).all
                                        oneV)
                                      (Need (isStr ((getO cs (o + (↑i : Int).toNat * 2 + 1)).getD undef))
                                        (Need
                                          (beqV 64
                                            (Value.string (strV ((getO cs (o + (↑i : Int).toNat * 2 + 1)).getD undef)))
                                            (Value.string (strV ((getO cs (o + (↑i : Int).toNat * 2 + 1)).getD undef))))
                                          (Need (isStr ((getO cs (o + (↑i : Int).toNat * 2 + 1)).getD undef))
                                            (Need
                                              (beqV 64
                                                (Value.string
                                                  (strV ((getO cs (o + (↑i : Int).toNat * 2 + 1)).getD undef)))
                                                (Value.string
                                                  (strV ((getO cs (o + (↑i : Int).toNat * 2 + 1)).getD undef))))
                                              (Need
                                                (beqV 64
                                                  (Value.pointer
                                                    (some { block := 0, off := o + (↑i : Int).toNat * 2 + 1 : Addr }))
                                                  (Value.pointer
                                                    (some { block := 0, off := o + (↑i : Int).toNat * 2 + 1 : Addr })))
                                                (Need
                                                  (beqV 64
                                                    (Value.pointer
                                                      (some { block := 0, off := o + (↑i : Int).toNat * 2 + 1 : Addr }))
                                                    (Value.pointer
                                                      (some
                                                        { block := 0, off := o + (↑i : Int).toNat * 2 + 1 : Addr })))
                                                  (Need (ltI (↑i : Int) (↑len : Int))
                                                    (Need
                                                      (beqV 64
                                                        (Value.pointer
                                                          (some { block := 0, off := o + (↑i : Int).toNat * 2 : Addr }))
                                                        (Value.pointer
                                                          (some
                                                            { block := 0, off := o + (↑i : Int).toNat * 2 : Addr })))
                                                      (Need (ltI (↑i : Int) (↑len : Int))
                                                        (Need
                                                          (beqV 64
                                                            (Value.pointer
                                                              (some
                                                                { block := 0, off := o + (↑i : Int).toNat * 2 : Addr }))
                                                            (Value.pointer
                                                              (some
                                                                { block := 0, off := o + (↑i : Int).toNat * 2 :
                                                                  Addr })))
                                                          (Need
                                                            (beqV 64 (Value.int IntKind.i64 (↑i : Int))
                                                              (Value.int IntKind.i64 (↑i : Int)))
                                                            (Need
                                                              (beqV 64 (Value.int IntKind.i64 (↑i : Int))
                                                                (Value.int IntKind.i64 (↑i : Int)))
                                                              (Need
                                                                (beqV 64
                                                                  (Value.slice
                                                                    (some { block := 0, off := o, spot := sp : Addr })
                                                                    len cap)
                                                                  (Value.slice
                                                                    (some { block := 0, off := o, spot := sp : Addr })
                                                                    len cap))
                                                                (Need
                                                                  (beqV 64
                                                                    (Value.slice
                                                                      (some { block := 0, off := o, spot := sp : Addr })
                                                                      len cap)
                                                                    (Value.slice
                                                                      (some { block := 0, off := o, spot := sp : Addr })
                                                                      len cap))
                                                                  (Need
                                                                    (beqV 64
                                                                      (Value.slice
                                                                        (some
                                                                          { block := 1, off := 0, spot := some 1 :
                                                                            Addr })
                                                                        m m)
                                                                      (Value.slice
                                                                        (some
                                                                          { block := 1, off := 0, spot := some 1 :
                                                                            Addr })
                                                                        m m))
                                                                    (K AE.normal
                                                                      (tmps 34
                                                                        [(0,
                                                                            Value.slice
                                                                              (some
                                                                                { block := 0, off := o, spot := sp :
                                                                                  Addr })
                                                                              len cap),
                                                                          (3,
                                                                            Value.slice
                                                                              (some
                                                                                { block := 1, off := 0, spot := some 1 :
                                                                                  Addr })
                                                                              (m +
                                                                                  (ptxt
                                                                                      (strV
                                                                                        ((getO cs
                                                                                              (o +
                                                                                                  (↑i : Int).toNat * 2 +
                                                                                                0)).getD
                                                                                          undef))).length +
                                                                                (ptxt
                                                                                    (strV
                                                                                      ((getO cs
                                                                                            (o + (↑i : Int).toNat * 2 +
                                                                                              1)).getD
                                                                                        undef))).length)
                                                                              (m +
                                                                                  (ptxt
                                                                                      (strV
                                                                                        ((getO cs
                                                                                              (o +
                                                                                                  (↑i : Int).toNat * 2 +
                                                                                                0)).getD
                                                                                          undef))).length +
                                                                                (ptxt
                                                                                    (strV
                                                                                      ((getO cs
                                                                                            (o + (↑i : Int).toNat * 2 +
                                                                                              1)).getD
                                                                                        undef))).length)),
                                                                          (4,
                                                                            Value.int IntKind.i64
                                                                              (wr IntKind.i64 ((↑i : Int) + 1)))])
                                                                      (hp
                                                                        [Blk.cells cs 2 own,
                                                                          Blk.cells
                                                                            (List.take
                                                                                ((m +
                                                                                    (ptxt
                                                                                        (strV
                                                                                          ((getO cs
                                                                                                (o +
                                                                                                    (↑i : Int).toNat *
                                                                                                      2 +
                                                                                                  0)).getD
                                                                                            undef))).length) *
                                                                                  1)
                                                                                (List.drop 0
                                                                                  (List.take (m * 1) (List.drop 0 c2) ++
                                                                                    List.take
                                                                                      ((ptxt
                                                                                            (strV
                                                                                              ((getO cs
                                                                                                    (o +
                                                                                                        (↑i :
                                                                                                              Int).toNat *
                                                                                                          2 +
                                                                                                      0)).getD
                                                                                                undef))).length *
                                                                                        1)
                                                                                      (List.drop 0
                                                                                        (List.map u8v
                                                                                          (ptxt
                                                                                            (strV
                                                                                              ((getO cs
                                                                                                    (o +
                                                                                                        (↑i :
                                                                                                              Int).toNat *
                                                                                                          2 +
                                                                                                      0)).getD
                                                                                                undef))))))) ++
                                                                              List.take
                                                                                ((ptxt
                                                                                      (strV
                                                                                        ((getO cs
                                                                                              (o +
                                                                                                  (↑i : Int).toNat * 2 +
                                                                                                1)).getD
                                                                                          undef))).length *
                                                                                  1)
                                                                                (List.drop 0
                                                                                  (List.map u8v
                                                                                    (ptxt
                                                                                      (strV
                                                                                        ((getO cs
                                                                                              (o +
                                                                                                  (↑i : Int).toNat * 2 +
                                                                                                1)).getD
                                                                                          undef))))))
                                                                            1 true])))))))))))))))))))))))))))))))
  (K (AE.exit 0) (tmps 34 [(3, Value.slice (some { block := 1, off := 0, spot := some 1 : Addr }) m m)])
    (hp [Blk.cells cs 2 own, Blk.cells c2 1 true]))) := by kernel_rfl

theorem w125 (cs c1 c2 : List Value) (own : Bool) (o : Nat) (sp : Option Nat) (len cap n m : Nat) (K : Value → Heap → Prop) :
  funX Try.prog S45 (gcLKX (at0 []) (at0 []) 1 (cutLK [⟨[0,1,0,1,1,1], T125 (.slice (some ⟨0,o,sp⟩) len cap) n 0, hp [.cells cs 2 own, .cells c1 1 true], fun K => K (.exit 0) (tmps 34 [(3, sl1 1 m)]) (hp [.cells cs 2 own, .cells c2 1 true])⟩])) F125 body125 Try.f25 [] [.tmp 0 1] [.slice (some ⟨0,o,sp⟩) len cap] (hp [.cells cs 2 own]) K = (
(FlatL cs ∧ True) ∧
  (IsLs cs o len cap ∧ True) ∧
    Alt (!isSetB (labsAt cs o len))
      (K (Value.slice (some { block := 1, off := 0, spot := some 1 : Addr }) 0 0)
        (hp [Blk.cells cs 2 own, Blk.cells [] 1 true]))
      (True ∧
        Need (leI (wr IntKind.u64 (↑len : Int)) 18446744073709551615) True ∧
          FlatD [] (hp [Blk.cells cs 2 own, Blk.cells (List.map u8v (enc (wr IntKind.u64 (↑len : Int)))) 1 true]) ∧
            tmps 34
                  [(0, Value.slice (some { block := 0, off := o, spot := sp : Addr }) len cap),
                    (3,
                      Value.slice (some { block := 1, off := 0, spot := some 1 : Addr })
                        (enc (wr IntKind.u64 (↑len : Int))).length (enc (wr IntKind.u64 (↑len : Int))).length),
                    (4, Value.int IntKind.i64 0)] =
                tmps 34
                  [(0, Value.slice (some { block := 0, off := o, spot := sp : Addr }) len cap),
                    (3, Value.slice (some { block := 1, off := 0, spot := some 1 : Addr }) n n),
                    (4, Value.int IntKind.i64 0)] ∧
              hp [Blk.cells cs 2 own, Blk.cells (List.map u8v (enc (wr IntKind.u64 (↑len : Int)))) 1 true] =
                  hp [Blk.cells cs 2 own, Blk.cells c1 1 true] ∧
                K (Value.slice (some { block := 1, off := 0, spot := some 1 : Addr }) m m)
                  (hp [Blk.cells cs 2 own, Blk.cells c2 1 true]))) := by kernel_rfl

theorem w125e (cs : List Value) (own : Bool) (o : Nat) (sp : Option Nat) (len cap : Nat) (K : Value → Heap → Prop) :
  funX Try.prog S45 noLoop F125 body125 Try.f25 [] [.tmp 0 1] [.slice (some ⟨0,o,sp⟩) len cap] (hp [.cells cs 2 own]) K = (
(FlatL cs ∧ True) ∧
  (IsLs cs o len cap ∧ True) ∧
    Alt (!isSetB (labsAt cs o len))
      (K (Value.slice (some { block := 1, off := 0, spot := some 1 : Addr }) 0 0)
        (hp [Blk.cells cs 2 own, Blk.cells [] 1 true]))
      (True ∧ Need (leI (wr IntKind.u64 (↑len : Int)) 18446744073709551615) True ∧ False)) := by kernel_rfl

noncomputable def T126 (a b : Value) (i : Nat) : List Value := tmps 26 [(0, a), (1, b), (5, .int .i64 i)]

theorem r126 (ca cb : List Value) (own own2 : Bool) (o o2 : Nat) (sp s2 : Option Nat) (len cap len2 cap2 i : Nat) (K : Post) :
  roundX Try.prog S45 noLoop F126 body126 2 [] [] [] [] [0,1,5] [0,0,1,0,1,1] (T126 (.slice (some ⟨0,o,sp⟩) len cap) (.slice (some ⟨1,o2,s2⟩) len2 cap2) i) (hp [.cells ca 2 own, .cells cb 2 own2]) K = (
Alt (ltI (↑i : Int) (↑len : Int))
  (Need (ltI (↑i : Int) (↑len : Int))
    (Need (isStr ((getO ca (o + (↑i : Int).toNat * 2)).getD undef))
      (Need (isStr ((getO ca (o + (↑i : Int).toNat * 2 + 1)).getD undef))
        (Need (ltI (↑i : Int) (↑len2 : Int))
          (Need (isStr ((getO cb (o2 + (↑i : Int).toNat * 2)).getD undef))
            (Need (isStr ((getO cb (o2 + (↑i : Int).toNat * 2 + 1)).getD undef))
              (Alt
                (!(eqS (strV ((getO ca (o + (↑i : Int).toNat * 2)).getD undef))
                      (strV ((getO cb (o2 + (↑i : Int).toNat * 2)).getD undef)) &&
                    (eqS (strV ((getO ca (o + (↑i : Int).toNat * 2 + 1)).getD undef))
                        (strV ((getO cb (o2 + (↑i : Int).toNat * 2 + 1)).getD undef)) &&
                      true)))
                (K AE.ret (tmps 26 [(4, Value.bool false)]) (hp [Blk.cells ca 2 own, Blk.cells cb 2 own2]))
                (K AE.normal
                  (tmps 26
                    [(0, Value.slice (some { block := 0, off := o, spot := sp : Addr }) len cap),
                      (1, Value.slice (some { block := 1, off := o2, spot := s2 : Addr }) len2 cap2),
                      (5, Value.int IntKind.i64 (wr IntKind.i64 ((↑i : Int) + 1)))])
                  (hp [Blk.cells ca 2 own, Blk.cells cb 2 own2])))))))))
  (K (AE.exit 0) (tmps 26 []) (hp [Blk.cells ca 2 own, Blk.cells cb 2 own2]))) := by kernel_rfl

theorem w126 (ca cb : List Value) (own own2 : Bool) (o o2 : Nat) (sp s2 : Option Nat) (len cap len2 cap2 : Nat) (ok : Bool) (K : Value → Heap → Prop) :
  funX Try.prog S45 (gcLKX (at0 []) (at0 []) 2 (cutLK [⟨[0,1,0,1,1], T126 (.slice (some ⟨0,o,sp⟩) len cap) (.slice (some ⟨1,o2,s2⟩) len2 cap2) 0, hp [.cells ca 2 own, .cells cb 2 own2], fun K => Alt ok (K (.exit 0) (tmps 26 []) (hp [.cells ca 2 own, .cells cb 2 own2])) (K .ret (tmps 26 [(4, .bool false)]) (hp [.cells ca 2 own, .cells cb 2 own2]))⟩])) F126 body126 Try.f26 [] [] [.slice (some ⟨0,o,sp⟩) len cap, .slice (some ⟨1,o2,s2⟩) len2 cap2] (hp [.cells ca 2 own, .cells cb 2 own2]) K = (
Alt (!eqI (↑len : Int) (↑len2 : Int)) (K (Value.bool false) (hp [Blk.cells ca 2 own, Blk.cells cb 2 own2]))
  (FlatD [] (hp [Blk.cells ca 2 own, Blk.cells cb 2 own2]) ∧
    tmps 26
          [(0, Value.slice (some { block := 0, off := o, spot := sp : Addr }) len cap),
            (1, Value.slice (some { block := 1, off := o2, spot := s2 : Addr }) len2 cap2),
            (5, Value.int IntKind.i64 0)] =
        tmps 26
          [(0, Value.slice (some { block := 0, off := o, spot := sp : Addr }) len cap),
            (1, Value.slice (some { block := 1, off := o2, spot := s2 : Addr }) len2 cap2),
            (5, Value.int IntKind.i64 0)] ∧
      hp [Blk.cells ca 2 own, Blk.cells cb 2 own2] = hp [Blk.cells ca 2 own, Blk.cells cb 2 own2] ∧
        Alt ok (K (Value.bool true) (hp [Blk.cells ca 2 own, Blk.cells cb 2 own2]))
          (K (Value.bool false) (hp [Blk.cells ca 2 own, Blk.cells cb 2 own2])))) := by kernel_rfl

theorem w126e (ca cb : List Value) (own own2 : Bool) (o o2 : Nat) (sp s2 : Option Nat) (len cap len2 cap2 : Nat) (K : Value → Heap → Prop) :
  funX Try.prog S45 noLoop F126 body126 Try.f26 [] [] [.slice (some ⟨0,o,sp⟩) len cap, .slice (some ⟨1,o2,s2⟩) len2 cap2] (hp [.cells ca 2 own, .cells cb 2 own2]) K = (
Need (!eqI (↑len : Int) (↑len2 : Int)) (K (Value.bool false) (hp [Blk.cells ca 2 own, Blk.cells cb 2 own2]))) := by kernel_rfl

/-- the bytes of labels, without their number -/
def lB (l : List Lb) : List Int := l.flatMap fun x => ptxt x.1 ++ ptxt x.2
theorem lB_cons (x : Lb) (l : List Lb) : lB (x :: l) = ptxt x.1 ++ (ptxt x.2 ++ lB l) := by rw [lB, List.flatMap_cons, List.append_assoc]; rfl
/-- a set's bytes; none: nothing -/
def setB (l : List Lb) : List Int := if isSetB l then enc l.length ++ lB l else []
def Tiny (l : List Lb) : Prop := ∀ x ∈ l, x.1.size ≤ 12 ∧ x.2.size ≤ 24
theorem setF_tiny : ∀ (l : List Lb) (p : Option ByteArray), setF p l = true → Tiny l := by
  intro l
  induction l with
  | nil => intro p _ x hx; simp at hx
  | cons y l ih =>
    intro p h x hx
    simp only [setF, Bool.and_eq_true] at h
    obtain ⟨h1, h2, _, h4⟩ := h
    rcases List.mem_cons.1 hx with rfl | hx
    · simp only [nameB, valueB, Bool.and_eq_true, leN_iff] at h1 h2
      exact ⟨h1.1.1.2, h2.2⟩
    · exact ih _ h4 x hx
theorem isSet_tiny {l : List Lb} (h : isSetB l = true) : Tiny l ∧ 1 ≤ l.length ∧ l.length ≤ 6 := by
  simp only [isSetB, Bool.and_eq_true, leN_iff] at h
  exact ⟨setF_tiny l _ h.2, h.1.1, h.1.2⟩
theorem tk_u (l : List Int) : List.take l.length (List.map u8v l) = List.map u8v l := List.take_of_length_le (by simp)
theorem tk_u2 (a b : List Int) : List.take (a.length + b.length) (List.map u8v a ++ List.map u8v b) = List.map u8v a ++ List.map u8v b := List.take_of_length_le (by simp)
theorem bytes_loop (hmix : Try.prog.follows .mixedOrders = true) (l : List Lb) (cs : List Value) (own : Bool) (o : Nat) (sp : Option Nat) (cap : Nat) (hB : LSl cs o l) (hv : Tiny l) (K : Post) : ∀ (t : List Lb) (i : Nat) (L : List Int), l.drop i = t → i ≤ l.length → L.length + t.length * 100 ≤ 2000000 →
    K (.exit 0) (tmps 31 [(3, sl1 1 (L ++ lB t).length)]) (hp [.cells cs 2 own, .cells ((L ++ lB t).map u8v) 1 true]) →
    LSays Try.prog 1 (sub body112 [0,0,1,0,1,1,1]) (T112 (.slice (some ⟨0,o,sp⟩) l.length cap) L.length l.length i) (hp [.cells cs 2 own, .cells (L.map u8v) 1 true]) K := by
  have hF : ∀ L : List Int, FlatD [] (hp [.cells cs 2 own, .cells (L.map u8v) 1 true]) := fun L => FlatD.hp ⟨hB.flat, ⟨flat_u8s L⟩, trivial⟩
  have hsh := hB.short
  intro t
  induction t with
  | nil =>
    intro i L ht hi hL hK
    have hge : ¬ ((i : Int) < (l.length : Int)) := by have := List.drop_eq_nil_iff.1 ht; omega
    refine (sure45 hmix).roundX F112 noLoops [] [] [] [] [3,13,14,15] ?_
    rw [r112]
    rw [show lB [] = [] from rfl, List.append_nil] at hK
    simp only [hge, hF, Alt_iff, Need_iff, ltI_eq, leI_eq, eqI_eq, leN_eq, eqN_eq, decide_eq_true_eq, decide_eq_false_iff_not, decide_true, decide_false, true_and, and_true, Bool.true_eq_false, Bool.false_eq_true, false_implies, true_implies, implies_true, not_true_eq_false, not_false_eq_true, Bool.not_eq_true', Bool.not_eq_false', Nat.zero_add, Nat.add_zero, Nat.sub_zero, Nat.zero_mul, Nat.mul_one, Int.toNat_natCast, List.drop_zero, beqV_int, beqV_sl, beqV_str, beqV_bool, beqV_ptr, beqV_flt, beqV_agg, beqV_tuple, List.all_cons, List.all_nil, Bool.and_self, Bool.and_true, Bool.true_and, Nat.le_refl, Int.le_refl, Nat.zero_le, Option.getD_some, isStr, strV, isInt, intV, isBool, boolV, kindEq, at0, isJunk, Option.isSome_some, Option.isSome_none, if_true, if_false, Nat.add_sub_cancel_left, Nat.add_sub_cancel]; exact hK
  | cons x t ih =>
    intro i L ht hi hL hK
    obtain ⟨hlt, hx, hd⟩ := drop_cons ht
    have hl2 : (i : Int) < (l.length : Int) := by omega
    have hg1 := hB.name i x hx
    have hg2 := hB.value i x hx
    obtain ⟨z1, z2⟩ := hv x (List.mem_of_getElem? hx)
    have hn1 := enc_len x.1.size
    have hn2 := enc_len x.2.size
    have hp1 := ptxt_len x.1
    have hp2 := ptxt_len x.2
    simp only [List.length_cons] at hL
    have next := ih (i + 1) (L ++ ptxt x.1 ++ ptxt x.2) hd (by omega) (by rw [List.length_append, List.length_append]; omega) (by rw [List.append_assoc, List.append_assoc, ← lB_cons]; exact hK)
    have hF2 := hF (L ++ ptxt x.1 ++ ptxt x.2)
    rw [List.map_append, List.map_append] at next hF2
    rw [List.length_append, List.length_append] at next
    refine (sure45 hmix).roundX F112 noLoops [] [] [] [] [3,13,14,15] ?_
    rw [r112]
    simp only [hl2, hg1, hg2, hF, nx i (by omega), List.length_map, List.length_append, tk_u, tk_u2, oneV_u8s, hF2, next, Alt_iff, Need_iff, ltI_eq, leI_eq, eqI_eq, leN_eq, eqN_eq, decide_eq_true_eq, decide_eq_false_iff_not, decide_true, decide_false, true_and, and_true, Bool.true_eq_false, Bool.false_eq_true, false_implies, true_implies, implies_true, not_true_eq_false, not_false_eq_true, Bool.not_eq_true', Bool.not_eq_false', Nat.zero_add, Nat.add_zero, Nat.sub_zero, Nat.zero_mul, Nat.mul_one, Int.toNat_natCast, List.drop_zero, beqV_int, beqV_sl, beqV_str, beqV_bool, beqV_ptr, beqV_flt, beqV_agg, beqV_tuple, List.all_cons, List.all_nil, Bool.and_self, Bool.and_true, Bool.true_and, Nat.le_refl, Int.le_refl, Nat.zero_le, Option.getD_some, isStr, strV, isInt, intV, isBool, boolV, kindEq, at0, isJunk, Option.isSome_some, Option.isSome_none, if_true, if_false, Nat.add_sub_cancel_left, Nat.add_sub_cancel]
    and_intros <;> first | omega | exact next
theorem rbytes_loop (hmix : Try.prog.follows .mixedOrders = true) (l : List Lb) (cs : List Value) (own : Bool) (o : Nat) (sp : Option Nat) (cap : Nat) (hB : LSl cs o l) (hv : Tiny l) (K : Post) : ∀ (t : List Lb) (i : Nat) (L : List Int), l.drop i = t → i ≤ l.length → L.length + t.length * 100 ≤ 2000000 →
    K (.exit 0) (tmps 34 [(3, sl1 1 (L ++ lB t).length)]) (hp [.cells cs 2 own, .cells ((L ++ lB t).map u8v) 1 true]) →
    LSays Try.prog 1 (sub body125 [0,0,1,0,1,1,1]) (T125 (.slice (some ⟨0,o,sp⟩) l.length cap) L.length i) (hp [.cells cs 2 own, .cells (L.map u8v) 1 true]) K := by
  have hF : ∀ L : List Int, FlatD [] (hp [.cells cs 2 own, .cells (L.map u8v) 1 true]) := fun L => FlatD.hp ⟨hB.flat, ⟨flat_u8s L⟩, trivial⟩
  have hsh := hB.short
  intro t
  induction t with
  | nil =>
    intro i L ht hi hL hK
    have hge : ¬ ((i : Int) < (l.length : Int)) := by have := List.drop_eq_nil_iff.1 ht; omega
    refine (sure45 hmix).roundX F125 noLoops [] [] [] [] [0,3,4] ?_
    rw [r125]
    rw [show lB [] = [] from rfl, List.append_nil] at hK
    simp only [hge, hF, Alt_iff, Need_iff, ltI_eq, leI_eq, eqI_eq, leN_eq, eqN_eq, decide_eq_true_eq, decide_eq_false_iff_not, decide_true, decide_false, true_and, and_true, Bool.true_eq_false, Bool.false_eq_true, false_implies, true_implies, implies_true, not_true_eq_false, not_false_eq_true, Bool.not_eq_true', Bool.not_eq_false', Nat.zero_add, Nat.add_zero, Nat.sub_zero, Nat.zero_mul, Nat.mul_one, Int.toNat_natCast, List.drop_zero, beqV_int, beqV_sl, beqV_str, beqV_bool, beqV_ptr, beqV_flt, beqV_agg, beqV_tuple, List.all_cons, List.all_nil, Bool.and_self, Bool.and_true, Bool.true_and, Nat.le_refl, Int.le_refl, Nat.zero_le, Option.getD_some, isStr, strV, isInt, intV, isBool, boolV, kindEq, at0, isJunk, Option.isSome_some, Option.isSome_none, if_true, if_false, Nat.add_sub_cancel_left, Nat.add_sub_cancel]; exact hK
  | cons x t ih =>
    intro i L ht hi hL hK
    obtain ⟨hlt, hx, hd⟩ := drop_cons ht
    have hl2 : (i : Int) < (l.length : Int) := by omega
    have hg1 := hB.name i x hx
    have hg2 := hB.value i x hx
    obtain ⟨z1, z2⟩ := hv x (List.mem_of_getElem? hx)
    have hn1 := enc_len x.1.size
    have hn2 := enc_len x.2.size
    have hp1 := ptxt_len x.1
    have hp2 := ptxt_len x.2
    simp only [List.length_cons] at hL
    have next := ih (i + 1) (L ++ ptxt x.1 ++ ptxt x.2) hd (by omega) (by rw [List.length_append, List.length_append]; omega) (by rw [List.append_assoc, List.append_assoc, ← lB_cons]; exact hK)
    have hF2 := hF (L ++ ptxt x.1 ++ ptxt x.2)
    rw [List.map_append, List.map_append] at next hF2
    rw [List.length_append, List.length_append] at next
    refine (sure45 hmix).roundX F125 noLoops [] [] [] [] [0,3,4] ?_
    rw [r125]
    simp only [hl2, hg1, hg2, hF, nx i (by omega), List.length_map, List.length_append, tk_u, tk_u2, oneV_u8s, hF2, next, Alt_iff, Need_iff, ltI_eq, leI_eq, eqI_eq, leN_eq, eqN_eq, decide_eq_true_eq, decide_eq_false_iff_not, decide_true, decide_false, true_and, and_true, Bool.true_eq_false, Bool.false_eq_true, false_implies, true_implies, implies_true, not_true_eq_false, not_false_eq_true, Bool.not_eq_true', Bool.not_eq_false', Nat.zero_add, Nat.add_zero, Nat.sub_zero, Nat.zero_mul, Nat.mul_one, Int.toNat_natCast, List.drop_zero, beqV_int, beqV_sl, beqV_str, beqV_bool, beqV_ptr, beqV_flt, beqV_agg, beqV_tuple, List.all_cons, List.all_nil, Bool.and_self, Bool.and_true, Bool.true_and, Nat.le_refl, Int.le_refl, Nat.zero_le, Option.getD_some, isStr, strV, isInt, intV, isBool, boolV, kindEq, at0, isJunk, Option.isSome_some, Option.isSome_none, if_true, if_false, Nat.add_sub_cancel_left, Nat.add_sub_cancel]
    and_intros <;> first | omega | exact next
noncomputable def bytesC : Ctr where
  pre := fun args blks => match args, blks with
    | [.slice (some ⟨0, o, _⟩) len cap], [.cells cs 2 _] => IsLs cs o len cap
    | _, _ => False
  val := fun args blks => match args, blks with
    | [.slice (some ⟨0, o, _⟩) len _], [.cells cs 2 _] => sl1 1 (setB (labsAt cs o len)).length
    | _, _ => .bool false
  new := fun args blks => match args, blks with
    | [.slice (some ⟨0, o, _⟩) len _], [.cells cs 2 _] => [.cells ((setB (labsAt cs o len)).map u8v) 1 true]
    | _, _ => []
theorem u64_len (n : Nat) (h : n ≤ 9223372036854775807) : wr .u64 (n : Int) = n := by
  rw [wr_eq]; simp [IntKind.wrap, IntKind.bits, IntKind.signed]; omega
theorem bytesC_of {f : FuncId} (h : ∀ (l : List Lb) (cs : List Value) (own : Bool) (o : Nat) (sp : Option Nat) (cap : Nat), l.length ≤ cap → LSl cs o l → FunSays Try.prog f [.slice (some ⟨0,o,sp⟩) l.length cap] (hp [.cells cs 2 own]) fun v h' => v = sl1 1 (setB l).length ∧ h' = hp [.cells cs 2 own, .cells ((setB l).map u8v) 1 true]) : bytesC.Holds Try.prog f := by
  intro args blks hf hp
  simp only [bytesC] at hp ⊢
  split at hp
  · rename_i o sp len cap cs own
    obtain ⟨l, rfl, hc, hB⟩ := hp
    simp only [hB.labsAt]
    exact ⟨⟨⟨flat_u8s _⟩, trivial⟩, h l cs own o sp cap hc hB⟩
  · exact hp.elim
theorem bytes_says (hmix : Try.prog.follows .mixedOrders = true) : bytesC.Holds Try.prog 12 := by
  refine bytesC_of fun l cs own o sp cap hc hB => ?_
  have hF : ∀ L : List Int, FlatD [] (AM.hp [.cells cs 2 own, .cells (L.map u8v) 1 true]) := fun L => FlatD.hp ⟨hB.flat, ⟨flat_u8s L⟩, trivial⟩
  have hil : IsLs cs o l.length cap := ⟨l, rfl, hc, hB⟩
  have hwl := u64_len l.length hB.short
  have hsh := hB.short
  unfold setB
  cases hq : isSetB l with
  | false =>
    refine (sure45 hmix).funX F112 body112 [] [.tmp 0 1] Try.func12 rfl noLoops ?_
    rw [w112e]
    simp only [hil, hB.flat, hB.labsAt, hq, Alt_iff, Need_iff, ltI_eq, leI_eq, eqI_eq, leN_eq, eqN_eq, decide_eq_true_eq, decide_eq_false_iff_not, decide_true, decide_false, true_and, and_true, Bool.true_eq_false, Bool.false_eq_true, false_implies, true_implies, implies_true, not_true_eq_false, not_false_eq_true, Bool.not_eq_true', Bool.not_eq_false', Nat.zero_add, Nat.add_zero, Nat.sub_zero, Nat.zero_mul, Nat.mul_one, Int.toNat_natCast, List.drop_zero, beqV_int, beqV_sl, beqV_str, beqV_bool, beqV_ptr, beqV_flt, beqV_agg, beqV_tuple, List.all_cons, List.all_nil, Bool.and_self, Bool.and_true, Bool.true_and, Nat.le_refl, Int.le_refl, Nat.zero_le, Option.getD_some, isStr, strV, isInt, intV, isBool, boolV, kindEq, at0, isJunk, Option.isSome_some, Option.isSome_none, if_true, if_false, Nat.add_sub_cancel_left, Nat.add_sub_cancel]
    and_intros <;> first | exact hF [] | rfl
  | true =>
    obtain ⟨k1, k2, k3⟩ := isSet_tiny hq
    have hL : Loops Try.prog body112 1 (cutLK [⟨[0,1,0,1,1,1], T112 (.slice (some ⟨0,o,sp⟩) l.length cap) (enc l.length).length l.length 0, AM.hp [.cells cs 2 own, .cells ((enc l.length).map u8v) 1 true], fun K => K (.exit 0) (tmps 31 [(3, sl1 1 (enc l.length ++ lB l).length)]) (AM.hp [.cells cs 2 own, .cells ((enc l.length ++ lB l).map u8v) 1 true])⟩]) := Loops.none.more _ fun K hK => by
      show LSays Try.prog _ (sub body112 [0,0,1,0,1,1,1]) _ _ _
      have := enc_len l.length
      exact bytes_loop hmix l cs own o sp cap hB k1 K l 0 (enc l.length) rfl (by omega) (by omega) hK
    refine (sure45 hmix).funX F112 body112 [] [.tmp 0 1] Try.func12 rfl (hL.gcX (at0 []) (at0 [])) ?_
    rw [w112]
    simp only [hil, hB.flat, hB.labsAt, hq, hwl, Alt_iff, Need_iff, ltI_eq, leI_eq, eqI_eq, leN_eq, eqN_eq, decide_eq_true_eq, decide_eq_false_iff_not, decide_true, decide_false, true_and, and_true, Bool.true_eq_false, Bool.false_eq_true, false_implies, true_implies, implies_true, not_true_eq_false, not_false_eq_true, Bool.not_eq_true', Bool.not_eq_false', Nat.zero_add, Nat.add_zero, Nat.sub_zero, Nat.zero_mul, Nat.mul_one, Int.toNat_natCast, List.drop_zero, beqV_int, beqV_sl, beqV_str, beqV_bool, beqV_ptr, beqV_flt, beqV_agg, beqV_tuple, List.all_cons, List.all_nil, Bool.and_self, Bool.and_true, Bool.true_and, Nat.le_refl, Int.le_refl, Nat.zero_le, Option.getD_some, isStr, strV, isInt, intV, isBool, boolV, kindEq, at0, isJunk, Option.isSome_some, Option.isSome_none, if_true, if_false, Nat.add_sub_cancel_left, Nat.add_sub_cancel]
    and_intros <;> first | omega | exact hF _ | rfl
theorem rbytes_says (hmix : Try.prog.follows .mixedOrders = true) : bytesC.Holds Try.prog 25 := by
  refine bytesC_of fun l cs own o sp cap hc hB => ?_
  have hF : ∀ L : List Int, FlatD [] (AM.hp [.cells cs 2 own, .cells (L.map u8v) 1 true]) := fun L => FlatD.hp ⟨hB.flat, ⟨flat_u8s L⟩, trivial⟩
  have hil : IsLs cs o l.length cap := ⟨l, rfl, hc, hB⟩
  have hwl := u64_len l.length hB.short
  have hsh := hB.short
  unfold setB
  cases hq : isSetB l with
  | false =>
    refine (sure45 hmix).funX F125 body125 [] [.tmp 0 1] Try.func25 rfl noLoops ?_
    rw [w125e]
    simp only [hil, hB.flat, hB.labsAt, hq, Alt_iff, Need_iff, ltI_eq, leI_eq, eqI_eq, leN_eq, eqN_eq, decide_eq_true_eq, decide_eq_false_iff_not, decide_true, decide_false, true_and, and_true, Bool.true_eq_false, Bool.false_eq_true, false_implies, true_implies, implies_true, not_true_eq_false, not_false_eq_true, Bool.not_eq_true', Bool.not_eq_false', Nat.zero_add, Nat.add_zero, Nat.sub_zero, Nat.zero_mul, Nat.mul_one, Int.toNat_natCast, List.drop_zero, beqV_int, beqV_sl, beqV_str, beqV_bool, beqV_ptr, beqV_flt, beqV_agg, beqV_tuple, List.all_cons, List.all_nil, Bool.and_self, Bool.and_true, Bool.true_and, Nat.le_refl, Int.le_refl, Nat.zero_le, Option.getD_some, isStr, strV, isInt, intV, isBool, boolV, kindEq, at0, isJunk, Option.isSome_some, Option.isSome_none, if_true, if_false, Nat.add_sub_cancel_left, Nat.add_sub_cancel]
    and_intros <;> first | exact hF [] | rfl
  | true =>
    obtain ⟨k1, k2, k3⟩ := isSet_tiny hq
    have hL : Loops Try.prog body125 1 (cutLK [⟨[0,1,0,1,1,1], T125 (.slice (some ⟨0,o,sp⟩) l.length cap) (enc l.length).length 0, AM.hp [.cells cs 2 own, .cells ((enc l.length).map u8v) 1 true], fun K => K (.exit 0) (tmps 34 [(3, sl1 1 (enc l.length ++ lB l).length)]) (AM.hp [.cells cs 2 own, .cells ((enc l.length ++ lB l).map u8v) 1 true])⟩]) := Loops.none.more _ fun K hK => by
      show LSays Try.prog _ (sub body125 [0,0,1,0,1,1,1]) _ _ _
      have := enc_len l.length
      exact rbytes_loop hmix l cs own o sp cap hB k1 K l 0 (enc l.length) rfl (by omega) (by omega) hK
    refine (sure45 hmix).funX F125 body125 [] [.tmp 0 1] Try.func25 rfl (hL.gcX (at0 []) (at0 [])) ?_
    rw [w125]
    simp only [hil, hB.flat, hB.labsAt, hq, hwl, Alt_iff, Need_iff, ltI_eq, leI_eq, eqI_eq, leN_eq, eqN_eq, decide_eq_true_eq, decide_eq_false_iff_not, decide_true, decide_false, true_and, and_true, Bool.true_eq_false, Bool.false_eq_true, false_implies, true_implies, implies_true, not_true_eq_false, not_false_eq_true, Bool.not_eq_true', Bool.not_eq_false', Nat.zero_add, Nat.add_zero, Nat.sub_zero, Nat.zero_mul, Nat.mul_one, Int.toNat_natCast, List.drop_zero, beqV_int, beqV_sl, beqV_str, beqV_bool, beqV_ptr, beqV_flt, beqV_agg, beqV_tuple, List.all_cons, List.all_nil, Bool.and_self, Bool.and_true, Bool.true_and, Nat.le_refl, Int.le_refl, Nat.zero_le, Option.getD_some, isStr, strV, isInt, intV, isBool, boolV, kindEq, at0, isJunk, Option.isSome_some, Option.isSome_none, if_true, if_false, Nat.add_sub_cancel_left, Nat.add_sub_cancel]
    and_intros <;> first | omega | exact hF _ | rfl
/-- the same labels -/
def allB : List Lb → List Lb → Bool
  | [], _ => true
  | x :: a, y :: b => (eqS x.1 y.1 && eqS x.2 y.2) && allB a b
  | _, [] => false
def sameB (a b : List Lb) : Bool := decide (a.length = b.length) && allB a b
theorem allB_iff : ∀ {a b : List Lb}, a.length = b.length → (allB a b = true ↔ a = b) := by
  intro a
  induction a with
  | nil => intro b h; cases b with
    | nil => simp [allB]
    | cons => simp at h
  | cons x a ih =>
    intro b h
    cases b with
    | nil => simp at h
    | cons y b =>
      simp only [allB, Bool.and_eq_true, ih (by simpa using h), eqS_iff, List.cons.injEq]
      exact ⟨fun ⟨⟨h1, h2⟩, h3⟩ => ⟨Prod.ext h1 h2, h3⟩, fun ⟨h1, h2⟩ => ⟨⟨by rw [h1], by rw [h1]⟩, h2⟩⟩
theorem sameB_iff {a b : List Lb} : sameB a b = true ↔ a = b := by
  unfold sameB
  rw [Bool.and_eq_true, decide_eq_true_iff]
  exact ⟨fun ⟨h1, h2⟩ => (allB_iff h1).1 h2, fun h => by subst h; exact ⟨rfl, (allB_iff rfl).2 rfl⟩⟩
theorem same_loop (hmix : Try.prog.follows .mixedOrders = true) (a b : List Lb) (ca cb : List Value) (own own2 : Bool) (o o2 : Nat) (sp s2 : Option Nat) (cap cap2 : Nat) (hA : LSl ca o a) (hB : LSl cb o2 b) (hlen : a.length = b.length) (K : Post) : ∀ (t u : List Lb) (i : Nat), a.drop i = t → b.drop i = u → i ≤ a.length →
    Alt (allB t u) (K (.exit 0) (tmps 26 []) (hp [.cells ca 2 own, .cells cb 2 own2])) (K .ret (tmps 26 [(4, .bool false)]) (hp [.cells ca 2 own, .cells cb 2 own2])) →
    LSays Try.prog 2 (sub body126 [0,0,1,0,1,1]) (T126 (.slice (some ⟨0,o,sp⟩) a.length cap) (.slice (some ⟨1,o2,s2⟩) b.length cap2) i) (hp [.cells ca 2 own, .cells cb 2 own2]) K := by
  have hF : FlatD [] (hp [.cells ca 2 own, .cells cb 2 own2]) := FlatD.hp ⟨hA.flat, hB.flat, trivial⟩
  have hsh := hA.short
  intro t
  induction t with
  | nil =>
    intro u i ht hu hi hK
    have hge : ¬ ((i : Int) < (a.length : Int)) := by have := List.drop_eq_nil_iff.1 ht; omega
    refine (sure45 hmix).roundX F126 noLoops [] [] [] [] [0,1,5] ?_
    rw [r126]
    simp only [hge, hF, Alt_iff, Need_iff, ltI_eq, leI_eq, eqI_eq, leN_eq, eqN_eq, decide_eq_true_eq, decide_eq_false_iff_not, decide_true, decide_false, true_and, and_true, Bool.true_eq_false, Bool.false_eq_true, false_implies, true_implies, implies_true, not_true_eq_false, not_false_eq_true, Bool.not_eq_true', Bool.not_eq_false', Nat.zero_add, Nat.add_zero, Nat.sub_zero, Nat.zero_mul, Nat.mul_one, Int.toNat_natCast, List.drop_zero, beqV_int, beqV_sl, beqV_str, beqV_bool, beqV_ptr, beqV_flt, beqV_agg, beqV_tuple, List.all_cons, List.all_nil, Bool.and_self, Bool.and_true, Bool.true_and, Nat.le_refl, Int.le_refl, Nat.zero_le, Option.getD_some, isStr, strV, isInt, intV, isBool, boolV, kindEq, at0, isJunk, Option.isSome_some, Option.isSome_none, if_true, if_false, Nat.add_sub_cancel_left, Nat.add_sub_cancel]; exact hK
  | cons x t ih =>
    intro u i ht hu hi hK
    obtain ⟨hlt, hx, hd⟩ := drop_cons ht
    cases u with
    | nil => have := List.drop_eq_nil_iff.1 hu; omega
    | cons y u =>
      obtain ⟨hlt2, hy, hd2⟩ := drop_cons hu
      refine (sure45 hmix).roundX F126 noLoops [] [] [] [] [0,1,5] ?_
      rw [r126]
      simp only [show (i : Int) < (a.length : Int) by omega, show (i : Int) < (b.length : Int) by omega, hA.name i x hx, hA.value i x hx, hB.name i y hy, hB.value i y hy, hF, nx i (by omega), Alt_iff, Need_iff, ltI_eq, leI_eq, eqI_eq, leN_eq, eqN_eq, decide_eq_true_eq, decide_eq_false_iff_not, decide_true, decide_false, true_and, and_true, Bool.true_eq_false, Bool.false_eq_true, false_implies, true_implies, implies_true, not_true_eq_false, not_false_eq_true, Bool.not_eq_true', Bool.not_eq_false', Nat.zero_add, Nat.add_zero, Nat.sub_zero, Nat.zero_mul, Nat.mul_one, Int.toNat_natCast, List.drop_zero, beqV_int, beqV_sl, beqV_str, beqV_bool, beqV_ptr, beqV_flt, beqV_agg, beqV_tuple, List.all_cons, List.all_nil, Bool.and_self, Bool.and_true, Bool.true_and, Nat.le_refl, Int.le_refl, Nat.zero_le, Option.getD_some, isStr, strV, isInt, intV, isBool, boolV, kindEq, at0, isJunk, Option.isSome_some, Option.isSome_none, if_true, if_false, Nat.add_sub_cancel_left, Nat.add_sub_cancel]
      rw [allB] at hK
      refine ⟨fun h => ?_, fun h => ?_⟩
      · rw [h] at hK; exact hK
      · rw [h] at hK
        exact ih u (i + 1) hd hd2 (by omega) hK
noncomputable def sameC : Ctr where
  pre := fun args blks => match args, blks with
    | [.slice (some ⟨0, o, _⟩) len cap, .slice (some ⟨1, o2, _⟩) len2 cap2], [.cells ca 2 _, .cells cb 2 _] => IsLs ca o len cap ∧ IsLs cb o2 len2 cap2
    | _, _ => False
  val := fun args blks => match args, blks with
    | [.slice (some ⟨0, o, _⟩) len _, .slice (some ⟨1, o2, _⟩) len2 _], [.cells ca 2 _, .cells cb 2 _] => .bool (sameB (labsAt ca o len) (labsAt cb o2 len2))
    | _, _ => undef
  new := fun _ _ => []
theorem same_says (hmix : Try.prog.follows .mixedOrders = true) : sameC.Holds Try.prog 26 := by
  intro args blks hf hp
  refine ⟨trivial, ?_⟩
  simp only [sameC] at hp ⊢
  split at hp
  · rename_i o sp len cap o2 s2 len2 cap2 ca own cb own2
    obtain ⟨⟨a, rfl, hc, hA⟩, ⟨b, rfl, hc2, hB⟩⟩ := hp
    simp only [hA.labsAt, hB.labsAt, List.append_nil]
    have hF : FlatD [] (AM.hp [.cells ca 2 own, .cells cb 2 own2]) := FlatD.hp ⟨hA.flat, hB.flat, trivial⟩
    unfold sameB
    by_cases hlen : a.length = b.length
    · have hL : Loops Try.prog body126 2 (cutLK [⟨[0,1,0,1,1], T126 (.slice (some ⟨0,o,sp⟩) a.length cap) (.slice (some ⟨1,o2,s2⟩) b.length cap2) 0, AM.hp [.cells ca 2 own, .cells cb 2 own2], fun K => Alt (allB a b) (K (.exit 0) (tmps 26 []) (AM.hp [.cells ca 2 own, .cells cb 2 own2])) (K .ret (tmps 26 [(4, .bool false)]) (AM.hp [.cells ca 2 own, .cells cb 2 own2]))⟩]) := Loops.none.more _ fun K hK => by
        show LSays Try.prog _ (sub body126 [0,0,1,0,1,1]) _ _ _
        exact same_loop hmix a b ca cb own own2 o o2 sp s2 cap cap2 hA hB hlen K a b 0 rfl rfl (by omega) hK
      refine (sure45 hmix).funX F126 body126 [] [] Try.func26 rfl (hL.gcX (at0 []) (at0 [])) ?_
      rw [w126]
      have he : ((a.length : Nat) : Int) = (b.length : Int) := by rw [hlen]
      cases hq : allB a b with
      | true => simp only [he, hF, hlen, Bool.not_true, Alt_iff, Need_iff, ltI_eq, leI_eq, eqI_eq, leN_eq, eqN_eq, decide_eq_true_eq, decide_eq_false_iff_not, decide_true, decide_false, true_and, and_true, Bool.true_eq_false, Bool.false_eq_true, false_implies, true_implies, implies_true, not_true_eq_false, not_false_eq_true, Bool.not_eq_true', Bool.not_eq_false', Nat.zero_add, Nat.add_zero, Nat.sub_zero, Nat.zero_mul, Nat.mul_one, Int.toNat_natCast, List.drop_zero, beqV_int, beqV_sl, beqV_str, beqV_bool, beqV_ptr, beqV_flt, beqV_agg, beqV_tuple, List.all_cons, List.all_nil, Bool.and_self, Bool.and_true, Bool.true_and, Nat.le_refl, Int.le_refl, Nat.zero_le, Option.getD_some, isStr, strV, isInt, intV, isBool, boolV, kindEq, at0, isJunk, Option.isSome_some, Option.isSome_none, if_true, if_false, Nat.add_sub_cancel_left, Nat.add_sub_cancel]
      | false => simp only [he, hF, hlen, Bool.not_true, Bool.and_false, Alt_iff, Need_iff, ltI_eq, leI_eq, eqI_eq, leN_eq, eqN_eq, decide_eq_true_eq, decide_eq_false_iff_not, decide_true, decide_false, true_and, and_true, Bool.true_eq_false, Bool.false_eq_true, false_implies, true_implies, implies_true, not_true_eq_false, not_false_eq_true, Bool.not_eq_true', Bool.not_eq_false', Nat.zero_add, Nat.add_zero, Nat.sub_zero, Nat.zero_mul, Nat.mul_one, Int.toNat_natCast, List.drop_zero, beqV_int, beqV_sl, beqV_str, beqV_bool, beqV_ptr, beqV_flt, beqV_agg, beqV_tuple, List.all_cons, List.all_nil, Bool.and_self, Bool.and_true, Bool.true_and, Nat.le_refl, Int.le_refl, Nat.zero_le, Option.getD_some, isStr, strV, isInt, intV, isBool, boolV, kindEq, at0, isJunk, Option.isSome_some, Option.isSome_none, if_true, if_false, Nat.add_sub_cancel_left, Nat.add_sub_cancel]
    · refine (sure45 hmix).funX F126 body126 [] [] Try.func26 rfl noLoops ?_
      rw [w126e]
      have he : ¬ ((a.length : Nat) : Int) = (b.length : Int) := by omega
      simp only [he, hF, hlen, Bool.not_false, Bool.false_and, Alt_iff, Need_iff, ltI_eq, leI_eq, eqI_eq, leN_eq, eqN_eq, decide_eq_true_eq, decide_eq_false_iff_not, decide_true, decide_false, true_and, and_true, Bool.true_eq_false, Bool.false_eq_true, false_implies, true_implies, implies_true, not_true_eq_false, not_false_eq_true, Bool.not_eq_true', Bool.not_eq_false', Nat.zero_add, Nat.add_zero, Nat.sub_zero, Nat.zero_mul, Nat.mul_one, Int.toNat_natCast, List.drop_zero, beqV_int, beqV_sl, beqV_str, beqV_bool, beqV_ptr, beqV_flt, beqV_agg, beqV_tuple, List.all_cons, List.all_nil, Bool.and_self, Bool.and_true, Bool.true_and, Nat.le_refl, Int.le_refl, Nat.zero_le, Option.getD_some, isStr, strV, isInt, intV, isBool, boolV, kindEq, at0, isJunk, Option.isSome_some, Option.isSome_none, if_true, if_false, Nat.add_sub_cancel_left, Nat.add_sub_cancel]
  · exact hp.elim
end Go.Proofs.Ytdpfmaimhimfcaa

namespace Go.Proofs.Ytdpfmaimhimfcaa
open Go.RowKit Go.Proofs.Ytdpfmaimhimfcaa.AM
set_option maxRecDepth 100000
set_option maxHeartbeats 4000000
noncomputable def body148 : Code := (Try.f48.body).getD .skip
def F148 : List Nat → Option (List Nat) := fun p => match p with
  | [1] => some [2, 3]
  | [1, 1] => some [4]
  | _ => none
noncomputable def body149 : Code := (Try.f49.body).getD .skip
def F149 : List Nat → Option (List Nat) := fun p => match p with
  | [1] => some [0, 1]
  | [1, 1] => some [4]
  | _ => none
noncomputable def body157 : Code := (Try.f57.body).getD .skip
def F157 : List Nat → Option (List Nat) := fun p => match p with
  | [1] => some [0, 1]
  | [1, 1] => some [4]
  | _ => none
noncomputable def body158 : Code := (Try.f58.body).getD .skip
def F158 : List Nat → Option (List Nat) := fun p => match p with
  | [1] => some [0, 1, 2, 3, 8]
  | [1, 0, 0, 0, 1] => some [0, 1, 2, 3, 8, 14]
  | [1, 1, 0, 0, 0, 1] => some []
  | [1, 0, 0, 1] => some [0, 1, 2, 3, 8]
  | [1, 0, 0, 1, 0, 0, 1] => some [0, 1, 2, 3, 8, 9]
  | [1, 0, 0, 0, 1, 0, 0, 1, 0, 0, 1] => some [0, 1, 2, 3, 8, 9, 34]
  | [1, 1, 0, 0, 0, 1, 0, 0, 1, 0, 0, 1] => some [0, 1, 2, 3, 8]
  | [1, 0, 0, 1, 0, 0, 1, 0, 0, 1] => some [0, 1, 2, 3, 8, 9]
  | [1, 1, 0, 0, 1, 0, 0, 1, 0, 0, 1] => some [0, 1, 2, 3, 8, 9]
  | [1, 1, 0, 0, 1] => some [0, 1, 2, 3, 8]
  | _ => none
noncomputable def S148 : Book := addI Try.prog [(49, Try.f49, body149), (57, Try.f57, body157)] S0
theorem sure148 (hm : Try.prog.follows .mixedOrders = true) : Sure Try.prog S148 := Sure.addI ⟨hm, plain, sums0⟩ (l := [(49, Try.f49, body149), (57, Try.f57, body157)]) ⟨⟨Try.func49, rfl⟩, ⟨Try.func57, rfl⟩, trivial⟩

theorem w148 (a b c d : ByteArray) (K : Value → Heap → Prop) :
  funX Try.prog S148 noLoop F148 body148 Try.f48 [] [] [.agg #[.string a, .string b], .agg #[.string c, .string d]] (hp []) K = (
K (Value.int IntKind.i64 (Extern.BytealgCompare.cmp (strV (Value.string a)) (strV (Value.string c)))) (hp [])) := by kernel_rfl

noncomputable def cmpLC : Ctr where
  pre := fun args blks => match args, blks with
    | [.agg x, .agg y], [] => match x.toList, y.toList with
      | [.string _, .string _], [.string _, .string _] => True
      | _, _ => False
    | _, _ => False
  val := fun args blks => match args, blks with
    | [.agg x, .agg y], [] => match x.toList, y.toList with
      | [.string a, .string b], [.string c, .string d] => .int .i64 (Extern.BytealgCompare.cmp a c)
      | _, _ => undef
    | _, _ => undef
  new := fun _ _ => []
theorem cmpL_says (hmix : Try.prog.follows .mixedOrders = true) : cmpLC.Holds Try.prog 48 := by
  intro args blks hf hp
  refine ⟨trivial, ?_⟩
  simp only [cmpLC] at hp ⊢
  split at hp
  · rename_i x y
    split at hp
    · rename_i a b c d hx hy
      obtain rfl : x = #[.string a, .string b] := Array.toList_inj.1 hx
      obtain rfl : y = #[.string c, .string d] := Array.toList_inj.1 hy
      refine (sure148 hmix).funX F148 body148 [] [] Try.func48 rfl noLoops ?_
      rw [w148]
      exact ⟨FlatD.hp trivial, rfl, rfl, rfl⟩
    · exact hp.elim
  · exact hp.elim
theorem cmpB_lt : ∀ a b : List UInt8, Lib.compareBytes a b < 0 ↔ Op.bytesLess a b = true := by
  intro a
  induction a with
  | nil => intro b; cases b <;> simp [Lib.compareBytes, Op.bytesLess]
  | cons x a ih =>
    intro b
    cases b with
    | nil => simp [Lib.compareBytes, Op.bytesLess]
    | cons y b =>
      simp only [Lib.compareBytes, Op.bytesLess]
      by_cases h1 : x < y
      · simp [h1]
      · by_cases h2 : y < x
        · have : ¬ x = y := fun h => by subst h; exact h1 h2
          simp [h1, h2, this]
        · have h3 : x = y := UInt8.toNat_inj.1 (by have a1 : ¬ x.toNat < y.toNat := fun h => h1 (UInt8.lt_iff_toNat_lt.2 h); have a2 : ¬ y.toNat < x.toNat := fun h => h2 (UInt8.lt_iff_toNat_lt.2 h); omega)
          subst h3
          simp [h1, ih]
theorem cmp_ltS (a b : ByteArray) : ltI (Extern.BytealgCompare.cmp a b) 0 = ltS a b := by
  rw [Lib.cmp_eq]
  unfold ltS
  cases h : Op.bytesLess a.data.toList b.data.toList with
  | true => exact ltI_iff.2 ((cmpB_lt _ _).2 h)
  | false => exact Bool.eq_false_iff.2 fun hh => by have := (cmpB_lt _ _).1 (ltI_iff.1 hh); rw [h] at this; cases this
theorem cmp_lt0 (a b : ByteArray) : Extern.BytealgCompare.cmp a b < 0 ↔ ltS a b = true := by rw [← cmp_ltS, ltI_iff]
noncomputable def S158 : Book := bookOf [(48, cmpLC)]
theorem sure158 (hm : Try.prog.follows .mixedOrders = true) : Sure Try.prog S158 := ⟨hm, plain, bookOf_ok (l := [(48, cmpLC)]) ⟨cmpL_says hm, trivial⟩⟩
noncomputable def fMk : Value := .func (.func 48) #[] #[]
noncomputable def T158 (n k i : Nat) : List Value := tmps 53 [(0, .slice (some ⟨0,0,some 1⟩) n k), (1, .int .i64 0), (2, .int .i64 n), (3, .func (.func 48) #[] #[]), (8, .int .i64 i)]
noncomputable def T158j (n k i j : Nat) : List Value := tmps 53 [(0, .slice (some ⟨0,0,some 1⟩) n k), (1, .int .i64 0), (2, .int .i64 n), (3, .func (.func 48) #[] #[]), (8, .int .i64 i), (9, .int .i64 j)]

theorem r158jz (n k i : Nat) (cs : List Value) (K : Post) :
  roundX Try.prog S158 noLoop F158 body158 1 [] [] [] [] [0,1,2,3,8,9] [0,0,1,0,0,1,0,0,1] (T158j n k i 0) (hp [.cells cs 2 true]) K = (
K (AE.exit 2)
  (tmps 53
    [(0, Value.slice (some { block := 0, off := 0, spot := some 1 : Addr }) n k), (1, Value.int IntKind.i64 0),
      (2, Value.int IntKind.i64 (↑n : Int)), (3, Value.func (Fn.func 48) #[] #[]),
      (8, Value.int IntKind.i64 (↑i : Int))])
  (hp [Blk.cells cs 2 true])) := by kernel_rfl

theorem r158j (n k i j : Nat) (cs : List Value) (K : Post) :
  roundX Try.prog S158 noLoop F158 body158 1 [] [] [] [] [0,1,2,3,8,9] [0,0,1,0,0,1,0,0,1] (T158j n k i (j + 1)) (hp [.cells cs 2 true]) K = (
Need (ltI (↑(j + 1) : Int) (↑n : Int))
  (Need (isStr ((getO cs (0 + (↑(j + 1) : Int).toNat * 2)).getD undef))
    (Need (isStr ((getO cs (0 + (↑(j + 1) : Int).toNat * 2 + 1)).getD undef))
      (Need (leI 0 (wr IntKind.i64 ((↑(j + 1) : Int) - 1)))
        (Need (ltI (wr IntKind.i64 ((↑(j + 1) : Int) - 1)) (↑n : Int))
          (Need (isStr ((getO cs (0 + (wr IntKind.i64 ((↑(j + 1) : Int) - 1)).toNat * 2)).getD undef))
            (Need (isStr ((getO cs (0 + (wr IntKind.i64 ((↑(j + 1) : Int) - 1)).toNat * 2 + 1)).getD undef))
              (True ∧
                True ∧
                  Alt
                    (ltI
                      (Extern.BytealgCompare.cmp (strV ((getO cs (0 + (↑(j + 1) : Int).toNat * 2)).getD undef))
                        (strV ((getO cs (0 + (wr IntKind.i64 ((↑(j + 1) : Int) - 1)).toNat * 2)).getD undef)))
                      0)
                    (Need (leI 0 (wr IntKind.i64 ((↑(j + 1) : Int) - 1)))
                      (Need (ltI (wr IntKind.i64 ((↑(j + 1) : Int) - 1)) (↑n : Int))
                        (Need (isStr ((getO cs (0 + (wr IntKind.i64 ((↑(j + 1) : Int) - 1)).toNat * 2)).getD undef))
                          (Need
                            (isStr ((getO cs (0 + (wr IntKind.i64 ((↑(j + 1) : Int) - 1)).toNat * 2 + 1)).getD undef))
                            (Need (ltI (↑(j + 1) : Int) (↑n : Int))
                              (Need (isStr ((getO cs (0 + (↑(j + 1) : Int).toNat * 2)).getD undef))
                                (Need (isStr ((getO cs (0 + (↑(j + 1) : Int).toNat * 2 + 1)).getD undef))
                                  (Need (ltI (↑(j + 1) : Int) (↑n : Int))
                                    (Need (leN (0 + (↑(j + 1) : Int).toNat * 2 + 2) cs.length)
                                      (Need (leI 0 (wr IntKind.i64 ((↑(j + 1) : Int) - 1)))
                                        (Need (ltI (wr IntKind.i64 ((↑(j + 1) : Int) - 1)) (↑n : Int))
                                          (Need
                                            (leN (0 + (wr IntKind.i64 ((↑(j + 1) : Int) - 1)).toNat * 2 + 2)
                                              (setAll cs (0 + (↑(j + 1) : Int).toNat * 2)
                                                  [Value.string
                                                      (strV
                                                        ((getO cs
                                                              (0 +
                                                                (wr IntKind.i64 ((↑(j + 1) : Int) - 1)).toNat * 2)).getD
                                                          undef)),
                                                    Value.string
                                                      (strV
                                                        ((getO cs
                                                              (0 + (wr IntKind.i64 ((↑(j + 1) : Int) - 1)).toNat * 2 +
                                                                1)).getD
                                                          undef))]).length)
                                            (Need
                                              (beqV 64 (Value.int IntKind.i64 (wr IntKind.i64 ((↑(j + 1) : Int) - 1)))
                                                (Value.int IntKind.i64 (wr IntKind.i64 ((↑(j + 1) : Int) - 1))))
                                              (Need
                                                (beqV 64 (Value.int IntKind.i64 (↑(j + 1) : Int))
                                                  (Value.int IntKind.i64 (↑(j + 1) : Int)))
                                                (Need
                                                  (beqV 64
                                                    (Value.slice (some { block := 0, off := 0, spot := some 1 : Addr })
                                                      n k)
                                                    (Value.slice (some { block := 0, off := 0, spot := some 1 : Addr })
                                                      n k))
                                                  (K AE.normal
                                                    (tmps 53
                                                      [(0,
                                                          Value.slice
                                                            (some { block := 0, off := 0, spot := some 1 : Addr }) n k),
                                                        (1, Value.int IntKind.i64 0),
                                                        (2, Value.int IntKind.i64 (↑n : Int)),
                                                        (3, Value.func (Fn.func 48) #[] #[]),
                                                        (8, Value.int IntKind.i64 (↑i : Int)),
                                                        (9,
                                                          Value.int IntKind.i64
                                                            (wr IntKind.i64 ((↑(j + 1) : Int) - 1)))])
                                                    (hp
                                                      [Blk.cells
                                                          (setAll
                                                            (setAll cs (0 + (↑(j + 1) : Int).toNat * 2)
                                                              [Value.string
                                                                  (strV
                                                                    ((getO cs
                                                                          (0 +
                                                                            (wr IntKind.i64
                                                                                  ((↑(j + 1) : Int) - 1)).toNat *
                                                                              2)).getD
                                                                      undef)),
                                                                Value.string
                                                                  (strV
                                                                    ((getO cs
                                                                          (0 +
                                                                              (wr IntKind.i64
                                                                                    ((↑(j + 1) : Int) - 1)).toNat *
                                                                                2 +
                                                                            1)).getD
                                                                      undef))])
                                                            (0 + (wr IntKind.i64 ((↑(j + 1) : Int) - 1)).toNat * 2)
                                                            [Value.string
                                                                (strV
                                                                  ((getO cs (0 + (↑(j + 1) : Int).toNat * 2)).getD
                                                                    undef)),
                                                              Value.string
                                                                (strV
                                                                  ((getO cs (0 + (↑(j + 1) : Int).toNat * 2 + 1)).getD
                                                                    undef))])
                                                          2 true])))))))))))))))))
                    (K (AE.exit 2)
                      (tmps 53
                        [(0, Value.slice (some { block := 0, off := 0, spot := some 1 : Addr }) n k),
                          (1, Value.int IntKind.i64 0), (2, Value.int IntKind.i64 (↑n : Int)),
                          (3, Value.func (Fn.func 48) #[] #[]), (8, Value.int IntKind.i64 (↑i : Int))])
                      (hp [Blk.cells cs 2 true])))))))))) := by kernel_rfl

/-- a row whose place j is being put in -/
def atJ (S : List Lb) (x : Lb) (R : List Lb) (j : Nat) : List Lb := S.take j ++ (x :: (S.drop j ++ R))
noncomputable def cut158j (n k i : Nat) (S : List Lb) (x : Lb) (R : List Lb) : CutE where
  β := Nat
  p := [0,1,0,0,1,0,0,1]
  t := fun j => T158j n k i j
  h := fun j => hp [.cells (labC (atJ S x R j)) 2 true]
  Q := fun j K => ((n = S.length + 1 + R.length ∧ i = S.length) ∧ j ≤ S.length ∧ posB x.1 S j = posB x.1 S S.length) ∧ K (.exit 2) (T158 n k i) (hp [.cells (labC (insL S x ++ R)) 2 true])

theorem r158 (n k i : Nat) (S : List Lb) (x : Lb) (R : List Lb) (cs : List Value) (K : Post) :
  roundX Try.prog S158 (gcLKX (at0 []) (at0 []) 1 (cutE [cut158j n k i S x R])) F158 body158 1 [] [] [] [] [0,1,2,3,8] [0,0,1] (T158 n k i) (hp [.cells cs 2 true]) K = (
Alt (ltI (↑i : Int) (↑n : Int))
  (FlatD [] (hp [Blk.cells cs 2 true]) ∧
    ∃ (b : Nat),
      tmps 53
            [(0, Value.slice (some { block := 0, off := 0, spot := some 1 : Addr }) n k), (1, Value.int IntKind.i64 0),
              (2, Value.int IntKind.i64 (↑n : Int)), (3, Value.func (Fn.func 48) #[] #[]),
              (8, Value.int IntKind.i64 (↑i : Int)), (9, Value.int IntKind.i64 (↑i : Int))] =
          tmps 53
            [(0, Value.slice (some { block := 0, off := 0, spot := some 1 : Addr }) n k), (1, Value.int IntKind.i64 0),
              (2, Value.int IntKind.i64 (↑n : Int)), (3, Value.func (Fn.func 48) #[] #[]),
              (8, Value.int IntKind.i64 (↑i : Int)), (9, Value.int IntKind.i64 (↑b : Int))] ∧
        hp [Blk.cells cs 2 true] = hp [Blk.cells (labC (atJ S x R b)) 2 true] ∧
          ((n = S.length + 1 + R.length ∧ i = S.length) ∧ b.le S.length ∧ posB x.fst S b = posB x.fst S S.length) ∧
            K AE.normal
              (tmps 53
                [(0, Value.slice (some { block := 0, off := 0, spot := some 1 : Addr }) n k),
                  (1, Value.int IntKind.i64 0), (2, Value.int IntKind.i64 (↑n : Int)),
                  (3, Value.func (Fn.func 48) #[] #[]), (8, Value.int IntKind.i64 (wr IntKind.i64 ((↑i : Int) + 1)))])
              (hp [Blk.cells (labC (insL S x ++ R)) 2 true]))
  (K (AE.exit 0) (tmps 53 []) (hp [Blk.cells cs 2 true]))) := by kernel_rfl

noncomputable def cut158 (k : Nat) (l : List Lb) : CutE where
  β := Nat
  p := [0,1]
  t := fun i => T158 l.length k i
  h := fun i => hp [.cells (labC (mkS (l.take i) ++ l.drop i)) 2 true]
  Q := fun i K => (1 ≤ i) ∧ K (.exit 0) (tmps 53 []) (hp [.cells (labC (mkS l)) 2 true])

theorem w158 (k : Nat) (l : List Lb) (K : Value → Heap → Prop) :
  funX Try.prog S158 (gcLKX (at0 []) (at0 []) 1 (cutE [cut158 k l])) F158 body158 Try.f58 [] [] [.slice (some ⟨0,0,some 1⟩) l.length k, .int .i64 0, .int .i64 l.length, fMk] (hp [.cells (labC l) 2 true]) K = (
FlatD [] (hp [Blk.cells (labC l) 2 true]) ∧
  ∃ (b : Nat),
    tmps 53
          [(0, Value.slice (some { block := 0, off := 0, spot := some 1 : Addr }) l.length k),
            (1, Value.int IntKind.i64 0), (2, Value.int IntKind.i64 (↑l.length : Int)),
            (3, Value.func (Fn.func 48) #[] #[]), (8, Value.int IntKind.i64 1)] =
        tmps 53
          [(0, Value.slice (some { block := 0, off := 0, spot := some 1 : Addr }) l.length k),
            (1, Value.int IntKind.i64 0), (2, Value.int IntKind.i64 (↑l.length : Int)),
            (3, Value.func (Fn.func 48) #[] #[]), (8, Value.int IntKind.i64 (↑b : Int))] ∧
      hp [Blk.cells (labC l) 2 true] = hp [Blk.cells (labC (mkS (List.take b l) ++ List.drop b l)) 2 true] ∧
        Nat.le 1 b ∧ K undef (hp [Blk.cells (labC (mkS l)) 2 true])) := by kernel_rfl

end Go.Proofs.Ytdpfmaimhimfcaa

namespace Go.Proofs.Ytdpfmaimhimfcaa
open Go.RowKit Go.Proofs.Ytdpfmaimhimfcaa.AM
set_option maxRecDepth 100000
set_option maxHeartbeats 4000000
noncomputable def body147 : Code := (Try.f47.body).getD .skip
def F147 : List Nat → Option (List Nat) := fun p => match p with
  | [1] => some [0, 1, 4]
  | _ => none

noncomputable def body146 : Code := (Try.f46.body).getD .skip
def F146 : List Nat → Option (List Nat) := fun p => match p with
  | [1] => some [0]
  | [1, 0, 1] => some [0, 4]
  | [1, 0, 1, 0, 1] => some [2]
  | [1, 1] => some [0]
  | [1, 1, 1] => some [2]
  | _ => none
noncomputable def body127 : Code := (Try.f27.body).getD .skip
def F127 : List Nat → Option (List Nat) := fun p => match p with
  | [1] => some [0]
  | [1, 0, 1] => some [0, 7]
  | [1, 0, 1, 0, 1] => some [2, 3]
  | [1, 1] => some [0]
  | [1, 1, 1] => some [4]
  | [1, 1, 1, 1] => some [4]
  | [1, 0, 1, 1, 1, 1] => some [4, 14]
  | [1, 0, 1, 0, 1, 1, 1, 1] => some [2, 3]
  | [1, 1, 1, 1, 1] => some [4]
  | [1, 1, 1, 1, 1, 1] => some [2, 3]
  | _ => none
theorem labsAt_labC (l : List Lb) : labsAt (labC l) 0 l.length = l := by
  unfold labsAt
  refine List.ext_getElem? fun j => ?_
  rw [List.getElem?_map]
  by_cases hj : j < l.length
  · have e := List.getElem?_eq_getElem hj
    rw [List.getElem?_range hj, e]
    generalize l[j] = x at e
    rw [Option.map_some, Nat.zero_add, (labC_get l j x e).1, (labC_get l j x e).2]; rfl
  · rw [List.getElem?_eq_none (by simp; omega), List.getElem?_eq_none (by omega)]; rfl
theorem atJ_swap (S : List Lb) (x s : Lb) (R : List Lb) (j : Nat) (hs : S[j]? = some s) :
    setAll (setAll (labC (atJ S x R (j + 1))) ((j + 1) * 2) [.string s.1, .string s.2]) (j * 2) [.string x.1, .string x.2] = labC (atJ S x R j) := by
  have hj := (List.getElem?_eq_some_iff.1 hs).1
  have e1 : S.take (j + 1) = S.take j ++ [s] := by rw [List.take_add_one, hs]; rfl
  have e2 : S.drop j = s :: S.drop (j + 1) := by rw [List.drop_eq_getElem_cons hj]; congr 1; rw [List.getElem?_eq_getElem hj] at hs; injection hs
  have l1 : (labC (S.take j)).length = j * 2 := by rw [labC_len, List.length_take]; omega
  have l2 : (labC (S.take j) ++ [Value.string s.1, .string s.2]).length = (j + 1) * 2 := by rw [List.length_append, l1]; simp; omega
  have hA : labC (atJ S x R (j + 1)) = (labC (S.take j) ++ [Value.string s.1, .string s.2]) ++ ([Value.string x.1, .string x.2] ++ labC (S.drop (j + 1) ++ R)) := by
    unfold atJ
    rw [e1]
    simp [labC]
  have hB : labC (atJ S x R j) = labC (S.take j) ++ ([Value.string x.1, .string x.2] ++ ([Value.string s.1, .string s.2] ++ labC (S.drop (j + 1) ++ R))) := by
    unfold atJ
    rw [e2]
    simp [labC]
  rw [hA, hB, setAll_at _ _ _ _ l2 (by simp), List.append_assoc, List.append_assoc, setAll_at _ _ _ _ l1 (by simp)]
  simp
theorem atJ_len (S : List Lb) (x : Lb) (R : List Lb) (j : Nat) (hj : j ≤ S.length) : (atJ S x R j).length = S.length + 1 + R.length := by unfold atJ; simp; omega
theorem atJ_x (S : List Lb) (x : Lb) (R : List Lb) (j : Nat) (hj : j ≤ S.length) : (atJ S x R j)[j]? = some x := by
  unfold atJ
  rw [List.getElem?_append_right (by rw [List.length_take]; omega), List.length_take, Nat.min_eq_left hj, Nat.sub_self]; rfl
theorem atJ_s (S : List Lb) (x s : Lb) (R : List Lb) (j : Nat) (hs : S[j]? = some s) : (atJ S x R (j + 1))[j]? = some s := by
  have hj := (List.getElem?_eq_some_iff.1 hs).1
  unfold atJ
  rw [List.getElem?_append_left (by rw [List.length_take]; omega), List.getElem?_take, if_pos (by omega)]; exact hs
theorem flat1 (l : List Lb) : FlatD [] (hp [.cells (labC l) 2 true]) := FlatD.hp ⟨labC_flat l, trivial⟩
theorem srt_inner (hmix : Try.prog.follows .mixedOrders = true) (n k i : Nat) (S : List Lb) (x : Lb) (R : List Lb) (hn : n = S.length + 1 + R.length) (hi : i = S.length) (hl : n ≤ 1000000) (K : Post)
    (hK : K (.exit 2) (T158 n k i) (hp [.cells (labC (insL S x ++ R)) 2 true])) : ∀ j, j ≤ S.length → posB x.1 S j = posB x.1 S S.length →
    LSays Try.prog 1 (sub body158 [0,0,1,0,0,1,0,0,1]) (T158j n k i j) (hp [.cells (labC (atJ S x R j)) 2 true]) K := by
  intro j
  induction j with
  | zero =>
    intro hj ha
    refine (sure158 hmix).roundX F158 noLoops [] [] [] [] [0,1,2,3,8,9] ?_
    rw [r158jz]
    have : insL S x ++ R = atJ S x R 0 := by unfold insL atJ; rw [← ha]; simp [posB]
    rw [this] at hK
    exact ⟨flat1 _, hK⟩
  | succ j ih =>
    intro hj ha
    have hs : S[j]? = some S[j] := List.getElem?_eq_getElem (by omega)
    generalize S[j] = s at hs
    have x1 := labC_get _ _ _ (atJ_x S x R (j + 1) hj)
    have s1 := labC_get _ _ _ (atJ_s S x s R j hs)
    have hp : posB x.1 S (j + 1) = if ltS x.1 s.1 = true then posB x.1 S j else j + 1 := by rw [posB, hs]; rfl
    rw [hp] at ha
    have hlen := atJ_len S x R (j + 1) hj
    have hcl := labC_len (atJ S x R (j + 1))
    have hsw := atJ_swap S x s R j hs
    refine (sure158 hmix).roundX F158 noLoops [] [] [] [] [0,1,2,3,8,9] ?_
    rw [r158j, pv j (by omega)]
    simp only [Nat.zero_add, Nat.add_zero, Int.toNat_natCast, x1.1, x1.2, s1.1, s1.2, cmp_lt0, Option.getD_some, show ∀ s, strV (Value.string s) = s from fun _ => rfl, show ((j + 1 : Nat) : Int) < (n : Int) by omega, show (j : Int) < (n : Int) by omega, show (0 : Int) ≤ (j : Int) by omega, show (j + 1) * 2 + 2 ≤ (labC (atJ S x R (j + 1))).length by omega, setAll_length, show j * 2 + 2 ≤ (labC (atJ S x R (j + 1))).length by omega, hsw, flat1, Alt_iff, Need_iff, ltI_eq, leI_eq, eqI_eq, leN_eq, eqN_eq, decide_eq_true_eq, decide_eq_false_iff_not, decide_true, decide_false, true_and, and_true, Bool.true_eq_false, Bool.false_eq_true, false_implies, true_implies, implies_true, not_true_eq_false, not_false_eq_true, Bool.not_eq_true', Bool.not_eq_false', Nat.zero_add, Nat.add_zero, Nat.sub_zero, Nat.zero_mul, Nat.mul_one, Int.toNat_natCast, List.drop_zero, beqV_int, beqV_sl, beqV_str, beqV_bool, beqV_ptr, beqV_flt, beqV_agg, beqV_tuple, List.all_cons, List.all_nil, Bool.and_self, Bool.and_true, Bool.true_and, Nat.le_refl, Int.le_refl, Nat.zero_le, Option.getD_some, isStr, strV, isInt, intV, isBool, boolV, kindEq, at0, isJunk, Option.isSome_some, Option.isSome_none, if_true, if_false, Nat.add_sub_cancel_left, Nat.add_sub_cancel]
    refine ⟨fun h => ?_, fun h => ?_⟩
    · exact ih (by omega) (by rw [if_pos h] at ha; exact ha)
    · rw [if_neg h] at ha
      have : insL S x ++ R = atJ S x R (j + 1) := by unfold insL atJ; rw [← ha]; simp
      rw [this] at hK
      exact hK
theorem srt_outer (hmix : Try.prog.follows .mixedOrders = true) (k : Nat) (l : List Lb) (hl : l.length ≤ 1000000) (K : Post)
    (hK : K (.exit 0) (tmps 53 []) (hp [.cells (labC (mkS l)) 2 true])) : ∀ t i, i + t = max l.length i → 1 ≤ i →
    LSays Try.prog 1 (sub body158 [0,0,1]) (T158 l.length k i) (hp [.cells (labC (mkS (l.take i) ++ l.drop i)) 2 true]) K := by
  have hL : ∀ i (S : List Lb) x R, Loops Try.prog body158 1 (cutE [cut158j l.length k i S x R]) := fun i S x R => Loops.noneE.moreE _ fun j K hq => by
    obtain ⟨⟨⟨h1, h2⟩, q1, q2⟩, q3⟩ := hq
    exact srt_inner hmix l.length k i S x R h1 h2 hl K q3 j q1 q2
  intro t
  induction t with
  | zero =>
    intro i ht h1
    refine (sure158 hmix).roundX F158 ((hL i [] (ByteArray.empty, ByteArray.empty) []).gcX (at0 []) (at0 [])) [] [] [] [] [0,1,2,3,8] ?_
    rw [r158]
    have h2 : l.take i = l := List.take_of_length_le (by omega)
    have h3 : l.drop i = [] := List.drop_eq_nil_of_le (by omega)
    rw [h2, h3, List.append_nil]
    exact Alt_iff.2 ⟨fun h => absurd (ltI_iff.1 h) (by omega), fun _ => ⟨flat1 _, hK⟩⟩
  | succ t ih =>
    intro i ht h1
    have hlt : i < l.length := by omega
    have hx : l[i]? = some l[i] := List.getElem?_eq_getElem hlt
    have hd : l.drop i = l[i] :: l.drop (i + 1) := List.drop_eq_getElem_cons hlt
    generalize l[i] = x at hx hd
    have hml : (mkS (l.take i)).length = i := by have := mkS_len (l.take i) []; unfold mkS; rw [this]; simp; omega
    have hm : mkS (l.take (i + 1)) = insL (mkS (l.take i)) x := by unfold mkS; rw [List.take_add_one, hx]; simp [List.foldl_append]
    have hrow : labC (mkS (l.take i) ++ l.drop i) = labC (atJ (mkS (l.take i)) x (l.drop (i + 1)) i) := by
      unfold atJ
      have e1 : (mkS (l.take i)).take i = mkS (l.take i) := List.take_of_length_le (by omega)
      have e2 : (mkS (l.take i)).drop i = [] := List.drop_eq_nil_of_le (by omega)
      rw [hd, e1, e2, List.nil_append]
    have next := ih (i + 1) (by omega) (by omega)
    rw [hm] at next
    refine (sure158 hmix).roundX F158 ((hL i (mkS (l.take i)) x (l.drop (i + 1))).gcX (at0 []) (at0 [])) [] [] [] [] [0,1,2,3,8] ?_
    rw [r158, nx i (by omega)]
    refine Alt_iff.2 ⟨fun _ => ⟨flat1 _, i, rfl, by rw [hrow], ⟨⟨by rw [hml, List.length_drop]; omega, hml.symm⟩, by rw [hml]; exact Nat.le_refl _, by rw [hml]⟩, flat1 _, next⟩, fun h => ?_⟩
    rw [ltI_iff.2 (by omega)] at h; cases h
structure LabRow (cs : List Value) (n k : Nat) (l : List Lb) : Prop where
  eq : cs = labC l
  hn : n = l.length
  hk : n ≤ k
  hle : n ≤ 1000000
inductive IsLC (cs : List Value) (n k : Nat) : Prop
  | mk (l : List Lb) (h : LabRow cs n k l) : IsLC cs n k
def isMk (g : Nat) (f c : Array Value) : Prop := match f.toList, c.toList with
  | [], [] => Need (eqN g 48) True
  | _, _ => False
theorem isMk_eq {g : Nat} {f c : Array Value} (h : isMk g f c) : g = 48 ∧ f = #[] ∧ c = #[] := by
  unfold isMk at h
  split at h
  · rename_i h1 h2
    simp only [Alt_iff, Need_iff, ltI_eq, leI_eq, eqI_eq, leN_eq, eqN_eq, decide_eq_true_eq, decide_eq_false_iff_not, decide_true, decide_false, true_and, and_true, Bool.true_eq_false, Bool.false_eq_true, false_implies, true_implies, implies_true, not_true_eq_false, not_false_eq_true, Bool.not_eq_true', Bool.not_eq_false'] at h
    exact ⟨h, Array.toList_inj.1 h1, Array.toList_inj.1 h2⟩
  · exact h.elim
noncomputable def srtC : CtrW where
  D := []
  W := [0]
  E := []
  pre := fun args blks => match args, blks with
    | [.slice (some ⟨0,0,some 1⟩) n k, .int .i64 a, .int .i64 b, .func (.func g) f c], [.cells cs 2 true] => IsLC cs n k ∧ isMk g f c ∧ Need (eqI a 0) (Need (eqI b n) True)
    | _, _ => False
  val := fun args blks => undef
  out := fun args blks => match args, blks with
    | [.slice (some ⟨0,0,some 1⟩) n k, _, _, _], [.cells cs 2 true] => [.cells (labC (mkS (labsAt cs 0 n))) 2 true]
    | _, _ => []
theorem srt_says (hmix : Try.prog.follows .mixedOrders = true) : srtC.Holds Try.prog 58 := by
  intro args blks hf hp
  simp only [srtC] at hp ⊢
  split at hp
  · rename_i n k a b g f c cs
    obtain ⟨⟨l, ⟨rfl, rfl, hk, hl⟩⟩, hG, hab⟩ := hp
    obtain ⟨rfl, rfl, rfl⟩ := isMk_eq hG
    simp only [Alt_iff, Need_iff, ltI_eq, leI_eq, eqI_eq, leN_eq, eqN_eq, decide_eq_true_eq, decide_eq_false_iff_not, decide_true, decide_false, true_and, and_true, Bool.true_eq_false, Bool.false_eq_true, false_implies, true_implies, implies_true, not_true_eq_false, not_false_eq_true, Bool.not_eq_true', Bool.not_eq_false'] at hab
    obtain ⟨rfl, rfl⟩ := hab
    simp only [labsAt_labC]
    refine ⟨⟨trivial, trivial⟩, ⟨labC_flat _, trivial⟩, ?_⟩
    have hL : Loops Try.prog body158 1 (cutE [cut158 k l]) := Loops.noneE.moreE _ fun i K hq => by
      obtain ⟨q1, q2⟩ := hq
      have q1 : 1 ≤ (show Nat from i) := q1
      exact srt_outer hmix k l hl K q2 _ i (Nat.add_sub_of_le (Nat.le_max_right _ _)) q1
    refine (sure158 hmix).funX F158 body158 [] [] Try.func58 rfl (hL.gcX (at0 []) (at0 [])) ?_
    have hw := w158 k l
    unfold fMk at hw
    rw [hw]
    have h1 : mkS (l.take 1) ++ l.drop 1 = l := by
      cases l with
      | nil => rfl
      | cons x t => simp [mkS, insL, posB]
    exact ⟨flat1 l, 1, rfl, by rw [h1], Nat.le_refl _, flat1 _, rfl, rfl, rfl⟩
  · exact hp.elim
end Go.Proofs.Ytdpfmaimhimfcaa

namespace Go.Proofs.Ytdpfmaimhimfcaa
open Go.RowKit Go.Proofs.Ytdpfmaimhimfcaa.AM
set_option maxRecDepth 100000
set_option maxHeartbeats 4000000
noncomputable def body156 : Code := (Try.f56.body).getD .skip
def F156 : List Nat → Option (List Nat) := fun p => match p with
  | [1] => some [0]
  | [1, 0, 0, 1] => some [2]
  | [1, 1] => some [0]
  | [1, 1, 1] => some [2]
  | _ => none
noncomputable def body167 : Code := (Try.f67.body).getD .skip
def F167 : List Nat → Option (List Nat) := fun p => match p with
  | [1] => some [0, 2]
  | [1, 0, 1] => some [0, 2, 4]
  | [1, 0, 1, 0, 1] => some [0]
  | [1, 1] => some [0, 2]
  | [1, 0, 1, 1] => some [0, 2, 8]
  | [1, 0, 1, 0, 1, 1] => some [0, 2]
  | [1, 1, 1] => some [0, 2]
  | [1, 0, 1, 1, 1] => some [0, 2, 14]
  | [1, 0, 1, 0, 1, 1, 1] => some [0, 2]
  | [1, 1, 1, 1] => some [0, 2]
  | [1, 1, 1, 1, 1] => some [2]
  | _ => none
noncomputable def S156 : Book := addI Try.prog [(67, Try.f67, body167)] S0
theorem sure156 (hm : Try.prog.follows .mixedOrders = true) : Sure Try.prog S156 := Sure.addI ⟨hm, plain, sums0⟩ (l := [(67, Try.f67, body167)]) ⟨⟨Try.func67, rfl⟩, trivial⟩

theorem w156_0 (K : Value → Heap → Prop) :
  funX Try.prog S156 noLoop F156 body156 Try.f56 [] [] [.int .u64 0] (hp []) K = (
K (Value.int IntKind.i64 0) (hp [])) := by kernel_rfl

theorem w156_1 (K : Value → Heap → Prop) :
  funX Try.prog S156 noLoop F156 body156 Try.f56 [] [] [.int .u64 1] (hp []) K = (
K (Value.int IntKind.i64 1) (hp [])) := by kernel_rfl

theorem w156_2 (K : Value → Heap → Prop) :
  funX Try.prog S156 noLoop F156 body156 Try.f56 [] [] [.int .u64 2] (hp []) K = (
K (Value.int IntKind.i64 2) (hp [])) := by kernel_rfl

theorem w156_3 (K : Value → Heap → Prop) :
  funX Try.prog S156 noLoop F156 body156 Try.f56 [] [] [.int .u64 3] (hp []) K = (
K (Value.int IntKind.i64 2) (hp [])) := by kernel_rfl

theorem w156_4 (K : Value → Heap → Prop) :
  funX Try.prog S156 noLoop F156 body156 Try.f56 [] [] [.int .u64 4] (hp []) K = (
K (Value.int IntKind.i64 3) (hp [])) := by kernel_rfl

theorem w156_5 (K : Value → Heap → Prop) :
  funX Try.prog S156 noLoop F156 body156 Try.f56 [] [] [.int .u64 5] (hp []) K = (
K (Value.int IntKind.i64 3) (hp [])) := by kernel_rfl

theorem w156_6 (K : Value → Heap → Prop) :
  funX Try.prog S156 noLoop F156 body156 Try.f56 [] [] [.int .u64 6] (hp []) K = (
K (Value.int IntKind.i64 3) (hp [])) := by kernel_rfl

def lenV (n : Int) : Int := if n = 0 then 0 else if n = 1 then 1 else if n ≤ 3 then 2 else 3
noncomputable def lenC : Ctr where
  pre := fun args blks => match args, blks with
    | [.int .u64 n], [] => Need (leI 0 n) (Need (leI n 6) True)
    | _, _ => False
  val := fun args blks => match args, blks with
    | [.int .u64 n], [] => .int .i64 (lenV n)
    | _, _ => undef
  new := fun _ _ => []
theorem len_says (hmix : Try.prog.follows .mixedOrders = true) : lenC.Holds Try.prog 56 := by
  intro args blks hf hp
  refine ⟨trivial, ?_⟩
  simp only [lenC] at hp ⊢
  split at hp
  · rename_i n
    simp only [Alt_iff, Need_iff, ltI_eq, leI_eq, eqI_eq, leN_eq, eqN_eq, decide_eq_true_eq, decide_eq_false_iff_not, decide_true, decide_false, true_and, and_true, Bool.true_eq_false, Bool.false_eq_true, false_implies, true_implies, implies_true, not_true_eq_false, not_false_eq_true, Bool.not_eq_true', Bool.not_eq_false'] at hp
    obtain ⟨h0, h1⟩ := hp
    have hF : FlatD [] (AM.hp []) := FlatD.hp trivial
    have hn : n = 0 ∨ n = 1 ∨ n = 2 ∨ n = 3 ∨ n = 4 ∨ n = 5 ∨ n = 6 := by omega
    rcases hn with rfl | rfl | rfl | rfl | rfl | rfl | rfl <;> refine (sure156 hmix).funX F156 body156 [] [] Try.func56 rfl noLoops ?_
    · rw [w156_0]; exact ⟨hF, rfl, rfl, rfl⟩
    · rw [w156_1]; exact ⟨hF, rfl, rfl, rfl⟩
    · rw [w156_2]; exact ⟨hF, rfl, rfl, rfl⟩
    · rw [w156_3]; exact ⟨hF, rfl, rfl, rfl⟩
    · rw [w156_4]; exact ⟨hF, rfl, rfl, rfl⟩
    · rw [w156_5]; exact ⟨hF, rfl, rfl, rfl⟩
    · rw [w156_6]; exact ⟨hF, rfl, rfl, rfl⟩
  · exact hp.elim
noncomputable def body155 : Code := (Try.f55.body).getD .skip
def F155 : List Nat → Option (List Nat) := fun p => match p with
  | [1] => some [0, 1, 2, 3, 4, 10]
  | [1, 1] => some [0, 1, 2, 3, 4, 10, 11]
  | [1, 0, 0, 0, 1, 1] => some [0, 1, 2, 3, 4, 10, 11, 12]
  | [1, 0, 1, 0, 0, 0, 1, 1] => some [0, 1, 2, 3, 4, 10, 11, 12, 25]
  | [1, 0, 1, 0, 1, 0, 0, 0, 1, 1] => some []
  | [1, 1, 0, 0, 0, 1, 1] => some [1000000, 0, 1, 2, 3, 4, 10, 11, 12]
  | [1, 0, 1, 1, 0, 0, 0, 1, 1] => some [0, 1, 2, 3, 4, 10, 11, 12, 32]
  | [1, 0, 1, 0, 1, 1, 0, 0, 0, 1, 1] => some []
  | [1, 1, 1, 0, 0, 0, 1, 1] => some [0, 1, 2, 3, 4, 10, 11, 12]
  | [1, 0, 1, 1, 1, 0, 0, 0, 1, 1] => some [0, 1, 2, 3, 4, 10, 11, 12, 39]
  | [1, 0, 1, 0, 1, 1, 1, 0, 0, 0, 1, 1] => some [0, 1, 2, 3, 4, 10, 11, 12]
  | [1, 1, 1, 1, 0, 0, 0, 1, 1] => some [0, 1, 2, 3, 4, 10, 11, 12]
  | [1, 1, 1, 1, 1, 0, 0, 0, 1, 1] => some [0, 1, 2, 3, 4, 10, 11, 12, 13, 14]
  | [1, 0, 1, 1, 1, 1, 1, 0, 0, 0, 1, 1] => some [0, 1, 2, 3, 4, 10, 11, 12, 13, 14, 56]
  | [1, 0, 1, 0, 1, 1, 1, 1, 1, 0, 0, 0, 1, 1] => some [0, 1, 2, 3, 4, 10, 11, 12, 13]
  | [1, 1, 0, 1, 0, 1, 1, 1, 1, 1, 0, 0, 0, 1, 1] => some [0, 1, 2, 3, 4, 10, 11, 12, 13]
  | [1, 1, 1, 1, 1, 1, 0, 0, 0, 1, 1] => some [0, 1, 2, 3, 4, 10, 11, 12, 13, 14]
  | [1, 0, 1, 1, 1, 1, 1, 1, 0, 0, 0, 1, 1] => some [0, 1, 2, 3, 4, 10, 11, 12, 13, 75]
  | [1, 0, 1, 0, 1, 1, 1, 1, 1, 1, 0, 0, 0, 1, 1] => some [0, 1, 2, 3, 4, 10, 11, 12, 13, 80]
  | [0, 1, 0, 1, 0, 1, 1, 1, 1, 1, 1, 0, 0, 0, 1, 1] => some []
  | [1, 1, 1, 1, 1, 1, 1, 0, 0, 0, 1, 1] => some [0, 1, 2, 3, 4, 10, 11, 12, 13]
  | [1, 0, 1, 1, 1, 1, 1, 1, 1, 0, 0, 0, 1, 1] => some [0, 1, 2, 3, 4, 10, 11, 12, 13, 97]
  | [1, 0, 1, 0, 1, 1, 1, 1, 1, 1, 1, 0, 0, 0, 1, 1] => some [0, 2, 3, 4, 10, 11, 15]
  | [1, 1, 0, 1, 0, 1, 1, 1, 1, 1, 1, 1, 0, 0, 0, 1, 1] => some [0, 1, 2, 3, 4, 10, 11]
  | [1, 1, 1, 1, 1, 1, 1, 1, 0, 0, 0, 1, 1] => some [0, 1, 2, 3, 4, 12, 13]
  | [1, 1, 1, 1, 1, 1, 1, 1, 1, 0, 0, 0, 1, 1] => some [0, 1, 2, 3, 4, 12, 16, 17]
  | [1, 1, 1, 1, 1, 1, 1, 1, 1, 1, 0, 0, 0, 1, 1] => some [0, 1, 2, 3, 4, 11, 12, 16]
  | [1, 1, 1, 1, 1, 1, 1, 1, 1, 1, 1, 0, 0, 0, 1, 1] => some [0, 1, 2, 3, 4, 11, 12, 16, 18, 19]
  | [1, 1, 1, 1, 1, 1, 1, 1, 1, 1, 1, 1, 0, 0, 0, 1, 1] => some [0, 1, 2, 3, 4, 11, 16, 18, 19, 20]
  | [1, 1, 1, 1, 1, 1, 1, 1, 1, 1, 1, 1, 1, 0, 0, 0, 1, 1] => some [0, 1, 2, 3, 4, 11, 16, 18, 19, 20, 125]
  | [1, 0, 1, 1, 1, 1, 1, 1, 1, 1, 1, 1, 1, 1, 1, 0, 0, 0, 1, 1] => some [0, 1, 2, 3, 4, 10, 11, 16]
  | [1, 1, 0, 1, 1, 1, 1, 1, 1, 1, 1, 1, 1, 1, 1, 1, 0, 0, 0, 1, 1] => some [0, 2, 3, 4, 10, 11, 16]
  | [1, 1, 1, 1, 1, 1, 1, 1, 1, 1, 1, 1, 1, 1, 1, 0, 0, 0, 1, 1] => some [0, 1, 2, 3, 4, 10, 11, 16]
  | [1, 1, 1, 1, 1, 1, 1, 1, 1, 1, 1, 1, 1, 1, 1, 1, 0, 0, 0, 1, 1] => some [0, 1, 3, 4, 10, 11, 16]
  | _ => none
noncomputable def S155 : Book := bookW [(58, srtC)] (bookOf [(56, lenC)])
theorem sure155 (hm : Try.prog.follows .mixedOrders = true) : Sure Try.prog S155 := ⟨hm, plain, bookW_ok (bookOf_ok (l := [(56, lenC)]) ⟨len_says hm, trivial⟩) (l := [(58, srtC)]) ⟨srt_says hm, trivial⟩⟩

theorem w155 (n k : Nat) (lim : Int) (cs : List Value) (K : Value → Heap → Prop) :
  funX Try.prog S155 (unrK Try.prog S155 noLoop F155 body155 1) F155 body155 Try.f55 [] [] [.slice (some ⟨0,0,some 1⟩) n k, .int .i64 0, .int .i64 n, .int .i64 lim, fMk] (hp [.cells cs 2 true]) K = (
Need (leI (wr IntKind.i64 ((↑n : Int) - 0)) 12)
  ((FlatL cs ∧ True) ∧
    (IsLC cs n k ∧ True ∧ Need (eqI (↑n : Int) (↑n : Int)) True) ∧
      K undef (hp [Blk.cells (labC (mkS (labsAt cs 0 n))) 2 true]))) := by kernel_rfl

noncomputable def pdqC : CtrW where
  D := []
  W := [0]
  E := []
  pre := fun args blks => match args, blks with
    | [.slice (some ⟨0,0,some 1⟩) n k, .int .i64 a, .int .i64 b, .int .i64 _, .func (.func g) f c], [.cells cs 2 true] => IsLC cs n k ∧ isMk g f c ∧ Need (eqI a 0) (Need (eqI b n) (Need (leN n 6) True))
    | _, _ => False
  val := fun args blks => undef
  out := fun args blks => match args, blks with
    | [.slice (some ⟨0,0,some 1⟩) n k, _, _, _, _], [.cells cs 2 true] => [.cells (labC (mkS (labsAt cs 0 n))) 2 true]
    | _, _ => []
theorem pdq_says (hmix : Try.prog.follows .mixedOrders = true) : pdqC.Holds Try.prog 55 := by
  intro args blks hf hp
  simp only [pdqC] at hp ⊢
  split at hp
  · rename_i n k a b lim g f c cs
    obtain ⟨hI, hG, hab⟩ := hp
    have hI2 := hI
    obtain ⟨l, ⟨rfl, rfl, hk, hl⟩⟩ := hI
    obtain ⟨rfl, rfl, rfl⟩ := isMk_eq hG
    simp only [Alt_iff, Need_iff, ltI_eq, leI_eq, eqI_eq, leN_eq, eqN_eq, decide_eq_true_eq, decide_eq_false_iff_not, decide_true, decide_false, true_and, and_true, Bool.true_eq_false, Bool.false_eq_true, false_implies, true_implies, implies_true, not_true_eq_false, not_false_eq_true, Bool.not_eq_true', Bool.not_eq_false'] at hab
    obtain ⟨rfl, rfl, h6⟩ := hab
    simp only [labsAt_labC]
    refine ⟨⟨trivial, trivial⟩, ⟨labC_flat _, trivial⟩, ?_⟩
    refine (sure155 hmix).funX F155 body155 [] [] Try.func55 rfl (Loops.unr (sure155 hmix) F155 noLoops 1) ?_
    have hw := w155 l.length k lim (labC l)
    unfold fMk at hw
    rw [hw, labsAt_labC]
    have e1 : wr .i64 ((l.length : Int) - 0) = (l.length : Int) := by rw [wr_i64 _ (by omega) (by omega)]; omega
    rw [e1]
    refine Alt_iff.2 ⟨fun _ => ⟨⟨labC_flat l, trivial⟩, ⟨hI2, trivial, Need_iff.2 ⟨eqI_iff.2 rfl, trivial⟩⟩, flat1 _, rfl, rfl, rfl⟩, fun h => ?_⟩
    rw [leI_iff.2 (by omega)] at h; cases h
  · exact hp.elim

theorem w146a (cs : List Value) (own : Bool) (o len cap : Nat) (K : Value → Heap → Prop) :
  funX Try.prog S0 noLoop F146 body146 Try.f46 [] [] [.slice (some ⟨0,o,some 7⟩) (len + 1) cap] (hp [.cells cs 2 own]) K = (
Need (leN (o + (len + 1) * 2) cs.length)
  (Need (leN ((0 + (len + 1)) * 32) 1099511627776)
    (Need (leN (0 + (len + 1)) 1099511627776)
      (K (Value.slice (some { block := 1, off := 0, spot := some 1 : Addr }) (0 + (len + 1)) (0 + (len + 1)))
        (hp [Blk.cells cs 2 own, Blk.cells ([] ++ List.take ((len + 1) * 2) (List.drop o cs)) 2 true]))))) := by kernel_rfl

theorem w146b (cs : List Value) (own : Bool) (o len cap : Nat) (K : Value → Heap → Prop) :
  funX Try.prog S0 noLoop F146 body146 Try.f46 [] [] [.slice (some ⟨0,o,some 8⟩) (len + 1) cap] (hp [.cells cs 2 own]) K = (
Need (leN (o + (len + 1) * 2) cs.length)
  (Need (leN ((0 + (len + 1)) * 32) 1099511627776)
    (Need (leN (0 + (len + 1)) 1099511627776)
      (K (Value.slice (some { block := 1, off := 0, spot := some 1 : Addr }) (0 + (len + 1)) (0 + (len + 1)))
        (hp [Blk.cells cs 2 own, Blk.cells ([] ++ List.take ((len + 1) * 2) (List.drop o cs)) 2 true]))))) := by kernel_rfl

theorem w146z (cs : List Value) (own : Bool) (o cap : Nat) (K : Value → Heap → Prop) :
  funX Try.prog S0 noLoop F146 body146 Try.f46 [] [.tmp 0 2] [.slice (some ⟨0,o,some 7⟩) 0 cap] (hp [.cells cs 2 own]) K = (
Need (leN (o + 0) cs.length)
  (K (Value.slice (some { block := 1, off := 0, spot := some 1 : Addr }) 0 0)
    (hp [Blk.cells cs 2 own, Blk.cells [] 2 true]))) := by kernel_rfl

theorem w146y (cs : List Value) (own : Bool) (o cap : Nat) (K : Value → Heap → Prop) :
  funX Try.prog S0 noLoop F146 body146 Try.f46 [] [.tmp 0 2] [.slice (some ⟨0,o,some 8⟩) 0 cap] (hp [.cells cs 2 own]) K = (
Need (leN (o + 0) cs.length)
  (K (Value.slice (some { block := 1, off := 0, spot := some 1 : Addr }) 0 0)
    (hp [Blk.cells cs 2 own, Blk.cells [] 2 true]))) := by kernel_rfl

theorem w146n (cs : List Value) (own : Bool) (K : Value → Heap → Prop) :
  funX Try.prog S0 noLoop F146 body146 Try.f46 [] [.tmp 0 2] [.slice none 0 0] (hp [.cells cs 2 own]) K = (
K (Value.slice (some { block := 1, off := 0, spot := some 1 : Addr }) 0 0)
  (hp [Blk.cells cs 2 own, Blk.cells [] 2 true])) := by kernel_rfl

noncomputable def cloneLC : Ctr where
  pre := fun args blks => match args, blks with
    | [.slice (some ⟨0, 0, _⟩) len cap], [.cells cs 2 _] => IsLs cs 0 len cap ∧ Need (leN len 1000000) True
    | _, _ => False
  val := fun args blks => match args, blks with
    | [.slice (some ⟨0, 0, _⟩) len _], [.cells _ 2 _] => .slice (some ⟨1,0,some 1⟩) len len
    | _, _ => undef
  new := fun args blks => match args, blks with
    | [.slice (some ⟨0, 0, _⟩) len _], [.cells cs 2 _] => [.cells (labC (labsAt cs 0 len)) 2 true]
    | _, _ => []
theorem wk_cases (sp : Option Nat) : wkS sp = some 7 ∨ wkS sp = some 8 := by unfold wkS; cases exS sp <;> simp
theorem LSl.cellsN {cs : List Value} {l : List Lb} (h : LSl cs 0 l) : cs.take (l.length * 2) = labC l := by
  refine List.ext_getElem? fun j => ?_
  rw [List.getElem?_take]
  have hc := labC_len l
  split
  · rename_i hj
    have hx : l[j / 2]? = some l[j / 2] := List.getElem?_eq_getElem (by omega)
    generalize l[j / 2] = x at hx
    have n1 := h.name _ _ hx
    have n2 := h.value _ _ hx
    obtain ⟨m1, m2⟩ := labC_get l _ _ hx
    rw [getO_eq] at n1 n2 m1 m2
    rw [Nat.zero_add] at n1 n2
    rcases Nat.mod_two_eq_zero_or_one j with hm | hm
    · rw [show j = j / 2 * 2 by omega, n1, m1]
    · rw [show j = j / 2 * 2 + 1 by omega, n2, m2]
  · rw [List.getElem?_eq_none (by omega)]
theorem cloneL_says (hmix : Try.prog.follows .mixedOrders = true) : cloneLC.Holds Try.prog 46 := by
  intro args blks hf hp
  simp only [cloneLC] at hp ⊢
  split at hp
  · rename_i sp len cap cs own
    obtain ⟨⟨l, rfl, hc, hB⟩, hl⟩ := hp
    simp only [Alt_iff, Need_iff, ltI_eq, leI_eq, eqI_eq, leN_eq, eqN_eq, decide_eq_true_eq, decide_eq_false_iff_not, decide_true, decide_false, true_and, and_true, Bool.true_eq_false, Bool.false_eq_true, false_implies, true_implies, implies_true, not_true_eq_false, not_false_eq_true, Bool.not_eq_true', Bool.not_eq_false'] at hl
    simp only [hB.labsAt]
    refine ⟨⟨labC_flat _, trivial⟩, ?_⟩
    have hF : ∀ l2, FlatD [] (AM.hp [.cells cs 2 own, .cells (labC l2) 2 true]) := fun l2 => FlatD.hp ⟨hB.flat, labC_flat _, trivial⟩
    have t1 := hB.cellsN
    have h0 : l.length * 2 ≤ cs.length := by have := congrArg List.length t1; rw [List.length_take, labC_len] at this; omega
    cases l with
    | nil =>
      refine FunSays.wk (fun _ _ => ?_) ?_
      · refine (sure0 hmix).funX F146 body146 [] [.tmp 0 2] Try.func46 rfl noLoops ?_
        rw [w146n]
        exact ⟨hF [], rfl, rfl, rfl⟩
      · rcases wk_cases sp with hq | hq <;> rw [hq]
        · refine (sure0 hmix).funX F146 body146 [] [.tmp 0 2] Try.func46 rfl noLoops ?_
          have := w146z cs own 0 cap
          simp only [List.length_nil]
          rw [this]
          simp only [Alt_iff, Need_iff, ltI_eq, leI_eq, eqI_eq, leN_eq, eqN_eq, decide_eq_true_eq, decide_eq_false_iff_not, decide_true, decide_false, true_and, and_true, Bool.true_eq_false, Bool.false_eq_true, false_implies, true_implies, implies_true, not_true_eq_false, not_false_eq_true, Bool.not_eq_true', Bool.not_eq_false', Nat.zero_add, Nat.add_zero, Nat.sub_zero, Nat.zero_mul, Nat.mul_one, Int.toNat_natCast, List.drop_zero, beqV_int, beqV_sl, beqV_str, beqV_bool, beqV_ptr, beqV_flt, beqV_agg, beqV_tuple, List.all_cons, List.all_nil, Bool.and_self, Bool.and_true, Bool.true_and, Nat.le_refl, Int.le_refl, Nat.zero_le, Option.getD_some, isStr, strV, isInt, intV, isBool, boolV, kindEq, at0, isJunk, Option.isSome_some, Option.isSome_none, if_true, if_false, Nat.add_sub_cancel_left, Nat.add_sub_cancel]
          and_intros <;> first | exact hF [] | rfl
        · refine (sure0 hmix).funX F146 body146 [] [.tmp 0 2] Try.func46 rfl noLoops ?_
          have := w146y cs own 0 cap
          simp only [List.length_nil]
          rw [this]
          simp only [Alt_iff, Need_iff, ltI_eq, leI_eq, eqI_eq, leN_eq, eqN_eq, decide_eq_true_eq, decide_eq_false_iff_not, decide_true, decide_false, true_and, and_true, Bool.true_eq_false, Bool.false_eq_true, false_implies, true_implies, implies_true, not_true_eq_false, not_false_eq_true, Bool.not_eq_true', Bool.not_eq_false', Nat.zero_add, Nat.add_zero, Nat.sub_zero, Nat.zero_mul, Nat.mul_one, Int.toNat_natCast, List.drop_zero, beqV_int, beqV_sl, beqV_str, beqV_bool, beqV_ptr, beqV_flt, beqV_agg, beqV_tuple, List.all_cons, List.all_nil, Bool.and_self, Bool.and_true, Bool.true_and, Nat.le_refl, Int.le_refl, Nat.zero_le, Option.getD_some, isStr, strV, isInt, intV, isBool, boolV, kindEq, at0, isJunk, Option.isSome_some, Option.isSome_none, if_true, if_false, Nat.add_sub_cancel_left, Nat.add_sub_cancel]
          and_intros <;> first | exact hF [] | rfl
    | cons x t =>
      refine FunSays.wk (fun hh => by cases hh) ?_
      simp only [List.length_cons] at *
      rcases wk_cases sp with hq | hq <;> rw [hq]
      · refine (sure0 hmix).funX F146 body146 [] [] Try.func46 rfl noLoops ?_
        rw [w146a]
        simp only [t1, Alt_iff, Need_iff, ltI_eq, leI_eq, eqI_eq, leN_eq, eqN_eq, decide_eq_true_eq, decide_eq_false_iff_not, decide_true, decide_false, true_and, and_true, Bool.true_eq_false, Bool.false_eq_true, false_implies, true_implies, implies_true, not_true_eq_false, not_false_eq_true, Bool.not_eq_true', Bool.not_eq_false', Nat.zero_add, Nat.add_zero, Nat.sub_zero, Nat.zero_mul, Nat.mul_one, Int.toNat_natCast, List.drop_zero, beqV_int, beqV_sl, beqV_str, beqV_bool, beqV_ptr, beqV_flt, beqV_agg, beqV_tuple, List.all_cons, List.all_nil, Bool.and_self, Bool.and_true, Bool.true_and, Nat.le_refl, Int.le_refl, Nat.zero_le, Option.getD_some, isStr, strV, isInt, intV, isBool, boolV, kindEq, at0, isJunk, Option.isSome_some, Option.isSome_none, if_true, if_false, Nat.add_sub_cancel_left, Nat.add_sub_cancel]
        and_intros <;> first | omega | exact hF _ | rfl
      · refine (sure0 hmix).funX F146 body146 [] [] Try.func46 rfl noLoops ?_
        rw [w146b]
        simp only [t1, Alt_iff, Need_iff, ltI_eq, leI_eq, eqI_eq, leN_eq, eqN_eq, decide_eq_true_eq, decide_eq_false_iff_not, decide_true, decide_false, true_and, and_true, Bool.true_eq_false, Bool.false_eq_true, false_implies, true_implies, implies_true, not_true_eq_false, not_false_eq_true, Bool.not_eq_true', Bool.not_eq_false', Nat.zero_add, Nat.add_zero, Nat.sub_zero, Nat.zero_mul, Nat.mul_one, Int.toNat_natCast, List.drop_zero, beqV_int, beqV_sl, beqV_str, beqV_bool, beqV_ptr, beqV_flt, beqV_agg, beqV_tuple, List.all_cons, List.all_nil, Bool.and_self, Bool.and_true, Bool.true_and, Nat.le_refl, Int.le_refl, Nat.zero_le, Option.getD_some, isStr, strV, isInt, intV, isBool, boolV, kindEq, at0, isJunk, Option.isSome_some, Option.isSome_none, if_true, if_false, Nat.add_sub_cancel_left, Nat.add_sub_cancel]
        and_intros <;> first | omega | exact hF _ | rfl
  · exact hp.elim
end Go.Proofs.Ytdpfmaimhimfcaa

namespace Go.Proofs.Ytdpfmaimhimfcaa
open Go.RowKit Go.Proofs.Ytdpfmaimhimfcaa.AM
set_option maxRecDepth 100000
set_option maxHeartbeats 4000000
/-! ### texts in their order; sets (no program in sight) -/
theorem bl_irr : ∀ x : List UInt8, Op.bytesLess x x = false := by
  intro x
  induction x with
  | nil => rfl
  | cons a x ih => simp [Op.bytesLess, ih]
theorem bl_tri : ∀ x y : List UInt8, Op.bytesLess x y = true ∨ x = y ∨ Op.bytesLess y x = true := by
  intro x
  induction x with
  | nil => intro y; cases y with
    | nil => exact .inr (.inl rfl)
    | cons => exact .inl rfl
  | cons a x ih =>
    intro y
    cases y with
    | nil => exact .inr (.inr rfl)
    | cons b y =>
      simp only [Op.bytesLess, Bool.or_eq_true, Bool.and_eq_true, decide_eq_true_eq, beq_iff_eq]
      rcases Nat.lt_trichotomy a.toNat b.toNat with h | h | h
      · exact .inl (.inl (UInt8.lt_iff_toNat_lt.2 h))
      · have hab : a = b := UInt8.toNat_inj.1 h
        subst hab
        rcases ih y with h2 | h2 | h2
        · exact .inl (.inr ⟨rfl, h2⟩)
        · exact .inr (.inl (by rw [h2]))
        · exact .inr (.inr (.inr ⟨rfl, h2⟩))
      · exact .inr (.inr (.inl (UInt8.lt_iff_toNat_lt.2 h)))
theorem bl_trans : ∀ x y z : List UInt8, Op.bytesLess x y = true → Op.bytesLess y z = true → Op.bytesLess x z = true := by
  intro x
  induction x with
  | nil =>
    intro y z h1 h2
    cases z with
    | nil => cases y <;> cases h2
    | cons => rfl
  | cons a x ih =>
    intro y z h1 h2
    cases y with
    | nil => cases h1
    | cons b y =>
      cases z with
      | nil => cases h2
      | cons c z =>
        simp only [Op.bytesLess, Bool.or_eq_true, Bool.and_eq_true, decide_eq_true_eq, beq_iff_eq, UInt8.lt_iff_toNat_lt] at h1 h2 ⊢
        rcases h1 with h1 | ⟨h1, h1'⟩ <;> rcases h2 with h2 | ⟨h2, h2'⟩
        · exact .inl (by omega)
        · subst h2; exact .inl h1
        · subst h1; exact .inl h2
        · subst h1 h2; exact .inr ⟨rfl, ih y z h1' h2'⟩
theorem ba_ext {a b : ByteArray} (h : a.data.toList = b.data.toList) : a = b := by
  obtain ⟨⟨a⟩⟩ := a
  obtain ⟨⟨b⟩⟩ := b
  simp at h; rw [h]
theorem ltS_irr (a : ByteArray) : ltS a a = false := bl_irr _
theorem ltS_tri (a b : ByteArray) : ltS a b = true ∨ a = b ∨ ltS b a = true := by
  rcases bl_tri a.data.toList b.data.toList with h | h | h
  · exact .inl h
  · exact .inr (.inl (ba_ext h))
  · exact .inr (.inr h)
theorem ltS_trans {a b c : ByteArray} (h1 : ltS a b = true) (h2 : ltS b c = true) : ltS a c = true := bl_trans _ _ _ h1 h2
theorem ltS_asym {a b : ByteArray} (h : ltS a b = true) : ltS b a = false := by
  cases hq : ltS b a with
  | false => rfl
  | true => have := ltS_trans h hq; rw [ltS_irr] at this; cases this
/-- names that rise -/
def Rises (l : List Lb) : Prop := l.Pairwise fun x y => ltS x.1 y.1 = true
theorem after_iff {p a : ByteArray} : after (some p) a = true ↔ ltS p a = true := by
  simp only [after, Bool.not_eq_true', Bool.or_eq_false_iff]
  constructor
  · rintro ⟨h1, h2⟩
    rcases ltS_tri a p with h | h | h
    · rw [h] at h1; cases h1
    · subst h; rw [eqS_rfl] at h2; cases h2
    · exact h
  · intro h
    refine ⟨ltS_asym h, ?_⟩
    cases hq : eqS a p with
    | false => rfl
    | true => rw [eqS_iff.1 hq, ltS_irr] at h; cases h
theorem setF_iff : ∀ (l : List Lb) (p : Option ByteArray), setF p l = true ↔ (∀ x ∈ l, nameB x.1 = true ∧ valueB x.2 = true) ∧ Rises l ∧ ∀ q, p = some q → ∀ x ∈ l, ltS q x.1 = true := by
  intro l
  induction l with
  | nil => intro p; simp [setF, Rises]
  | cons y l ih =>
    intro p
    simp only [setF, Bool.and_eq_true, ih, Rises, List.pairwise_cons, List.mem_cons, forall_eq_or_imp]
    constructor
    · rintro ⟨h1, h2, h3, h4, h5, h6⟩
      refine ⟨⟨⟨h1, h2⟩, h4⟩, ⟨fun x hx => h6 y.1 rfl x hx, h5⟩, fun q hq => ?_⟩
      subst hq
      have := after_iff.1 h3
      exact ⟨this, fun x hx => ltS_trans this (h6 y.1 rfl x hx)⟩
    · rintro ⟨⟨⟨h1, h2⟩, h3⟩, ⟨h4, h5⟩, h6⟩
      refine ⟨h1, h2, ?_, h3, h5, fun q hq x hx => ?_⟩
      · cases p with
        | none => rfl
        | some q => exact after_iff.2 (h6 q rfl).1
      · injection hq with hq; subst hq; exact h4 x hx
end Go.Proofs.Ytdpfmaimhimfcaa

namespace Go.Proofs.Ytdpfmaimhimfcaa
open Go.RowKit Go.Proofs.Ytdpfmaimhimfcaa.AM
set_option maxRecDepth 100000
set_option maxHeartbeats 4000000
noncomputable def S127 : Book := addI Try.prog [(47, Try.f47, body147)] (bookW [(55, pdqC)] (bookOf [(56, lenC), (46, cloneLC), (11, isSetC)]))
theorem sure127 (hm : Try.prog.follows .mixedOrders = true) : Sure Try.prog S127 := Sure.addI ⟨hm, plain, bookW_ok (bookOf_ok (l := [(56, lenC), (46, cloneLC), (11, isSetC)]) ⟨len_says hm, cloneL_says hm, is_says hm, trivial⟩) (l := [(55, pdqC)]) ⟨pdq_says hm, trivial⟩⟩ (l := [(47, Try.f47, body147)]) ⟨⟨Try.func47, rfl⟩, trivial⟩

theorem w127 (n k : Nat) (sp : Option Nat) (cs : List Value) (own : Bool) (K : Value → Heap → Prop) :
  funX Try.prog S127 noLoop F127 body127 Try.f27 [] [.tup 0 0 2] [.slice (some ⟨0,0,sp⟩) n k] (hp [.cells cs 2 own]) K = (
Alt (ltI 6 (↑n : Int))
  (K (Value.tuple #[Value.slice (some { block := 1, off := 0, spot := some 1 : Addr }) 0 0, Value.bool false])
    (hp [Blk.cells cs 2 own, Blk.cells [] 2 true]))
  ((FlatL cs ∧ True) ∧
    (IsLs cs 0 n k ∧ Need (leN n 1000000) True) ∧
      True ∧
        Need (leI (wr IntKind.u64 (↑n : Int)) 6) True ∧
          (FlatL (labC (labsAt cs 0 n)) ∧ True) ∧
            (IsLC (labC (labsAt cs 0 n)) n n ∧ True ∧ Need (eqI (↑n : Int) (↑n : Int)) (Need (leN n 6) True)) ∧
              (FlatL (labC (mkS (labsAt (labC (labsAt cs 0 n)) 0 n))) ∧ True) ∧
                (IsLs (labC (mkS (labsAt (labC (labsAt cs 0 n)) 0 n))) 0 n n ∧ True) ∧
                  Alt (!isSetB (labsAt (labC (mkS (labsAt (labC (labsAt cs 0 n)) 0 n))) 0 n))
                    (K
                      (Value.tuple
                        #[Value.slice (some { block := 1, off := 0, spot := some 1 : Addr }) 0 0, Value.bool false])
                      (hp [Blk.cells cs 2 own, Blk.cells [] 2 true]))
                    (K
                      (Value.tuple
                        #[Value.slice (some { block := 1, off := 0, spot := some 1 : Addr }) n n, Value.bool true])
                      (hp [Blk.cells cs 2 own, Blk.cells (labC (mkS (labsAt (labC (labsAt cs 0 n)) 0 n))) 2 true])))) := by kernel_rfl

noncomputable def makeLC : Ctr where
  pre := fun args blks => match args, blks with
    | [.slice (some ⟨0, 0, _⟩) len cap], [.cells cs 2 _] => IsLs cs 0 len cap ∧ Need (leN len 1000000) True
    | _, _ => False
  val := fun args blks => match args, blks with
    | [.slice (some ⟨0, 0, _⟩) len _], [.cells cs 2 _] => .tuple #[.slice (some ⟨1,0,some 1⟩) (mkR (labsAt cs 0 len)).length (mkR (labsAt cs 0 len)).length, .bool (isSetB (mkS (labsAt cs 0 len)))]
    | _, _ => .bool false
  new := fun args blks => match args, blks with
    | [.slice (some ⟨0, 0, _⟩) len _], [.cells cs 2 _] => [.cells (labC (mkR (labsAt cs 0 len))) 2 true]
    | _, _ => []
theorem mkS_len0 (l : List Lb) : (mkS l).length = l.length := by have := mkS_len l []; unfold mkS; rw [this]; simp
theorem make_says (hmix : Try.prog.follows .mixedOrders = true) : makeLC.Holds Try.prog 27 := by
  intro args blks hf hp
  simp only [makeLC] at hp ⊢
  split at hp
  · rename_i sp len cap cs own
    obtain ⟨⟨l, rfl, hc, hB⟩, hl⟩ := hp
    have hI : IsLs cs 0 l.length cap := .mk l rfl hc hB
    have hl' := hl
    simp only [Alt_iff, Need_iff, ltI_eq, leI_eq, eqI_eq, leN_eq, eqN_eq, decide_eq_true_eq, decide_eq_false_iff_not, decide_true, decide_false, true_and, and_true, Bool.true_eq_false, Bool.false_eq_true, false_implies, true_implies, implies_true, not_true_eq_false, not_false_eq_true, Bool.not_eq_true', Bool.not_eq_false'] at hl
    simp only [hB.labsAt]
    refine ⟨⟨labC_flat _, trivial⟩, ?_⟩
    refine (sure127 hmix).funX F127 body127 [] [.tup 0 0 2] Try.func27 rfl noLoops ?_
    rw [w127, hB.labsAt, labsAt_labC]
    have hF : ∀ L, FlatD [] (AM.hp [.cells cs 2 own, .cells (labC L) 2 true]) := fun L => FlatD.hp ⟨hB.flat, labC_flat L, trivial⟩
    have hn := mkS_len0 l
    have hms : labsAt (labC (mkS l)) 0 l.length = mkS l := by rw [← hn]; exact labsAt_labC _
    rw [hms]
    unfold mkR
    refine Alt_iff.2 ⟨fun h => ?_, fun h => ?_⟩
    · have hbig : isSetB (mkS l) = false := by
        have := ltI_iff.1 h
        unfold isSetB
        rw [hn, show leN l.length 6 = false from Bool.eq_false_iff.2 fun hh => by have := leN_iff.1 hh; omega]
        simp
      rw [hbig]
      exact ⟨hF [], rfl, rfl, rfl⟩
    · have h6 : l.length ≤ 6 := by
        have : ¬ (6 : Int) < (l.length : Int) := fun hh => by rw [ltI_iff.2 hh] at h; cases h
        omega
      have hs : LSl (labC (mkS l)) 0 (mkS l) := labC_ls _ (mkS_small hB.small) (by omega)
      have hw : wr .u64 (l.length : Int) = (l.length : Int) := by rw [wr_eq]; simp [IntKind.wrap, IntKind.bits, IntKind.signed]; omega
      rw [hw]
      refine ⟨⟨hB.flat, trivial⟩, ⟨hI, hl'⟩, trivial, Need_iff.2 ⟨leI_iff.2 (by omega), trivial⟩, ⟨labC_flat _, trivial⟩, ⟨⟨l, rfl, rfl, Nat.le_refl _, hl⟩, trivial, Need_iff.2 ⟨eqI_iff.2 rfl, Need_iff.2 ⟨leN_iff.2 h6, trivial⟩⟩⟩, ⟨labC_flat _, trivial⟩, ⟨⟨mkS l, hn, Nat.le_refl _, hs⟩, trivial⟩, ?_⟩
      cases hq : isSetB (mkS l) with
      | true => exact ⟨hF _, rfl, by rw [if_pos rfl, hn], rfl⟩
      | false => exact ⟨hF [], rfl, rfl, rfl⟩
  · exact hp.elim
noncomputable def body108 : Code := (Try.f8.body).getD .skip
def F108 : List Nat → Option (List Nat) := fun p => match p with
  | [1] => some [0]
  | [1, 0, 1] => some [0, 9]
  | [1, 0, 1, 0, 1] => some [2]
  | [1, 1] => some [0]
  | [1, 1, 1] => some [0, 3, 4]
  | [1, 1, 1, 1] => some [3, 4, 5, 6]
  | [1, 1, 1, 1, 1] => some [2]
  | _ => none
noncomputable def S108 : Book := bookOf [(3, trueC), (14, wgtC), (27, makeLC), (28, mksetC), (26, sameC)]
theorem sure108 (hm : Try.prog.follows .mixedOrders = true) : Sure Try.prog S108 := ⟨hm, plain, bookOf_ok (l := [(3, trueC), (14, wgtC), (27, makeLC), (28, mksetC), (26, sameC)]) ⟨runs_holds hm, wgt_says hm, make_says hm, mkset_says hm, same_says hm, trivial⟩⟩

theorem w108 (n k : Nat) (sp : Option Nat) (cs : List Value) (K : Value → Heap → Prop) :
  funX Try.prog S108 noLoop F108 body108 Try.f8 [] [] [.slice (some ⟨0,0,sp⟩) n k] (hp [.cells cs 2 false]) K = (
(FlatL cs ∧ True) ∧
  (IsLs cs 0 n k ∧ True) ∧
    Alt (ltI 300 (wgtV (labsAt cs 0 n) (intV (Value.int IntKind.i64 300))))
      (True ∧ True ∧ K (Value.bool true) (hp [Blk.cells cs 2 false]))
      ((FlatL cs ∧ True) ∧
        (IsLs cs 0 n k ∧ Need (leN n 1000000) True) ∧
          (FlatL cs ∧ True) ∧
            (IsLs cs 0 n k ∧ Need (leN n 1000000) True) ∧
              Alt (isSetB (mkS (labsAt cs 0 n)) == isSetB (mkS (labsAt cs 0 n)))
                ((FlatL (labC (mkR (labsAt cs 0 n))) ∧ FlatL (labC (mkR (labsAt cs 0 n))) ∧ True) ∧
                  (IsLs (labC (mkR (labsAt cs 0 n))) 0 (mkR (labsAt cs 0 n)).length (mkR (labsAt cs 0 n)).length ∧
                      IsLs (labC (mkR (labsAt cs 0 n))) 0 (mkR (labsAt cs 0 n)).length (mkR (labsAt cs 0 n)).length) ∧
                    Alt
                      (sameB (labsAt (labC (mkR (labsAt cs 0 n))) 0 (mkR (labsAt cs 0 n)).length)
                        (labsAt (labC (mkR (labsAt cs 0 n))) 0 (mkR (labsAt cs 0 n)).length))
                      (True ∧ True ∧ K (Value.bool true) (hp [Blk.cells cs 2 false]))
                      (K (Value.bool false) (hp [Blk.cells cs 2 false])))
                (K (Value.bool false) (hp [Blk.cells cs 2 false])))) := by kernel_rfl

theorem wgtO_len {m : Int} : ∀ (l : List Lb) (n w : Int), wgtO m n l = some w → w ≤ m → n + l.length ≤ w := by
  intro l
  induction l with
  | nil => intro n w h _; simp [wgtO] at h; simp; omega
  | cons x t ih =>
    intro n w h hw
    unfold wgtO at h
    split at h
    · split at h
      · cases h
      · have := ih _ _ h hw
        rw [List.length_cons]; omega
    · injection h with h; omega
theorem wgtV_len {l : List Lb} (h : ¬ 300 < wgtV l 300) : l.length ≤ 300 := by
  unfold wgtV at h
  split at h
  · omega
  · rename_i n hn
    split at h
    · omega
    · have := wgtO_len l 0 n hn (by omega)
      omega
theorem mkR_ls {l : List Lb} (h : Small l) (hl : l.length ≤ 1000000) : LSl (labC (mkR l)) 0 (mkR l) ∧ (mkR l).length ≤ l.length := by
  have hn := mkS_len0 l
  unfold mkR
  split
  · exact ⟨labC_ls _ (mkS_small h) (by omega), by omega⟩
  · exact ⟨labC_ls _ small_nil (by simp), by simp⟩
theorem law108 (hmix : Try.prog.follows .mixedOrders = true) (cs : List Value) (sp : Option Nat) (cap : Nat) (l : List Lb) (hc : l.length ≤ cap) (hB : LSl cs 0 l) :
    FunSays Try.prog 8 [.slice (some ⟨0,0,sp⟩) l.length cap] (hp [.cells cs 2 false]) fun v _ => v = .bool true := by
  have hF : FlatD [] (hp [.cells cs 2 false]) := FlatD.hp ⟨hB.flat, trivial⟩
  have hI : IsLs cs 0 l.length cap := .mk l rfl hc hB
  refine (sure108 hmix).funX F108 body108 [] [] Try.func8 rfl noLoops ?_
  rw [w108, hB.labsAt]
  refine ⟨⟨hB.flat, trivial⟩, ⟨hI, trivial⟩, Alt_iff.2 ⟨fun _ => ⟨trivial, trivial, hF, rfl, rfl⟩, fun h => ?_⟩⟩
  have hl : l.length ≤ 300 := wgtV_len fun hh => by rw [show ltI 300 (wgtV l (intV (Value.int IntKind.i64 300))) = true from ltI_iff.2 hh] at h; cases h
  have hN : Need (leN l.length 1000000) True := Need_iff.2 ⟨leN_iff.2 (by omega), trivial⟩
  obtain ⟨hr, hrl⟩ := mkR_ls hB.small (by omega : l.length ≤ 1000000)
  have hR : IsLs (labC (mkR l)) 0 (mkR l).length (mkR l).length := .mk _ rfl (Nat.le_refl _) hr
  refine ⟨⟨hB.flat, trivial⟩, ⟨hI, hN⟩, ⟨hB.flat, trivial⟩, ⟨hI, hN⟩, Alt_iff.2 ⟨fun _ => ⟨⟨labC_flat _, labC_flat _, trivial⟩, ⟨hR, hR⟩, Alt_iff.2 ⟨fun _ => ⟨trivial, trivial, hF, rfl, rfl⟩, fun h => ?_⟩⟩, fun h => ?_⟩⟩
  · have : sameB (labsAt (labC (mkR l)) 0 (mkR l).length) (labsAt (labC (mkR l)) 0 (mkR l).length) = true := sameB_iff.2 rfl
    rw [this] at h; cases h
  · simp at h
end Go.Proofs.Ytdpfmaimhimfcaa

namespace Go.Proofs.Ytdpfmaimhimfcaa
open Go.RowKit Go.Proofs.Ytdpfmaimhimfcaa.AM
set_option maxRecDepth 100000
set_option maxHeartbeats 4000000
/-- names that don't fall -/
def WS (l : List Lb) : Prop := l.Pairwise fun x y => ltS y.1 x.1 = false
theorem le_trans' {a b c : ByteArray} (h1 : ltS b a = false) (h2 : ltS c b = false) : ltS c a = false := by
  rcases ltS_tri a b with h | h | h
  · rcases ltS_tri b c with q | q | q
    · exact ltS_asym (ltS_trans h q)
    · subst q; exact h1
    · rw [q] at h2; cases h2
  · subst h; exact h2
  · rw [h] at h1; cases h1
theorem posB_spec (s : ByteArray) (L : List Lb) : ∀ n, n ≤ L.length → (∀ (j : Nat) x, posB s L n ≤ j → j < n → L[j]? = some x → ltS s x.1 = true) ∧ (∀ x, 0 < posB s L n → L[posB s L n - 1]? = some x → ltS s x.1 = false) := by
  intro n
  induction n with
  | zero => intro _; exact ⟨fun j x _ h => absurd h (Nat.not_lt_zero _), fun x h => absurd h (Nat.not_lt_zero _)⟩
  | succ n ih =>
    intro hn
    obtain ⟨i1, i2⟩ := ih (by omega)
    have hx : L[n]? = some L[n] := List.getElem?_eq_getElem (by omega)
    generalize L[n] = y at hx
    unfold posB
    rw [hx]
    simp only [Option.getD_some]
    by_cases h : ltS s y.1 = true
    · rw [if_pos h]
      refine ⟨fun j x h1 h2 hj => ?_, i2⟩
      by_cases hjn : j = n
      · subst hjn; rw [hx] at hj; injection hj with hj; rw [← hj]; exact h
      · exact i1 j x h1 (by omega) hj
    · rw [if_neg h]
      refine ⟨fun j x h1 h2 => by omega, fun x _ hj => ?_⟩
      rw [Nat.add_sub_cancel, hx] at hj
      injection hj with hj
      rw [← hj]; exact Bool.eq_false_iff.2 h
theorem insL_perm (L : List Lb) (x : Lb) : (insL L x).Perm (x :: L) := by
  unfold insL
  refine List.perm_middle.trans ?_
  rw [List.take_append_drop]
theorem insL_ws {L : List Lb} {x : Lb} (h : WS L) : WS (insL L x) := by
  obtain ⟨h1, h2⟩ := posB_spec x.1 L L.length (Nat.le_refl _)
  have hp := posB_le x.1 L L.length
  unfold insL
  generalize posB x.1 L L.length = p at *
  have h0 : WS (L.take p ++ L.drop p) := by rw [List.take_append_drop]; exact h
  unfold WS at h0 ⊢
  rw [List.pairwise_append] at h0 ⊢
  have hidx : ∀ (i j : Nat) a b, i < j → L[i]? = some a → L[j]? = some b → ltS b.1 a.1 = false := fun i j a b hij ha hb => by
    obtain ⟨q1, q2⟩ := List.getElem?_eq_some_iff.1 ha
    obtain ⟨q3, q4⟩ := List.getElem?_eq_some_iff.1 hb
    have := List.pairwise_iff_getElem.1 h i j q1 q3 hij
    rw [q2, q4] at this; exact this
  have hlow : ∀ a ∈ L.take p, ltS x.1 a.1 = false := fun a ha => by
    obtain ⟨i, hi⟩ := List.mem_iff_getElem?.1 ha
    rw [List.getElem?_take] at hi
    split at hi
    · rename_i hip
      have hl : L[p - 1]? = some L[p - 1] := List.getElem?_eq_getElem (by omega)
      generalize L[p - 1] = z at hl
      have hz := h2 z (by omega) hl
      by_cases hii : i = p - 1
      · subst hii; rw [hi] at hl; injection hl with hl; rw [hl]; exact hz
      · exact le_trans' (hidx i (p - 1) a z (by omega) hi hl) hz
    · cases hi
  refine ⟨h0.1, List.pairwise_cons.2 ⟨fun b hb => ?_, h0.2.1⟩, fun a ha b hb => ?_⟩
  · obtain ⟨i, hi⟩ := List.mem_iff_getElem?.1 hb
    rw [List.getElem?_drop] at hi
    exact ltS_asym (h1 (p + i) b (by omega) (List.getElem?_eq_some_iff.1 hi).1 hi)
  · rcases List.mem_cons.1 hb with rfl | hb
    · exact hlow a ha
    · exact h0.2.2 a ha b hb
theorem mkS_perm (l : List Lb) : (mkS l).Perm l := by
  have key : ∀ (l L : List Lb), (l.foldl insL L).Perm (L ++ l) := by
    intro l
    induction l with
    | nil => intro L; simp
    | cons x t ih =>
      intro L
      rw [List.foldl_cons]
      refine (ih _).trans (((insL_perm L x).append_right t).trans ?_)
      exact (List.perm_middle (l₁ := L) (l₂ := t) (a := x)).symm
  have := key l []
  simpa [mkS] using this
theorem mkS_ws (l : List Lb) : WS (mkS l) := by
  have key : ∀ (l L : List Lb), WS L → WS (l.foldl insL L) := by
    intro l
    induction l with
    | nil => intro L h; exact h
    | cons x t ih => intro L h; rw [List.foldl_cons]; exact ih _ (insL_ws h)
  exact key l [] List.Pairwise.nil
theorem rises_ws {l : List Lb} (h : Rises l) : WS l := List.Pairwise.imp (fun h => ltS_asym h) h
theorem rises_inj {l : List Lb} (h : Rises l) : ∀ x y, x ∈ l → y ∈ l → x.1 = y.1 → x = y := by
  intro x y hx hy he
  obtain ⟨i, hi⟩ := List.mem_iff_getElem?.1 hx
  obtain ⟨j, hj⟩ := List.mem_iff_getElem?.1 hy
  obtain ⟨q1, q2⟩ := List.getElem?_eq_some_iff.1 hi
  obtain ⟨q3, q4⟩ := List.getElem?_eq_some_iff.1 hj
  rcases Nat.lt_trichotomy i j with h1 | h1 | h1
  · have := List.pairwise_iff_getElem.1 h i j q1 q3 h1
    rw [q2, q4, he, ltS_irr] at this; cases this
  · subst h1; rw [hi] at hj; injection hj
  · have := List.pairwise_iff_getElem.1 h j i q3 q1 h1
    rw [q2, q4, he, ltS_irr] at this; cases this
theorem set_rises {l : List Lb} (h : isSetB l = true) : Rises l := by
  unfold isSetB at h
  rw [Bool.and_eq_true] at h
  exact ((setF_iff l none).1 h.2).2.1
theorem turned_eq {l r : List Lb} (hp : l.Perm r) (h : isSetB (mkS l) = true) : mkS r = mkS l := by
  have hr := set_rises h
  have hpp : (mkS l).Perm (mkS r) := (mkS_perm l).trans (hp.trans (mkS_perm r).symm)
  refine (List.Perm.eq_of_pairwise (fun a b ha hb h1 h2 => ?_) (rises_ws hr) (mkS_ws r) hpp).symm
  rcases ltS_tri a.1 b.1 with q | q | q
  · rw [q] at h2; cases h2
  · exact rises_inj hr a b ha (hpp.symm.subset hb) q
  · rw [q] at h1; cases h1
theorem turned_is {l r : List Lb} (hp : l.Perm r) : isSetB (mkS r) = isSetB (mkS l) ∧ mkR r = mkR l := by
  cases h : isSetB (mkS l) with
  | true =>
    have := turned_eq hp h
    exact ⟨by rw [this, h], by unfold mkR; rw [this]⟩
  | false =>
    cases h2 : isSetB (mkS r) with
    | true =>
      have := turned_eq hp.symm h2
      rw [this, h2] at h; cases h
    | false => exact ⟨rfl, by unfold mkR; rw [h, h2]; rfl⟩
theorem get_rises : ∀ {l : List Lb} {x : Lb}, Rises l → x ∈ l → getF x.1 l = x.2 := by
  intro l
  induction l with
  | nil => intro x _ hx; simp at hx
  | cons y t ih =>
    intro x h hx
    have h0 := h
    unfold Rises at h
    rw [List.pairwise_cons] at h
    unfold getF
    by_cases he : eqS y.1 x.1 = true
    · rw [if_pos he]
      have := rises_inj h0 y x List.mem_cons_self hx (eqS_iff.1 he)
      rw [this]
    · rw [if_neg he]
      rcases List.mem_cons.1 hx with rfl | hx
      · exact absurd (eqS_rfl _) he
      · exact ih h.2 hx
end Go.Proofs.Ytdpfmaimhimfcaa

namespace Go.Proofs.Ytdpfmaimhimfcaa
open Go.RowKit Go.Proofs.Ytdpfmaimhimfcaa.AM
set_option maxRecDepth 100000
set_option maxHeartbeats 4000000
noncomputable def body109 : Code := (Try.f9.body).getD .skip
def F109 : List Nat → Option (List Nat) := fun p => match p with
  | [1] => some [0, 1]
  | [1, 0, 1] => some [0, 1, 14]
  | [1, 0, 1, 0, 1] => some [4]
  | [1, 1] => some [0, 1]
  | [1, 0, 1, 1] => some [0, 1, 23]
  | [1, 1, 1] => some [0, 1]
  | [1, 1, 1, 1] => some [1000000, 0, 5]
  | [1, 0, 1, 1, 1, 1] => some [0, 5, 6]
  | [1, 0, 0, 0, 1, 0, 1, 1, 1, 1] => some [0, 5, 6, 36]
  | [1, 1, 0, 0, 0, 1, 0, 1, 1, 1, 1] => some [0, 5]
  | [1, 0, 0, 1, 0, 1, 1, 1, 1] => some [0, 5, 6]
  | [1, 1, 0, 0, 1, 0, 1, 1, 1, 1] => some [0, 5, 6]
  | [1, 1, 1, 1, 1] => some [0, 5]
  | [1, 1, 1, 1, 1, 1] => some [0, 5, 7, 8]
  | [1, 1, 1, 1, 1, 1, 1] => some [0, 7, 8, 9, 10]
  | [1, 0, 1, 1, 1, 1, 1, 1, 1] => some [0, 7, 8, 94]
  | [1, 0, 1, 0, 1, 1, 1, 1, 1, 1, 1] => some [4]
  | [1, 1, 1, 1, 1, 1, 1, 1] => some [0, 7, 8]
  | [1, 0, 1, 1, 1, 1, 1, 1, 1, 1] => some [0, 7, 8, 11]
  | [1, 0, 0, 0, 1, 0, 1, 1, 1, 1, 1, 1, 1, 1] => some [0, 7, 8, 11, 101]
  | [1, 1, 0, 0, 0, 1, 0, 1, 1, 1, 1, 1, 1, 1, 1] => some []
  | [1, 0, 0, 1, 0, 1, 1, 1, 1, 1, 1, 1, 1] => some [0, 7, 8, 11]
  | [1, 0, 0, 1, 0, 0, 1, 0, 1, 1, 1, 1, 1, 1, 1, 1] => some [0, 7, 8, 11, 116]
  | [1, 0, 1, 0, 0, 1, 0, 0, 1, 0, 1, 1, 1, 1, 1, 1, 1, 1] => some [4]
  | [1, 1, 0, 0, 1, 0, 1, 1, 1, 1, 1, 1, 1, 1] => some [0, 7, 8, 11]
  | [1, 1, 1, 1, 1, 1, 1, 1, 1] => some []
  | [1, 1, 1, 1, 1, 1, 1, 1, 1, 1] => some [4]
  | _ => none
noncomputable def S109 : Book := bookOf [(3, trueC), (14, wgtC), (27, makeLC), (26, sameC), (11, isSetC), (19, getLC)]
theorem sure109 (hm : Try.prog.follows .mixedOrders = true) : Sure Try.prog S109 := ⟨hm, plain, bookOf_ok (l := [(3, trueC), (14, wgtC), (27, makeLC), (26, sameC), (11, isSetC), (19, getLC)]) ⟨runs_holds hm, wgt_says hm, make_says hm, same_says hm, is_says hm, getk_says hm, trivial⟩⟩
noncomputable def T109 (sp : Option Nat) (n k m i : Nat) : List Value := tmps 118 [(0, .slice (some ⟨0,0,sp⟩) n k), (5, .slice (some ⟨1,0,some 1⟩) m m), (6, .int .i64 i)]
noncomputable def H109 (cs c2 : List Value) : Heap := hp [.cells cs 2 false, .cells c2 2 true]
noncomputable def G109 (sp : Option Nat) (n k m : Nat) (ok : Bool) (i : Nat) : List Value := tmps 118 [(0, .slice (some ⟨0,0,sp⟩) n k), (7, .slice (some ⟨1,0,some 1⟩) m m), (8, .bool ok), (11, .int .i64 i)]

theorem r109 (sp : Option Nat) (n k m i : Nat) (cs c2 : List Value) (K : Post) :
  roundX Try.prog S109 noLoop F109 body109 1 [] [] [] [] [0,5,6] [0,0,1,0,1,1,1,1] (T109 sp n k m i) (H109 cs c2) K = (
Alt (ltI (↑i : Int) (wr IntKind.i64 ((↑m : Int).tdiv 2)))
  (Need (leI 0 (wr IntKind.i64 (wr IntKind.i64 ((↑m : Int) - 1) - (↑i : Int))))
    (Need (ltI (wr IntKind.i64 (wr IntKind.i64 ((↑m : Int) - 1) - (↑i : Int))) (↑m : Int))
      (Need
        (isStr ((getO c2 (0 + (wr IntKind.i64 (wr IntKind.i64 ((↑m : Int) - 1) - (↑i : Int))).toNat * 2)).getD undef))
        (Need
          (isStr
            ((getO c2 (0 + (wr IntKind.i64 (wr IntKind.i64 ((↑m : Int) - 1) - (↑i : Int))).toNat * 2 + 1)).getD undef))
          (Need (ltI (↑i : Int) (↑m : Int))
            (Need (isStr ((getO c2 (0 + (↑i : Int).toNat * 2)).getD undef))
              (Need (isStr ((getO c2 (0 + (↑i : Int).toNat * 2 + 1)).getD undef))
                (Need (ltI (↑i : Int) (↑m : Int))
                  (Need (leN (0 + (↑i : Int).toNat * 2 + 2) c2.length)
                    (Need (leI 0 (wr IntKind.i64 (wr IntKind.i64 ((↑m : Int) - 1) - (↑i : Int))))
                      (Need (ltI (wr IntKind.i64 (wr IntKind.i64 ((↑m : Int) - 1) - (↑i : Int))) (↑m : Int))
                        (Need
                          (leN (0 + (wr IntKind.i64 (wr IntKind.i64 ((↑m : Int) - 1) - (↑i : Int))).toNat * 2 + 2)
                            (setAll c2 (0 + (↑i : Int).toNat * 2)
                                [Value.string
                                    (strV
                                      ((getO c2
                                            (0 +
                                              (wr IntKind.i64 (wr IntKind.i64 ((↑m : Int) - 1) - (↑i : Int))).toNat *
                                                2)).getD
                                        undef)),
                                  Value.string
                                    (strV
                                      ((getO c2
                                            (0 +
                                                (wr IntKind.i64 (wr IntKind.i64 ((↑m : Int) - 1) - (↑i : Int))).toNat *
                                                  2 +
                                              1)).getD
                                        undef))]).length)
                          (Need
                            (beqV 64
                              (Value.int IntKind.i64 (wr IntKind.i64 (wr IntKind.i64 ((↑m : Int) - 1) - (↑i : Int))))
                              (Value.int IntKind.i64 (wr IntKind.i64 (wr IntKind.i64 ((↑m : Int) - 1) - (↑i : Int)))))
                            (Need (beqV 64 (Value.int IntKind.i64 (↑i : Int)) (Value.int IntKind.i64 (↑i : Int)))
                              (Need
                                (beqV 64 (Value.int IntKind.i64 (wr IntKind.i64 ((↑m : Int) - 1)))
                                  (Value.int IntKind.i64 (wr IntKind.i64 ((↑m : Int) - 1))))
                                (Need (beqV 64 (Value.int IntKind.i64 (↑m : Int)) (Value.int IntKind.i64 (↑m : Int)))
                                  (Need
                                    (beqV 64 (Value.slice (some { block := 1, off := 0, spot := some 1 : Addr }) m m)
                                      (Value.slice (some { block := 1, off := 0, spot := some 1 : Addr }) m m))
                                    (Need
                                      (beqV 64 (Value.slice (some { block := 1, off := 0, spot := some 1 : Addr }) m m)
                                        (Value.slice (some { block := 1, off := 0, spot := some 1 : Addr }) m m))
                                      (K AE.normal
                                        (tmps 118
                                          [(0, Value.slice (some { block := 0, off := 0, spot := sp : Addr }) n k),
                                            (5, Value.slice (some { block := 1, off := 0, spot := some 1 : Addr }) m m),
                                            (6, Value.int IntKind.i64 (wr IntKind.i64 ((↑i : Int) + 1)))])
                                        (hp
                                          [Blk.cells cs 2 false,
                                            Blk.cells
                                              (setAll
                                                (setAll c2 (0 + (↑i : Int).toNat * 2)
                                                  [Value.string
                                                      (strV
                                                        ((getO c2
                                                              (0 +
                                                                (wr IntKind.i64
                                                                      (wr IntKind.i64 ((↑m : Int) - 1) -
                                                                        (↑i : Int))).toNat *
                                                                  2)).getD
                                                          undef)),
                                                    Value.string
                                                      (strV
                                                        ((getO c2
                                                              (0 +
                                                                  (wr IntKind.i64
                                                                        (wr IntKind.i64 ((↑m : Int) - 1) -
                                                                          (↑i : Int))).toNat *
                                                                    2 +
                                                                1)).getD
                                                          undef))])
                                                (0 +
                                                  (wr IntKind.i64
                                                        (wr IntKind.i64 ((↑m : Int) - 1) - (↑i : Int))).toNat *
                                                    2)
                                                [Value.string (strV ((getO c2 (0 + (↑i : Int).toNat * 2)).getD undef)),
                                                  Value.string
                                                    (strV ((getO c2 (0 + (↑i : Int).toNat * 2 + 1)).getD undef))])
                                              2 true]))))))))))))))))))))
  (K (AE.exit 0)
    (tmps 118
      [(0, Value.slice (some { block := 0, off := 0, spot := sp : Addr }) n k),
        (5, Value.slice (some { block := 1, off := 0, spot := some 1 : Addr }) m m)])
    (hp [Blk.cells cs 2 false, Blk.cells c2 2 true]))) := by kernel_rfl

theorem g109t (sp : Option Nat) (n k m i : Nat) (cs c2 : List Value) (K : Post) :
  roundX Try.prog S109 noLoop F109 body109 1 [] [] [] [] [0,7,8,11] [0,0,1,0,1,1,1,1,1,1,1,1] (G109 sp n k m true i) (H109 cs c2) K = (
Alt (ltI (↑i : Int) (↑n : Int))
  (Need (ltI (↑i : Int) (↑n : Int))
    (Need (isStr ((getO cs (0 + (↑i : Int).toNat * 2 + 0)).getD undef))
      ((FlatL c2 ∧ True) ∧
        (IsLs c2 0 m m ∧ True) ∧
          Need (ltI (↑i : Int) (↑n : Int))
            (Need (isStr ((getO cs (0 + (↑i : Int).toNat * 2 + 1)).getD undef))
              (Need (isStr ((getO cs (0 + (↑i : Int).toNat * 2 + 1)).getD undef))
                (Need
                  (beqV 64 (Value.string (strV ((getO cs (0 + (↑i : Int).toNat * 2 + 1)).getD undef)))
                    (Value.string (strV ((getO cs (0 + (↑i : Int).toNat * 2 + 1)).getD undef))))
                  (Need
                    (beqV 64 (Value.pointer (some { block := 0, off := 0 + (↑i : Int).toNat * 2 + 1 : Addr }))
                      (Value.pointer (some { block := 0, off := 0 + (↑i : Int).toNat * 2 + 1 : Addr })))
                    (Need (ltI (↑i : Int) (↑n : Int))
                      (Need
                        (beqV 64 (Value.pointer (some { block := 0, off := 0 + (↑i : Int).toNat * 2 : Addr }))
                          (Value.pointer (some { block := 0, off := 0 + (↑i : Int).toNat * 2 : Addr })))
                        (Need (beqV 64 (Value.int IntKind.i64 (↑i : Int)) (Value.int IntKind.i64 (↑i : Int)))
                          (Need
                            (beqV 64 (Value.slice (some { block := 0, off := 0, spot := sp : Addr }) n k)
                              (Value.slice (some { block := 0, off := 0, spot := sp : Addr }) n k))
                            (Alt
                              (!eqS
                                  (getF
                                    (strV (Value.string (strV ((getO cs (0 + (↑i : Int).toNat * 2 + 0)).getD undef))))
                                    (labsAt c2 0 m))
                                  (strV ((getO cs (0 + (↑i : Int).toNat * 2 + 1)).getD undef)))
                              (K AE.ret (tmps 118 [(4, Value.bool false)]) (hp [Blk.cells cs 2 false]))
                              (K AE.normal
                                (tmps 118
                                  [(0, Value.slice (some { block := 0, off := 0, spot := sp : Addr }) n k),
                                    (7, Value.slice (some { block := 1, off := 0, spot := some 1 : Addr }) m m),
                                    (8, Value.bool true),
                                    (11, Value.int IntKind.i64 (wr IntKind.i64 ((↑i : Int) + 1)))])
                                (hp [Blk.cells cs 2 false, Blk.cells c2 2 true]))))))))))))))
  (K (AE.exit 2) (tmps 118 []) (hp [Blk.cells cs 2 false]))) := by kernel_rfl

theorem g109f (sp : Option Nat) (n k m : Nat) (cs c2 : List Value) (K : Post) :
  roundX Try.prog S109 noLoop F109 body109 1 [] [] [] [] [0,7,8,11] [0,0,1,0,1,1,1,1,1,1,1,1] (G109 sp n k m false 0) (H109 cs c2) K = (
Alt (ltI 0 (↑n : Int)) (K (AE.exit 2) (tmps 118 []) (hp [Blk.cells cs 2 false]))
  (K (AE.exit 2) (tmps 118 []) (hp [Blk.cells cs 2 false]))) := by kernel_rfl

/-- turned round, so many places from each end -/
structure RevI (M : List Lb) (i : Nat) (N : List Lb) : Prop where
  len : N.length = M.length
  at_ : ∀ j, N[j]? = if j < i ∨ M.length ≤ i + j then M.reverse[j]? else M[j]?
noncomputable def cut109R (sp : Option Nat) (n k : Nat) (cs : List Value) (M : List Lb) : CutE where
  β := List Lb × Nat
  p := [0,1,0,1,1,1,1]
  t := fun x => T109 sp n k M.length x.2
  h := fun x => H109 cs (labC x.1)
  Q := fun x K => (RevI M x.2 x.1 ∧ x.2 ≤ M.length) ∧ K (.exit 0) (tmps 118 [(0, .slice (some ⟨0,0,sp⟩) n k), (5, .slice (some ⟨1,0,some 1⟩) M.length M.length)]) (H109 cs (labC M.reverse))
noncomputable def cut109G (sp : Option Nat) (k : Nat) (cs : List Value) (l : List Lb) : CutE where
  β := Bool × Nat
  p := [0,1,0,1,1,1,1,1,1,1,1]
  t := fun x => G109 sp l.length k (mkR l).length x.1 x.2
  h := fun x => H109 cs (labC (mkR l))
  Q := fun x K => (x.1 = isSetB (mkS l) ∧ x.2 ≤ l.length ∧ (x.1 = false → x.2 = 0)) ∧ K (.exit 2) (tmps 118 []) (hp [.cells cs 2 false])

structure TurnP (l M : List Lb) : Prop where
  perm : l.Perm M
  le : l.length ≤ 1000000
noncomputable def A109 (sp : Option Nat) (n k m : Nat) : List Value := tmps 118 [(0, .slice (some ⟨0,0,sp⟩) n k), (5, .slice (some ⟨1,0,some 1⟩) m m)]
noncomputable def cut109A (sp : Option Nat) (k : Nat) (cs : List Value) (l : List Lb) : CutE where
  β := List Lb
  p := [1,1,1,1]
  t := fun M => A109 sp l.length k M.length
  h := fun M => H109 cs (labC M)
  Q := fun M K => TurnP l M ∧ K .ret (tmps 118 [(4, .bool true)]) (hp [.cells cs 2 false])

theorem a109 (sp : Option Nat) (n k m : Nat) (cs c2 : List Value) (M : List Lb) (l : List Lb) (K : Post) :
  roundX Try.prog S109 (gcLKX (at0 []) (at0 []) 1 (cutE [cut109R sp n k cs M, cut109G sp k cs l])) F109 body109 1 [] [] [] [] [] [1,1,1,1] (A109 sp n k m) (H109 cs c2) K = (
FlatD [] (hp [Blk.cells cs 2 false, Blk.cells c2 2 true]) ∧
  ∃ (b : List Lb × Nat),
    tmps 118
          [(0, Value.slice (some { block := 0, off := 0, spot := sp : Addr }) n k),
            (5, Value.slice (some { block := 1, off := 0, spot := some 1 : Addr }) m m), (6, Value.int IntKind.i64 0)] =
        tmps 118
          [(0, Value.slice (some { block := 0, off := 0, spot := sp : Addr }) n k),
            (5, Value.slice (some { block := 1, off := 0, spot := some 1 : Addr }) M.length M.length),
            (6, Value.int IntKind.i64 (↑b.snd : Int))] ∧
      hp [Blk.cells cs 2 false, Blk.cells c2 2 true] = hp [Blk.cells cs 2 false, Blk.cells (labC b.fst) 2 true] ∧
        (RevI M b.snd b.fst ∧ b.snd.le M.length) ∧
          (FlatL cs ∧ True) ∧
            (IsLs cs 0 n k ∧ Need (leN n 1000000) True) ∧
              (FlatL (labC M.reverse) ∧ True) ∧
                (IsLs (labC M.reverse) 0 M.length M.length ∧ Need (leN M.length 1000000) True) ∧
                  Alt (!isSetB (mkS (labsAt cs 0 n)) == isSetB (mkS (labsAt (labC M.reverse) 0 M.length)))
                    (K AE.ret (tmps 118 [(4, Value.bool false)]) (hp [Blk.cells cs 2 false]))
                    ((FlatL (labC (mkR (labsAt cs 0 n))) ∧
                        FlatL (labC (mkR (labsAt (labC M.reverse) 0 M.length))) ∧ True) ∧
                      (IsLs (labC (mkR (labsAt cs 0 n))) 0 (mkR (labsAt cs 0 n)).length (mkR (labsAt cs 0 n)).length ∧
                          IsLs (labC (mkR (labsAt (labC M.reverse) 0 M.length))) 0
                            (mkR (labsAt (labC M.reverse) 0 M.length)).length
                            (mkR (labsAt (labC M.reverse) 0 M.length)).length) ∧
                        Alt
                          (!sameB (labsAt (labC (mkR (labsAt cs 0 n))) 0 (mkR (labsAt cs 0 n)).length)
                              (labsAt (labC (mkR (labsAt (labC M.reverse) 0 M.length))) 0
                                (mkR (labsAt (labC M.reverse) 0 M.length)).length))
                          (K AE.ret (tmps 118 [(4, Value.bool false)]) (hp [Blk.cells cs 2 false]))
                          (Alt (isSetB (mkS (labsAt cs 0 n)))
                            (Alt (!eqI (↑(mkR (labsAt cs 0 n)).length : Int) (↑n : Int))
                              (K AE.ret (tmps 118 [(4, Value.bool false)]) (hp [Blk.cells cs 2 false]))
                              ((FlatL (labC (mkR (labsAt cs 0 n))) ∧ True) ∧
                                (IsLs (labC (mkR (labsAt cs 0 n))) 0 (mkR (labsAt cs 0 n)).length
                                      (mkR (labsAt cs 0 n)).length ∧
                                    True) ∧
                                  Alt (!isSetB (labsAt (labC (mkR (labsAt cs 0 n))) 0 (mkR (labsAt cs 0 n)).length))
                                    (K AE.ret (tmps 118 [(4, Value.bool false)]) (hp [Blk.cells cs 2 false]))
                                    (FlatD []
                                        (hp [Blk.cells cs 2 false, Blk.cells (labC (mkR (labsAt cs 0 n))) 2 true]) ∧
                                      ∃ (b : Bool × Nat),
                                        tmps 118
                                              [(0, Value.slice (some { block := 0, off := 0, spot := sp : Addr }) n k),
                                                (7,
                                                  Value.slice (some { block := 1, off := 0, spot := some 1 : Addr })
                                                    (mkR (labsAt cs 0 n)).length (mkR (labsAt cs 0 n)).length),
                                                (8, Value.bool (isSetB (mkS (labsAt cs 0 n)))),
                                                (11, Value.int IntKind.i64 0)] =
                                            tmps 118
                                              [(0,
                                                  Value.slice (some { block := 0, off := 0, spot := sp : Addr })
                                                    l.length k),
                                                (7,
                                                  Value.slice (some { block := 1, off := 0, spot := some 1 : Addr })
                                                    (mkR l).length (mkR l).length),
                                                (8, Value.bool b.fst), (11, Value.int IntKind.i64 (↑b.snd : Int))] ∧
                                          hp [Blk.cells cs 2 false, Blk.cells (labC (mkR (labsAt cs 0 n))) 2 true] =
                                              hp [Blk.cells cs 2 false, Blk.cells (labC (mkR l)) 2 true] ∧
                                            (b.fst = isSetB (mkS l) ∧ b.snd.le l.length ∧ (b.fst = false → b.snd = 0)) ∧
                                              True ∧
                                                True ∧
                                                  K AE.ret (tmps 118 [(4, Value.bool true)])
                                                    (hp [Blk.cells cs 2 false]))))
                            (FlatD [] (hp [Blk.cells cs 2 false, Blk.cells (labC (mkR (labsAt cs 0 n))) 2 true]) ∧
                              ∃ (b : Bool × Nat),
                                tmps 118
                                      [(0, Value.slice (some { block := 0, off := 0, spot := sp : Addr }) n k),
                                        (7,
                                          Value.slice (some { block := 1, off := 0, spot := some 1 : Addr })
                                            (mkR (labsAt cs 0 n)).length (mkR (labsAt cs 0 n)).length),
                                        (8, Value.bool (isSetB (mkS (labsAt cs 0 n)))), (11, Value.int IntKind.i64 0)] =
                                    tmps 118
                                      [(0, Value.slice (some { block := 0, off := 0, spot := sp : Addr }) l.length k),
                                        (7,
                                          Value.slice (some { block := 1, off := 0, spot := some 1 : Addr })
                                            (mkR l).length (mkR l).length),
                                        (8, Value.bool b.fst), (11, Value.int IntKind.i64 (↑b.snd : Int))] ∧
                                  hp [Blk.cells cs 2 false, Blk.cells (labC (mkR (labsAt cs 0 n))) 2 true] =
                                      hp [Blk.cells cs 2 false, Blk.cells (labC (mkR l)) 2 true] ∧
                                    (b.fst = isSetB (mkS l) ∧ b.snd.le l.length ∧ (b.fst = false → b.snd = 0)) ∧
                                      True ∧
                                        True ∧ K AE.ret (tmps 118 [(4, Value.bool true)]) (hp [Blk.cells cs 2 false]))))) := by kernel_rfl

theorem w109 (sp : Option Nat) (n k : Nat) (cut : Int) (cs : List Value) (l : List Lb) (K : Value → Heap → Prop) :
  funX Try.prog S109 (gcLKX (at0 []) (at0 []) 1 (cutE [cut109A sp k cs l])) F109 body109 Try.f9 [] [] [.slice (some ⟨0,0,sp⟩) n k, .int .i64 cut] (hp [.cells cs 2 false]) K = (
(FlatL cs ∧ True) ∧
  (IsLs cs 0 n k ∧ True) ∧
    Alt (ltI 300 (wgtV (labsAt cs 0 n) (intV (Value.int IntKind.i64 300))))
      (True ∧ True ∧ K (Value.bool true) (hp [Blk.cells cs 2 false]))
      (Alt (ltI cut 0)
        (Need (leN (0 + (n - 0) * 2) cs.length)
          (Need (leN ((n - 0) * 32) 1099511627776)
            (Need (leN (n - 0) 1099511627776)
              (Need (leN (0 + (n - 0) * 2) (List.take ((n - 0) * 2) (List.drop 0 cs)).length)
                (Need (leN ((n - 0 + 0) * 32) 1099511627776)
                  (Need (leN (n - 0 + 0) 1099511627776)
                    (Need
                      (beqV 64
                        (Value.slice (some { block := 0, off := 0, spot := bif fullS sp then some 3 else sp : Addr }) 0
                          (k - 0))
                        (Value.slice (some { block := 0, off := 0, spot := bif fullS sp then some 3 else sp : Addr }) 0
                          (k - 0)))
                      (Need
                        (beqV 64 (Value.slice (some { block := 0, off := 0, spot := sp : Addr }) n k)
                          (Value.slice (some { block := 0, off := 0, spot := sp : Addr }) n k))
                        (FlatD []
                            (hp
                              [Blk.cells cs 2 false,
                                Blk.cells
                                  (List.take ((n - 0) * 2) (List.drop 0 (List.take ((n - 0) * 2) (List.drop 0 cs))) ++
                                    [])
                                  2 true]) ∧
                          ∃ (b : List Lb),
                            tmps 118
                                  [(0, Value.slice (some { block := 0, off := 0, spot := sp : Addr }) n k),
                                    (5,
                                      Value.slice (some { block := 1, off := 0, spot := some 1 : Addr }) (n - 0 + 0)
                                        (n - 0 + 0))] =
                                tmps 118
                                  [(0, Value.slice (some { block := 0, off := 0, spot := sp : Addr }) l.length k),
                                    (5,
                                      Value.slice (some { block := 1, off := 0, spot := some 1 : Addr }) b.length
                                        b.length)] ∧
                              hp
                                    [Blk.cells cs 2 false,
                                      Blk.cells
                                        (List.take ((n - 0) * 2)
                                            (List.drop 0 (List.take ((n - 0) * 2) (List.drop 0 cs))) ++
                                          [])
                                        2 true] =
                                  hp [Blk.cells cs 2 false, Blk.cells (labC b) 2 true] ∧
                                TurnP l b ∧ K (Value.bool true) (hp [Blk.cells cs 2 false]))))))))))
        (Alt (ltI (↑n : Int) cut)
          (Need (leN (0 + (n - 0) * 2) cs.length)
            (Need (leN ((n - 0) * 32) 1099511627776)
              (Need (leN (n - 0) 1099511627776)
                (Need (leN (0 + (n - 0) * 2) (List.take ((n - 0) * 2) (List.drop 0 cs)).length)
                  (Need (leN ((n - 0 + 0) * 32) 1099511627776)
                    (Need (leN (n - 0 + 0) 1099511627776)
                      (Need
                        (beqV 64
                          (Value.slice (some { block := 0, off := 0, spot := bif fullS sp then some 3 else sp : Addr })
                            0 (k - 0))
                          (Value.slice (some { block := 0, off := 0, spot := bif fullS sp then some 3 else sp : Addr })
                            0 (k - 0)))
                        (Need
                          (beqV 64 (Value.slice (some { block := 0, off := 0, spot := sp : Addr }) n k)
                            (Value.slice (some { block := 0, off := 0, spot := sp : Addr }) n k))
                          (FlatD []
                              (hp
                                [Blk.cells cs 2 false,
                                  Blk.cells
                                    (List.take ((n - 0) * 2) (List.drop 0 (List.take ((n - 0) * 2) (List.drop 0 cs))) ++
                                      [])
                                    2 true]) ∧
                            ∃ (b : List Lb),
                              tmps 118
                                    [(0, Value.slice (some { block := 0, off := 0, spot := sp : Addr }) n k),
                                      (5,
                                        Value.slice (some { block := 1, off := 0, spot := some 1 : Addr }) (n - 0 + 0)
                                          (n - 0 + 0))] =
                                  tmps 118
                                    [(0, Value.slice (some { block := 0, off := 0, spot := sp : Addr }) l.length k),
                                      (5,
                                        Value.slice (some { block := 1, off := 0, spot := some 1 : Addr }) b.length
                                          b.length)] ∧
                                hp
                                      [Blk.cells cs 2 false,
                                        Blk.cells
                                          (List.take ((n - 0) * 2)
                                              (List.drop 0 (List.take ((n - 0) * 2) (List.drop 0 cs))) ++
                                            [])
                                          2 true] =
                                    hp [Blk.cells cs 2 false, Blk.cells (labC b) 2 true] ∧
                                  TurnP l b ∧ K (Value.bool true) (hp [Blk.cells cs 2 false]))))))))))
          (Need (leI 0 cut)
            (Need (leI cut (↑n : Int))
              (Need (leN (0 + cut.toNat * 2 + (n - cut.toNat) * 2) cs.length)
                (Need (leN ((n - cut.toNat) * 32) 1099511627776)
                  (Need (leN (n - cut.toNat) 1099511627776)
                    (Need (leI 0 cut)
                      (Need (leI cut (↑k : Int))
                        (Need (leN (0 + (cut.toNat - 0) * 2) cs.length)
                          (Need
                            (leN (0 + (n - cut.toNat) * 2)
                              (List.take ((n - cut.toNat) * 2) (List.drop (0 + cut.toNat * 2) cs)).length)
                            (Need (leN ((n - cut.toNat + (cut.toNat - 0)) * 32) 1099511627776)
                              (Need (leN (n - cut.toNat + (cut.toNat - 0)) 1099511627776)
                                (Need ((List.take ((cut.toNat - 0) * 2) (List.drop 0 cs)).all oneV)
                                  (Need (leI 0 cut)
                                    (Need (leI cut (↑k : Int))
                                      (Need
                                        (beqV 64
                                          (Value.slice
                                            (some
                                              { block := 0, off := 0, spot := bif fullS sp then some 3 else sp : Addr })
                                            (cut.toNat - 0) (k - 0))
                                          (Value.slice
                                            (some
                                              { block := 0, off := 0, spot := bif fullS sp then some 3 else sp : Addr })
                                            (cut.toNat - 0) (k - 0)))
                                        (Need (beqV 64 (Value.int IntKind.i64 cut) (Value.int IntKind.i64 cut))
                                          (Need
                                            (beqV 64
                                              (Value.slice (some { block := 0, off := 0, spot := sp : Addr }) n k)
                                              (Value.slice (some { block := 0, off := 0, spot := sp : Addr }) n k))
                                            (FlatD []
                                                (hp
                                                  [Blk.cells cs 2 false,
                                                    Blk.cells
                                                      (List.take ((n - cut.toNat) * 2)
                                                          (List.drop 0
                                                            (List.take ((n - cut.toNat) * 2)
                                                              (List.drop (0 + cut.toNat * 2) cs))) ++
                                                        List.take ((cut.toNat - 0) * 2) (List.drop 0 cs))
                                                      2 true]) ∧
                                              ∃ (b : List Lb),
                                                tmps 118
                                                      [(0,
                                                          Value.slice (some { block := 0, off := 0, spot := sp : Addr })
                                                            n k),
                                                        (5,
                                                          Value.slice
                                                            (some { block := 1, off := 0, spot := some 1 : Addr })
                                                            (n - cut.toNat + (cut.toNat - 0))
                                                            (n - cut.toNat + (cut.toNat - 0)))] =
                                                    tmps 118
                                                      [(0,
                                                          Value.slice (some { block := 0, off := 0, spot := sp : Addr })
                                                            l.length k),
                                                        (5,
                                                          Value.slice
                                                            (some { block := 1, off := 0, spot := some 1 : Addr })
                                                            b.length b.length)] ∧
                                                  hp
                                                        [Blk.cells cs 2 false,
                                                          Blk.cells
                                                            (List.take ((n - cut.toNat) * 2)
                                                                (List.drop 0
                                                                  (List.take ((n - cut.toNat) * 2)
                                                                    (List.drop (0 + cut.toNat * 2) cs))) ++
                                                              List.take ((cut.toNat - 0) * 2) (List.drop 0 cs))
                                                            2 true] =
                                                      hp [Blk.cells cs 2 false, Blk.cells (labC b) 2 true] ∧
                                                    TurnP l b ∧
                                                      K (Value.bool true)
                                                        (hp [Blk.cells cs 2 false])))))))))))))))))))))) := by kernel_rfl

end Go.Proofs.Ytdpfmaimhimfcaa
