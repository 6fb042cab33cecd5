/- Proved: what functions of the program come to, by their conditions over the abstract machine. Conditions: those that each theorem states. -/
import Derived.Test.YtdpfmaimhimfcaaCh1
set_option linter.unusedVariables false
set_option linter.unusedSimpArgs false
namespace Go.Proofs.Ytdpfmaimhimfcaa
open Go.RowKit Go.Proofs.Ytdpfmaimhimfcaa.AM
set_option maxRecDepth 100000
set_option maxHeartbeats 4000000
noncomputable def S42 : Book := bookOf [(20, getLC), (28, mksetC), (34, knameC), (35, withinC), (36, kvalC)]
theorem sure42 (hmix : Try.prog.follows .mixedOrders = true) : Sure Try.prog S42 := ⟨hmix, plain, bookOf_ok ⟨getl_says hmix, mkset_says hmix, kname_says hmix, within_says hmix, kval_says hmix, trivial⟩⟩
noncomputable def T121 (a : Value) (m i : Nat) : List Value := tmps 54 [(0, a), (3, .slice (some ⟨1,0,some 1⟩) m m), (4, .int .i64 i)]

theorem r121 (cs c2 : List Value) (own : Bool) (o : Nat) (sp : Option Nat) (len cap m i : Nat) (K : Post) :
  roundX Try.prog S42 noLoop F121 body121 1 [] [] [] [] [0,3,4] [0,0,1,0,1,1] (T121 (.slice (some ⟨0,o,sp⟩) len cap) m i) (hp [.cells cs 1 own, .cells c2 2 true]) K = (
Alt (ltI (↑i : Int) (↑len : Int))
  (Alt (ltI (↑i : Int) 5)
    (Need (ltI (↑i : Int) (↑len : Int))
      (Need (isInt IntKind.i64 ((getO cs (o + (↑i : Int).toNat * 1)).getD undef))
        (True ∧
          True ∧
            True ∧
              Need (leI 0 (0 + intV ((getO cs (o + (↑i : Int).toNat * 1)).getD undef) % 5))
                  (Need (leI (0 + intV ((getO cs (o + (↑i : Int).toNat * 1)).getD undef) % 5) 4) True) ∧
                Need (ltI (↑i : Int) (↑len : Int))
                  (Need (isInt IntKind.i64 ((getO cs (o + (↑i : Int).toNat * 1)).getD undef))
                    (True ∧
                      True ∧
                        True ∧
                          Need
                              (leI 0
                                (0 +
                                  wr IntKind.i64 ((intV ((getO cs (o + (↑i : Int).toNat * 1)).getD undef)).tdiv 5) % 7))
                              (Need
                                (leI
                                  (0 +
                                    wr IntKind.i64 ((intV ((getO cs (o + (↑i : Int).toNat * 1)).getD undef)).tdiv 5) %
                                      7)
                                  6)
                                True) ∧
                            Need
                              (beqV 64
                                (Value.int IntKind.i64
                                  (wr IntKind.i64 ((intV ((getO cs (o + (↑i : Int).toNat * 1)).getD undef)).tdiv 5)))
                                (Value.int IntKind.i64
                                  (wr IntKind.i64 ((intV ((getO cs (o + (↑i : Int).toNat * 1)).getD undef)).tdiv 5))))
                              (Need
                                (beqV 64
                                  (Value.int IntKind.i64
                                    (wr IntKind.i64 ((intV ((getO cs (o + (↑i : Int).toNat * 1)).getD undef)).tdiv 5)))
                                  (Value.int IntKind.i64
                                    (wr IntKind.i64 ((intV ((getO cs (o + (↑i : Int).toNat * 1)).getD undef)).tdiv 5))))
                                (Need (isInt IntKind.i64 ((getO cs (o + (↑i : Int).toNat * 1)).getD undef))
                                  (Need
                                    (beqV 64
                                      (Value.int IntKind.i64 (intV ((getO cs (o + (↑i : Int).toNat * 1)).getD undef)))
                                      (Value.int IntKind.i64 (intV ((getO cs (o + (↑i : Int).toNat * 1)).getD undef))))
                                    (Need (isInt IntKind.i64 ((getO cs (o + (↑i : Int).toNat * 1)).getD undef))
                                      (Need
                                        (beqV 64
                                          (Value.int IntKind.i64
                                            (intV ((getO cs (o + (↑i : Int).toNat * 1)).getD undef)))
                                          (Value.int IntKind.i64
                                            (intV ((getO cs (o + (↑i : Int).toNat * 1)).getD undef))))
                                        (Need (ltI (↑i : Int) (↑len : Int))
                                          (Need
                                            (beqV 64
                                              (Value.pointer (some { block := 0, off := o + (↑i : Int).toNat * 1 }))
                                              (Value.pointer (some { block := 0, off := o + (↑i : Int).toNat * 1 })))
                                            (Need (ltI (↑i : Int) (↑len : Int))
                                              (Need
                                                (beqV 64
                                                  (Value.pointer (some { block := 0, off := o + (↑i : Int).toNat * 1 }))
                                                  (Value.pointer
                                                    (some { block := 0, off := o + (↑i : Int).toNat * 1 })))
                                                (Need
                                                  (beqV 64 (Value.int IntKind.i64 (↑i : Int))
                                                    (Value.int IntKind.i64 (↑i : Int)))
                                                  (Need
                                                    (beqV 64 (Value.int IntKind.i64 (↑i : Int))
                                                      (Value.int IntKind.i64 (↑i : Int)))
                                                    (Need
                                                      (beqV 64
                                                        (Value.slice (some { block := 0, off := o, spot := sp }) len
                                                          cap)
                                                        (Value.slice (some { block := 0, off := o, spot := sp }) len
                                                          cap))
                                                      (Need
                                                        (beqV 64
                                                          (Value.slice (some { block := 0, off := o, spot := sp }) len
                                                            cap)
                                                          (Value.slice (some { block := 0, off := o, spot := sp }) len
                                                            cap))
                                                        ((FlatL c2 ∧ True) ∧
                                                          (IsLs c2 0 m m ∧ True) ∧
                                                            Alt
                                                              (eqS
                                                                (getF
                                                                  (strV
                                                                    (Value.string
                                                                      (strV
                                                                        (Value.string
                                                                          (nameS
                                                                            (0 +
                                                                              intV
                                                                                  ((getO cs
                                                                                        (o + (↑i : Int).toNat * 1)).getD
                                                                                    undef) %
                                                                                5))))))
                                                                  (labsAt c2 0 m))
                                                                { data := #[] })
                                                              (Need (leN (0 + m * 2) c2.length)
                                                                (Need (leN ((m + 1) * 32) 1099511627776)
                                                                  (Need (leN (m + 1) 1099511627776)
                                                                    (K AE.normal
                                                                      (tmps 54
                                                                        [(0,
                                                                            Value.slice
                                                                              (some
                                                                                { block := 0, off := o, spot := sp })
                                                                              len cap),
                                                                          (3,
                                                                            Value.slice
                                                                              (some
                                                                                { block := 1, off := 0,
                                                                                  spot := some 1 })
                                                                              (m + 1) (m + 1)),
                                                                          (4,
                                                                            Value.int IntKind.i64
                                                                              (wr IntKind.i64 ((↑i : Int) + 1)))])
                                                                      (hp
                                                                        [Blk.cells cs 1 own,
                                                                          Blk.cells
                                                                            (List.take (m * 2) (List.drop 0 c2) ++
                                                                              [Value.string
                                                                                  (strV
                                                                                    (Value.string
                                                                                      (nameS
                                                                                        (0 +
                                                                                          intV
                                                                                              ((getO cs
                                                                                                    (o +
                                                                                                      (↑i : Int).toNat *
                                                                                                        1)).getD
                                                                                                undef) %
                                                                                            5)))),
                                                                                Value.string
                                                                                  (strV
                                                                                    (Value.string
                                                                                      (valS
                                                                                        (0 +
                                                                                          wr IntKind.i64
                                                                                              ((intV
                                                                                                    ((getO cs
                                                                                                          (o +
                                                                                                            (↑i :
                                                                                                                  Int).toNat *
                                                                                                              1)).getD
                                                                                                      undef)).tdiv
                                                                                                5) %
                                                                                            7))))])
                                                                            2 true])))))
                                                              (K AE.normal
                                                                (tmps 54
                                                                  [(0,
                                                                      Value.slice
                                                                        (some { block := 0, off := o, spot := sp }) len
                                                                        cap),
                                                                    (3,
                                                                      Value.slice
                                                                        (some { block := 1, off := 0, spot := some 1 })
                                                                        m m),
                                                                    (4,
                                                                      Value.int IntKind.i64
                                                                        (wr IntKind.i64 ((↑i : Int) + 1)))])
                                                                (hp
                                                                  [Blk.cells cs 1 own,
                                                                    Blk.cells c2 2 true])))))))))))))))))))))
    (K (AE.exit 0) (tmps 54 [(3, Value.slice (some { block := 1, off := 0, spot := some 1 }) m m)])
      (hp [Blk.cells cs 1 own, Blk.cells c2 2 true])))
  (K (AE.exit 0) (tmps 54 [(3, Value.slice (some { block := 1, off := 0, spot := some 1 }) m m)])
    (hp [Blk.cells cs 1 own, Blk.cells c2 2 true]))) := by kernel_rfl

theorem w121 (cs : List Value) (own : Bool) (o : Nat) (sp : Option Nat) (len cap : Nat) (c2 : List Value) (m : Nat) (K : Value → Heap → Prop) :
  funX Try.prog S42 (gcLKX (at0 []) (at0 [.tmp 3 2]) 1 (cutLK [⟨[0,1,0,1,1], T121 (.slice (some ⟨0,o,sp⟩) len cap) 0 0, hp [.cells cs 1 own, .cells [] 2 true], fun K => K (.exit 0) (tmps 54 [(3, .slice (some ⟨1,0,some 1⟩) m m)]) (hp [.cells cs 1 own, .cells c2 2 true])⟩])) F121 body121 Try.f21 [] [.tmp 0 2] [.slice (some ⟨0,o,sp⟩) len cap] (hp [.cells cs 1 own]) K = (
FlatD [] (hp [Blk.cells cs 1 own, Blk.cells [] 2 true]) ∧
  tmps 54
        [(0, Value.slice (some { block := 0, off := o, spot := sp }) len cap),
          (3, Value.slice (some { block := 1, off := 0, spot := some 1 }) 0 0), (4, Value.int IntKind.i64 0)] =
      tmps 54
        [(0, Value.slice (some { block := 0, off := o, spot := sp }) len cap),
          (3, Value.slice (some { block := 1, off := 0, spot := some 1 }) 0 0), (4, Value.int IntKind.i64 0)] ∧
    hp [Blk.cells cs 1 own, Blk.cells [] 2 true] = hp [Blk.cells cs 1 own, Blk.cells [] 2 true] ∧
      Alt (eqI (↑m : Int) 0)
        (Need (leN (0 + m * 2) c2.length)
          (Need (leN ((m + 1) * 32) 1099511627776)
            (Need (leN (m + 1) 1099511627776)
              ((FlatL
                    (List.take (m * 2) (List.drop 0 c2) ++
                      [Value.string { data := #[OfNat.ofNat 115, OfNat.ofNat 101, OfNat.ofNat 118] },
                        Value.string { data := #[OfNat.ofNat 97] }]) ∧
                  True) ∧
                (IsLs
                      (List.take (m * 2) (List.drop 0 c2) ++
                        [Value.string { data := #[OfNat.ofNat 115, OfNat.ofNat 101, OfNat.ofNat 118] },
                          Value.string { data := #[OfNat.ofNat 97] }])
                      0 (m + 1) (m + 1) ∧
                    Need (leN (m + 1) 1000000) True) ∧
                  K
                    (Value.slice (some { block := 1, off := 0, spot := some 1 })
                      (mkR
                          (labsAt
                            (List.take (m * 2) (List.drop 0 c2) ++
                              [Value.string { data := #[OfNat.ofNat 115, OfNat.ofNat 101, OfNat.ofNat 118] },
                                Value.string { data := #[OfNat.ofNat 97] }])
                            0 (m + 1))).length
                      (mkR
                          (labsAt
                            (List.take (m * 2) (List.drop 0 c2) ++
                              [Value.string { data := #[OfNat.ofNat 115, OfNat.ofNat 101, OfNat.ofNat 118] },
                                Value.string { data := #[OfNat.ofNat 97] }])
                            0 (m + 1))).length)
                    (hp
                      [Blk.cells cs 1 own,
                        Blk.cells
                          (labC
                            (mkR
                              (labsAt
                                (List.take (m * 2) (List.drop 0 c2) ++
                                  [Value.string { data := #[OfNat.ofNat 115, OfNat.ofNat 101, OfNat.ofNat 118] },
                                    Value.string { data := #[OfNat.ofNat 97] }])
                                0 (m + 1))))
                          2 true])))))
        ((FlatL c2 ∧ True) ∧
          (IsLs c2 0 m m ∧ Need (leN m 1000000) True) ∧
            K
              (Value.slice (some { block := 1, off := 0, spot := some 1 }) (mkR (labsAt c2 0 m)).length
                (mkR (labsAt c2 0 m)).length)
              (hp [Blk.cells cs 1 own, Blk.cells (labC (mkR (labsAt c2 0 m))) 2 true]))) := by kernel_rfl

def addK (L : List Lb) (n : Int) : List Lb := if eqS (getF (nameS (n % 5)) L) ⟨#[]⟩ = true then L ++ [(nameS (n % 5), valS (n.tdiv 5 % 7))] else L
def keepS (l : List Int) : List Lb := (l.take 5).foldl addK []
def keepO (l : List Int) : List Lb := if (keepS l).length = 0 then [(nameS 0, valS 0)] else keepS l
theorem addK_small {L : List Lb} (h : Small L) (n : Int) : Small (addK L n) := by
  unfold addK
  split
  · intro x hx
    rcases List.mem_append.1 hx with hx | hx
    · exact h x hx
    · simp at hx
      subst hx
      obtain ⟨a, _⟩ := few_facts (n % 5)
      obtain ⟨_, _, b, _⟩ := few_facts (n.tdiv 5 % 7)
      exact ⟨by show (nameS _).size ≤ _; omega, by show (valS _).size ≤ _; omega⟩
  · exact h
theorem addK_len (L : List Lb) (n : Int) : (addK L n).length ≤ L.length + 1 := by unfold addK; split <;> simp
theorem keepS_small (l : List Int) : ∀ L : List Lb, Small L → Small (l.foldl addK L) ∧ (l.foldl addK L).length ≤ L.length + l.length := by
  induction l with
  | nil => intro L h; exact ⟨h, Nat.le_refl _⟩
  | cons x l ih =>
    intro L h
    obtain ⟨a, b⟩ := ih _ (addK_small h x)
    have := addK_len L x
    rw [List.foldl_cons]
    exact ⟨a, by simp; omega⟩
theorem tdiv5 (n : Int) (h : ZP .i64 n) : wr .i64 (n.tdiv 5) = n.tdiv 5 := by
  have := ZP.i64.1 h
  refine wr_i64 _ ?_ ?_ <;> (rcases Int.le_total 0 n with h | h)
  · have := Int.tdiv_nonneg h (show (0 : Int) ≤ 5 by decide); omega
  · have : -n.tdiv 5 = (-n).tdiv 5 := (Int.neg_tdiv n 5).symm
    have : (-n).tdiv 5 = (-n) / 5 := Int.tdiv_eq_ediv_of_nonneg (by omega)
    omega
  · have : n.tdiv 5 = n / 5 := Int.tdiv_eq_ediv_of_nonneg h
    omega
  · have : -n.tdiv 5 = (-n).tdiv 5 := (Int.neg_tdiv n 5).symm
    have : (-n).tdiv 5 = (-n) / 5 := Int.tdiv_eq_ediv_of_nonneg (by omega)
    omega
theorem keep_loop (hmix : Try.prog.follows .mixedOrders = true) (l : List Int) (cs : List Value) (own : Bool) (o : Nat) (sp : Option Nat) (cap : Nat) (hB : ESl (iE .i64) (ZP .i64) cs o l) (K : Post) : ∀ (t : List Int) (i : Nat) (L : List Lb), (l.take 5).drop i = t → i ≤ 5 → i ≤ l.length → Small L → L.length + t.length ≤ 5 →
    K (.exit 0) (tmps 54 [(3, .slice (some ⟨1,0,some 1⟩) (t.foldl addK L).length (t.foldl addK L).length)]) (hp [.cells cs 1 own, .cells (labC (t.foldl addK L)) 2 true]) →
    LSays Try.prog 1 (sub body121 [0,0,1,0,1,1]) (T121 (.slice (some ⟨0,o,sp⟩) l.length cap) L.length i) (hp [.cells cs 1 own, .cells (labC L) 2 true]) K := by
  have hsh := hB.short
  intro t
  induction t with
  | nil =>
    intro i L ht hi5 hi hs hL hK
    have hF : FlatD [] (hp [.cells cs 1 own, .cells (labC L) 2 true]) := FlatD.hp ⟨hB.flat, labC_flat L, trivial⟩
    have hge := List.drop_eq_nil_iff.1 ht
    rw [List.length_take] at hge
    refine (sure42 hmix).roundX F121 noLoops [] [] [] [] [0,3,4] ?_
    rw [r121]
    by_cases h1 : (i : Int) < (l.length : Int)
    · simp only [h1, show ¬ ((i : Int) < 5) by omega, hF, Alt_iff, Need_iff, ltI_eq, leI_eq, eqI_eq, leN_eq, eqN_eq, decide_eq_true_eq, decide_eq_false_iff_not, decide_true, decide_false, true_and, and_true, Bool.true_eq_false, Bool.false_eq_true, false_implies, true_implies, implies_true, not_true_eq_false, not_false_eq_true, Bool.not_eq_true', Bool.not_eq_false', Nat.zero_add, Nat.add_zero, Nat.sub_zero, Nat.zero_mul, Nat.mul_one, Int.toNat_natCast, List.drop_zero, beqV_int, beqV_sl, beqV_str, beqV_bool, beqV_ptr, beqV_flt, beqV_agg, beqV_tuple, List.all_cons, List.all_nil, Bool.and_self, Bool.and_true, Bool.true_and, Nat.le_refl, Int.le_refl, Nat.zero_le, Option.getD_some, isStr, strV, isInt, intV, isBool, boolV, kindEq, at0, Nat.add_sub_cancel_left, Nat.add_sub_cancel]; exact hK
    · simp only [h1, hF, Alt_iff, Need_iff, ltI_eq, leI_eq, eqI_eq, leN_eq, eqN_eq, decide_eq_true_eq, decide_eq_false_iff_not, decide_true, decide_false, true_and, and_true, Bool.true_eq_false, Bool.false_eq_true, false_implies, true_implies, implies_true, not_true_eq_false, not_false_eq_true, Bool.not_eq_true', Bool.not_eq_false', Nat.zero_add, Nat.add_zero, Nat.sub_zero, Nat.zero_mul, Nat.mul_one, Int.toNat_natCast, List.drop_zero, beqV_int, beqV_sl, beqV_str, beqV_bool, beqV_ptr, beqV_flt, beqV_agg, beqV_tuple, List.all_cons, List.all_nil, Bool.and_self, Bool.and_true, Bool.true_and, Nat.le_refl, Int.le_refl, Nat.zero_le, Option.getD_some, isStr, strV, isInt, intV, isBool, boolV, kindEq, at0, Nat.add_sub_cancel_left, Nat.add_sub_cancel]; exact hK
  | cons x t ih =>
    intro i L ht hi5 hi hs hL hK
    obtain ⟨hlt, hx, hd⟩ := cons_of_drop ht
    rw [List.length_take] at hlt
    rw [List.getElem?_take, if_pos (by omega)] at hx
    have hl2 : (i : Int) < (l.length : Int) := by omega
    have hg1 := hB.cell i x hx
    have hzx := hB.ok x (List.mem_of_getElem? hx)
    have hF : FlatD [] (hp [.cells cs 1 own, .cells (labC L) 2 true]) := FlatD.hp ⟨hB.flat, labC_flat L, trivial⟩
    have hF2 : ∀ L, FlatD [] (hp [.cells cs 1 own, .cells (labC L) 2 true]) := fun L => FlatD.hp ⟨hB.flat, labC_flat L, trivial⟩
    simp only [List.length_cons] at hL
    have hls : LSl (labC L) 0 L := labC_ls L hs (by omega)
    have hat : labsAt (labC L) 0 L.length = L := hls.labsAt
    have hil : IsLs (labC L) 0 L.length L.length := ⟨L, rfl, Nat.le_refl _, hls⟩
    have hfl := labC_flat L
    have hlen := labC_len L
    have next := ih (i + 1) (addK L x) hd (by omega) (by omega) (addK_small hs x) (by have := addK_len L x; omega) hK
    refine (sure42 hmix).roundX F121 noLoops [] [] [] [] [0,3,4] ?_
    rw [r121]
    simp only [hl2, show ((i : Int) < 5) by omega, hg1, iE, tdiv5 x hzx, hat, hil, hfl, hF, Int.zero_add, nx i (by omega), Alt_iff, Need_iff, ltI_eq, leI_eq, eqI_eq, leN_eq, eqN_eq, decide_eq_true_eq, decide_eq_false_iff_not, decide_true, decide_false, true_and, and_true, Bool.true_eq_false, Bool.false_eq_true, false_implies, true_implies, implies_true, not_true_eq_false, not_false_eq_true, Bool.not_eq_true', Bool.not_eq_false', Nat.zero_add, Nat.add_zero, Nat.sub_zero, Nat.zero_mul, Nat.mul_one, Int.toNat_natCast, List.drop_zero, beqV_int, beqV_sl, beqV_str, beqV_bool, beqV_ptr, beqV_flt, beqV_agg, beqV_tuple, List.all_cons, List.all_nil, Bool.and_self, Bool.and_true, Bool.true_and, Nat.le_refl, Int.le_refl, Nat.zero_le, Option.getD_some, isStr, strV, isInt, intV, isBool, boolV, kindEq, at0, Nat.add_sub_cancel_left, Nat.add_sub_cancel]
    have hm1 := Int.emod_nonneg x (show (5 : Int) ≠ 0 by decide)
    have hm2 := Int.emod_lt_of_pos x (show (0 : Int) < 5 by decide)
    have hm3 := Int.emod_nonneg (x.tdiv 5) (show (7 : Int) ≠ 0 by decide)
    have hm4 := Int.emod_lt_of_pos (x.tdiv 5) (show (0 : Int) < 7 by decide)
    refine ⟨by omega, by omega, fun h => ?_, fun h => ?_⟩
    · have e : addK L x = L ++ [(nameS (x % 5), valS (x.tdiv 5 % 7))] := by unfold addK; rw [if_pos h]
      rw [e] at next
      rw [← hlen, List.take_length]
      have hc : labC (L ++ [(nameS (x % 5), valS (x.tdiv 5 % 7))]) = labC L ++ [Value.string (nameS (x % 5)), Value.string (valS (x.tdiv 5 % 7))] := labC_append _ _
      rw [← hc]
      simp only [List.length_append, List.length_cons, List.length_nil] at next
      exact ⟨by omega, by omega, by omega, hF2 _, next⟩
    · have e : addK L x = L := by unfold addK; rw [if_neg (by rw [h]; simp)]
      rw [e] at next
      exact next
theorem keepO_small (l : List Int) : Small (keepO l) ∧ (keepO l).length ≤ 6 := by
  obtain ⟨a, b⟩ := keepS_small (l.take 5) [] small_nil
  rw [List.length_take] at b
  unfold keepO
  split
  · refine ⟨fun x hx => ?_, by simp⟩
    simp at hx; subst hx; exact ⟨by decide, by decide⟩
  · exact ⟨a, by unfold keepS; simp at b; omega⟩
noncomputable def okE (cs : List Value) (o len cap : Nat) : Prop := IsE (iE .i64) (ZP .i64) cs o len cap
noncomputable def keepC : Ctr where
  pre := fun args blks => match args, blks with
    | [.slice (some ⟨0, o, _⟩) len cap], [.cells cs 1 _] => okE cs o len cap
    | _, _ => False
  val := fun args blks => match args, blks with
    | [.slice (some ⟨0, o, _⟩) len _], [.cells cs 1 _] => .slice (some ⟨1,0,some 1⟩) (mkR (keepO (elAt intV cs o len))).length (mkR (keepO (elAt intV cs o len))).length
    | _, _ => .bool false
  new := fun args blks => match args, blks with
    | [.slice (some ⟨0, o, _⟩) len _], [.cells cs 1 _] => [.cells (labC (mkR (keepO (elAt intV cs o len)))) 2 true]
    | _, _ => []
theorem keep_says (hmix : Try.prog.follows .mixedOrders = true) : keepC.Holds Try.prog 21 := by
  intro args blks hf hp
  simp only [keepC] at hp ⊢
  split at hp
  · rename_i o sp len cap cs own
    obtain ⟨l, rfl, hc, hB⟩ := hp
    simp only [hB.elAt (dec := intV) (fun _ => rfl)]
    refine ⟨⟨labC_flat _, trivial⟩, ?_⟩
    have hF : ∀ L, FlatD [] (AM.hp [.cells cs 1 own, .cells (labC L) 2 true]) := fun L => FlatD.hp ⟨hB.flat, labC_flat L, trivial⟩
    obtain ⟨k1, k2⟩ := keepS_small (l.take 5) [] small_nil
    obtain ⟨k3, k4⟩ := keepO_small l
    have hL : Loops Try.prog body121 1 (cutLK [⟨[0,1,0,1,1], T121 (.slice (some ⟨0,o,sp⟩) l.length cap) 0 0, AM.hp [.cells cs 1 own, .cells [] 2 true], fun K => K (.exit 0) (tmps 54 [(3, .slice (some ⟨1,0,some 1⟩) (keepS l).length (keepS l).length)]) (AM.hp [.cells cs 1 own, .cells (labC (keepS l)) 2 true])⟩]) := Loops.none.more _ fun K hK => by
      show LSays Try.prog _ (sub body121 [0,0,1,0,1,1]) _ _ _
      exact keep_loop hmix l cs own o sp cap hB K (l.take 5) 0 [] rfl (by omega) (by omega) small_nil (by simp; omega) hK
    rw [List.length_take] at k2
    have k2 : (keepS l).length ≤ 5 := by unfold keepS; simp at k2; omega
    refine (sure42 hmix).funX F121 body121 [] [.tmp 0 2] Try.func21 rfl (hL.gcX (at0 []) (at0 [.tmp 3 2])) ?_
    rw [w121]
    refine ⟨hF [], rfl, rfl, ?_⟩
    simp only [Alt_iff, Need_iff, ltI_eq, leI_eq, eqI_eq, leN_eq, eqN_eq, decide_eq_true_eq, decide_eq_false_iff_not, decide_true, decide_false, true_and, and_true, Bool.true_eq_false, Bool.false_eq_true, false_implies, true_implies, implies_true, not_true_eq_false, not_false_eq_true, Bool.not_eq_true', Bool.not_eq_false', Nat.zero_add, Nat.add_zero, Nat.sub_zero, Nat.zero_mul, Nat.mul_one, Int.toNat_natCast, List.drop_zero, beqV_int, beqV_sl, beqV_str, beqV_bool, beqV_ptr, beqV_flt, beqV_agg, beqV_tuple, List.all_cons, List.all_nil, Bool.and_self, Bool.and_true, Bool.true_and, Nat.le_refl, Int.le_refl, Nat.zero_le, Option.getD_some, isStr, strV, isInt, intV, isBool, boolV, kindEq, at0, Nat.add_sub_cancel_left, Nat.add_sub_cancel]
    have fin : ∀ L : List Lb, L = keepO l → IsLs (labC L) 0 L.length L.length ∧ labsAt (labC L) 0 L.length = L := fun L e => by
      have hs : LSl (labC L) 0 L := labC_ls L (by rw [e]; exact k3) (by rw [e]; omega)
      exact ⟨⟨L, rfl, Nat.le_refl _, hs⟩, hs.labsAt⟩
    refine ⟨fun h0 => ?_, fun h0 => ?_⟩
    · have h0 : (keepS l).length = 0 := by omega
      have e : keepO l = [(nameS 0, valS 0)] := by unfold keepO; rw [if_pos h0]
      obtain ⟨f1, f2⟩ := fin [(nameS 0, valS 0)] e.symm
      rw [h0, Nat.zero_mul, List.take_zero, e]
      change IsLs _ 0 1 1 at f1
      have f2 : labsAt ([] ++ [Value.string ⟨#[115, 101, 118]⟩, Value.string ⟨#[97]⟩]) 0 (0 + 1) = [(nameS 0, valS 0)] := f2
      rw [f2]
      and_intros <;> first | omega | exact labC_flat [(nameS 0, valS 0)] | exact f1 | exact hF _ | rfl
    · have e : keepO l = keepS l := by unfold keepO; rw [if_neg (by omega)]
      obtain ⟨f1, f2⟩ := fin (keepS l) e.symm
      rw [f2, e]
      and_intros <;> first | omega | exact labC_flat _ | exact f1 | exact hF _ | rfl
  · exact hp.elim
end Go.Proofs.Ytdpfmaimhimfcaa

namespace Go.Proofs.Ytdpfmaimhimfcaa
open Go.RowKit Go.Proofs.Ytdpfmaimhimfcaa.AM
set_option maxRecDepth 100000
set_option maxHeartbeats 4000000
noncomputable def S43 : Book := bookOf [(29, ptxtC), (37, ptxtC), (19, getLC), (20, getLC)]
theorem sure43 (hmix : Try.prog.follows .mixedOrders = true) : Sure Try.prog S43 := ⟨hmix, plain, bookOf_ok ⟨ptxtC_holds hmix, rptxtC_holds hmix, getk_says hmix, getl_says hmix, trivial⟩⟩
noncomputable def T110 (a n : Value) (m len i : Nat) : List Value := tmps 23 [(0, a), (5, .slice (some ⟨2,0,some 1⟩) m m), (8, n), (9, .int .i64 len), (10, .int .i64 i)]

theorem r110 (cs cn c2 : List Value) (own own2 : Bool) (o : Nat) (sp : Option Nat) (len cap : Nat) (on : Nat) (sn : Option Nat) (ln cn' m i : Nat) (K : Post) :
  roundX Try.prog S43 noLoop F110 body110 2 [] [] [] [] [0,5,8,9,10] [0,0,1,0,1,1] (T110 (.slice (some ⟨0,o,sp⟩) len cap) (.slice (some ⟨1,on,sn⟩) ln cn') m ln i) (hp [.cells cs 2 own, .cells cn 1 own2, .cells c2 1 true]) K = (
Alt (ltI (↑i : Int) (↑ln : Int))
  (Need (ltI (↑i : Int) (↑ln : Int))
    (Need (isStr ((getO cn (on + (↑i : Int).toNat * 1)).getD undef))
      ((FlatL cs ∧ True) ∧
        (IsLs cs o len cap ∧ True) ∧
          True ∧
            Need
                (leN
                  (getF (strV (Value.string (strV ((getO cn (on + (↑i : Int).toNat * 1)).getD undef))))
                      (labsAt cs o len)).size
                  1000000000000)
                True ∧
              Need
                (leN
                  (0 +
                    (ptxt
                          (getF (strV (Value.string (strV ((getO cn (on + (↑i : Int).toNat * 1)).getD undef))))
                            (labsAt cs o len))).length *
                      1)
                  (List.map u8v
                      (ptxt
                        (getF (strV (Value.string (strV ((getO cn (on + (↑i : Int).toNat * 1)).getD undef))))
                          (labsAt cs o len)))).length)
                (Need (leN (0 + m * 1) c2.length)
                  (Need
                    (leN
                      ((m +
                          (ptxt
                              (getF (strV (Value.string (strV ((getO cn (on + (↑i : Int).toNat * 1)).getD undef))))
                                (labsAt cs o len))).length) *
                        1)
                      1099511627776)
                    (Need
                      (leN
                        (m +
                          (ptxt
                              (getF (strV (Value.string (strV ((getO cn (on + (↑i : Int).toNat * 1)).getD undef))))
                                (labsAt cs o len))).length)
                        1099511627776)
                      (Need
                        ((List.take
                              ((ptxt
                                    (getF
                                      (strV (Value.string (strV ((getO cn (on + (↑i : Int).toNat * 1)).getD undef))))
                                      (labsAt cs o len))).length *
                                1)
                              (List.drop 0
                                (List.map u8v
                                  (ptxt
                                    (getF
                                      (strV (Value.string (strV ((getO cn (on + (↑i : Int).toNat * 1)).getD undef))))
                                      (labsAt cs o len)))))).all
                          oneV)
                        (K AE.normal
                          (tmps 23
                            [(0, Value.slice (some { block := 0, off := o, spot := sp }) len cap),
                              (5,
                                Value.slice (some { block := 2, off := 0, spot := some 1 })
                                  (m +
                                    (ptxt
                                        (getF
                                          (strV
                                            (Value.string (strV ((getO cn (on + (↑i : Int).toNat * 1)).getD undef))))
                                          (labsAt cs o len))).length)
                                  (m +
                                    (ptxt
                                        (getF
                                          (strV
                                            (Value.string (strV ((getO cn (on + (↑i : Int).toNat * 1)).getD undef))))
                                          (labsAt cs o len))).length)),
                              (8, Value.slice (some { block := 1, off := on, spot := sn }) ln cn'),
                              (9, Value.int IntKind.i64 (↑ln : Int)),
                              (10, Value.int IntKind.i64 (wr IntKind.i64 ((↑i : Int) + 1)))])
                          (hp
                            [Blk.cells cs 2 own, Blk.cells cn 1 own2,
                              Blk.cells
                                (List.take (m * 1) (List.drop 0 c2) ++
                                  List.take
                                    ((ptxt
                                          (getF
                                            (strV
                                              (Value.string (strV ((getO cn (on + (↑i : Int).toNat * 1)).getD undef))))
                                            (labsAt cs o len))).length *
                                      1)
                                    (List.drop 0
                                      (List.map u8v
                                        (ptxt
                                          (getF
                                            (strV
                                              (Value.string (strV ((getO cn (on + (↑i : Int).toNat * 1)).getD undef))))
                                            (labsAt cs o len))))))
                                1 true])))))))))
  (K (AE.exit 0) (tmps 23 [(5, Value.slice (some { block := 2, off := 0, spot := some 1 }) m m)])
    (hp [Blk.cells cs 2 own, Blk.cells cn 1 own2, Blk.cells c2 1 true]))) := by kernel_rfl

theorem w110 (cs cn c2 : List Value) (own own2 : Bool) (o : Nat) (sp : Option Nat) (len cap : Nat) (on : Nat) (sn : Option Nat) (ln cn' m : Nat) (K : Value → Heap → Prop) :
  funX Try.prog S43 (gcLKX (at0 []) (at0 [.tmp 5 1]) 2 (cutLK [⟨[0,1,0,1,1], T110 (.slice (some ⟨0,o,sp⟩) len cap) (.slice (some ⟨1,on,sn⟩) ln cn') 0 ln 0, hp [.cells cs 2 own, .cells cn 1 own2, .cells [] 1 true], fun K => K (.exit 0) (tmps 23 [(5, .slice (some ⟨2,0,some 1⟩) m m)]) (hp [.cells cs 2 own, .cells cn 1 own2, .cells c2 1 true])⟩])) F110 body110 Try.f10 [] [] [.slice (some ⟨0,o,sp⟩) len cap, .slice (some ⟨1,on,sn⟩) ln cn'] (hp [.cells cs 2 own, .cells cn 1 own2]) K = (
FlatD [] (hp [Blk.cells cs 2 own, Blk.cells cn 1 own2, Blk.cells [] 1 true]) ∧
  tmps 23
        [(0, Value.slice (some { block := 0, off := o, spot := sp : Addr }) len cap),
          (5, Value.slice (some { block := 2, off := 0, spot := some 1 : Addr }) 0 0),
          (8, Value.slice (some { block := 1, off := on, spot := sn : Addr }) ln cn'),
          (9, Value.int IntKind.i64 (↑ln : Int)), (10, Value.int IntKind.i64 0)] =
      tmps 23
        [(0, Value.slice (some { block := 0, off := o, spot := sp : Addr }) len cap),
          (5, Value.slice (some { block := 2, off := 0, spot := some 1 : Addr }) 0 0),
          (8, Value.slice (some { block := 1, off := on, spot := sn : Addr }) ln cn'),
          (9, Value.int IntKind.i64 (↑ln : Int)), (10, Value.int IntKind.i64 0)] ∧
    hp [Blk.cells cs 2 own, Blk.cells cn 1 own2, Blk.cells [] 1 true] =
        hp [Blk.cells cs 2 own, Blk.cells cn 1 own2, Blk.cells [] 1 true] ∧
      Need (leN (0 + m) c2.length)
        (Need (strOf (List.take m (List.drop 0 c2))).isSome
          (K (Value.string { data := ((strOf (List.take m (List.drop 0 c2))).getD []).toArray : ByteArray })
            (hp [Blk.cells cs 2 own, Blk.cells cn 1 own2])))) := by kernel_rfl

noncomputable def T122 (a n : Value) (s : ByteArray) (i : Nat) : List Value := tmps 24 [(0, a), (1, n), (5, .string s), (6, .int .i64 i)]

theorem r122 (cs cn : List Value) (own own2 : Bool) (o : Nat) (sp : Option Nat) (len cap : Nat) (on : Nat) (sn : Option Nat) (ln cn' : Nat) (s : ByteArray) (i : Nat) (K : Post) :
  roundX Try.prog S43 noLoop F122 body122 2 [] [] [] [] [0,1,5,6] [0,0,1,0,1,1] (T122 (.slice (some ⟨0,o,sp⟩) len cap) (.slice (some ⟨1,on,sn⟩) ln cn') s i) (hp [.cells cs 2 own, .cells cn 1 own2]) K = (
Alt (ltI (↑i : Int) (↑ln : Int))
  (Need (ltI (↑i : Int) (↑ln : Int))
    (Need (isStr ((getO cn (on + (↑i : Int).toNat * 1)).getD undef))
      ((FlatL cs ∧ True) ∧
        (IsLs cs o len cap ∧ True) ∧
          True ∧
            Need
                (leN
                  (getF (strV (Value.string (strV ((getO cn (on + (↑i : Int).toNat * 1)).getD undef))))
                      (labsAt cs o len)).size
                  1000000000000)
                True ∧
              Need
                (leN
                  (0 +
                    (ptxt
                        (getF (strV (Value.string (strV ((getO cn (on + (↑i : Int).toNat * 1)).getD undef))))
                          (labsAt cs o len))).length)
                  (List.map u8v
                      (ptxt
                        (getF (strV (Value.string (strV ((getO cn (on + (↑i : Int).toNat * 1)).getD undef))))
                          (labsAt cs o len)))).length)
                (Need
                  (strOf
                      (List.take
                        (ptxt
                            (getF (strV (Value.string (strV ((getO cn (on + (↑i : Int).toNat * 1)).getD undef))))
                              (labsAt cs o len))).length
                        (List.drop 0
                          (List.map u8v
                            (ptxt
                              (getF (strV (Value.string (strV ((getO cn (on + (↑i : Int).toNat * 1)).getD undef))))
                                (labsAt cs o len))))))).isSome
                  (Need
                    (leI
                      (↑(s.size +
                            {
                                data :=
                                  ((strOf
                                          (List.take
                                            (ptxt
                                                (getF
                                                  (strV
                                                    (Value.string
                                                      (strV ((getO cn (on + (↑i : Int).toNat * 1)).getD undef))))
                                                  (labsAt cs o len))).length
                                            (List.drop 0
                                              (List.map u8v
                                                (ptxt
                                                  (getF
                                                    (strV
                                                      (Value.string
                                                        (strV ((getO cn (on + (↑i : Int).toNat * 1)).getD undef))))
                                                    (labsAt cs o len))))))).getD
                                      []).toArray :
                                ByteArray }.size) :
                        Int)
                      9223372036854775807)
                    (K AE.normal
                      (tmps 24
                        [(0, Value.slice (some { block := 0, off := o, spot := sp : Addr }) len cap),
                          (1, Value.slice (some { block := 1, off := on, spot := sn : Addr }) ln cn'),
                          (5,
                            Value.string
                              (s ++
                                {
                                  data :=
                                    ((strOf
                                            (List.take
                                              (ptxt
                                                  (getF
                                                    (strV
                                                      (Value.string
                                                        (strV ((getO cn (on + (↑i : Int).toNat * 1)).getD undef))))
                                                    (labsAt cs o len))).length
                                              (List.drop 0
                                                (List.map u8v
                                                  (ptxt
                                                    (getF
                                                      (strV
                                                        (Value.string
                                                          (strV ((getO cn (on + (↑i : Int).toNat * 1)).getD undef))))
                                                      (labsAt cs o len))))))).getD
                                        []).toArray :
                                  ByteArray })),
                          (6, Value.int IntKind.i64 (wr IntKind.i64 ((↑i : Int) + 1)))])
                      (hp [Blk.cells cs 2 own, Blk.cells cn 1 own2])))))))
  (K (AE.exit 0) (tmps 24 [(5, Value.string s)]) (hp [Blk.cells cs 2 own, Blk.cells cn 1 own2]))) := by kernel_rfl

theorem w122 (cs cn : List Value) (own own2 : Bool) (o : Nat) (sp : Option Nat) (len cap : Nat) (on : Nat) (sn : Option Nat) (ln cn' : Nat) (s : ByteArray) (K : Value → Heap → Prop) :
  funX Try.prog S43 (gcLKX (at0 []) (at0 []) 2 (cutLK [⟨[0,1,0,1,1], T122 (.slice (some ⟨0,o,sp⟩) len cap) (.slice (some ⟨1,on,sn⟩) ln cn') ⟨#[]⟩ 0, hp [.cells cs 2 own, .cells cn 1 own2], fun K => K (.exit 0) (tmps 24 [(5, .string s)]) (hp [.cells cs 2 own, .cells cn 1 own2])⟩])) F122 body122 Try.f22 [] [] [.slice (some ⟨0,o,sp⟩) len cap, .slice (some ⟨1,on,sn⟩) ln cn'] (hp [.cells cs 2 own, .cells cn 1 own2]) K = (
FlatD [] (hp [Blk.cells cs 2 own, Blk.cells cn 1 own2]) ∧
  tmps 24
        [(0, Value.slice (some { block := 0, off := o, spot := sp }) len cap),
          (1, Value.slice (some { block := 1, off := on, spot := sn }) ln cn'), (5, Value.string { data := #[] }),
          (6, Value.int IntKind.i64 0)] =
      tmps 24
        [(0, Value.slice (some { block := 0, off := o, spot := sp }) len cap),
          (1, Value.slice (some { block := 1, off := on, spot := sn }) ln cn'), (5, Value.string { data := #[] }),
          (6, Value.int IntKind.i64 0)] ∧
    hp [Blk.cells cs 2 own, Blk.cells cn 1 own2] = hp [Blk.cells cs 2 own, Blk.cells cn 1 own2] ∧
      K (Value.string s) (hp [Blk.cells cs 2 own, Blk.cells cn 1 own2])) := by kernel_rfl

/-- no value is long -/
inductive Vals (l : List Lb) : Prop
  | mk (h : ∀ n, (getF n l).size ≤ 1000)
theorem Vals.le {l : List Lb} (h : Vals l) (n : ByteArray) : (getF n l).size ≤ 1000 := by obtain ⟨h⟩ := h; exact h n
def projB (l : List Lb) (ns : List ByteArray) : List Int := ns.flatMap fun n => ptxt (getF n l)
theorem projB_cons (l : List Lb) (n : ByteArray) (ns : List ByteArray) : projB l (n :: ns) = ptxt (getF n l) ++ projB l ns := List.flatMap_cons
theorem projB_len {l : List Lb} (h : Vals l) (ns : List ByteArray) : (projB l ns).length ≤ ns.length * 1010 := by
  induction ns with
  | nil => exact Nat.zero_le _
  | cons n ns ih =>
    rw [projB_cons, List.length_append, ptxt_len, List.length_cons]
    obtain ⟨h⟩ := h
    have := h n
    have := enc_len (getF n l).size
    omega
theorem ofB_append (a b : List Int) : ofB (a ++ b) = ofB a ++ ofB b := by
  unfold ofB
  simp [ByteArray.ext_iff]
theorem strOf_take (l : List Int) : strOf (List.take l.length (List.map u8v l)) = some (l.map fun c => UInt8.ofNat c.toNat) := by
  rw [List.take_of_length_le (by simp), strOf_u8]
theorem proj_loop (hmix : Try.prog.follows .mixedOrders = true) (l : List Lb) (cs : List Value) (own : Bool) (o : Nat) (sp : Option Nat) (cap : Nat) (hc : l.length ≤ cap) (hB : LSl cs o l) (hv : Vals l) (ns : List ByteArray) (cn : List Value) (own2 : Bool) (on : Nat) (sn : Option Nat) (cap2 : Nat) (hN : ESl sE (fun _ => True) cn on ns) (hns : ns.length ≤ 1000) (K : Post) : ∀ (t : List ByteArray) (i : Nat) (L : List Int), ns.drop i = t → i ≤ ns.length → L.length + t.length * 1010 ≤ 2000000 →
    K (.exit 0) (tmps 23 [(5, .slice (some ⟨2,0,some 1⟩) (L ++ projB l t).length (L ++ projB l t).length)]) (hp [.cells cs 2 own, .cells cn 1 own2, .cells ((L ++ projB l t).map u8v) 1 true]) →
    LSays Try.prog 2 (sub body110 [0,0,1,0,1,1]) (T110 (.slice (some ⟨0,o,sp⟩) l.length cap) (.slice (some ⟨1,on,sn⟩) ns.length cap2) L.length ns.length i) (hp [.cells cs 2 own, .cells cn 1 own2, .cells (L.map u8v) 1 true]) K := by
  have hF : ∀ L : List Int, FlatD [] (hp [.cells cs 2 own, .cells cn 1 own2, .cells (L.map u8v) 1 true]) := fun L => FlatD.hp ⟨hB.flat, hN.flat, ⟨flat_u8s L⟩, trivial⟩
  intro t
  induction t with
  | nil =>
    intro i L ht hi hL hK
    have hge : ¬ ((i : Int) < (ns.length : Int)) := by have := List.drop_eq_nil_iff.1 ht; omega
    refine (sure43 hmix).roundX F110 noLoops [] [] [] [] [0,5,8,9,10] ?_
    rw [r110]
    rw [show projB l [] = [] from rfl, List.append_nil] at hK
    simp only [hge, hF, Alt_iff, Need_iff, ltI_eq, leI_eq, eqI_eq, leN_eq, eqN_eq, decide_eq_true_eq, decide_eq_false_iff_not, decide_true, decide_false, true_and, and_true, Bool.true_eq_false, Bool.false_eq_true, false_implies, true_implies, implies_true, not_true_eq_false, not_false_eq_true, Bool.not_eq_true', Bool.not_eq_false', Nat.zero_add, Nat.add_zero, Nat.sub_zero, Nat.zero_mul, Nat.mul_one, Int.toNat_natCast, List.drop_zero, beqV_int, beqV_sl, beqV_str, beqV_bool, beqV_ptr, beqV_flt, beqV_agg, beqV_tuple, List.all_cons, List.all_nil, Bool.and_self, Bool.and_true, Bool.true_and, Nat.le_refl, Int.le_refl, Nat.zero_le, Option.getD_some, isStr, strV, isInt, intV, isBool, boolV, kindEq, at0, Nat.add_sub_cancel_left, Nat.add_sub_cancel]; exact hK
  | cons x t ih =>
    intro i L ht hi hL hK
    obtain ⟨hlt, hx, hd⟩ := cons_of_drop ht
    have hl2 : (i : Int) < (ns.length : Int) := by omega
    have hg1 := hN.cell i x hx
    have hvx := hv.le x
    have hel := enc_len (getF x l).size
    have hpl := ptxt_len (getF x l)
    simp only [List.length_cons] at hL
    have next := ih (i + 1) (L ++ ptxt (getF x l)) hd (by omega) (by rw [List.length_append]; omega) (by rw [List.append_assoc, ← projB_cons]; exact hK)
    have hF2 := hF (L ++ ptxt (getF x l))
    rw [List.map_append] at next hF2
    rw [List.length_append] at next
    have hil : IsLs cs o l.length cap := ⟨l, rfl, hc, hB⟩
    have hfl := hB.flat
    refine (sure43 hmix).roundX F110 noLoops [] [] [] [] [0,5,8,9,10] ?_
    rw [r110]
    have e1 : List.take (ptxt (getF x l)).length (List.map u8v (ptxt (getF x l))) = List.map u8v (ptxt (getF x l)) := List.take_of_length_le (by simp)
    have e2 : List.take L.length (List.map u8v L) = List.map u8v L := List.take_of_length_le (by simp)
    simp only [hl2, hg1, sE, hil, hfl, hB.labsAt, hF, nx i (by omega), List.length_map, e1, e2, oneV_u8s, hF2, Alt_iff, Need_iff, ltI_eq, leI_eq, eqI_eq, leN_eq, eqN_eq, decide_eq_true_eq, decide_eq_false_iff_not, decide_true, decide_false, true_and, and_true, Bool.true_eq_false, Bool.false_eq_true, false_implies, true_implies, implies_true, not_true_eq_false, not_false_eq_true, Bool.not_eq_true', Bool.not_eq_false', Nat.zero_add, Nat.add_zero, Nat.sub_zero, Nat.zero_mul, Nat.mul_one, Int.toNat_natCast, List.drop_zero, beqV_int, beqV_sl, beqV_str, beqV_bool, beqV_ptr, beqV_flt, beqV_agg, beqV_tuple, List.all_cons, List.all_nil, Bool.and_self, Bool.and_true, Bool.true_and, Nat.le_refl, Int.le_refl, Nat.zero_le, Option.getD_some, isStr, strV, isInt, intV, isBool, boolV, kindEq, at0, Nat.add_sub_cancel_left, Nat.add_sub_cancel]
    exact ⟨by omega, by omega, by omega, next⟩
theorem rproj_loop (hmix : Try.prog.follows .mixedOrders = true) (l : List Lb) (cs : List Value) (own : Bool) (o : Nat) (sp : Option Nat) (cap : Nat) (hc : l.length ≤ cap) (hB : LSl cs o l) (hv : Vals l) (ns : List ByteArray) (cn : List Value) (own2 : Bool) (on : Nat) (sn : Option Nat) (cap2 : Nat) (hN : ESl sE (fun _ => True) cn on ns) (hns : ns.length ≤ 1000) (K : Post) : ∀ (t : List ByteArray) (i : Nat) (L : List Int), ns.drop i = t → i ≤ ns.length → L.length + t.length * 1010 ≤ 2000000 →
    K (.exit 0) (tmps 24 [(5, .string (ofB (L ++ projB l t)))]) (hp [.cells cs 2 own, .cells cn 1 own2]) →
    LSays Try.prog 2 (sub body122 [0,0,1,0,1,1]) (T122 (.slice (some ⟨0,o,sp⟩) l.length cap) (.slice (some ⟨1,on,sn⟩) ns.length cap2) (ofB L) i) (hp [.cells cs 2 own, .cells cn 1 own2]) K := by
  have hF : FlatD [] (hp [.cells cs 2 own, .cells cn 1 own2]) := FlatD.hp ⟨hB.flat, hN.flat, trivial⟩
  intro t
  induction t with
  | nil =>
    intro i L ht hi hL hK
    have hge : ¬ ((i : Int) < (ns.length : Int)) := by have := List.drop_eq_nil_iff.1 ht; omega
    refine (sure43 hmix).roundX F122 noLoops [] [] [] [] [0,1,5,6] ?_
    rw [r122]
    rw [show projB l [] = [] from rfl, List.append_nil] at hK
    simp only [hge, hF, Alt_iff, Need_iff, ltI_eq, leI_eq, eqI_eq, leN_eq, eqN_eq, decide_eq_true_eq, decide_eq_false_iff_not, decide_true, decide_false, true_and, and_true, Bool.true_eq_false, Bool.false_eq_true, false_implies, true_implies, implies_true, not_true_eq_false, not_false_eq_true, Bool.not_eq_true', Bool.not_eq_false', Nat.zero_add, Nat.add_zero, Nat.sub_zero, Nat.zero_mul, Nat.mul_one, Int.toNat_natCast, List.drop_zero, beqV_int, beqV_sl, beqV_str, beqV_bool, beqV_ptr, beqV_flt, beqV_agg, beqV_tuple, List.all_cons, List.all_nil, Bool.and_self, Bool.and_true, Bool.true_and, Nat.le_refl, Int.le_refl, Nat.zero_le, Option.getD_some, isStr, strV, isInt, intV, isBool, boolV, kindEq, at0, Nat.add_sub_cancel_left, Nat.add_sub_cancel]; exact hK
  | cons x t ih =>
    intro i L ht hi hL hK
    obtain ⟨hlt, hx, hd⟩ := cons_of_drop ht
    have hl2 : (i : Int) < (ns.length : Int) := by omega
    have hg1 := hN.cell i x hx
    have hvx := hv.le x
    have hel := enc_len (getF x l).size
    have hpl := ptxt_len (getF x l)
    simp only [List.length_cons] at hL
    have next := ih (i + 1) (L ++ ptxt (getF x l)) hd (by omega) (by rw [List.length_append]; omega) (by rw [List.append_assoc, ← projB_cons]; exact hK)
    rw [ofB_append] at next
    have hil : IsLs cs o l.length cap := ⟨l, rfl, hc, hB⟩
    have hfl := hB.flat
    have hsz : ∀ l : List Int, (ofB l).size = l.length := fun l => by unfold ofB; simp [ByteArray.size]
    have hs1 := hsz L
    have hs2 := hsz (ptxt (getF x l))
    refine (sure43 hmix).roundX F122 noLoops [] [] [] [] [0,1,5,6] ?_
    rw [r122]
    simp only [hl2, hg1, sE, hil, hfl, hB.labsAt, hF, nx i (by omega), List.length_map, strOf_take, Option.isSome_some, Alt_iff, Need_iff, ltI_eq, leI_eq, eqI_eq, leN_eq, eqN_eq, decide_eq_true_eq, decide_eq_false_iff_not, decide_true, decide_false, true_and, and_true, Bool.true_eq_false, Bool.false_eq_true, false_implies, true_implies, implies_true, not_true_eq_false, not_false_eq_true, Bool.not_eq_true', Bool.not_eq_false', Nat.zero_add, Nat.add_zero, Nat.sub_zero, Nat.zero_mul, Nat.mul_one, Int.toNat_natCast, List.drop_zero, beqV_int, beqV_sl, beqV_str, beqV_bool, beqV_ptr, beqV_flt, beqV_agg, beqV_tuple, List.all_cons, List.all_nil, Bool.and_self, Bool.and_true, Bool.true_and, Nat.le_refl, Int.le_refl, Nat.zero_le, Option.getD_some, isStr, strV, isInt, intV, isBool, boolV, kindEq, at0, Nat.add_sub_cancel_left, Nat.add_sub_cancel]
    exact ⟨by omega, by show (((ofB L).size + (ofB (ptxt (getF x l))).size : Nat) : Int) ≤ _; omega, next⟩
noncomputable def projC : Ctr where
  pre := fun args blks => match args, blks with
    | [.slice (some ⟨0, o, _⟩) len cap, .slice (some ⟨1, on, _⟩) ln cn], [.cells cs 2 _, .cells c2 1 _] => IsLs cs o len cap ∧ Vals (labsAt cs o len) ∧ IsE sE (fun _ => True) c2 on ln cn ∧ Need (leN ln 1000) True
    | _, _ => False
  val := fun args blks => match args, blks with
    | [.slice (some ⟨0, o, _⟩) len cap, .slice (some ⟨1, on, _⟩) ln cn], [.cells cs 2 _, .cells c2 1 _] => .string (ofB (projB (labsAt cs o len) (elAt strV c2 on ln)))
    | _, _ => .bool false
  new := fun _ _ => []
theorem proj_says (hmix : Try.prog.follows .mixedOrders = true) : projC.Holds Try.prog 10 := by
  intro args blks hf hp
  refine ⟨trivial, ?_⟩
  simp only [projC] at hp ⊢
  split at hp
  · rename_i o sp len cap on sn ln cap2 cs own cn own2
    obtain ⟨⟨l, rfl, hc, hB⟩, hv, ⟨ns, rfl, hc2, hN⟩, hln⟩ := hp
    simp only [Alt_iff, Need_iff, ltI_eq, leI_eq, eqI_eq, leN_eq, eqN_eq, decide_eq_true_eq, decide_eq_false_iff_not, decide_true, decide_false, true_and, and_true, Bool.true_eq_false, Bool.false_eq_true, false_implies, true_implies, implies_true, not_true_eq_false, not_false_eq_true, Bool.not_eq_true', Bool.not_eq_false'] at hln
    rw [hB.labsAt] at hv
    simp only [hB.labsAt, hN.elAt (dec := strV) (fun _ => rfl), List.append_nil]
    have hF : ∀ L : List Int, FlatD [] (AM.hp [.cells cs 2 own, .cells cn 1 own2, .cells (L.map u8v) 1 true]) := fun L => FlatD.hp ⟨hB.flat, hN.flat, ⟨flat_u8s L⟩, trivial⟩
    have hL : Loops Try.prog body110 2 (cutLK [⟨[0,1,0,1,1], T110 (.slice (some ⟨0,o,sp⟩) l.length cap) (.slice (some ⟨1,on,sn⟩) ns.length cap2) 0 ns.length 0, AM.hp [.cells cs 2 own, .cells cn 1 own2, .cells [] 1 true], fun K => K (.exit 0) (tmps 23 [(5, .slice (some ⟨2,0,some 1⟩) (projB l ns).length (projB l ns).length)]) (AM.hp [.cells cs 2 own, .cells cn 1 own2, .cells ((projB l ns).map u8v) 1 true])⟩]) := Loops.none.more _ fun K hK => by
      show LSays Try.prog _ (sub body110 [0,0,1,0,1,1]) _ _ _
      exact proj_loop hmix l cs own o sp cap hc hB hv ns cn own2 on sn cap2 hN hln K ns 0 [] rfl (by omega) (by simp; omega) hK
    refine (sure43 hmix).funX F110 body110 [] [] Try.func10 rfl (hL.gcX (at0 []) (at0 [.tmp 5 1])) ?_
    rw [w110]
    simp only [strOf_take, Option.isSome_some, List.length_map, Alt_iff, Need_iff, ltI_eq, leI_eq, eqI_eq, leN_eq, eqN_eq, decide_eq_true_eq, decide_eq_false_iff_not, decide_true, decide_false, true_and, and_true, Bool.true_eq_false, Bool.false_eq_true, false_implies, true_implies, implies_true, not_true_eq_false, not_false_eq_true, Bool.not_eq_true', Bool.not_eq_false', Nat.zero_add, Nat.add_zero, Nat.sub_zero, Nat.zero_mul, Nat.mul_one, Int.toNat_natCast, List.drop_zero, beqV_int, beqV_sl, beqV_str, beqV_bool, beqV_ptr, beqV_flt, beqV_agg, beqV_tuple, List.all_cons, List.all_nil, Bool.and_self, Bool.and_true, Bool.true_and, Nat.le_refl, Int.le_refl, Nat.zero_le, Option.getD_some, isStr, strV, isInt, intV, isBool, boolV, kindEq, at0, Nat.add_sub_cancel_left, Nat.add_sub_cancel]
    exact ⟨hF [], FlatD.hp ⟨hB.flat, hN.flat, trivial⟩, rfl, rfl⟩
  · exact hp.elim
theorem rproj_says (hmix : Try.prog.follows .mixedOrders = true) : projC.Holds Try.prog 22 := by
  intro args blks hf hp
  refine ⟨trivial, ?_⟩
  simp only [projC] at hp ⊢
  split at hp
  · rename_i o sp len cap on sn ln cap2 cs own cn own2
    obtain ⟨⟨l, rfl, hc, hB⟩, hv, ⟨ns, rfl, hc2, hN⟩, hln⟩ := hp
    simp only [Alt_iff, Need_iff, ltI_eq, leI_eq, eqI_eq, leN_eq, eqN_eq, decide_eq_true_eq, decide_eq_false_iff_not, decide_true, decide_false, true_and, and_true, Bool.true_eq_false, Bool.false_eq_true, false_implies, true_implies, implies_true, not_true_eq_false, not_false_eq_true, Bool.not_eq_true', Bool.not_eq_false'] at hln
    rw [hB.labsAt] at hv
    simp only [hB.labsAt, hN.elAt (dec := strV) (fun _ => rfl), List.append_nil]
    have hF : FlatD [] (AM.hp [.cells cs 2 own, .cells cn 1 own2]) := FlatD.hp ⟨hB.flat, hN.flat, trivial⟩
    have hL : Loops Try.prog body122 2 (cutLK [⟨[0,1,0,1,1], T122 (.slice (some ⟨0,o,sp⟩) l.length cap) (.slice (some ⟨1,on,sn⟩) ns.length cap2) ⟨#[]⟩ 0, AM.hp [.cells cs 2 own, .cells cn 1 own2], fun K => K (.exit 0) (tmps 24 [(5, .string (ofB (projB l ns)))]) (AM.hp [.cells cs 2 own, .cells cn 1 own2])⟩]) := Loops.none.more _ fun K hK => by
      show LSays Try.prog _ (sub body122 [0,0,1,0,1,1]) _ _ _
      exact rproj_loop hmix l cs own o sp cap hc hB hv ns cn own2 on sn cap2 hN hln K ns 0 [] rfl (by omega) (by simp; omega) hK
    refine (sure43 hmix).funX F122 body122 [] [] Try.func22 rfl (hL.gcX (at0 []) (at0 [])) ?_
    rw [w122]
    exact ⟨hF, rfl, rfl, hF, rfl, rfl, rfl⟩
  · exact hp.elim
end Go.Proofs.Ytdpfmaimhimfcaa

namespace Go.Proofs.Ytdpfmaimhimfcaa
open Go.RowKit Go.Proofs.Ytdpfmaimhimfcaa.AM
set_option maxRecDepth 100000
set_option maxHeartbeats 4000000
noncomputable def body105 : Code := (Try.f5.body).getD .skip
def F105 : List Nat → Option (List Nat) := fun p => match p with
  | [1] => some [0, 1, 2]
  | [1, 0, 1] => some [0, 1, 2, 23]
  | [1, 0, 1, 0, 1] => some [6]
  | [1, 1] => some [0, 1, 2]
  | [1, 1, 1] => some [2, 7, 8]
  | [1, 1, 1, 1] => some [2, 7, 8, 9]
  | [1, 0, 1, 1, 1, 1] => some [2, 7, 8, 9, 10]
  | [1, 0, 0, 0, 1, 0, 1, 1, 1, 1] => some [2, 7, 8, 9, 10, 32]
  | [1, 1, 0, 0, 0, 1, 0, 1, 1, 1, 1] => some [2, 7, 8, 9]
  | [1, 0, 0, 1, 0, 1, 1, 1, 1] => some [2, 7, 8, 9, 10]
  | [1, 0, 0, 0, 1, 0, 0, 1, 0, 1, 1, 1, 1] => some [2, 7, 8, 9, 10, 40]
  | [1, 0, 1, 0, 0, 0, 1, 0, 0, 1, 0, 1, 1, 1, 1] => some [6]
  | [1, 0, 0, 1, 0, 0, 1, 0, 1, 1, 1, 1] => some [2, 7, 8, 9, 10]
  | [1, 1, 0, 0, 1, 0, 1, 1, 1, 1] => some [2, 7, 8, 9, 10]
  | [1, 1, 1, 1, 1] => some [2, 7, 8, 9]
  | [1, 1, 1, 1, 1, 1] => some [6]
  | _ => none
noncomputable def S44 : Book := bookOf [(3, trueC), (10, projC), (19, getLC), (21, keepC), (22, projC)]
theorem sure44 (hmix : Try.prog.follows .mixedOrders = true) : Sure Try.prog S44 := ⟨hmix, plain, bookOf_ok ⟨runs_holds hmix, proj_says hmix, getk_says hmix, keep_says hmix, rproj_says hmix, trivial⟩⟩
noncomputable def sl1 (B n : Nat) : Value := .slice (some ⟨B,0,some 1⟩) n n
noncomputable def T105 (n : Value) (x y : Nat) (b : Bool) (i : Nat) : List Value := tmps 79 [(2, n), (7, sl1 3 x), (8, sl1 4 y), (9, .bool b), (10, .int .i64 i)]
noncomputable def H105 (cl cr cn ca cb : List Value) : Heap := hp [.cells cl 1 false, .cells cr 1 false, .cells cn 1 false, .cells ca 2 true, .cells cb 2 true]

theorem r105t (cl cr cn ca cb : List Value) (on : Nat) (sn : Option Nat) (ln cn' x y i : Nat) (K : Post) :
  roundX Try.prog S44 noLoop F105 body105 3 [] [] [] [] [2,7,8,9,10] [0,0,1,0,1,1,1,1] (T105 (.slice (some ⟨2,on,sn⟩) ln cn') x y true i) (H105 cl cr cn ca cb) K = (
Alt (ltI (↑i : Int) (↑ln : Int))
  (Need (ltI (↑i : Int) (↑ln : Int))
    (Need (isStr ((getO cn (on + (↑i : Int).toNat * 1)).getD undef))
      (Alt (ltI 300 (↑(strV ((getO cn (on + (↑i : Int).toNat * 1)).getD undef)).size : Int))
        (True ∧
          True ∧
            K AE.ret (tmps 79 [(6, Value.bool true)])
              (hp [Blk.cells cl 1 false, Blk.cells cr 1 false, Blk.cells cn 1 false]))
        (Need (ltI (↑i : Int) (↑ln : Int))
          (Need (isStr ((getO cn (on + (↑i : Int).toNat * 1)).getD undef))
            ((FlatL ca ∧ True) ∧
              (IsLs ca 0 x x ∧ True) ∧
                Need (ltI (↑i : Int) (↑ln : Int))
                  (Need (isStr ((getO cn (on + (↑i : Int).toNat * 1)).getD undef))
                    ((FlatL cb ∧ True) ∧
                      (IsLs cb 0 y y ∧ True) ∧
                        Need (isStr ((getO cn (on + (↑i : Int).toNat * 1)).getD undef))
                          (Need
                            (beqV 64 (Value.string (strV ((getO cn (on + (↑i : Int).toNat * 1)).getD undef)))
                              (Value.string (strV ((getO cn (on + (↑i : Int).toNat * 1)).getD undef))))
                            (Need (ltI (↑i : Int) (↑ln : Int))
                              (Need
                                (beqV 64 (Value.pointer (some { block := 2, off := on + (↑i : Int).toNat * 1 : Addr }))
                                  (Value.pointer (some { block := 2, off := on + (↑i : Int).toNat * 1 : Addr })))
                                (Need (beqV 64 (Value.int IntKind.i64 (↑i : Int)) (Value.int IntKind.i64 (↑i : Int)))
                                  (Need
                                    (beqV 64 (Value.slice (some { block := 2, off := on, spot := sn : Addr }) ln cn')
                                      (Value.slice (some { block := 2, off := on, spot := sn : Addr }) ln cn'))
                                    (Need
                                      (beqV 64 (Value.slice (some { block := 4, off := 0, spot := some 1 : Addr }) y y)
                                        (Value.slice (some { block := 4, off := 0, spot := some 1 : Addr }) y y))
                                      (K AE.normal
                                        (tmps 79
                                          [(2, Value.slice (some { block := 2, off := on, spot := sn : Addr }) ln cn'),
                                            (7, Value.slice (some { block := 3, off := 0, spot := some 1 : Addr }) x x),
                                            (8, Value.slice (some { block := 4, off := 0, spot := some 1 : Addr }) y y),
                                            (9,
                                              Value.bool
                                                (eqS
                                                  (getF
                                                    (strV
                                                      (Value.string
                                                        (strV ((getO cn (on + (↑i : Int).toNat * 1)).getD undef))))
                                                    (labsAt ca 0 x))
                                                  (getF
                                                    (strV
                                                      (Value.string
                                                        (strV ((getO cn (on + (↑i : Int).toNat * 1)).getD undef))))
                                                    (labsAt cb 0 y)))),
                                            (10, Value.int IntKind.i64 (wr IntKind.i64 ((↑i : Int) + 1)))])
                                        (hp
                                          [Blk.cells cl 1 false, Blk.cells cr 1 false, Blk.cells cn 1 false,
                                            Blk.cells ca 2 true, Blk.cells cb 2 true]))))))))))))))))
  (K (AE.exit 0)
    (tmps 79
      [(2, Value.slice (some { block := 2, off := on, spot := sn : Addr }) ln cn'),
        (7, Value.slice (some { block := 3, off := 0, spot := some 1 : Addr }) x x),
        (8, Value.slice (some { block := 4, off := 0, spot := some 1 : Addr }) y y), (9, Value.bool true)])
    (hp [Blk.cells cl 1 false, Blk.cells cr 1 false, Blk.cells cn 1 false, Blk.cells ca 2 true, Blk.cells cb 2 true]))) := by kernel_rfl

theorem r105f (cl cr cn ca cb : List Value) (on : Nat) (sn : Option Nat) (ln cn' x y i : Nat) (K : Post) :
  roundX Try.prog S44 noLoop F105 body105 3 [] [] [] [] [2,7,8,9,10] [0,0,1,0,1,1,1,1] (T105 (.slice (some ⟨2,on,sn⟩) ln cn') x y false i) (H105 cl cr cn ca cb) K = (
Alt (ltI (↑i : Int) (↑ln : Int))
  (Need (ltI (↑i : Int) (↑ln : Int))
    (Need (isStr ((getO cn (on + (↑i : Int).toNat * 1)).getD undef))
      (Alt (ltI 300 (↑(strV ((getO cn (on + (↑i : Int).toNat * 1)).getD undef)).size : Int))
        (True ∧
          True ∧
            K AE.ret (tmps 79 [(6, Value.bool true)])
              (hp [Blk.cells cl 1 false, Blk.cells cr 1 false, Blk.cells cn 1 false]))
        (K AE.normal
          (tmps 79
            [(2, Value.slice (some { block := 2, off := on, spot := sn : Addr }) ln cn'),
              (7, Value.slice (some { block := 3, off := 0, spot := some 1 : Addr }) x x),
              (8, Value.slice (some { block := 4, off := 0, spot := some 1 : Addr }) y y), (9, Value.bool false),
              (10, Value.int IntKind.i64 (wr IntKind.i64 ((↑i : Int) + 1)))])
          (hp
            [Blk.cells cl 1 false, Blk.cells cr 1 false, Blk.cells cn 1 false, Blk.cells ca 2 true,
              Blk.cells cb 2 true])))))
  (K (AE.exit 0)
    (tmps 79
      [(2, Value.slice (some { block := 2, off := on, spot := sn : Addr }) ln cn'),
        (7, Value.slice (some { block := 3, off := 0, spot := some 1 : Addr }) x x),
        (8, Value.slice (some { block := 4, off := 0, spot := some 1 : Addr }) y y), (9, Value.bool false)])
    (hp [Blk.cells cl 1 false, Blk.cells cr 1 false, Blk.cells cn 1 false, Blk.cells ca 2 true, Blk.cells cb 2 true]))) := by kernel_rfl

noncomputable def c105 (cl cr cn ca cb : List Value) (n : Value) (x y : Nat) (ok b : Bool) : Cut := ⟨[0,1,0,1,1,1,1], T105 n x y true 0, H105 cl cr cn ca cb, fun K => Alt ok (K (.exit 0) (tmps 79 [(2, n), (7, sl1 3 x), (8, sl1 4 y), (9, .bool b)]) (H105 cl cr cn ca cb)) (K .ret (tmps 79 [(6, .bool true)]) (hp [.cells cl 1 false, .cells cr 1 false, .cells cn 1 false]))⟩

theorem w105t (cl cr cn ca cb : List Value) (ol or on : Nat) (sl sr sn : Option Nat) (ll cl' lr cr' ln cn' : Nat) (x y : Nat) (ok : Bool) (K : Value → Heap → Prop) :
  funX Try.prog S44 (gcLKX (at0 []) (at0 []) 3 (cutLK [c105 cl cr cn ca cb (.slice (some ⟨2,on,sn⟩) ln cn') x y ok true])) F105 body105 Try.f5 [] [] [.slice (some ⟨0,ol,sl⟩) ll cl', .slice (some ⟨1,or,sr⟩) lr cr', .slice (some ⟨2,on,sn⟩) ln cn'] (hp [.cells cl 1 false, .cells cr 1 false, .cells cn 1 false]) K = (
Alt (ltI 20 (↑ll : Int))
  (True ∧ True ∧ K (Value.bool true) (hp [Blk.cells cl 1 false, Blk.cells cr 1 false, Blk.cells cn 1 false]))
  (Alt (ltI 20 (↑lr : Int))
    (True ∧ True ∧ K (Value.bool true) (hp [Blk.cells cl 1 false, Blk.cells cr 1 false, Blk.cells cn 1 false]))
    (Alt (ltI 20 (↑ln : Int))
      (True ∧ True ∧ K (Value.bool true) (hp [Blk.cells cl 1 false, Blk.cells cr 1 false, Blk.cells cn 1 false]))
      ((FlatL cl ∧ True) ∧
        IsE (iE IntKind.i64) (ZP IntKind.i64) cl ol ll cl' ∧
          (FlatL cr ∧ True) ∧
            IsE (iE IntKind.i64) (ZP IntKind.i64) cr or lr cr' ∧
              FlatD []
                  (hp
                    [Blk.cells cl 1 false, Blk.cells cr 1 false, Blk.cells cn 1 false,
                      Blk.cells (labC (mkR (keepO (elAt intV cl ol ll)))) 2 true,
                      Blk.cells (labC (mkR (keepO (elAt intV cr or lr)))) 2 true]) ∧
                tmps 79
                      [(2, Value.slice (some { block := 2, off := on, spot := sn : Addr }) ln cn'),
                        (7,
                          Value.slice (some { block := 3, off := 0, spot := some 1 : Addr })
                            (mkR (keepO (elAt intV cl ol ll))).length (mkR (keepO (elAt intV cl ol ll))).length),
                        (8,
                          Value.slice (some { block := 4, off := 0, spot := some 1 : Addr })
                            (mkR (keepO (elAt intV cr or lr))).length (mkR (keepO (elAt intV cr or lr))).length),
                        (9, Value.bool true), (10, Value.int IntKind.i64 0)] =
                    tmps 79
                      [(2, Value.slice (some { block := 2, off := on, spot := sn : Addr }) ln cn'),
                        (7, Value.slice (some { block := 3, off := 0, spot := some 1 : Addr }) x x),
                        (8, Value.slice (some { block := 4, off := 0, spot := some 1 : Addr }) y y),
                        (9, Value.bool true), (10, Value.int IntKind.i64 0)] ∧
                  hp
                        [Blk.cells cl 1 false, Blk.cells cr 1 false, Blk.cells cn 1 false,
                          Blk.cells (labC (mkR (keepO (elAt intV cl ol ll)))) 2 true,
                          Blk.cells (labC (mkR (keepO (elAt intV cr or lr)))) 2 true] =
                      hp
                        [Blk.cells cl 1 false, Blk.cells cr 1 false, Blk.cells cn 1 false, Blk.cells ca 2 true,
                          Blk.cells cb 2 true] ∧
                    Alt ok
                      ((FlatL ca ∧ FlatL cn ∧ True) ∧
                        (IsLs ca 0 x x ∧
                            Vals (labsAt ca 0 x) ∧ IsE sE (fun x => True) cn on ln cn' ∧ Need (leN ln 1000) True) ∧
                          (FlatL cb ∧ FlatL cn ∧ True) ∧
                            (IsLs cb 0 y y ∧
                                Vals (labsAt cb 0 y) ∧ IsE sE (fun x => True) cn on ln cn' ∧ Need (leN ln 1000) True) ∧
                              Alt
                                (eqS (ofB (projB (labsAt ca 0 x) (elAt strV cn on ln)))
                                    (ofB (projB (labsAt cb 0 y) (elAt strV cn on ln))) ==
                                  true)
                                ((FlatL ca ∧ FlatL cn ∧ True) ∧
                                  (IsLs ca 0 x x ∧
                                      Vals (labsAt ca 0 x) ∧
                                        IsE sE (fun x => True) cn on ln cn' ∧ Need (leN ln 1000) True) ∧
                                    (FlatL ca ∧ FlatL cn ∧ True) ∧
                                      (IsLs ca 0 x x ∧
                                          Vals (labsAt ca 0 x) ∧
                                            IsE sE (fun x => True) cn on ln cn' ∧ Need (leN ln 1000) True) ∧
                                        Alt
                                          (eqS (ofB (projB (labsAt ca 0 x) (elAt strV cn on ln)))
                                            (ofB (projB (labsAt ca 0 x) (elAt strV cn on ln))))
                                          (True ∧
                                            True ∧
                                              K (Value.bool true)
                                                (hp [Blk.cells cl 1 false, Blk.cells cr 1 false, Blk.cells cn 1 false]))
                                          (K (Value.bool false)
                                            (hp [Blk.cells cl 1 false, Blk.cells cr 1 false, Blk.cells cn 1 false])))
                                (K (Value.bool false)
                                  (hp [Blk.cells cl 1 false, Blk.cells cr 1 false, Blk.cells cn 1 false])))
                      (K (Value.bool true) (hp [Blk.cells cl 1 false, Blk.cells cr 1 false, Blk.cells cn 1 false])))))) := by kernel_rfl

theorem w105f (cl cr cn ca cb : List Value) (ol or on : Nat) (sl sr sn : Option Nat) (ll cl' lr cr' ln cn' : Nat) (x y : Nat) (ok : Bool) (K : Value → Heap → Prop) :
  funX Try.prog S44 (gcLKX (at0 []) (at0 []) 3 (cutLK [c105 cl cr cn ca cb (.slice (some ⟨2,on,sn⟩) ln cn') x y ok false])) F105 body105 Try.f5 [] [] [.slice (some ⟨0,ol,sl⟩) ll cl', .slice (some ⟨1,or,sr⟩) lr cr', .slice (some ⟨2,on,sn⟩) ln cn'] (hp [.cells cl 1 false, .cells cr 1 false, .cells cn 1 false]) K = (
Alt (ltI 20 (↑ll : Int))
  (True ∧ True ∧ K (Value.bool true) (hp [Blk.cells cl 1 false, Blk.cells cr 1 false, Blk.cells cn 1 false]))
  (Alt (ltI 20 (↑lr : Int))
    (True ∧ True ∧ K (Value.bool true) (hp [Blk.cells cl 1 false, Blk.cells cr 1 false, Blk.cells cn 1 false]))
    (Alt (ltI 20 (↑ln : Int))
      (True ∧ True ∧ K (Value.bool true) (hp [Blk.cells cl 1 false, Blk.cells cr 1 false, Blk.cells cn 1 false]))
      ((FlatL cl ∧ True) ∧
        IsE (iE IntKind.i64) (ZP IntKind.i64) cl ol ll cl' ∧
          (FlatL cr ∧ True) ∧
            IsE (iE IntKind.i64) (ZP IntKind.i64) cr or lr cr' ∧
              FlatD []
                  (hp
                    [Blk.cells cl 1 false, Blk.cells cr 1 false, Blk.cells cn 1 false,
                      Blk.cells (labC (mkR (keepO (elAt intV cl ol ll)))) 2 true,
                      Blk.cells (labC (mkR (keepO (elAt intV cr or lr)))) 2 true]) ∧
                tmps 79
                      [(2, Value.slice (some { block := 2, off := on, spot := sn : Addr }) ln cn'),
                        (7,
                          Value.slice (some { block := 3, off := 0, spot := some 1 : Addr })
                            (mkR (keepO (elAt intV cl ol ll))).length (mkR (keepO (elAt intV cl ol ll))).length),
                        (8,
                          Value.slice (some { block := 4, off := 0, spot := some 1 : Addr })
                            (mkR (keepO (elAt intV cr or lr))).length (mkR (keepO (elAt intV cr or lr))).length),
                        (9, Value.bool true), (10, Value.int IntKind.i64 0)] =
                    tmps 79
                      [(2, Value.slice (some { block := 2, off := on, spot := sn : Addr }) ln cn'),
                        (7, Value.slice (some { block := 3, off := 0, spot := some 1 : Addr }) x x),
                        (8, Value.slice (some { block := 4, off := 0, spot := some 1 : Addr }) y y),
                        (9, Value.bool true), (10, Value.int IntKind.i64 0)] ∧
                  hp
                        [Blk.cells cl 1 false, Blk.cells cr 1 false, Blk.cells cn 1 false,
                          Blk.cells (labC (mkR (keepO (elAt intV cl ol ll)))) 2 true,
                          Blk.cells (labC (mkR (keepO (elAt intV cr or lr)))) 2 true] =
                      hp
                        [Blk.cells cl 1 false, Blk.cells cr 1 false, Blk.cells cn 1 false, Blk.cells ca 2 true,
                          Blk.cells cb 2 true] ∧
                    Alt ok
                      ((FlatL ca ∧ FlatL cn ∧ True) ∧
                        (IsLs ca 0 x x ∧
                            Vals (labsAt ca 0 x) ∧ IsE sE (fun x => True) cn on ln cn' ∧ Need (leN ln 1000) True) ∧
                          (FlatL cb ∧ FlatL cn ∧ True) ∧
                            (IsLs cb 0 y y ∧
                                Vals (labsAt cb 0 y) ∧ IsE sE (fun x => True) cn on ln cn' ∧ Need (leN ln 1000) True) ∧
                              Alt
                                (eqS (ofB (projB (labsAt ca 0 x) (elAt strV cn on ln)))
                                    (ofB (projB (labsAt cb 0 y) (elAt strV cn on ln))) ==
                                  false)
                                ((FlatL ca ∧ FlatL cn ∧ True) ∧
                                  (IsLs ca 0 x x ∧
                                      Vals (labsAt ca 0 x) ∧
                                        IsE sE (fun x => True) cn on ln cn' ∧ Need (leN ln 1000) True) ∧
                                    (FlatL ca ∧ FlatL cn ∧ True) ∧
                                      (IsLs ca 0 x x ∧
                                          Vals (labsAt ca 0 x) ∧
                                            IsE sE (fun x => True) cn on ln cn' ∧ Need (leN ln 1000) True) ∧
                                        Alt
                                          (eqS (ofB (projB (labsAt ca 0 x) (elAt strV cn on ln)))
                                            (ofB (projB (labsAt ca 0 x) (elAt strV cn on ln))))
                                          (True ∧
                                            True ∧
                                              K (Value.bool true)
                                                (hp [Blk.cells cl 1 false, Blk.cells cr 1 false, Blk.cells cn 1 false]))
                                          (K (Value.bool false)
                                            (hp [Blk.cells cl 1 false, Blk.cells cr 1 false, Blk.cells cn 1 false])))
                                (K (Value.bool false)
                                  (hp [Blk.cells cl 1 false, Blk.cells cr 1 false, Blk.cells cn 1 false])))
                      (K (Value.bool true) (hp [Blk.cells cl 1 false, Blk.cells cr 1 false, Blk.cells cn 1 false])))))) := by kernel_rfl

def okF (ns : List ByteArray) : Bool := ns.all fun n => decide (n.size ≤ 300)
def sameF (a b : List Lb) (ns : List ByteArray) : Bool := ns.all fun n => eqS (getF n a) (getF n b)
theorem getF_mem (n : ByteArray) : ∀ L : List Lb, getF n L = ⟨#[]⟩ ∨ ∃ x ∈ L, getF n L = x.2 := by
  intro L
  induction L with
  | nil => exact .inl rfl
  | cons x L ih =>
    unfold getF
    split
    · exact .inr ⟨x, List.mem_cons_self, rfl⟩
    · rcases ih with h | ⟨y, hy, h⟩
      · exact .inl h
      · exact .inr ⟨y, List.mem_cons_of_mem _ hy, h⟩
theorem few_mem (l : List Int) (L : List Lb) (h : ∀ x ∈ L, x.1.size ≤ 5 ∧ x.2.size ≤ 24) : ∀ x ∈ l.foldl addK L, x.1.size ≤ 5 ∧ x.2.size ≤ 24 := by
  induction l generalizing L with
  | nil => exact h
  | cons n l ih =>
    rw [List.foldl_cons]
    refine ih _ fun x hx => ?_
    unfold addK at hx
    split at hx
    · rcases List.mem_append.1 hx with hx | hx
      · exact h x hx
      · simp at hx
        subst hx
        exact ⟨(few_facts (n % 5)).1, (few_facts (n.tdiv 5 % 7)).2.2.1⟩
    · exact h x hx
theorem keepO_few (l : List Int) : ∀ x ∈ keepO l, x.1.size ≤ 5 ∧ x.2.size ≤ 24 := by
  unfold keepO
  split
  · intro x hx; simp at hx; subst hx; exact ⟨(few_facts 0).1, (few_facts 0).2.2.1⟩
  · exact few_mem _ _ (fun x hx => by simp at hx)
theorem mkR_few {l : List Lb} (h : ∀ x ∈ l, x.1.size ≤ 5 ∧ x.2.size ≤ 24) : ∀ x ∈ mkR l, x.1.size ≤ 5 ∧ x.2.size ≤ 24 := by
  unfold mkR
  split
  · intro x hx
    rcases (mkS_mem l [] x).1 hx with hh | hh
    · simp at hh
    · exact h x hh
  · intro x hx; simp at hx
theorem mkR_len (l : List Lb) : (mkR l).length ≤ l.length := by
  unfold mkR
  split
  · have := mkS_len l []; unfold mkS; simp at this; omega
  · simp
theorem keep_facts (l : List Int) : LSl (labC (mkR (keepO l))) 0 (mkR (keepO l)) ∧ Vals (mkR (keepO l)) ∧ (mkR (keepO l)).length ≤ 6 := by
  have h1 := mkR_few (keepO_few l)
  have h2 := mkR_len (keepO l)
  have h3 := (keepO_small l).2
  refine ⟨labC_ls _ (fun x hx => by have := h1 x hx; omega) (by omega), ⟨fun n => ?_⟩, by omega⟩
  rcases getF_mem n (mkR (keepO l)) with h | ⟨x, hx, h⟩
  · rw [h]; decide
  · rw [h]; have := h1 x hx; omega
theorem bytesS_ofB {l : List Int} (h : Bytes l) : bytesS (ofB l) = l := by
  unfold bytesS ofB
  simp only [List.map_map]
  refine (List.map_congr_left fun x hx => ?_).trans (List.map_id l)
  have := h x hx
  simp [UInt8.toNat_ofNat']
  omega
theorem projB_bytes {l : List Lb} (h : Vals l) (ns : List ByteArray) : Bytes (projB l ns) := by
  induction ns with
  | nil => intro x hx; simp [projB] at hx
  | cons n ns ih =>
    rw [projB_cons]
    exact Bytes.app (ptxt_bytes _ (by have := h.le n; omega)) ih
theorem ptxt_cancel {x y : ByteArray} {s t : List Int} (hx : x.size ≤ 1000) (hy : y.size ≤ 1000) (h : ptxt x ++ s = ptxt y ++ t) : x = y ∧ s = t := by
  have e1 := dec_enc x.size (bytesS x ++ s) (by omega) (by omega)
  have e2 := dec_enc y.size (bytesS y ++ t) (by omega) (by omega)
  unfold ptxt at h
  rw [List.append_assoc, List.append_assoc] at h
  rw [h, e2] at e1
  simp only [Option.some.injEq, Prod.mk.injEq] at e1
  have hs : x.size = y.size := by omega
  rw [hs] at h
  have h := List.append_cancel_left h
  have hl : (bytesS x).length = (bytesS y).length := by rw [bytesS_len, bytesS_len, hs]
  obtain ⟨h1, h2⟩ := List.append_inj h hl
  refine ⟨?_, h2⟩
  rw [← ofB_bytesS x, ← ofB_bytesS y, h1]
theorem proj_same {a b : List Lb} (ha : Vals a) (hb : Vals b) (ns : List ByteArray) : eqS (ofB (projB a ns)) (ofB (projB b ns)) = sameF a b ns := by
  have key : projB a ns = projB b ns ↔ sameF a b ns = true := by
    induction ns with
    | nil => exact ⟨fun _ => rfl, fun _ => rfl⟩
    | cons n ns ih =>
      rw [projB_cons, projB_cons]
      unfold sameF at ih ⊢
      simp only [List.all_cons, Bool.and_eq_true]
      constructor
      · intro h
        obtain ⟨h1, h2⟩ := ptxt_cancel (ha.le n) (hb.le n) h
        exact ⟨eqS_iff.2 h1, ih.1 h2⟩
      · rintro ⟨h1, h2⟩
        rw [eqS_iff.1 h1, ih.2 h2]
  rw [Bool.eq_iff_iff, eqS_iff, ← key]
  refine ⟨fun h => ?_, fun h => by rw [h]⟩
  rw [← bytesS_ofB (projB_bytes ha ns), ← bytesS_ofB (projB_bytes hb ns), h]
theorem keys_loopf (hmix : Try.prog.follows .mixedOrders = true) (cl cr cn : List Value) (on : Nat) (sn : Option Nat) (cap2 : Nat) (ns : List ByteArray) (hN : ESl sE (fun _ => True) cn on ns) (a b : List Lb) (fl : FlatL cl) (fr : FlatL cr) (K : Post) : ∀ (t : List ByteArray) (i : Nat), ns.drop i = t → i ≤ ns.length →
    Alt (okF t) (K (.exit 0) (tmps 79 [(2, .slice (some ⟨2,on,sn⟩) ns.length cap2), (7, sl1 3 a.length), (8, sl1 4 b.length), (9, .bool false)]) (H105 cl cr cn (labC a) (labC b))) (K .ret (tmps 79 [(6, .bool true)]) (hp [.cells cl 1 false, .cells cr 1 false, .cells cn 1 false])) →
    LSays Try.prog 3 (sub body105 [0,0,1,0,1,1,1,1]) (T105 (.slice (some ⟨2,on,sn⟩) ns.length cap2) a.length b.length false i) (H105 cl cr cn (labC a) (labC b)) K := by
  have hF : FlatD [] (hp [.cells cl 1 false, .cells cr 1 false, .cells cn 1 false, .cells (labC a) 2 true, .cells (labC b) 2 true]) := FlatD.hp ⟨fl, fr, hN.flat, labC_flat a, labC_flat b, trivial⟩
  have hF0 : FlatD [] (hp [.cells cl 1 false, .cells cr 1 false, .cells cn 1 false]) := FlatD.hp ⟨fl, fr, hN.flat, trivial⟩
  have hsh := hN.short
  intro t
  induction t with
  | nil =>
    intro i ht hi hK
    have hge : ¬ ((i : Int) < (ns.length : Int)) := by have := List.drop_eq_nil_iff.1 ht; omega
    refine (sure44 hmix).roundX F105 noLoops [] [] [] [] [2,7,8,9,10] ?_
    rw [r105f]
    simp only [hge, hF, Alt_iff, Need_iff, ltI_eq, leI_eq, eqI_eq, leN_eq, eqN_eq, decide_eq_true_eq, decide_eq_false_iff_not, decide_true, decide_false, true_and, and_true, Bool.true_eq_false, Bool.false_eq_true, false_implies, true_implies, implies_true, not_true_eq_false, not_false_eq_true, Bool.not_eq_true', Bool.not_eq_false', Nat.zero_add, Nat.add_zero, Nat.sub_zero, Nat.zero_mul, Nat.mul_one, Int.toNat_natCast, List.drop_zero, beqV_int, beqV_sl, beqV_str, beqV_bool, beqV_ptr, beqV_flt, beqV_agg, beqV_tuple, List.all_cons, List.all_nil, Bool.and_self, Bool.and_true, Bool.true_and, Nat.le_refl, Int.le_refl, Nat.zero_le, Option.getD_some, isStr, strV, isInt, intV, isBool, boolV, kindEq, at0, Nat.add_sub_cancel_left, Nat.add_sub_cancel]; exact hK
  | cons x t ih =>
    intro i ht hi hK
    obtain ⟨hlt, hx, hd⟩ := cons_of_drop ht
    have hl2 : (i : Int) < (ns.length : Int) := by omega
    have hg1 := hN.cell i x hx
    refine (sure44 hmix).roundX F105 noLoops [] [] [] [] [2,7,8,9,10] ?_
    rw [r105f]
    simp only [hl2, hg1, sE, hF, hF0, nx i (by omega), Alt_iff, Need_iff, ltI_eq, leI_eq, eqI_eq, leN_eq, eqN_eq, decide_eq_true_eq, decide_eq_false_iff_not, decide_true, decide_false, true_and, and_true, Bool.true_eq_false, Bool.false_eq_true, false_implies, true_implies, implies_true, not_true_eq_false, not_false_eq_true, Bool.not_eq_true', Bool.not_eq_false', Nat.zero_add, Nat.add_zero, Nat.sub_zero, Nat.zero_mul, Nat.mul_one, Int.toNat_natCast, List.drop_zero, beqV_int, beqV_sl, beqV_str, beqV_bool, beqV_ptr, beqV_flt, beqV_agg, beqV_tuple, List.all_cons, List.all_nil, Bool.and_self, Bool.and_true, Bool.true_and, Nat.le_refl, Int.le_refl, Nat.zero_le, Option.getD_some, isStr, strV, isInt, intV, isBool, boolV, kindEq, at0, Nat.add_sub_cancel_left, Nat.add_sub_cancel]
    refine ⟨fun h => ?_, fun h => ?_⟩
    · have : okF (x :: t) = false := by simp [okF, show ¬ x.size ≤ 300 by omega]
      rw [this] at hK; exact hK
    · have : okF (x :: t) = okF t := by simp [okF, show x.size ≤ 300 by omega]
      rw [this] at hK
      exact ih (i + 1) hd (by omega) hK
theorem keys_loop (hmix : Try.prog.follows .mixedOrders = true) (cl cr cn : List Value) (on : Nat) (sn : Option Nat) (cap2 : Nat) (ns : List ByteArray) (hN : ESl sE (fun _ => True) cn on ns) (a b : List Lb) (hA : LSl (labC a) 0 a) (hB : LSl (labC b) 0 b) (fl : FlatL cl) (fr : FlatL cr) (K : Post) : ∀ (t : List ByteArray) (i : Nat), ns.drop i = t → i ≤ ns.length →
    Alt (okF t) (K (.exit 0) (tmps 79 [(2, .slice (some ⟨2,on,sn⟩) ns.length cap2), (7, sl1 3 a.length), (8, sl1 4 b.length), (9, .bool (sameF a b t))]) (H105 cl cr cn (labC a) (labC b))) (K .ret (tmps 79 [(6, .bool true)]) (hp [.cells cl 1 false, .cells cr 1 false, .cells cn 1 false])) →
    LSays Try.prog 3 (sub body105 [0,0,1,0,1,1,1,1]) (T105 (.slice (some ⟨2,on,sn⟩) ns.length cap2) a.length b.length true i) (H105 cl cr cn (labC a) (labC b)) K := by
  have hF : FlatD [] (hp [.cells cl 1 false, .cells cr 1 false, .cells cn 1 false, .cells (labC a) 2 true, .cells (labC b) 2 true]) := FlatD.hp ⟨fl, fr, hN.flat, labC_flat a, labC_flat b, trivial⟩
  have hF0 : FlatD [] (hp [.cells cl 1 false, .cells cr 1 false, .cells cn 1 false]) := FlatD.hp ⟨fl, fr, hN.flat, trivial⟩
  have hsh := hN.short
  have fa := labC_flat a
  have fb := labC_flat b
  have ia : IsLs (labC a) 0 a.length a.length := ⟨a, rfl, Nat.le_refl _, hA⟩
  have ib : IsLs (labC b) 0 b.length b.length := ⟨b, rfl, Nat.le_refl _, hB⟩
  intro t
  induction t with
  | nil =>
    intro i ht hi hK
    have hge : ¬ ((i : Int) < (ns.length : Int)) := by have := List.drop_eq_nil_iff.1 ht; omega
    refine (sure44 hmix).roundX F105 noLoops [] [] [] [] [2,7,8,9,10] ?_
    rw [r105t]
    simp only [hge, hF, Alt_iff, Need_iff, ltI_eq, leI_eq, eqI_eq, leN_eq, eqN_eq, decide_eq_true_eq, decide_eq_false_iff_not, decide_true, decide_false, true_and, and_true, Bool.true_eq_false, Bool.false_eq_true, false_implies, true_implies, implies_true, not_true_eq_false, not_false_eq_true, Bool.not_eq_true', Bool.not_eq_false', Nat.zero_add, Nat.add_zero, Nat.sub_zero, Nat.zero_mul, Nat.mul_one, Int.toNat_natCast, List.drop_zero, beqV_int, beqV_sl, beqV_str, beqV_bool, beqV_ptr, beqV_flt, beqV_agg, beqV_tuple, List.all_cons, List.all_nil, Bool.and_self, Bool.and_true, Bool.true_and, Nat.le_refl, Int.le_refl, Nat.zero_le, Option.getD_some, isStr, strV, isInt, intV, isBool, boolV, kindEq, at0, Nat.add_sub_cancel_left, Nat.add_sub_cancel]; exact hK
  | cons x t ih =>
    intro i ht hi hK
    obtain ⟨hlt, hx, hd⟩ := cons_of_drop ht
    have hl2 : (i : Int) < (ns.length : Int) := by omega
    have hg1 := hN.cell i x hx
    refine (sure44 hmix).roundX F105 noLoops [] [] [] [] [2,7,8,9,10] ?_
    rw [r105t]
    simp only [hl2, hg1, sE, hF, hF0, nx i (by omega), fa, fb, ia, ib, hA.labsAt, hB.labsAt, Alt_iff, Need_iff, ltI_eq, leI_eq, eqI_eq, leN_eq, eqN_eq, decide_eq_true_eq, decide_eq_false_iff_not, decide_true, decide_false, true_and, and_true, Bool.true_eq_false, Bool.false_eq_true, false_implies, true_implies, implies_true, not_true_eq_false, not_false_eq_true, Bool.not_eq_true', Bool.not_eq_false', Nat.zero_add, Nat.add_zero, Nat.sub_zero, Nat.zero_mul, Nat.mul_one, Int.toNat_natCast, List.drop_zero, beqV_int, beqV_sl, beqV_str, beqV_bool, beqV_ptr, beqV_flt, beqV_agg, beqV_tuple, List.all_cons, List.all_nil, Bool.and_self, Bool.and_true, Bool.true_and, Nat.le_refl, Int.le_refl, Nat.zero_le, Option.getD_some, isStr, strV, isInt, intV, isBool, boolV, kindEq, at0, Nat.add_sub_cancel_left, Nat.add_sub_cancel]
    refine ⟨fun h => ?_, fun h => ?_⟩
    · have : okF (x :: t) = false := by simp [okF, show ¬ x.size ≤ 300 by omega]
      rw [this] at hK; exact hK
    · have : okF (x :: t) = okF t := by simp [okF, show x.size ≤ 300 by omega]
      rw [this] at hK
      have e : sameF a b (x :: t) = (eqS (getF x a) (getF x b) && sameF a b t) := by simp [sameF]
      rw [e] at hK
      cases hq : eqS (getF x a) (getF x b) with
      | true => rw [hq] at hK; exact ih (i + 1) hd (by omega) hK
      | false => rw [hq] at hK; exact keys_loopf hmix cl cr cn on sn cap2 ns hN a b fl fr K t (i + 1) hd (by omega) hK
theorem law105 (hmix : Try.prog.follows .mixedOrders = true) (cl cr cn : List Value) (ol or on : Nat) (sl sr sn : Option Nat) (cap0 cap1 cap2 : Nat) (l r : List Int) (ns : List ByteArray) (h0 : l.length ≤ cap0) (h1 : r.length ≤ cap1) (h2 : ns.length ≤ cap2) (hL : ESl (iE .i64) (ZP .i64) cl ol l) (hR : ESl (iE .i64) (ZP .i64) cr or r) (hN : ESl sE (fun _ => True) cn on ns) :
    FunSays Try.prog 5 [.slice (some ⟨0,ol,sl⟩) l.length cap0, .slice (some ⟨1,or,sr⟩) r.length cap1, .slice (some ⟨2,on,sn⟩) ns.length cap2] (hp [.cells cl 1 false, .cells cr 1 false, .cells cn 1 false]) fun v _ => v = .bool true := by
  obtain ⟨a1, a2, a3⟩ := keep_facts l
  obtain ⟨b1, b2, b3⟩ := keep_facts r
  have e1 := hL.elAt (dec := intV) (fun _ => rfl)
  have e2 := hR.elAt (dec := intV) (fun _ => rfl)
  have e3 := hN.elAt (dec := strV) (fun _ => rfl)
  have iL : IsE (iE .i64) (ZP .i64) cl ol l.length cap0 := ⟨l, rfl, h0, hL⟩
  have iR : IsE (iE .i64) (ZP .i64) cr or r.length cap1 := ⟨r, rfl, h1, hR⟩
  have iN : IsE sE (fun _ => True) cn on ns.length cap2 := ⟨ns, rfl, h2, hN⟩
  have loop : ∀ q, sameF (mkR (keepO l)) (mkR (keepO r)) ns = q → Loops Try.prog body105 3 (cutLK [c105 cl cr cn (labC (mkR (keepO l))) (labC (mkR (keepO r))) (.slice (some ⟨2,on,sn⟩) ns.length cap2) (mkR (keepO l)).length (mkR (keepO r)).length (okF ns) q]) := fun q hq => Loops.none.more _ fun K hK => by
    show LSays Try.prog _ (sub body105 [0,0,1,0,1,1,1,1]) _ _ _
    refine keys_loop hmix cl cr cn on sn cap2 ns hN _ _ a1 b1 hL.flat hR.flat K ns 0 rfl (by omega) ?_
    rw [hq]; exact hK
  have hF0 : FlatD [] (hp [.cells cl 1 false, .cells cr 1 false, .cells cn 1 false]) := FlatD.hp ⟨hL.flat, hR.flat, hN.flat, trivial⟩
  have ps := proj_same a2 b2 ns
  generalize hA : mkR (keepO l) = A at *
  generalize hB : mkR (keepO r) = B at *
  have hF : FlatD [] (hp [.cells cl 1 false, .cells cr 1 false, .cells cn 1 false, .cells (labC A) 2 true, .cells (labC B) 2 true]) := FlatD.hp ⟨hL.flat, hR.flat, hN.flat, labC_flat A, labC_flat B, trivial⟩
  have fa := labC_flat A
  have fb := labC_flat B
  have ia : IsLs (labC A) 0 A.length A.length := ⟨A, rfl, Nat.le_refl _, a1⟩
  have ib : IsLs (labC B) 0 B.length B.length := ⟨B, rfl, Nat.le_refl _, b1⟩
  cases hq : sameF A B ns with
  | true =>
    refine (sure44 hmix).funX F105 body105 [] [] Try.func5 rfl ((loop true hq).gcX (at0 []) (at0 [])) ?_
    rw [w105t]
    simp only [e1, e2, e3, hA, hB, iL, iR, iN, hF, hF0, fa, fb, ia, ib, a1.labsAt, b1.labsAt, a2, b2, ps, hq, hL.flat, hR.flat, hN.flat, eqS_rfl, isJunk, Alt_iff, Need_iff, ltI_eq, leI_eq, eqI_eq, leN_eq, eqN_eq, decide_eq_true_eq, decide_eq_false_iff_not, decide_true, decide_false, true_and, and_true, Bool.true_eq_false, Bool.false_eq_true, false_implies, true_implies, implies_true, not_true_eq_false, not_false_eq_true, Bool.not_eq_true', Bool.not_eq_false', Nat.zero_add, Nat.add_zero, Nat.sub_zero, Nat.zero_mul, Nat.mul_one, Int.toNat_natCast, List.drop_zero, beqV_int, beqV_sl, beqV_str, beqV_bool, beqV_ptr, beqV_flt, beqV_agg, beqV_tuple, List.all_cons, List.all_nil, Bool.and_self, Bool.and_true, Bool.true_and, Nat.le_refl, Int.le_refl, Nat.zero_le, Option.getD_some, isStr, strV, isInt, intV, isBool, boolV, kindEq, at0, Nat.add_sub_cancel_left, Nat.add_sub_cancel]
    exact fun _ _ _ _ => ⟨by omega, by omega, fun _ => ⟨by omega, by omega⟩, fun h => absurd h (by decide)⟩
  | false =>
    refine (sure44 hmix).funX F105 body105 [] [] Try.func5 rfl ((loop false hq).gcX (at0 []) (at0 [])) ?_
    rw [w105f]
    simp only [e1, e2, e3, hA, hB, iL, iR, iN, hF, hF0, fa, fb, ia, ib, a1.labsAt, b1.labsAt, a2, b2, ps, hq, hL.flat, hR.flat, hN.flat, eqS_rfl, isJunk, Alt_iff, Need_iff, ltI_eq, leI_eq, eqI_eq, leN_eq, eqN_eq, decide_eq_true_eq, decide_eq_false_iff_not, decide_true, decide_false, true_and, and_true, Bool.true_eq_false, Bool.false_eq_true, false_implies, true_implies, implies_true, not_true_eq_false, not_false_eq_true, Bool.not_eq_true', Bool.not_eq_false', Nat.zero_add, Nat.add_zero, Nat.sub_zero, Nat.zero_mul, Nat.mul_one, Int.toNat_natCast, List.drop_zero, beqV_int, beqV_sl, beqV_str, beqV_bool, beqV_ptr, beqV_flt, beqV_agg, beqV_tuple, List.all_cons, List.all_nil, Bool.and_self, Bool.and_true, Bool.true_and, Nat.le_refl, Int.le_refl, Nat.zero_le, Option.getD_some, isStr, strV, isInt, intV, isBool, boolV, kindEq, at0, Nat.add_sub_cancel_left, Nat.add_sub_cancel]
    exact fun _ _ _ _ => ⟨by omega, by omega, fun _ => ⟨by omega, by omega⟩, fun h => absurd h (by decide)⟩
end Go.Proofs.Ytdpfmaimhimfcaa
