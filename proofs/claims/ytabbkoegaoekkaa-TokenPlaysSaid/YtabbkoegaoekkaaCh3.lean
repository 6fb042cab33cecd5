/- Proved: what functions of the program come to, by their conditions over the abstract machine. Conditions: those that each theorem states. -/
import Derived.Test.YtabbkoegaoekkaaCh2
set_option linter.unusedVariables false
set_option linter.unusedSimpArgs false
namespace Go.Proofs.Ytabbkoegaoekkaa
open Go.RowKit Go.Proofs.Ytabbkoegaoekkaa.AM
set_option maxRecDepth 100000
set_option maxHeartbeats 8000000
theorem Tok2.up {n : Nat} {b : St19} (h : Tok2 n b) : Tok2 (n + 1) b := ⟨h.y, h.z, h.em, h.em2, h.hk, h.hk2, h.perm, h.sort, by have := h.len; omega⟩
theorem flat1 (ow : Int) : FlatL [Value.int .i64 ow] := .mk fun v hv => by rcases List.mem_singleton.1 hv with rfl; rfl
theorem partA (hmix : Try.prog.follows .mixedOrders = true) (ca : List Value) (hca : FlatL ca) (s1 : Option Nat) (len k1 : Nat) (owner : Int) (i : Nat) (hi : i < len) (hlen : len ≤ 80) (x : ByteArray) (hx : Txt x) (mo : Int) (kd ow tk : Int) (raw : ByteArray) (hS : Step4 ca i kd ow tk raw) (b : St19) (hT : Tok2 i b) (K : Post)
    (hK : ∀ b' : St19, Tok2 (i + 1) b' → K .normal (T1947 s1 len k1 owner i) (H19 ca mo mo b')) : Says Try.prog 1 (sub body1947 [1,1,1,0,0,1,0,0,1,0,1,1,1,1]) (T1947x s1 len k1 owner i x) (H19 ca mo mo b) K := by
  have hLC : Loops Try.prog body1947 1 (cutE [cut1947c ca s1 len k1 owner i x mo mo]) := Loops.noneE.moreE _ fun b' K hQ => by
    obtain ⟨h1, h2⟩ := hQ
    exact partC hmix ca hca s1 len k1 owner i hi hlen x mo mo kd ow tk raw hS b' h1 K h2
  have y := hT.yl
  have z := hT.zl
  have hlL := hT.len
  have hlM := hT.perm.length_eq
  have hem := hT.em
  have hem2 := hT.em2
  have hxs := hx.s
  have hF := hF19 (mo := mo) (mr := mo) (m := b.m) (k := b.k) (m2 := b.m2) (k2 := b.k2) hca hT.y.flat hT.z.flat
  have fin0 : ∀ b' : St19, Tok2 (i + 1) b' → FlatD [1,2] (H19 ca mo mo b') ∧ K .normal (T1947 s1 len k1 owner i) (H19 ca mo mo b') := fun b' h => ⟨hF19 hca h.y.flat h.z.flat, hK b' h⟩
  have same : (FlatD [1,2] (H19 ca mo mo b) ∧ K .normal (T1947 s1 len k1 owner i) (H19 ca mo mo b)) := fin0 b hT.up
  have hof : ∀ o, (ofL o b.M).length = (ofL o b.L).length := fun o => (ofL_perm o hT.perm).length_eq.symm
  refine (sure1947 hmix).cutN F1947 (hLC.gcX (at0 [1,2]) (at0 [.cell 7 1 2, .cell 8 1 2])) [1,2] [] [1,2] [] [1,2,7,8,9] ?_
  unfold H19
  rw [y1947a, y.at, z.at]
  simp only [Nat.zero_add, Nat.add_zero, Int.toNat_natCast, hS.g0, hS.g1, Option.getD_some, show intV (Value.int .u8 kd) = kd from rfl, show intV (Value.int .i64 ow) = ow from rfl]
  by_cases hk3 : kd.tmod 5 = 3
  · rcases placeF_spec x b.L 0 (-1) with ⟨h1, h2⟩ | ⟨p, t, h1, h2, h3⟩
    · have ho : ownR x b.M = none := own_none.2 fun t ht => h2 t (hT.perm.mem_iff.2 ht)
      rw [h1, ho]
      simp only [↓Alt_ite, ↓reduceIte, ltI_eq, leI_eq, eqI_eq, decide_eq_true_eq, hk3, hn19, hT.y.flat, hT.z.flat, y.is, z.is, show b.m ≤ 1000000 by omega, show b.m2 ≤ 1000000 by omega, show (-1 : Int) < 0 by decide, show (i : Int) < (len : Int) by omega, Option.getD_none, Bool.false_beq, Bool.true_beq, Bool.not_not, Bool.not_false, hF, Alt_iff, Need_iff, ltI_eq, leI_eq, eqI_eq, leN_eq, eqN_eq, decide_eq_true_eq, decide_eq_false_iff_not, decide_true, decide_false, true_and, and_true, Bool.true_eq_false, Bool.false_eq_true, false_implies, true_implies, implies_true, not_true_eq_false, not_false_eq_true, Bool.not_eq_true', Bool.not_eq_false', Nat.zero_add, Nat.add_zero, Nat.sub_zero, Nat.zero_mul, Nat.mul_one, Int.toNat_natCast, List.drop_zero, beqV_int, beqV_sl, beqV_str, beqV_bool, beqV_ptr, beqV_flt, beqV_agg, beqV_tuple, List.all_cons, List.all_nil, Bool.and_self, Bool.and_true, Bool.true_and, Nat.le_refl, Int.le_refl, Nat.zero_le, Option.getD_some, isStr, strV, isInt, intV, isBool, boolV, kindEq, at0, isJunk, Option.isSome_some, Option.isSome_none, if_true, if_false, Nat.add_sub_cancel_left, Nat.add_sub_cancel]
      exact ⟨b, rfl, hT.up, same⟩
    · have ht : t ∈ b.M := hT.perm.mem_iff.1 (List.mem_of_getElem? h2)
      have ho : ownR x b.M = some t.2 := own_of hT.sort ht h3
      have hpl := (List.getElem?_eq_some_iff.1 h2).1
      rw [Nat.zero_add] at h1
      rw [h1, ho]
      by_cases he : t.2 = ow
      · have hpn : wr .i64 ((p : Int) + 1) = (p : Int) + 1 := wr_i64 _ (by omega) (by omega)
        have hlc := cutR_len x b.M
        obtain ⟨c1, c2⟩ := cutR_both hT.perm hT.sort h2
        rw [h3] at c1 c2
        have dele : ∀ (x1 : List Value × Nat) (x2 : List Value), IsTL (b.L.eraseIdx p) x1.1 (b.m - 1) x1.2 → IsTE (cutR x b.M) x2 (cutR x b.M).length (cutR x b.M).length →
            Tok2 (i + 1) ⟨b.L.eraseIdx p, cutR x b.M, x1.1, b.m - 1, x1.2, x2, (cutR x b.M).length, (cutR x b.M).length⟩ := fun x1 x2 q1 q2 =>
          ⟨q1.row, q2.row, q1.len, rfl, q1.le, Nat.le_refl _, c1, c2, by show (b.L.eraseIdx p).length ≤ _; rw [← q1.len]; omega⟩
        by_cases h0 : ow = 0
        · subst h0
          by_cases hone : (((ofL 0 b.L).length : Nat) : Int) = 1
          · simp only [hk3, he, hof, hone, show ¬ ((p : Int) < 0) by omega, show (0 : Int) ≤ (p : Int) by omega, show (p : Int) < (b.m : Int) by omega, hT.y.get1 h2, tkG, ↓Alt_ite, ↓reduceIte, ltI_eq, leI_eq, eqI_eq, decide_eq_true_eq, hn19, hT.y.flat, hT.z.flat, y.is, z.is, show b.m ≤ 1000000 by omega, show b.m2 ≤ 1000000 by omega, show (i : Int) < (len : Int) by omega, Option.getD_some, Option.getD_none, Bool.false_beq, Bool.true_beq, Bool.not_not, Bool.not_false, Bool.not_true, hF, Alt_iff, Need_iff, ltI_eq, leI_eq, eqI_eq, leN_eq, eqN_eq, decide_eq_true_eq, decide_eq_false_iff_not, decide_true, decide_false, true_and, and_true, Bool.true_eq_false, Bool.false_eq_true, false_implies, true_implies, implies_true, not_true_eq_false, not_false_eq_true, Bool.not_eq_true', Bool.not_eq_false', Nat.zero_add, Nat.add_zero, Nat.sub_zero, Nat.zero_mul, Nat.mul_one, Int.toNat_natCast, List.drop_zero, beqV_int, beqV_sl, beqV_str, beqV_bool, beqV_ptr, beqV_flt, beqV_agg, beqV_tuple, List.all_cons, List.all_nil, Bool.and_self, Bool.and_true, Bool.true_and, Nat.le_refl, Int.le_refl, Nat.zero_le, Option.getD_some, isStr, strV, isInt, intV, isBool, boolV, kindEq, at0, isJunk, Option.isSome_some, Option.isSome_none, if_true, if_false, Nat.add_sub_cancel_left, Nat.add_sub_cancel]
            refine fun x1 hx1 x2 hx2 => ?_
            exact ⟨b, rfl, hT.up, same⟩
          · simp only [hk3, he, hof, hone, hpn, show ¬ ((p : Int) < 0) by omega, show (0 : Int) ≤ (p : Int) by omega, show (p : Int) < (b.m : Int) by omega, hT.y.get1 h2, tkG, ↓Alt_ite, ↓reduceIte, ltI_eq, leI_eq, eqI_eq, decide_eq_true_eq, hn19, hT.y.flat, hT.z.flat, y.is, z.is, show b.m ≤ 1000000 by omega, show b.m2 ≤ 1000000 by omega, show (i : Int) < (len : Int) by omega, Option.getD_some, Option.getD_none, Bool.false_beq, Bool.true_beq, Bool.not_not, Bool.not_false, Bool.not_true, hF, Alt_iff, Need_iff, ltI_eq, leI_eq, eqI_eq, leN_eq, eqN_eq, decide_eq_true_eq, decide_eq_false_iff_not, decide_true, decide_false, true_and, and_true, Bool.true_eq_false, Bool.false_eq_true, false_implies, true_implies, implies_true, not_true_eq_false, not_false_eq_true, Bool.not_eq_true', Bool.not_eq_false', Nat.zero_add, Nat.add_zero, Nat.sub_zero, Nat.zero_mul, Nat.mul_one, Int.toNat_natCast, List.drop_zero, beqV_int, beqV_sl, beqV_str, beqV_bool, beqV_ptr, beqV_flt, beqV_agg, beqV_tuple, List.all_cons, List.all_nil, Bool.and_self, Bool.and_true, Bool.true_and, Nat.le_refl, Int.le_refl, Nat.zero_le, Option.getD_some, isStr, strV, isInt, intV, isBool, boolV, kindEq, at0, isJunk, Option.isSome_some, Option.isSome_none, if_true, if_false, Nat.add_sub_cancel_left, Nat.add_sub_cancel]
            exact fun _ _ x1 q1 _ _ x2 q2 => ⟨hF19 hca q1.row.flat q2.row.flat, _, rfl, dele x1 x2 q1 q2, fin0 _ (dele x1 x2 q1 q2)⟩
        · simp only [hk3, he, h0, hof, hpn, show ¬ ((p : Int) < 0) by omega, show (0 : Int) ≤ (p : Int) by omega, show (p : Int) < (b.m : Int) by omega, hT.y.get1 h2, tkG, ↓Alt_ite, ↓reduceIte, ltI_eq, leI_eq, eqI_eq, decide_eq_true_eq, hn19, hT.y.flat, hT.z.flat, y.is, z.is, show b.m ≤ 1000000 by omega, show b.m2 ≤ 1000000 by omega, show (i : Int) < (len : Int) by omega, Option.getD_some, Option.getD_none, Bool.false_beq, Bool.true_beq, Bool.not_not, Bool.not_false, Bool.not_true, hF, Alt_iff, Need_iff, ltI_eq, leI_eq, eqI_eq, leN_eq, eqN_eq, decide_eq_true_eq, decide_eq_false_iff_not, decide_true, decide_false, true_and, and_true, Bool.true_eq_false, Bool.false_eq_true, false_implies, true_implies, implies_true, not_true_eq_false, not_false_eq_true, Bool.not_eq_true', Bool.not_eq_false', Nat.zero_add, Nat.add_zero, Nat.sub_zero, Nat.zero_mul, Nat.mul_one, Int.toNat_natCast, List.drop_zero, beqV_int, beqV_sl, beqV_str, beqV_bool, beqV_ptr, beqV_flt, beqV_agg, beqV_tuple, List.all_cons, List.all_nil, Bool.and_self, Bool.and_true, Bool.true_and, Nat.le_refl, Int.le_refl, Nat.zero_le, Option.getD_some, isStr, strV, isInt, intV, isBool, boolV, kindEq, at0, isJunk, Option.isSome_some, Option.isSome_none, if_true, if_false, Nat.add_sub_cancel_left, Nat.add_sub_cancel]
          exact fun x1 q1 x2 q2 => ⟨hF19 hca q1.row.flat q2.row.flat, _, rfl, dele x1 x2 q1 q2, fin0 _ (dele x1 x2 q1 q2)⟩
      · simp only [↓Alt_ite, ↓reduceIte, ltI_eq, leI_eq, eqI_eq, decide_eq_true_eq, hk3, he, hn19, hT.y.flat, hT.z.flat, y.is, z.is, show b.m ≤ 1000000 by omega, show b.m2 ≤ 1000000 by omega, show ¬ ((p : Int) < 0) by omega, show (0 : Int) ≤ (p : Int) by omega, show (p : Int) < (b.m : Int) by omega, show (i : Int) < (len : Int) by omega, hT.y.get1 h2, tkG, Option.getD_some, Bool.false_beq, Bool.true_beq, Bool.not_not, Bool.not_false, hF, Alt_iff, Need_iff, ltI_eq, leI_eq, eqI_eq, leN_eq, eqN_eq, decide_eq_true_eq, decide_eq_false_iff_not, decide_true, decide_false, true_and, and_true, Bool.true_eq_false, Bool.false_eq_true, false_implies, true_implies, implies_true, not_true_eq_false, not_false_eq_true, Bool.not_eq_true', Bool.not_eq_false', Nat.zero_add, Nat.add_zero, Nat.sub_zero, Nat.zero_mul, Nat.mul_one, Int.toNat_natCast, List.drop_zero, beqV_int, beqV_sl, beqV_str, beqV_bool, beqV_ptr, beqV_flt, beqV_agg, beqV_tuple, List.all_cons, List.all_nil, Bool.and_self, Bool.and_true, Bool.true_and, Nat.le_refl, Int.le_refl, Nat.zero_le, Option.getD_some, isStr, strV, isInt, intV, isBool, boolV, kindEq, at0, isJunk, Option.isSome_some, Option.isSome_none, if_true, if_false, Nat.add_sub_cancel_left, Nat.add_sub_cancel]
        exact ⟨b, rfl, hT.up, same⟩
  · by_cases hk4 : kd.tmod 5 = 4
    · obtain ⟨d1, d2⟩ := drop_both hT.perm hT.sort ow
      have dl := dropL_len ow b.L
      have dl2 : b.m - (dropL ow b.L).length = (ofL ow b.L).length := by
        have e1 := ofL_eq ow b.L
        have e2 : (b.L.filter fun x => eqI x.2 ow).length + (dropL ow b.L).length = b.L.length := by
          unfold dropL
          induction b.L with
          | nil => rfl
          | cons y t ih => simp only [List.filter_cons]; cases eqI y.2 ow <;> simp <;> omega
        rw [e1, List.length_map]; omega
      have hk3' : ¬ ((4 : Int) = 3) := by decide
      simp only [hk3', hk4, hof, ↓Alt_ite, ↓reduceIte, ltI_eq, leI_eq, eqI_eq, decide_eq_true_eq, hn19, hT.y.flat, hT.z.flat, y.is, z.is, show b.m ≤ 1000000 by omega, show b.m2 ≤ 1000000 by omega, show (i : Int) < (len : Int) by omega, Option.getD_some, Option.getD_none, Bool.false_beq, Bool.true_beq, Bool.not_not, Bool.not_false, Bool.not_true, hF, Alt_iff, Need_iff, ltI_eq, leI_eq, eqI_eq, leN_eq, eqN_eq, decide_eq_true_eq, decide_eq_false_iff_not, decide_true, decide_false, true_and, and_true, Bool.true_eq_false, Bool.false_eq_true, false_implies, true_implies, implies_true, not_true_eq_false, not_false_eq_true, Bool.not_eq_true', Bool.not_eq_false', Nat.zero_add, Nat.add_zero, Nat.sub_zero, Nat.zero_mul, Nat.mul_one, Int.toNat_natCast, List.drop_zero, beqV_int, beqV_sl, beqV_str, beqV_bool, beqV_ptr, beqV_flt, beqV_agg, beqV_tuple, List.all_cons, List.all_nil, Bool.and_self, Bool.and_true, Bool.true_and, Nat.le_refl, Int.le_refl, Nat.zero_le, Option.getD_some, isStr, strV, isInt, intV, isBool, boolV, kindEq, at0, isJunk, Option.isSome_some, Option.isSome_none, if_true, if_false, Nat.add_sub_cancel_left, Nat.add_sub_cancel]
      refine ⟨flat1 ow, fun x1 q1 x2 q2 => ?_⟩
      have hw : wr .i64 ((b.m : Int) - ((dropL ow b.L).length : Int)) = ((ofL ow b.L).length : Int) := by rw [wr_i64 _ (by omega) (by omega)]; omega
      have hT' : Tok2 (i + 1) ⟨dropL ow b.L, cutAll (ofL ow b.M) b.M, x1, (dropL ow b.L).length, b.k, x2.1, (cutAll (ofL ow b.M) b.M).length, x2.2⟩ :=
        ⟨q1.row, q2.row, rfl, rfl, q1.le, q2.le, d1, d2, by show (dropL ow b.L).length ≤ _; omega⟩
      rw [hw, decide_eq_true rfl]
      exact ⟨hF19 hca q1.row.flat q2.row.flat, _, rfl, rfl, hT', fin0 _ hT'⟩
    · have hlf : (ofL ow b.L).length ≤ b.L.length := by rw [ofL_eq, List.length_map]; exact List.length_filter_le _ _
      by_cases hn : ow < 0
      · simp only [hk3, hk4, hn, hof, ↓Alt_ite, ↓reduceIte, ltI_eq, leI_eq, eqI_eq, decide_eq_true_eq, hn19, hT.y.flat, hT.z.flat, y.is, z.is, show b.m ≤ 1000000 by omega, show b.m2 ≤ 1000000 by omega, show (i : Int) < (len : Int) by omega, Option.getD_some, Option.getD_none, Bool.false_beq, Bool.true_beq, Bool.not_not, Bool.not_false, Bool.not_true, hF, Alt_iff, Need_iff, ltI_eq, leI_eq, eqI_eq, leN_eq, eqN_eq, decide_eq_true_eq, decide_eq_false_iff_not, decide_true, decide_false, true_and, and_true, Bool.true_eq_false, Bool.false_eq_true, false_implies, true_implies, implies_true, not_true_eq_false, not_false_eq_true, Bool.not_eq_true', Bool.not_eq_false', Nat.zero_add, Nat.add_zero, Nat.sub_zero, Nat.zero_mul, Nat.mul_one, Int.toNat_natCast, List.drop_zero, beqV_int, beqV_sl, beqV_str, beqV_bool, beqV_ptr, beqV_flt, beqV_agg, beqV_tuple, List.all_cons, List.all_nil, Bool.and_self, Bool.and_true, Bool.true_and, Nat.le_refl, Int.le_refl, Nat.zero_le, Option.getD_some, isStr, strV, isInt, intV, isBool, boolV, kindEq, at0, isJunk, Option.isSome_some, Option.isSome_none, if_true, if_false, Nat.add_sub_cancel_left, Nat.add_sub_cancel]
        exact ⟨b, rfl, hT.up, same⟩
      · by_cases hz : (4 ≤ (x.size : Int) ∧ (x.size : Int) ≤ 16)
        · obtain ⟨z1, z2⟩ := hz
          rcases placeF_spec x b.L 0 (-1) with ⟨h1, h2⟩ | ⟨p, t, h1, h2, h3⟩
          · have h2' : ∀ t ∈ b.M, t.1 ≠ x := fun t ht => h2 t (hT.perm.mem_iff.2 ht)
            have ho : ownR x b.M = none := own_none.2 h2'
            by_cases hq : mo ≤ ((ofL ow b.L).length : Int)
            · simp only [hk3, hk4, hn, hq, z1, z2, h1, ho, hof, ↓Alt_ite, ↓reduceIte, ltI_eq, leI_eq, eqI_eq, decide_eq_true_eq, decide_true, Bool.and_true, Bool.true_eq_false, show (-1 : Int) < 0 by decide, show ¬ ((0 : Int) ≤ -1) by decide, hn19, hT.y.flat, hT.z.flat, y.is, z.is, show b.m ≤ 1000000 by omega, show b.m2 ≤ 1000000 by omega, show (i : Int) < (len : Int) by omega, Option.getD_some, Option.getD_none, Bool.false_beq, Bool.true_beq, Bool.not_not, Bool.not_false, Bool.not_true, hF, Alt_iff, Need_iff, ltI_eq, leI_eq, eqI_eq, leN_eq, eqN_eq, decide_eq_true_eq, decide_eq_false_iff_not, decide_true, decide_false, true_and, and_true, Bool.true_eq_false, Bool.false_eq_true, false_implies, true_implies, implies_true, not_true_eq_false, not_false_eq_true, Bool.not_eq_true', Bool.not_eq_false', Nat.zero_add, Nat.add_zero, Nat.sub_zero, Nat.zero_mul, Nat.mul_one, Int.toNat_natCast, List.drop_zero, beqV_int, beqV_sl, beqV_str, beqV_bool, beqV_ptr, beqV_flt, beqV_agg, beqV_tuple, List.all_cons, List.all_nil, Bool.and_self, Bool.and_true, Bool.true_and, Nat.le_refl, Int.le_refl, Nat.zero_le, Option.getD_some, isStr, strV, isInt, intV, isBool, boolV, kindEq, at0, isJunk, Option.isSome_some, Option.isSome_none, if_true, if_false, Nat.add_sub_cancel_left, Nat.add_sub_cancel]
              exact fun _ _ _ _ => ⟨b, rfl, hT.up, same⟩
            · simp only [hk3, hk4, hn, hq, z1, z2, h1, ho, hof, ↓Alt_ite, ↓reduceIte, ltI_eq, leI_eq, eqI_eq, decide_eq_true_eq, decide_true, Bool.and_true, Bool.true_eq_false, show (-1 : Int) < 0 by decide, show ¬ ((0 : Int) ≤ -1) by decide, hn19, hT.y.flat, hT.z.flat, y.is, z.is, show b.m ≤ 1000000 by omega, show b.m2 ≤ 1000000 by omega, show (i : Int) < (len : Int) by omega, Option.getD_some, Option.getD_none, Bool.false_beq, Bool.true_beq, Bool.not_not, Bool.not_false, Bool.not_true, hF, Alt_iff, Need_iff, ltI_eq, leI_eq, eqI_eq, leN_eq, eqN_eq, decide_eq_true_eq, decide_eq_false_iff_not, decide_true, decide_false, true_and, and_true, Bool.true_eq_false, Bool.false_eq_true, false_implies, true_implies, implies_true, not_true_eq_false, not_false_eq_true, Bool.not_eq_true', Bool.not_eq_false', Nat.zero_add, Nat.add_zero, Nat.sub_zero, Nat.zero_mul, Nat.mul_one, Int.toNat_natCast, List.drop_zero, beqV_int, beqV_sl, beqV_str, beqV_bool, beqV_ptr, beqV_flt, beqV_agg, beqV_tuple, List.all_cons, List.all_nil, Bool.and_self, Bool.and_true, Bool.true_and, Nat.le_refl, Int.le_refl, Nat.zero_le, Option.getD_some, isStr, strV, isInt, intV, isBool, boolV, kindEq, at0, isJunk, Option.isSome_some, Option.isSome_none, if_true, if_false, Nat.add_sub_cancel_left, Nat.add_sub_cancel]
              have hnew : ∀ (x3 : List Value), IsTL (putT ow x b.M) x3 (b.m2 + 1) (b.m2 + 1) → Tok2 (i + 1) ⟨b.L ++ [(x, ow)], putT ow x b.M, b.cy.take (b.m * 2) ++ [.string x, .int .i64 ow], b.m + 1, b.m + 1, x3, b.m2 + 1, b.m2 + 1⟩ := fun x3 q => by
                obtain ⟨c1, c2⟩ := put_both hT.perm hT.sort (o := ow) h2'
                refine ⟨?_, q.row, by simp [hT.em], q.len, Nat.le_refl _, Nat.le_refl _, c1, c2, by simp; omega⟩
                have hw : b.cy.take (b.m * 2) ++ [.string x, .int .i64 ow] = pC tkF tkG (b.L ++ [(x, ow)]) := by
                  rw [hT.em, hT.y.whole, pC_append]; rfl
                rw [hw]
                exact PSl.own0 (fun _ => rfl) (fun _ => rfl) fun t ht => (List.mem_append.1 ht).elim (hT.y.ok t) fun h => by
                  rcases List.mem_singleton.1 h with rfl
                  exact ⟨by show x.size ≤ 1000000; omega, hS.ow⟩
              refine fun x1 q1 => ⟨by have := hT.y.size; omega, by omega, by omega, fun x2 q2 => ⟨⟨by omega, hS.ow⟩, fun x3 q3 => ?_⟩⟩
              exact ⟨hF19 hca (hnew x3 q3).y.flat q3.row.flat, _, rfl, hnew x3 q3, fin0 _ (hnew x3 q3)⟩
          · have ht : t ∈ b.M := hT.perm.mem_iff.1 (List.mem_of_getElem? h2)
            have ho : ownR x b.M = some t.2 := own_of hT.sort ht h3
            rw [Nat.zero_add] at h1
            simp only [hk3, hk4, hn, z1, z2, h1, ho, hof, ↓Alt_ite, ↓reduceIte, ltI_eq, leI_eq, eqI_eq, decide_eq_true_eq, decide_true, Bool.and_true, Bool.true_eq_false, show ¬ ((p : Int) < 0) by omega, show (0 : Int) ≤ (p : Int) by omega, hn19, hT.y.flat, hT.z.flat, y.is, z.is, show b.m ≤ 1000000 by omega, show b.m2 ≤ 1000000 by omega, show (i : Int) < (len : Int) by omega, Option.getD_some, Option.getD_none, Bool.false_beq, Bool.true_beq, Bool.not_not, Bool.not_false, Bool.not_true, hF, Alt_iff, Need_iff, ltI_eq, leI_eq, eqI_eq, leN_eq, eqN_eq, decide_eq_true_eq, decide_eq_false_iff_not, decide_true, decide_false, true_and, and_true, Bool.true_eq_false, Bool.false_eq_true, false_implies, true_implies, implies_true, not_true_eq_false, not_false_eq_true, Bool.not_eq_true', Bool.not_eq_false', Nat.zero_add, Nat.add_zero, Nat.sub_zero, Nat.zero_mul, Nat.mul_one, Int.toNat_natCast, List.drop_zero, beqV_int, beqV_sl, beqV_str, beqV_bool, beqV_ptr, beqV_flt, beqV_agg, beqV_tuple, List.all_cons, List.all_nil, Bool.and_self, Bool.and_true, Bool.true_and, Nat.le_refl, Int.le_refl, Nat.zero_le, Option.getD_some, isStr, strV, isInt, intV, isBool, boolV, kindEq, at0, isJunk, Option.isSome_some, Option.isSome_none, if_true, if_false, Nat.add_sub_cancel_left, Nat.add_sub_cancel]
            exact ⟨b, rfl, hT.up, same⟩
        · have hz' : (decide (4 ≤ (x.size : Int)) && decide ((x.size : Int) ≤ 16)) = false := by
            rw [← Bool.not_eq_true, Bool.and_eq_true, decide_eq_true_eq, decide_eq_true_eq]; exact hz
          simp only [hk3, hk4, hn, hof, hz', ↓Alt_ite, ↓reduceIte, ltI_eq, leI_eq, eqI_eq, decide_eq_true_eq, hn19, hT.y.flat, hT.z.flat, y.is, z.is, show b.m ≤ 1000000 by omega, show b.m2 ≤ 1000000 by omega, show (i : Int) < (len : Int) by omega, Option.getD_some, Option.getD_none, Bool.false_beq, Bool.true_beq, Bool.not_not, Bool.not_false, Bool.not_true, hF, Alt_iff, Need_iff, ltI_eq, leI_eq, eqI_eq, leN_eq, eqN_eq, decide_eq_true_eq, decide_eq_false_iff_not, decide_true, decide_false, true_and, and_true, Bool.true_eq_false, Bool.false_eq_true, false_implies, true_implies, implies_true, not_true_eq_false, not_false_eq_true, Bool.not_eq_true', Bool.not_eq_false', Nat.zero_add, Nat.add_zero, Nat.sub_zero, Nat.zero_mul, Nat.mul_one, Int.toNat_natCast, List.drop_zero, beqV_int, beqV_sl, beqV_str, beqV_bool, beqV_ptr, beqV_flt, beqV_agg, beqV_tuple, List.all_cons, List.all_nil, Bool.and_self, Bool.and_true, Bool.true_and, Nat.le_refl, Int.le_refl, Nat.zero_le, Option.getD_some, isStr, strV, isInt, intV, isBool, boolV, kindEq, at0, isJunk, Option.isSome_some, Option.isSome_none, if_true, if_false, Nat.add_sub_cancel_left, Nat.add_sub_cancel]
          exact ⟨b, rfl, hT.up, same⟩
end Go.Proofs.Ytabbkoegaoekkaa

namespace Go.Proofs.Ytabbkoegaoekkaa
open Go.RowKit Go.Proofs.Ytabbkoegaoekkaa.AM
set_option maxRecDepth 100000
set_option maxHeartbeats 4000000
def Steps4 (ca : List Value) (len : Nat) : Prop := ∀ i, i < len → ∃ (kd ow tk : Int) (raw : ByteArray), Step4 ca i kd ow tk raw
theorem flatD1 {ca : List Value} (h : FlatL ca) : FlatD [] (hp [.cells ca 4 false]) := FlatD.hp ⟨h, trivial⟩
theorem tplays_loop (hmix : Try.prog.follows .mixedOrders = true) (ca : List Value) (hca : FlatL ca) (len : Nat) (hlen : len ≤ 80) (hS : Steps4 ca len) (s1 : Option Nat) (k1 : Nat) (owner mo : Int) (K : Post)
    (hK : ∀ b' : St19, Tok2 len b' → K (.exit 0) (tmps 156 [(2, .int .i64 owner), (7, p1 1), (8, p1 2)]) (H19 ca mo mo b')) (hR : K .ret (tmps 156 [(6, .bool true)]) (hp [.cells ca 4 false])) :
    ∀ (t i : Nat) (b : St19), i + t = len → Tok2 i b → LSays Try.prog 1 (sub body1947 [0,0,1,0,1,1,1,1]) (T1947 s1 len k1 owner i) (H19 ca mo mo b) K := by
  have hLA : ∀ (i : Nat) (b : St19), Tok2 i b → Loops Try.prog body1947 1 (cutE [cut1947a ca s1 len k1 owner i mo mo b]) := fun i b hT => Loops.noneE.moreE _ fun x K hQ => by
    obtain ⟨⟨h0, h1⟩, h2⟩ := hQ
    have h0 : i < len := h0
    obtain ⟨kd, ow, tk, raw, S⟩ := hS i h0
    exact partA hmix ca hca s1 len k1 owner i h0 hlen x h1 mo kd ow tk raw S b hT K h2
  intro t
  induction t with
  | zero =>
    intro i b hi hT
    obtain rfl : i = len := by omega
    refine (sure1947 hmix).roundX F1947 ((hLA i b hT).gcX (at0 [1,2]) (at0 [])) [1,2] [] [1,2] [] [1,2,7,8,9] ?_
    rw [r1947]
    have hF := hF19 (mo := mo) (mr := mo) (m := b.m) (k := b.k) (m2 := b.m2) (k2 := b.k2) hca hT.y.flat hT.z.flat
    simp only [show ¬ ((i : Int) < (i : Int)) by omega, hF, Alt_iff, Need_iff, ltI_eq, leI_eq, eqI_eq, leN_eq, eqN_eq, decide_eq_true_eq, decide_eq_false_iff_not, decide_true, decide_false, true_and, and_true, Bool.true_eq_false, Bool.false_eq_true, false_implies, true_implies, implies_true, not_true_eq_false, not_false_eq_true, Bool.not_eq_true', Bool.not_eq_false', Nat.zero_add, Nat.add_zero, Nat.sub_zero, Nat.zero_mul, Nat.mul_one, Int.toNat_natCast, List.drop_zero, beqV_int, beqV_sl, beqV_str, beqV_bool, beqV_ptr, beqV_flt, beqV_agg, beqV_tuple, List.all_cons, List.all_nil, Bool.and_self, Bool.and_true, Bool.true_and, Nat.le_refl, Int.le_refl, Nat.zero_le, Option.getD_some, isStr, strV, isInt, intV, isBool, boolV, kindEq, at0, isJunk, Option.isSome_some, Option.isSome_none, if_true, if_false, Nat.add_sub_cancel_left, Nat.add_sub_cancel]
    exact hK b hT
  | succ t ih =>
    intro i b hi hT
    obtain ⟨kd, ow, tk, raw, S⟩ := hS i (by omega)
    refine (sure1947 hmix).roundX F1947 ((hLA i b hT).gcX (at0 [1,2]) (at0 [])) [1,2] [] [1,2] [] [1,2,7,8,9] ?_
    rw [r1947]
    have hF := hF19 (mo := mo) (mr := mo) (m := b.m) (k := b.k) (m2 := b.m2) (k2 := b.k2) hca hT.y.flat hT.z.flat
    have hilt : i < len := by omega
    have hF2 : FlatD [1,2] (hp [.cells ca 4 false]) := FlatD.hp ⟨hca, trivial⟩
    have fin : ∀ b' : St19, Tok2 (i + 1) b' → FlatD [1,2] (H19 ca mo mo b') ∧ LSays Try.prog 1 (sub body1947 [0,0,1,0,1,1,1,1]) (T1947 s1 len k1 owner (i + 1)) (H19 ca mo mo b') K := fun b' h => ⟨hF19 hca h.y.flat h.z.flat, ih (i + 1) b' (by omega) h⟩
    simp only [Nat.zero_add, Nat.add_assoc, Int.toNat_natCast, S.g0, S.g1, S.g2, S.g3, Option.getD_some, show (i : Int) < (len : Int) by omega, nx i (by omega), hF2, hF, Alt_iff, Need_iff, ltI_eq, leI_eq, eqI_eq, leN_eq, eqN_eq, decide_eq_true_eq, decide_eq_false_iff_not, decide_true, decide_false, true_and, and_true, Bool.true_eq_false, Bool.false_eq_true, false_implies, true_implies, implies_true, not_true_eq_false, not_false_eq_true, Bool.not_eq_true', Bool.not_eq_false', Nat.zero_add, Nat.add_zero, Nat.sub_zero, Nat.zero_mul, Nat.mul_one, Int.toNat_natCast, List.drop_zero, beqV_int, beqV_sl, beqV_str, beqV_bool, beqV_ptr, beqV_flt, beqV_agg, beqV_tuple, List.all_cons, List.all_nil, Bool.and_self, Bool.and_true, Bool.true_and, Nat.le_refl, Int.le_refl, Nat.zero_le, Option.getD_some, isStr, strV, isInt, intV, isBool, boolV, kindEq, at0, isJunk, Option.isSome_some, Option.isSome_none, if_true, if_false, Nat.add_sub_cancel_left, Nat.add_sub_cancel]
    refine ⟨fun _ => hR, fun h0 => ⟨fun _ => ⟨raw, rfl, ⟨hilt, ⟨by omega⟩⟩, fin⟩, fun _ x hx => ⟨x, rfl, ⟨hilt, ⟨by have := hx.size; omega⟩⟩, fin⟩⟩⟩
theorem law1947 (hmix : Try.prog.follows .mixedOrders = true) (ca : List Value) (hca : FlatL ca) (len : Nat) (hS : Steps4 ca len) (most owner : Int) (how : ZP .i64 owner) (s1 : Option Nat) (k1 : Nat) :
    FunSays Try.prog 6 [.int .i64 most, .slice (some ⟨0,0,s1⟩) len k1, .int .i64 owner] (hp [.cells ca 4 false]) fun v _ => v = .bool true := by
  have hF : FlatD [] (hp [.cells ca 4 false]) := flatD1 hca
  have hL : ∀ mo, Loops Try.prog body1947 1 (cutE [cut1947L ca s1 len k1 owner mo mo]) := fun mo => Loops.noneE.moreE _ fun x K hQ => by
    obtain ⟨⟨h1, h2, hw⟩, h3, h4⟩ := hQ
    have h2 : x.2 ≤ len := h2
    have hw : len ≤ 80 := hw
    exact (tplays_loop hmix ca hca len hw hS s1 k1 owner mo K h3 h4 (len - x.2) x.2 x.1 (by omega) h1)
  have e0 : TSl [] [] := ⟨rfl, fun x (h : x ∈ ([] : List Tk)) => by simp at h, .mk fun x (h : x ∈ ([] : List Value)) => by simp at h⟩
  have s0 : Tok2 0 ⟨[], [], [], 0, 0, [], 0, 0⟩ := ⟨e0, e0, rfl, rfl, Nat.le_refl _, Nat.le_refl _, List.Perm.refl _, List.Pairwise.nil, Nat.le_refl _⟩
  have fin : len ≤ 80 → ∀ b : St19, Tok2 len b → b.m ≤ 1000000 ∧ b.m2 ≤ 1000000 := fun h b hT => by
    have := hT.len; have := hT.em; have := hT.em2; have := hT.perm.length_eq; omega
  have ends : ∀ (b : St19) (o : Int), Tok2 len b → ∀ (x1 : List Value × Nat) (x2 : List Value), IsS (srt (ofL o b.L)) x1.1 (ofL o b.L).length x1.2 → IsS (ofL o b.M) x2 (ofL o b.M).length (ofL o b.M).length →
      FlatL x1.1 ∧ FlatL x2 ∧ IsSs x1.1 (ofL o b.L).length x1.2 ∧ IsSs x2 (ofL o b.M).length (ofL o b.M).length ∧ sameSt (strsAt x1.1 (ofL o b.L).length) (strsAt x2 (ofL o b.M).length) = true := fun b o hT x1 x2 h1 h2 =>
    ⟨h1.row.flat, h2.row.flat, h1.ss, h2.ss, by rw [h1.at, h2.at, srt_ofL o hT.perm hT.sort]; exact same_self _⟩
  refine (sure1947 hmix).funX F1947 body1947 [] [] Try.func6 rfl ((hL (if most < 1 then 1 else if 4 < most then 4 else most)).gcX (at0 [1,2]) (at0 [.cell 7 1 2, .cell 8 1 2])) ?_
  rw [w1947]
  rw [Alt_iff]
  refine ⟨fun _ => ⟨trivial, trivial, hF, rfl, rfl⟩, fun h0 => ?_⟩
  have hw : len ≤ 80 := by simp only [ltI_eq, decide_eq_false_iff_not] at h0; omega
  by_cases c1 : most < 1
  · simp only [c1, show ¬ ((4 : Int) < 1) by decide, show (1 : Int) > most by omega, ↓Alt_ite, ↓reduceIte, ltI_eq, decide_eq_true_eq]
    refine ⟨hF19 hca e0.flat e0.flat, (⟨[], [], [], 0, 0, [], 0, 0⟩, 0), rfl, rfl, ⟨s0, Nat.zero_le _, hw⟩, fun b hT => ?_, hF, rfl, trivial⟩
    obtain ⟨f1, f2⟩ := fin hw b hT
    simp only [hT.yl.at, hT.zl.at, hT.yl.is, hT.zl.is, hT.y.flat, hT.z.flat, f1, f2, hn19, hF, Alt_iff, Need_iff, ltI_eq, leI_eq, eqI_eq, leN_eq, eqN_eq, decide_eq_true_eq, decide_eq_false_iff_not, decide_true, decide_false, true_and, and_true, Bool.true_eq_false, Bool.false_eq_true, false_implies, true_implies, implies_true, not_true_eq_false, not_false_eq_true, Bool.not_eq_true', Bool.not_eq_false', Nat.zero_add, Nat.add_zero, Nat.sub_zero, Nat.zero_mul, Nat.mul_one, Int.toNat_natCast, List.drop_zero, beqV_int, beqV_sl, beqV_str, beqV_bool, beqV_ptr, beqV_flt, beqV_agg, beqV_tuple, List.all_cons, List.all_nil, Bool.and_self, Bool.and_true, Bool.true_and, Nat.le_refl, Int.le_refl, Nat.zero_le, Option.getD_some, isStr, strV, isInt, intV, isBool, boolV, kindEq, at0, isJunk, Option.isSome_some, Option.isSome_none, if_true, if_false, Nat.add_sub_cancel_left, Nat.add_sub_cancel]
    intro x1 h1 x2 h2
    obtain ⟨a1, a2, a3, a4, a5⟩ := ends b _ hT x1 x2 h1 h2
    simp only [a1, a2, a3, a4, a5, hF, Alt_iff, Need_iff, ltI_eq, leI_eq, eqI_eq, leN_eq, eqN_eq, decide_eq_true_eq, decide_eq_false_iff_not, decide_true, decide_false, true_and, and_true, Bool.true_eq_false, Bool.false_eq_true, false_implies, true_implies, implies_true, not_true_eq_false, not_false_eq_true, Bool.not_eq_true', Bool.not_eq_false', Nat.zero_add, Nat.add_zero, Nat.sub_zero, Nat.zero_mul, Nat.mul_one, Int.toNat_natCast, List.drop_zero, beqV_int, beqV_sl, beqV_str, beqV_bool, beqV_ptr, beqV_flt, beqV_agg, beqV_tuple, List.all_cons, List.all_nil, Bool.and_self, Bool.and_true, Bool.true_and, Nat.le_refl, Int.le_refl, Nat.zero_le, Option.getD_some, isStr, strV, isInt, intV, isBool, boolV, kindEq, at0, isJunk, Option.isSome_some, Option.isSome_none, if_true, if_false, Nat.add_sub_cancel_left, Nat.add_sub_cancel]
  · by_cases c2 : 4 < most
    · simp only [c1, c2, show ¬ ((1 : Int) > most) by omega, ↓Alt_ite, ↓reduceIte, ltI_eq, decide_eq_true_eq]
      refine ⟨hF19 hca e0.flat e0.flat, (⟨[], [], [], 0, 0, [], 0, 0⟩, 0), rfl, rfl, ⟨s0, Nat.zero_le _, hw⟩, fun b hT => ?_, hF, rfl, trivial⟩
      obtain ⟨f1, f2⟩ := fin hw b hT
      simp only [hT.yl.at, hT.zl.at, hT.yl.is, hT.zl.is, hT.y.flat, hT.z.flat, f1, f2, hn19, hF, Alt_iff, Need_iff, ltI_eq, leI_eq, eqI_eq, leN_eq, eqN_eq, decide_eq_true_eq, decide_eq_false_iff_not, decide_true, decide_false, true_and, and_true, Bool.true_eq_false, Bool.false_eq_true, false_implies, true_implies, implies_true, not_true_eq_false, not_false_eq_true, Bool.not_eq_true', Bool.not_eq_false', Nat.zero_add, Nat.add_zero, Nat.sub_zero, Nat.zero_mul, Nat.mul_one, Int.toNat_natCast, List.drop_zero, beqV_int, beqV_sl, beqV_str, beqV_bool, beqV_ptr, beqV_flt, beqV_agg, beqV_tuple, List.all_cons, List.all_nil, Bool.and_self, Bool.and_true, Bool.true_and, Nat.le_refl, Int.le_refl, Nat.zero_le, Option.getD_some, isStr, strV, isInt, intV, isBool, boolV, kindEq, at0, isJunk, Option.isSome_some, Option.isSome_none, if_true, if_false, Nat.add_sub_cancel_left, Nat.add_sub_cancel]
      intro x1 h1 x2 h2
      obtain ⟨a1, a2, a3, a4, a5⟩ := ends b _ hT x1 x2 h1 h2
      simp only [a1, a2, a3, a4, a5, hF, Alt_iff, Need_iff, ltI_eq, leI_eq, eqI_eq, leN_eq, eqN_eq, decide_eq_true_eq, decide_eq_false_iff_not, decide_true, decide_false, true_and, and_true, Bool.true_eq_false, Bool.false_eq_true, false_implies, true_implies, implies_true, not_true_eq_false, not_false_eq_true, Bool.not_eq_true', Bool.not_eq_false', Nat.zero_add, Nat.add_zero, Nat.sub_zero, Nat.zero_mul, Nat.mul_one, Int.toNat_natCast, List.drop_zero, beqV_int, beqV_sl, beqV_str, beqV_bool, beqV_ptr, beqV_flt, beqV_agg, beqV_tuple, List.all_cons, List.all_nil, Bool.and_self, Bool.and_true, Bool.true_and, Nat.le_refl, Int.le_refl, Nat.zero_le, Option.getD_some, isStr, strV, isInt, intV, isBool, boolV, kindEq, at0, isJunk, Option.isSome_some, Option.isSome_none, if_true, if_false, Nat.add_sub_cancel_left, Nat.add_sub_cancel]
    · simp only [c1, c2, show ¬ ((1 : Int) > most) by omega, ↓Alt_ite, ↓reduceIte, ltI_eq, decide_eq_true_eq]
      refine ⟨hF19 hca e0.flat e0.flat, (⟨[], [], [], 0, 0, [], 0, 0⟩, 0), rfl, rfl, ⟨s0, Nat.zero_le _, hw⟩, fun b hT => ?_, hF, rfl, trivial⟩
      obtain ⟨f1, f2⟩ := fin hw b hT
      simp only [hT.yl.at, hT.zl.at, hT.yl.is, hT.zl.is, hT.y.flat, hT.z.flat, f1, f2, hn19, hF, Alt_iff, Need_iff, ltI_eq, leI_eq, eqI_eq, leN_eq, eqN_eq, decide_eq_true_eq, decide_eq_false_iff_not, decide_true, decide_false, true_and, and_true, Bool.true_eq_false, Bool.false_eq_true, false_implies, true_implies, implies_true, not_true_eq_false, not_false_eq_true, Bool.not_eq_true', Bool.not_eq_false', Nat.zero_add, Nat.add_zero, Nat.sub_zero, Nat.zero_mul, Nat.mul_one, Int.toNat_natCast, List.drop_zero, beqV_int, beqV_sl, beqV_str, beqV_bool, beqV_ptr, beqV_flt, beqV_agg, beqV_tuple, List.all_cons, List.all_nil, Bool.and_self, Bool.and_true, Bool.true_and, Nat.le_refl, Int.le_refl, Nat.zero_le, Option.getD_some, isStr, strV, isInt, intV, isBool, boolV, kindEq, at0, isJunk, Option.isSome_some, Option.isSome_none, if_true, if_false, Nat.add_sub_cancel_left, Nat.add_sub_cancel]
      intro x1 h1 x2 h2
      obtain ⟨a1, a2, a3, a4, a5⟩ := ends b _ hT x1 x2 h1 h2
      simp only [a1, a2, a3, a4, a5, hF, Alt_iff, Need_iff, ltI_eq, leI_eq, eqI_eq, leN_eq, eqN_eq, decide_eq_true_eq, decide_eq_false_iff_not, decide_true, decide_false, true_and, and_true, Bool.true_eq_false, Bool.false_eq_true, false_implies, true_implies, implies_true, not_true_eq_false, not_false_eq_true, Bool.not_eq_true', Bool.not_eq_false', Nat.zero_add, Nat.add_zero, Nat.sub_zero, Nat.zero_mul, Nat.mul_one, Int.toNat_natCast, List.drop_zero, beqV_int, beqV_sl, beqV_str, beqV_bool, beqV_ptr, beqV_flt, beqV_agg, beqV_tuple, List.all_cons, List.all_nil, Bool.and_self, Bool.and_true, Bool.true_and, Nat.le_refl, Int.le_refl, Nat.zero_le, Option.getD_some, isStr, strV, isInt, intV, isBool, boolV, kindEq, at0, isJunk, Option.isSome_some, Option.isSome_none, if_true, if_false, Nat.add_sub_cancel_left, Nat.add_sub_cancel]
end Go.Proofs.Ytabbkoegaoekkaa

namespace Go.Proofs.Ytabbkoegaoekkaa
open Go.RowKit Go.Proofs.Ytabbkoegaoekkaa.AM
set_option maxRecDepth 100000
set_option maxHeartbeats 4000000
theorem flat_at {n : Nat} : ∀ {L : List (List Value)} {i : Nat} {c : List Value}, (∀ c ∈ L, c.length = n) → L[i]? = some c → ∀ j, j < n → L.flatten[i * n + j]? = c[j]? := by
  intro L
  induction L with
  | nil => intro i c _ h; simp at h
  | cons a L ih =>
    intro i c hL h j hj
    have ha : a.length = n := hL a List.mem_cons_self
    cases i with
    | zero =>
      simp at h
      subst h
      rw [Nat.zero_mul, Nat.zero_add, List.flatten_cons, List.getElem?_append_left (by omega)]
    | succ i =>
      rw [List.flatten_cons, List.getElem?_append_right (by rw [Nat.succ_mul]; omega), ha, show (i + 1) * n + j - n = i * n + j by rw [Nat.succ_mul]; omega]
      exact ih (fun c hc => hL c (List.mem_cons_of_mem _ hc)) (by simpa using h) j hj
def GoodStep4 (c : List Value) : Prop := ∃ (kd ow tk : Int) (raw : ByteArray), c = [.int .u8 kd, .int .i64 ow, .int .i64 tk, .string raw] ∧ ZP .i64 ow
theorem steps4_of {L : List (List Value)} {len : Nat} (hl : len ≤ L.length) (h : ∀ c ∈ L, c.length = 4 ∧ GoodStep4 c) : Steps4 L.flatten len ∧ FlatL L.flatten := by
  refine ⟨fun i hi => ?_, ⟨fun x hx => ?_⟩⟩
  · have hc : L[i]? = some L[i] := List.getElem?_eq_getElem (by omega)
    obtain ⟨h1, kd, ow, tk, raw, h2, h3⟩ := h L[i] (List.getElem_mem (by omega))
    rw [h2] at hc
    have e0 := flat_at (n := 4) (fun c hc => (h c hc).1) hc 0 (by omega)
    have e1 := flat_at (n := 4) (fun c hc => (h c hc).1) hc 1 (by omega)
    have e2 := flat_at (n := 4) (fun c hc => (h c hc).1) hc 2 (by omega)
    have e3 := flat_at (n := 4) (fun c hc => (h c hc).1) hc 3 (by omega)
    exact ⟨kd, ow, tk, raw, by rw [getO_eq]; exact e0, by rw [getO_eq]; exact e1, by rw [getO_eq]; exact e2, by rw [getO_eq]; exact e3, h3⟩
  · obtain ⟨c, h1, h2⟩ := List.mem_flatten.1 hx
    obtain ⟨_, kd, ow, tk, raw, rfl, _⟩ := h c h1
    simp at h2
    rcases h2 with rfl | rfl | rfl | rfl <;> rfl
end Go.Proofs.Ytabbkoegaoekkaa
