/- Proved: what functions of the program come to, by their conditions over the abstract machine. Conditions: those that each theorem states. -/
import Derived.Test.YtdpfmaimhimfcaaCh2
set_option linter.unusedVariables false
set_option linter.unusedSimpArgs false
namespace Go.Proofs.Ytdpfmaimhimfcaa
open Go.RowKit Go.Proofs.Ytdpfmaimhimfcaa.AM
set_option maxRecDepth 100000
set_option maxHeartbeats 4000000
theorem labC_set (N : List Lb) (j : Nat) (x : Lb) (hj : j < N.length) : setAll (labC N) (j * 2) [.string x.1, .string x.2] = labC (N.set j x) := by
  have hN : N = N.take j ++ N[j] :: N.drop (j + 1) := by rw [← List.drop_eq_getElem_cons hj, List.take_append_drop]
  have l1 : (labC (N.take j)).length = j * 2 := by rw [labC_len, List.length_take]; omega
  have h2 : N.set j x = N.take j ++ x :: N.drop (j + 1) := by
    rw [List.set_eq_take_append_cons_drop, if_pos hj]
  generalize N[j] = y at hN
  have hA : labC N = labC (N.take j) ++ ([Value.string y.1, .string y.2] ++ labC (N.drop (j + 1))) := by
    have h3 := congrArg labC hN
    rw [h3]; simp [labC]
  have hB : labC (N.set j x) = labC (N.take j) ++ ([Value.string x.1, .string x.2] ++ labC (N.drop (j + 1))) := by rw [h2]; simp [labC]
  rw [hA, hB, setAll_at _ _ _ _ l1 (by simp)]
  simp
theorem rev_next {M N : List Lb} {i : Nat} (h : RevI M i N) (hi : i + i + 1 < M.length) {a b : Lb} (ha : N[i]? = some a) (hb : N[M.length - 1 - i]? = some b) : RevI M (i + 1) ((N.set i b).set (M.length - 1 - i) a) := by
  have e1 := h.at_ i
  have e2 := h.at_ (M.length - 1 - i)
  rw [if_neg (by omega), ha] at e1
  rw [if_neg (by omega), hb] at e2
  refine ⟨by simp [h.len], fun j => ?_⟩
  rw [List.getElem?_set, List.length_set, h.len]
  by_cases h1 : M.length - 1 - i = j
  · rw [if_pos h1, if_pos (by omega), if_pos (by omega), List.getElem?_reverse (by omega)]
    rw [show M.length - 1 - j = i by omega]; exact e1
  · rw [if_neg h1, List.getElem?_set, h.len]
    by_cases h2 : i = j
    · subst h2
      rw [if_pos rfl, if_pos (by omega), if_pos (by omega), List.getElem?_reverse (by omega)]; exact e2
    · rw [if_neg h2, h.at_ j]
      by_cases h3 : j < i ∨ M.length ≤ i + j
      · rw [if_pos h3, if_pos (by omega)]
      · rw [if_neg h3]
        by_cases h4 : j < M.length
        · rw [if_neg (by omega)]
        · rw [List.getElem?_eq_none (by omega)]
          split
          · rw [List.getElem?_eq_none (by simp; omega)]
          · rfl
theorem rev_end {M N : List Lb} {i : Nat} (h : RevI M i N) (hi : M.length ≤ i + i + 1) : N = M.reverse := by
  refine List.ext_getElem? fun j => ?_
  rw [h.at_ j]
  split
  · rfl
  · rename_i hj
    by_cases h4 : j < M.length
    · rw [List.getElem?_reverse (by omega)]
      congr 1; omega
    · rw [List.getElem?_eq_none (by omega), List.getElem?_eq_none (by simp; omega)]
theorem flat2 {cs : List Value} (h : FlatL cs) (M : List Lb) : FlatD [] (hp [.cells cs 2 false, .cells (labC M) 2 true]) := FlatD.hp ⟨h, labC_flat M, trivial⟩
theorem rev_loop (hmix : Try.prog.follows .mixedOrders = true) (sp : Option Nat) (n k : Nat) (cs : List Value) (hcs : FlatL cs) (M : List Lb) (hM : M.length ≤ 1000000) (K : Post)
    (hK : K (.exit 0) (tmps 118 [(0, .slice (some ⟨0,0,sp⟩) n k), (5, .slice (some ⟨1,0,some 1⟩) M.length M.length)]) (H109 cs (labC M.reverse))) : ∀ (t i : Nat) (N : List Lb), i + t = max M.length i → RevI M i N →
    LSays Try.prog 1 (sub body109 [0,0,1,0,1,1,1,1]) (T109 sp n k M.length i) (H109 cs (labC N)) K := by
  have hdiv : wr .i64 ((M.length : Int).tdiv 2) = ((M.length / 2 : Nat) : Int) := by
    rw [Int.tdiv_eq_ediv_of_nonneg (by omega), wr_i64 _ (by omega) (by omega)]; omega
  have hdone : ∀ i (N : List Lb), RevI M i N → ¬ (i : Int) < ((M.length / 2 : Nat) : Int) → LSays Try.prog 1 (sub body109 [0,0,1,0,1,1,1,1]) (T109 sp n k M.length i) (H109 cs (labC N)) K := fun i N hN hge => by
    refine (sure109 hmix).roundX F109 noLoops [] [] [] [] [0,5,6] ?_
    rw [r109, hdiv]
    have := rev_end hN (by omega)
    subst this
    exact Alt_iff.2 ⟨fun h => absurd (ltI_iff.1 h) hge, fun _ => ⟨flat2 hcs _, hK⟩⟩
  intro t
  induction t with
  | zero => intro i N hi hN; exact hdone i N hN (by omega)
  | succ t ih =>
    intro i N hi hN
    by_cases hlt : (i : Int) < ((M.length / 2 : Nat) : Int)
    · have hi1 : i < N.length := by rw [hN.len]; omega
      have hi2 : M.length - 1 - i < N.length := by rw [hN.len]; omega
      obtain ⟨x, hx⟩ : ∃ x, N[i]? = some x := ⟨_, List.getElem?_eq_getElem hi1⟩
      obtain ⟨y, hy⟩ : ∃ y, N[M.length - 1 - i]? = some y := ⟨_, List.getElem?_eq_getElem hi2⟩
      have gx := labC_get _ _ _ hx
      have gy := labC_get _ _ _ hy
      have w1 : wr .i64 ((M.length : Int) - 1) = ((M.length - 1 : Nat) : Int) := by rw [wr_i64 _ (by omega) (by omega)]; omega
      have w2 : wr .i64 (((M.length - 1 : Nat) : Int) - (i : Int)) = ((M.length - 1 - i : Nat) : Int) := by rw [wr_i64 _ (by omega) (by omega)]; omega
      have hl := hN.len
      have hcl := labC_len N
      have next := ih (i + 1) _ (by omega) (rev_next hN (by omega) hx hy)
      refine (sure109 hmix).roundX F109 noLoops [] [] [] [] [0,5,6] ?_
      rw [r109, hdiv, w1, w2]
      have s1 := labC_set N i y (by omega)
      have s2 := labC_set (N.set i y) (M.length - 1 - i) x (by rw [List.length_set]; omega)
      have hcl2 : (labC (N.set i y)).length = N.length * 2 := by rw [labC_len, List.length_set]
      simp only [hlt, Nat.zero_add, Nat.add_zero, Int.toNat_natCast, gx.1, gx.2, gy.1, gy.2, s1, s2, hcl, hcl2, Option.getD_some, show ∀ s, strV (Value.string s) = s from fun _ => rfl, show (0 : Int) ≤ ((M.length - 1 - i : Nat) : Int) by omega, show ((M.length - 1 - i : Nat) : Int) < (M.length : Int) by omega, show (i : Int) < (M.length : Int) by omega, show i * 2 + 2 ≤ N.length * 2 by omega, show (M.length - 1 - i) * 2 + 2 ≤ N.length * 2 by omega, flat2 hcs, nx i (by omega), Alt_iff, Need_iff, ltI_eq, leI_eq, eqI_eq, leN_eq, eqN_eq, decide_eq_true_eq, decide_eq_false_iff_not, decide_true, decide_false, true_and, and_true, Bool.true_eq_false, Bool.false_eq_true, false_implies, true_implies, implies_true, not_true_eq_false, not_false_eq_true, Bool.not_eq_true', Bool.not_eq_false', Nat.zero_add, Nat.add_zero, Nat.sub_zero, Nat.zero_mul, Nat.mul_one, Int.toNat_natCast, List.drop_zero, beqV_int, beqV_sl, beqV_str, beqV_bool, beqV_ptr, beqV_flt, beqV_agg, beqV_tuple, List.all_cons, List.all_nil, Bool.and_self, Bool.and_true, Bool.true_and, Nat.le_refl, Int.le_refl, Nat.zero_le, Option.getD_some, isStr, strV, isInt, intV, isBool, boolV, kindEq, at0, isJunk, Option.isSome_some, Option.isSome_none, if_true, if_false, Nat.add_sub_cancel_left, Nat.add_sub_cancel]
      exact next
    · exact hdone i N hN hlt
theorem get_loop2 (hmix : Try.prog.follows .mixedOrders = true) (sp : Option Nat) (k : Nat) (cs : List Value) (l : List Lb) (hB : LSl cs 0 l) (hl : l.length ≤ 1000000) (hok : isSetB (mkS l) = true) (K : Post)
    (hK : K (.exit 2) (tmps 118 []) (hp [.cells cs 2 false])) : ∀ (t i : Nat), i + t = l.length →
    LSays Try.prog 1 (sub body109 [0,0,1,0,1,1,1,1,1,1,1,1]) (G109 sp l.length k (mkR l).length true i) (H109 cs (labC (mkR l))) K := by
  obtain ⟨hr, hrl⟩ := mkR_ls hB.small (by omega : l.length ≤ 1000000)
  have hRI : IsLs (labC (mkR l)) 0 (mkR l).length (mkR l).length := .mk _ rfl (Nat.le_refl _) hr
  have hm : mkR l = mkS l := by unfold mkR; rw [hok]; rfl
  have hF := flat2 hB.flat (mkR l)
  intro t
  induction t with
  | zero =>
    intro i hi
    refine (sure109 hmix).roundX F109 noLoops [] [] [] [] [0,7,8,11] ?_
    rw [g109t]
    exact Alt_iff.2 ⟨fun h => absurd (ltI_iff.1 h) (by omega), fun _ => ⟨FlatD.hp ⟨hB.flat, trivial⟩, hK⟩⟩
  | succ t ih =>
    intro i hi
    obtain ⟨x, hx⟩ : ∃ x, l[i]? = some x := ⟨_, List.getElem?_eq_getElem (by omega)⟩
    have g1 := hB.name i x hx
    have g2 := hB.value i x hx
    rw [Nat.zero_add] at g1 g2
    have hg : getF x.1 (mkR l) = x.2 := by rw [hm]; exact get_rises (set_rises hok) ((mkS_perm l).symm.subset (List.mem_of_getElem? hx))
    refine (sure109 hmix).roundX F109 noLoops [] [] [] [] [0,7,8,11] ?_
    rw [g109t, labsAt_labC]
    have next := ih (i + 1) (by omega)
    simp only [Nat.zero_add, Nat.add_zero, Int.toNat_natCast, g1, g2, hg, hRI, labC_flat, Option.getD_some, show ∀ s, strV (Value.string s) = s from fun _ => rfl, show (i : Int) < (l.length : Int) by omega, eqS_rfl, hF, nx i (by omega), Bool.not_true, Alt_iff, Need_iff, ltI_eq, leI_eq, eqI_eq, leN_eq, eqN_eq, decide_eq_true_eq, decide_eq_false_iff_not, decide_true, decide_false, true_and, and_true, Bool.true_eq_false, Bool.false_eq_true, false_implies, true_implies, implies_true, not_true_eq_false, not_false_eq_true, Bool.not_eq_true', Bool.not_eq_false', Nat.zero_add, Nat.add_zero, Nat.sub_zero, Nat.zero_mul, Nat.mul_one, Int.toNat_natCast, List.drop_zero, beqV_int, beqV_sl, beqV_str, beqV_bool, beqV_ptr, beqV_flt, beqV_agg, beqV_tuple, List.all_cons, List.all_nil, Bool.and_self, Bool.and_true, Bool.true_and, Nat.le_refl, Int.le_refl, Nat.zero_le, Option.getD_some, isStr, strV, isInt, intV, isBool, boolV, kindEq, at0, isJunk, Option.isSome_some, Option.isSome_none, if_true, if_false, Nat.add_sub_cancel_left, Nat.add_sub_cancel]
    exact next
theorem partA109 (hmix : Try.prog.follows .mixedOrders = true) (sp : Option Nat) (k : Nat) (cs : List Value) (l : List Lb) (hc : l.length ≤ k) (hB : LSl cs 0 l) (hl : l.length ≤ 1000000) (M : List Lb) (hP : l.Perm M) (K : Post)
    (hK : K .ret (tmps 118 [(4, .bool true)]) (hp [.cells cs 2 false])) : Says Try.prog 1 (sub body109 [1,1,1,1]) (A109 sp l.length k M.length) (H109 cs (labC M)) K := by
  have hML : M.length = l.length := hP.length_eq.symm
  have hI : IsLs cs 0 l.length k := .mk l rfl hc hB
  have hN : Need (leN l.length 1000000) True := Need_iff.2 ⟨leN_iff.2 hl, trivial⟩
  have hNM : Need (leN M.length 1000000) True := Need_iff.2 ⟨leN_iff.2 (by omega), trivial⟩
  have hsm : Small M.reverse := fun x hx => hB.small x (hP.symm.subset (List.mem_reverse.1 hx))
  have hMr : LSl (labC M.reverse) 0 M.reverse := labC_ls _ hsm (by rw [List.length_reverse]; omega)
  have hMI : IsLs (labC M.reverse) 0 M.length M.length := .mk M.reverse (by rw [List.length_reverse]) (Nat.le_refl _) hMr
  have hLM : labsAt (labC M.reverse) 0 M.length = M.reverse := by
    have := hMr.labsAt
    rw [List.length_reverse] at this; exact this
  obtain ⟨t1, t2⟩ := turned_is (hP.trans (List.reverse_perm M).symm)
  obtain ⟨hr, hrl⟩ := mkR_ls hB.small hl
  have hRI : IsLs (labC (mkR l)) 0 (mkR l).length (mkR l).length := .mk _ rfl (Nat.le_refl _) hr
  have hF2 := flat2 hB.flat (mkR l)
  have hF1 : FlatD [] (hp [.cells cs 2 false]) := FlatD.hp ⟨hB.flat, trivial⟩
  have hL : Loops Try.prog body109 1 (cutE [cut109R sp l.length k cs M, cut109G sp k cs l]) := by
    refine Loops.moreE (Loops.moreE Loops.noneE (cut109G sp k cs l) fun x K hq => ?_) (cut109R sp l.length k cs M) fun x K hq => ?_
    · obtain ⟨⟨h1, h2, h3⟩, h4⟩ := hq
      obtain ⟨ok, i⟩ := x
      simp only at h1 h2 h3
      subst h1
      cases hok : isSetB (mkS l) with
      | true =>
        simp only [cut109G]
        try rw [hok]
        exact get_loop2 hmix sp k cs l hB hl hok K h4 _ i (Nat.add_sub_of_le h2)
      | false =>
        obtain rfl := h3 hok
        simp only [cut109G]
        try rw [hok]
        show LSays Try.prog 1 (sub body109 [0,0,1,0,1,1,1,1,1,1,1,1]) _ _ _
        refine (sure109 hmix).roundX F109 noLoops [] [] [] [] [0,7,8,11] ?_
        rw [g109f]
        exact Alt_iff.2 ⟨fun _ => ⟨hF1, h4⟩, fun _ => ⟨hF1, h4⟩⟩
    · obtain ⟨⟨h1, h2⟩, h3⟩ := hq
      exact rev_loop hmix sp l.length k cs hB.flat M (by omega) K h3 _ x.2 x.1 (Nat.add_sub_of_le (Nat.le_max_right _ _)) h1
  refine (sure109 hmix).cutN F109 (hL.gcX (at0 []) (at0 [])) [] [] [] [] [] ?_
  rw [a109, hLM, hB.labsAt, t1, t2, labsAt_labC]
  have hRev : RevI M 0 M := ⟨rfl, fun j => by
    split
    · rename_i h
      rw [List.getElem?_eq_none (by omega), List.getElem?_eq_none (by rw [List.length_reverse]; omega)]
    · rfl⟩
  refine ⟨flat2 hB.flat M, (M, 0), rfl, rfl, ⟨hRev, Nat.zero_le _⟩, ⟨hB.flat, trivial⟩, ⟨hI, hN⟩, ⟨labC_flat _, trivial⟩, ⟨hMI, hNM⟩, Alt_iff.2 ⟨fun h => ?_, fun _ => ⟨⟨labC_flat _, labC_flat _, trivial⟩, ⟨hRI, hRI⟩, Alt_iff.2 ⟨fun h => ?_, fun _ => Alt_iff.2 ⟨fun hok => Alt_iff.2 ⟨fun h => ?_, fun _ => ⟨⟨labC_flat _, trivial⟩, ⟨hRI, trivial⟩, Alt_iff.2 ⟨fun h => ?_, fun _ => ⟨hF2, (isSetB (mkS l), 0), rfl, rfl, ⟨rfl, Nat.zero_le _, fun _ => rfl⟩, trivial, trivial, hF1, hK⟩⟩⟩⟩, fun hok => ⟨hF2, (isSetB (mkS l), 0), rfl, rfl, ⟨rfl, Nat.zero_le _, fun _ => rfl⟩, trivial, trivial, hF1, hK⟩⟩⟩⟩⟩⟩
  · simp at h
  · rw [show sameB (mkR l) (mkR l) = true from sameB_iff.2 rfl] at h; cases h
  · have : (mkR l).length = l.length := by unfold mkR; rw [hok]; exact mkS_len0 l
    rw [this, eqI_iff.2 rfl] at h; cases h
  · have : isSetB (mkR l) = true := by unfold mkR; rw [hok]; exact hok
    rw [this] at h; cases h
theorem law109 (hmix : Try.prog.follows .mixedOrders = true) (cs : List Value) (sp : Option Nat) (cap : Nat) (cut : Int) (l : List Lb) (hc : l.length ≤ cap) (hB : LSl cs 0 l) (hcap : cap ≤ 9223372036854775807) :
    FunSays Try.prog 9 [.slice (some ⟨0,0,sp⟩) l.length cap, .int .i64 cut] (hp [.cells cs 2 false]) fun v _ => v = .bool true := by
  have hF : FlatD [] (hp [.cells cs 2 false]) := FlatD.hp ⟨hB.flat, trivial⟩
  have hI : IsLs cs 0 l.length cap := .mk l rfl hc hB
  have hL : Loops Try.prog body109 1 (cutE [cut109A sp cap cs l]) := Loops.noneE.moreE _ fun M K hq => partA109 hmix sp cap cs l hc hB hq.1.le M hq.1.perm K hq.2
  refine (sure109 hmix).funX F109 body109 [] [] Try.func9 rfl (hL.gcX (at0 []) (at0 [])) ?_
  rw [w109, hB.labsAt]
  by_cases h3 : 300 < wgtV l 300
  · exact ⟨⟨hB.flat, trivial⟩, ⟨hI, trivial⟩, Alt_iff.2 ⟨fun _ => ⟨trivial, trivial, hF, rfl, rfl⟩, fun h => by rw [show ltI 300 (wgtV l (intV (Value.int IntKind.i64 300))) = true from ltI_iff.2 h3] at h; cases h⟩⟩
  · have hl : l.length ≤ 300 := wgtV_len h3
    refine ⟨⟨hB.flat, trivial⟩, ⟨hI, trivial⟩, Alt_iff.2 ⟨fun _ => ⟨trivial, trivial, hF, rfl, rfl⟩, fun _ => ?_⟩⟩
    have e0 := hB.cellsN
    have hsz : l.length * 2 ≤ cs.length := by have := congrArg List.length e0; rw [List.length_take, labC_len] at this; omega
    have hcl := labC_len l
    have e1 : List.take (l.length * 2) (labC l) = labC l := List.take_of_length_le (by omega)
    have hF2 := flat2 hB.flat l
    by_cases hc0 : cut < 0
    · simp only [hc0, Nat.sub_zero, Nat.add_zero, Nat.zero_add, List.drop_zero, List.append_nil, e0, e1, hcl, hsz, hF2, show l.length * 32 ≤ 1099511627776 by omega, show l.length ≤ 1099511627776 by omega, Alt_iff, Need_iff, ltI_eq, leI_eq, eqI_eq, leN_eq, eqN_eq, decide_eq_true_eq, decide_eq_false_iff_not, decide_true, decide_false, true_and, and_true, Bool.true_eq_false, Bool.false_eq_true, false_implies, true_implies, implies_true, not_true_eq_false, not_false_eq_true, Bool.not_eq_true', Bool.not_eq_false', Nat.zero_add, Nat.add_zero, Nat.sub_zero, Nat.zero_mul, Nat.mul_one, Int.toNat_natCast, List.drop_zero, beqV_int, beqV_sl, beqV_str, beqV_bool, beqV_ptr, beqV_flt, beqV_agg, beqV_tuple, List.all_cons, List.all_nil, Bool.and_self, Bool.and_true, Bool.true_and, Nat.le_refl, Int.le_refl, Nat.zero_le, Option.getD_some, isStr, strV, isInt, intV, isBool, boolV, kindEq, at0, isJunk, Option.isSome_some, Option.isSome_none, if_true, if_false, Nat.add_sub_cancel_left, Nat.add_sub_cancel]
      exact ⟨l, rfl, rfl, ⟨List.Perm.refl _, by omega⟩, hF⟩
    · by_cases hc1 : (l.length : Int) < cut
      · simp only [hc0, hc1, Nat.sub_zero, Nat.add_zero, Nat.zero_add, List.drop_zero, List.append_nil, e0, e1, hcl, hsz, hF2, show l.length * 32 ≤ 1099511627776 by omega, show l.length ≤ 1099511627776 by omega, Alt_iff, Need_iff, ltI_eq, leI_eq, eqI_eq, leN_eq, eqN_eq, decide_eq_true_eq, decide_eq_false_iff_not, decide_true, decide_false, true_and, and_true, Bool.true_eq_false, Bool.false_eq_true, false_implies, true_implies, implies_true, not_true_eq_false, not_false_eq_true, Bool.not_eq_true', Bool.not_eq_false', Nat.zero_add, Nat.add_zero, Nat.sub_zero, Nat.zero_mul, Nat.mul_one, Int.toNat_natCast, List.drop_zero, beqV_int, beqV_sl, beqV_str, beqV_bool, beqV_ptr, beqV_flt, beqV_agg, beqV_tuple, List.all_cons, List.all_nil, Bool.and_self, Bool.and_true, Bool.true_and, Nat.le_refl, Int.le_refl, Nat.zero_le, Option.getD_some, isStr, strV, isInt, intV, isBool, boolV, kindEq, at0, isJunk, Option.isSome_some, Option.isSome_none, if_true, if_false, Nat.add_sub_cancel_left, Nat.add_sub_cancel]
        exact ⟨l, rfl, rfl, ⟨List.Perm.refl _, by omega⟩, hF⟩
      · obtain ⟨c, rfl⟩ := Int.eq_ofNat_of_zero_le (by omega : 0 ≤ cut)
        have e2 : List.take (c * 2) cs = labC (l.take c) := by
          rw [← labC_take, ← e0, List.take_take, Nat.min_eq_left (by omega)]
        have e3 : List.take ((l.length - c) * 2) (List.drop (c * 2) cs) = labC (l.drop c) := by
          rw [← labC_drop, ← e0, List.drop_take]; congr 1; omega
        have l3 : (labC (l.drop c)).length = (l.length - c) * 2 := by rw [labC_len, List.length_drop]
        have e4 : List.take ((l.length - c) * 2) (labC (l.drop c)) = labC (l.drop c) := List.take_of_length_le (by omega)
        have hal : (labC (l.take c)).all oneV = true := labC_one _
        have e5 : labC (l.drop c) ++ labC (l.take c) = labC (l.drop c ++ l.take c) := (labC_append _ _).symm
        have hF3 := flat2 hB.flat (l.drop c ++ l.take c)
        simp only [hc0, hc1, Nat.sub_zero, Nat.add_zero, Nat.zero_add, List.drop_zero, Int.toNat_natCast, e2, e3, e4, e5, l3, hal, hsz, hF3, show l.length - c + c = l.length by omega, show c * 2 + (l.length - c) * 2 ≤ cs.length by omega, show (l.length - c) * 32 ≤ 1099511627776 by omega, show l.length - c ≤ 1099511627776 by omega, show c * 2 ≤ cs.length by omega, show l.length * 32 ≤ 1099511627776 by omega, show l.length ≤ 1099511627776 by omega, show (0 : Int) ≤ (c : Int) by omega, show (c : Int) ≤ (l.length : Int) by omega, show (c : Int) ≤ (cap : Int) by omega, Alt_iff, Need_iff, ltI_eq, leI_eq, eqI_eq, leN_eq, eqN_eq, decide_eq_true_eq, decide_eq_false_iff_not, decide_true, decide_false, true_and, and_true, Bool.true_eq_false, Bool.false_eq_true, false_implies, true_implies, implies_true, not_true_eq_false, not_false_eq_true, Bool.not_eq_true', Bool.not_eq_false', Nat.zero_add, Nat.add_zero, Nat.sub_zero, Nat.zero_mul, Nat.mul_one, Int.toNat_natCast, List.drop_zero, beqV_int, beqV_sl, beqV_str, beqV_bool, beqV_ptr, beqV_flt, beqV_agg, beqV_tuple, List.all_cons, List.all_nil, Bool.and_self, Bool.and_true, Bool.true_and, Nat.le_refl, Int.le_refl, Nat.zero_le, Option.getD_some, isStr, strV, isInt, intV, isBool, boolV, kindEq, at0, isJunk, Option.isSome_some, Option.isSome_none, if_true, if_false, Nat.add_sub_cancel_left, Nat.add_sub_cancel]
        have hlen : (l.drop c ++ l.take c).length = l.length := by rw [List.length_append, List.length_drop, List.length_take]; omega
        have hperm : l.Perm (l.drop c ++ l.take c) := by
          have := List.perm_append_comm (l₁ := l.take c) (l₂ := l.drop c)
          rw [List.take_append_drop] at this; exact this
        exact ⟨l.drop c ++ l.take c, by rw [hlen], rfl, ⟨hperm, by omega⟩, hF⟩
end Go.Proofs.Ytdpfmaimhimfcaa
