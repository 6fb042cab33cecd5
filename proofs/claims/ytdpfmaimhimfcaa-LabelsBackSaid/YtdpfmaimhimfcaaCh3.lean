/- Proved: what functions of the program come to, by their conditions over the abstract machine. Conditions: those that each theorem states. -/
import Derived.Test.YtdpfmaimhimfcaaCh2
set_option linter.unusedVariables false
set_option linter.unusedSimpArgs false
namespace Go.Proofs.Ytdpfmaimhimfcaa
open Go.RowKit Go.Proofs.Ytdpfmaimhimfcaa.AM
set_option maxRecDepth 100000
set_option maxHeartbeats 4000000
/-! ### texts in their order; sets (no program in sight) -/
theorem bl_irr : ∀ x : List UInt8, Op.bytesLess x x = false := by
  intro x
  induction x with
  | nil => rfl
  | cons a x ih => simp [Op.bytesLess, ih]
theorem bl_tri : ∀ x y : List UInt8, Op.bytesLess x y = true ∨ x = y ∨ Op.bytesLess y x = true := by
  intro x
  induction x with
  | nil => intro y; cases y with
    | nil => exact .inr (.inl rfl)
    | cons => exact .inl rfl
  | cons a x ih =>
    intro y
    cases y with
    | nil => exact .inr (.inr rfl)
    | cons b y =>
      simp only [Op.bytesLess, Bool.or_eq_true, Bool.and_eq_true, decide_eq_true_eq, beq_iff_eq]
      rcases Nat.lt_trichotomy a.toNat b.toNat with h | h | h
      · exact .inl (.inl (UInt8.lt_iff_toNat_lt.2 h))
      · have hab : a = b := UInt8.toNat_inj.1 h
        subst hab
        rcases ih y with h2 | h2 | h2
        · exact .inl (.inr ⟨rfl, h2⟩)
        · exact .inr (.inl (by rw [h2]))
        · exact .inr (.inr (.inr ⟨rfl, h2⟩))
      · exact .inr (.inr (.inl (UInt8.lt_iff_toNat_lt.2 h)))
theorem bl_trans : ∀ x y z : List UInt8, Op.bytesLess x y = true → Op.bytesLess y z = true → Op.bytesLess x z = true := by
  intro x
  induction x with
  | nil =>
    intro y z h1 h2
    cases z with
    | nil => cases y <;> cases h2
    | cons => rfl
  | cons a x ih =>
    intro y z h1 h2
    cases y with
    | nil => cases h1
    | cons b y =>
      cases z with
      | nil => cases h2
      | cons c z =>
        simp only [Op.bytesLess, Bool.or_eq_true, Bool.and_eq_true, decide_eq_true_eq, beq_iff_eq, UInt8.lt_iff_toNat_lt] at h1 h2 ⊢
        rcases h1 with h1 | ⟨h1, h1'⟩ <;> rcases h2 with h2 | ⟨h2, h2'⟩
        · exact .inl (by omega)
        · subst h2; exact .inl h1
        · subst h1; exact .inl h2
        · subst h1 h2; exact .inr ⟨rfl, ih y z h1' h2'⟩
theorem ba_ext {a b : ByteArray} (h : a.data.toList = b.data.toList) : a = b := by
  obtain ⟨⟨a⟩⟩ := a
  obtain ⟨⟨b⟩⟩ := b
  simp at h; rw [h]
theorem ltS_irr (a : ByteArray) : ltS a a = false := bl_irr _
theorem ltS_tri (a b : ByteArray) : ltS a b = true ∨ a = b ∨ ltS b a = true := by
  rcases bl_tri a.data.toList b.data.toList with h | h | h
  · exact .inl h
  · exact .inr (.inl (ba_ext h))
  · exact .inr (.inr h)
theorem ltS_trans {a b c : ByteArray} (h1 : ltS a b = true) (h2 : ltS b c = true) : ltS a c = true := bl_trans _ _ _ h1 h2
theorem ltS_asym {a b : ByteArray} (h : ltS a b = true) : ltS b a = false := by
  cases hq : ltS b a with
  | false => rfl
  | true => have := ltS_trans h hq; rw [ltS_irr] at this; cases this
/-- names that rise -/
def Rises (l : List Lb) : Prop := l.Pairwise fun x y => ltS x.1 y.1 = true
theorem after_iff {p a : ByteArray} : after (some p) a = true ↔ ltS p a = true := by
  simp only [after, Bool.not_eq_true', Bool.or_eq_false_iff]
  constructor
  · rintro ⟨h1, h2⟩
    rcases ltS_tri a p with h | h | h
    · rw [h] at h1; cases h1
    · subst h; rw [eqS_rfl] at h2; cases h2
    · exact h
  · intro h
    refine ⟨ltS_asym h, ?_⟩
    cases hq : eqS a p with
    | false => rfl
    | true => rw [eqS_iff.1 hq, ltS_irr] at h; cases h
theorem setF_iff : ∀ (l : List Lb) (p : Option ByteArray), setF p l = true ↔ (∀ x ∈ l, nameB x.1 = true ∧ valueB x.2 = true) ∧ Rises l ∧ ∀ q, p = some q → ∀ x ∈ l, ltS q x.1 = true := by
  intro l
  induction l with
  | nil => intro p; simp [setF, Rises]
  | cons y l ih =>
    intro p
    simp only [setF, Bool.and_eq_true, ih, Rises, List.pairwise_cons, List.mem_cons, forall_eq_or_imp]
    constructor
    · rintro ⟨h1, h2, h3, h4, h5, h6⟩
      refine ⟨⟨⟨h1, h2⟩, h4⟩, ⟨fun x hx => h6 y.1 rfl x hx, h5⟩, fun q hq => ?_⟩
      subst hq
      have := after_iff.1 h3
      exact ⟨this, fun x hx => ltS_trans this (h6 y.1 rfl x hx)⟩
    · rintro ⟨⟨⟨h1, h2⟩, h3⟩, ⟨h4, h5⟩, h6⟩
      refine ⟨h1, h2, ?_, h3, h5, fun q hq x hx => ?_⟩
      · cases p with
        | none => rfl
        | some q => exact after_iff.2 (h6 q rfl).1
      · injection hq with hq; subst hq; exact h4 x hx
theorem isSetB_iff {l : List Lb} : isSetB l = true ↔ 1 ≤ l.length ∧ l.length ≤ 6 ∧ (∀ x ∈ l, nameB x.1 = true ∧ valueB x.2 = true) ∧ Rises l := by
  simp only [isSetB, Bool.and_eq_true, leN_iff, setF_iff]
  exact ⟨fun ⟨⟨h1, h2⟩, h3, h4, _⟩ => ⟨h1, h2, h3, h4⟩, fun ⟨h1, h2, h3, h4⟩ => ⟨⟨h1, h2⟩, h3, h4, fun q hq => by cases hq⟩⟩
/-- a name laid into rising ones that do not have it -/
theorem posB_facts (s : ByteArray) (L : List Lb) (hr : Rises L) (hn : ∀ x ∈ L, x.1 ≠ s) : ∀ n, n ≤ L.length → (∀ (j : Nat) x, j < posB s L n → L[j]? = some x → ltS x.1 s = true) ∧ ∀ (j : Nat) x, posB s L n ≤ j → j < n → L[j]? = some x → ltS s x.1 = true := by
  intro n
  induction n with
  | zero => intro _; exact ⟨fun j x h => by simp [posB] at h, fun j x _ h => by omega⟩
  | succ n ih =>
    intro hl
    obtain ⟨h1, h2⟩ := ih (by omega)
    have hx : L[n]? = some L[n] := List.getElem?_eq_getElem (by omega)
    unfold posB
    rw [hx]
    simp only [Option.getD_some]
    split
    · rename_i hlt
      refine ⟨h1, fun j x ha hb hj => ?_⟩
      rcases Nat.lt_or_ge j n with q | q
      · exact h2 j x ha q hj
      · obtain rfl : j = n := by omega
        rw [hx] at hj; injection hj with hj; subst hj; exact hlt
    · rename_i hlt
      refine ⟨fun j x ha hj => ?_, fun j x ha hb => by omega⟩
      have hlast : ltS (L[n]).1 s = true := by
        rcases ltS_tri s (L[n]).1 with h | h | h
        · exact absurd h hlt
        · exact absurd h.symm (hn _ (List.getElem_mem _))
        · exact h
      rcases Nat.lt_or_ge j n with q | q
      · have := List.pairwise_iff_getElem.1 hr j n (by omega) (by omega) q
        have e : x = L[j] := by rw [List.getElem?_eq_getElem (by omega)] at hj; injection hj with hj; exact hj.symm
        rw [e]; exact ltS_trans this hlast
      · obtain rfl : j = n := by omega
        rw [hx] at hj; injection hj with hj; subst hj; exact hlast
theorem insL_rises {L : List Lb} {x : Lb} (hr : Rises L) (hn : ∀ y ∈ L, y.1 ≠ x.1) : Rises (insL L x) := by
  obtain ⟨h1, h2⟩ := posB_facts x.1 L hr hn L.length (Nat.le_refl _)
  have hle := posB_le x.1 L L.length
  unfold insL
  generalize posB x.1 L L.length = n at *
  unfold Rises at hr ⊢
  have hs := hr
  rw [← List.take_append_drop n L, List.pairwise_append] at hs
  have hA : ∀ y ∈ L.take n, ltS y.1 x.1 = true := fun y hy => by
    obtain ⟨j, hj⟩ := List.mem_iff_getElem?.1 hy
    rw [List.getElem?_take] at hj
    split at hj
    · exact h1 j y (by assumption) hj
    · cases hj
  have hB : ∀ y ∈ L.drop n, ltS x.1 y.1 = true := fun y hy => by
    obtain ⟨j, hj⟩ := List.mem_iff_getElem?.1 hy
    rw [List.getElem?_drop] at hj
    exact h2 (n + j) y (by omega) (List.getElem?_eq_some_iff.1 hj).1 hj
  rw [List.pairwise_append, List.pairwise_cons]
  refine ⟨hs.1, ⟨hB, hs.2.1⟩, fun a ha b hb => ?_⟩
  rcases List.mem_cons.1 hb with rfl | hb
  · exact hA a ha
  · exact hs.2.2 a ha b hb
/-- labels, no name twice -/
def Once (l : List Lb) : Prop := l.Pairwise fun x y => x.1 ≠ y.1
theorem foldl_rises : ∀ (l L : List Lb), Rises L → Once l → (∀ x ∈ l, ∀ y ∈ L, y.1 ≠ x.1) → Rises (l.foldl insL L) := by
  intro l
  induction l with
  | nil => intro L h _ _; exact h
  | cons x l ih =>
    intro L h ho hn
    unfold Once at ho
    rw [List.pairwise_cons] at ho
    rw [List.foldl_cons]
    refine ih _ (insL_rises h (hn x List.mem_cons_self)) ho.2 fun y hy z hz => ?_
    rcases (insL_mem L x z).1 hz with rfl | hz
    · exact ho.1 y hy
    · exact hn y (List.mem_cons_of_mem _ hy) z hz
theorem mkS_rises {l : List Lb} (h : Once l) : Rises (mkS l) := foldl_rises l [] List.Pairwise.nil h (fun x _ y hy => by simp at hy)
theorem getF_none {n : ByteArray} : ∀ {L : List Lb}, (∀ x ∈ L, valueB x.2 = true) → (getF n L = ⟨#[]⟩ ↔ ∀ x ∈ L, x.1 ≠ n) := by
  intro L
  induction L with
  | nil => intro _; simp [getF]
  | cons x L ih =>
    intro hv
    unfold getF
    have h1 := hv x List.mem_cons_self
    split
    · rename_i h
      have h := eqS_iff.1 h
      constructor
      · intro hz
        rw [hz] at h1
        exact absurd h1 (by decide)
      · intro hz
        exact absurd h (hz x List.mem_cons_self)
    · rename_i h
      rw [ih fun y hy => hv y (List.mem_cons_of_mem _ hy)]
      simp only [List.mem_cons, forall_eq_or_imp]
      exact ⟨fun hz => ⟨fun hh => h (eqS_iff.2 hh), hz⟩, fun hz => hz.2⟩
def Fine (l : List Lb) : Prop := (∀ x ∈ l, nameB x.1 = true ∧ valueB x.2 = true) ∧ Once l
theorem addK_fine {L : List Lb} (h : Fine L) (n : Int) : Fine (addK L n) := by
  obtain ⟨h1, h2⟩ := h
  unfold addK
  split
  · rename_i hq
    have hq := (getF_none fun x hx => (h1 x hx).2).1 (eqS_iff.1 hq)
    refine ⟨fun x hx => ?_, ?_⟩
    · rcases List.mem_append.1 hx with hx | hx
      · exact h1 x hx
      · simp at hx; subst hx; exact ⟨(few_facts _).2.1, (few_facts _).2.2.2⟩
    · unfold Once
      rw [List.pairwise_append]
      refine ⟨h2, List.pairwise_singleton _ _, fun a ha b hb => ?_⟩
      simp at hb; subst hb
      exact hq a ha
  · exact ⟨h1, h2⟩
theorem foldl_fine (l : List Int) : ∀ L : List Lb, Fine L → Fine (l.foldl addK L) := by
  induction l with
  | nil => intro L h; exact h
  | cons n l ih => intro L h; exact ih _ (addK_fine h n)
theorem keepO_set (l : List Int) : isSetB (mkS (keepO l)) = true ∧ mkR (keepO l) = mkS (keepO l) := by
  have hf : Fine (keepO l) := by
    unfold keepO
    split
    · refine ⟨fun x hx => ?_, List.pairwise_singleton _ _⟩
      simp at hx; subst hx; exact ⟨(few_facts 0).2.1, (few_facts 0).2.2.2⟩
    · exact foldl_fine _ [] ⟨fun x hx => by simp at hx, List.Pairwise.nil⟩
  have hne : 1 ≤ (keepO l).length := by
    unfold keepO
    split
    · exact Nat.le_refl _
    · omega
  have hl := (keepO_small l).2
  have hm := mkS_len (keepO l) []
  simp only [List.length_nil, Nat.zero_add] at hm
  have hs : isSetB (mkS (keepO l)) = true := by
    refine isSetB_iff.2 ⟨by unfold mkS; omega, by unfold mkS; omega, fun x hx => ?_, mkS_rises hf.2⟩
    rcases (mkS_mem (keepO l) [] x).1 hx with h | h
    · simp at h
    · exact hf.1 x h
  exact ⟨hs, by unfold mkR; rw [if_pos hs]⟩
end Go.Proofs.Ytdpfmaimhimfcaa

namespace Go.Proofs.Ytdpfmaimhimfcaa
open Go.RowKit Go.Proofs.Ytdpfmaimhimfcaa.AM
set_option maxRecDepth 100000
set_option maxHeartbeats 4000000
noncomputable def body107 : Code := (Try.f7.body).getD .skip
def F107 : List Nat → Option (List Nat) := fun p => match p with
  | [1] => some [0, 1, 2]
  | [1, 0, 1] => some [0, 1, 2, 26]
  | [1, 0, 1, 0, 1] => some [6]
  | [1, 1] => some [0, 1, 2]
  | [1, 1, 1] => some [2, 7, 8]
  | [1, 1, 1, 1] => some [2, 7, 8, 9, 10]
  | [1, 1, 1, 1, 1] => some [7, 8, 9, 10, 11, 12, 13]
  | [1, 0, 1, 1, 1, 1, 1] => some [7, 8, 9, 10, 58]
  | [1, 0, 1, 0, 1, 1, 1, 1, 1] => some [6]
  | [1, 1, 1, 1, 1, 1] => some [7, 8, 9, 10]
  | [1, 0, 1, 1, 1, 1, 1, 1] => some [77]
  | [1, 0, 1, 0, 1, 1, 1, 1, 1, 1] => some [6]
  | [1, 1, 1, 1, 1, 1, 1] => some []
  | [1, 1, 1, 1, 1, 1, 1, 1] => some [6]
  | _ => none
noncomputable def S49 : Book := bookOf [(3, trueC), (12, bytesC), (21, keepC), (23, readC), (26, sameC)]
theorem sure49 (hmix : Try.prog.follows .mixedOrders = true) : Sure Try.prog S49 := ⟨hmix, plain, bookOf_ok (l := [(3, trueC), (12, bytesC), (21, keepC), (23, readC), (26, sameC)]) ⟨runs_holds hmix, bytes_says hmix, keep_says hmix, read_says hmix, same_says hmix, trivial⟩⟩

theorem w107 (cl cr cb : List Value) (o o2 o3 : Nat) (sp s2 s3 : Option Nat) (len cap len2 cap2 len3 cap3 : Nat) (K : Value → Heap → Prop) :
  funX Try.prog S49 noLoop F107 body107 Try.f7 [] [] [.slice (some ⟨0,o,sp⟩) len cap, .slice (some ⟨1,o2,s2⟩) len2 cap2, .slice (some ⟨2,o3,s3⟩) len3 cap3] (hp [.cells cl 1 false, .cells cr 1 false, .cells cb 1 false]) K = (
Alt (ltI 20 (↑len : Int))
  (True ∧ True ∧ K (Value.bool true) (hp [Blk.cells cl 1 false, Blk.cells cr 1 false, Blk.cells cb 1 false]))
  (Alt (ltI 20 (↑len2 : Int))
    (True ∧ True ∧ K (Value.bool true) (hp [Blk.cells cl 1 false, Blk.cells cr 1 false, Blk.cells cb 1 false]))
    (Alt (ltI 300 (↑len3 : Int))
      (True ∧ True ∧ K (Value.bool true) (hp [Blk.cells cl 1 false, Blk.cells cr 1 false, Blk.cells cb 1 false]))
      ((FlatL cl ∧ True) ∧
        IsE (iE IntKind.i64) (ZP IntKind.i64) cl o len cap ∧
          (FlatL cr ∧ True) ∧
            IsE (iE IntKind.i64) (ZP IntKind.i64) cr o2 len2 cap2 ∧
              (FlatL (labC (mkR (keepO (elAt intV cl o len)))) ∧ True) ∧
                IsLs (labC (mkR (keepO (elAt intV cl o len)))) 0 (mkR (keepO (elAt intV cl o len))).length
                    (mkR (keepO (elAt intV cl o len))).length ∧
                  (FlatL (labC (mkR (keepO (elAt intV cr o2 len2)))) ∧ True) ∧
                    IsLs (labC (mkR (keepO (elAt intV cr o2 len2)))) 0 (mkR (keepO (elAt intV cr o2 len2))).length
                        (mkR (keepO (elAt intV cr o2 len2))).length ∧
                      Need
                        (leN
                          (0 +
                            (setB
                                  (labsAt (labC (mkR (keepO (elAt intV cl o len)))) 0
                                    (mkR (keepO (elAt intV cl o len))).length)).length *
                              1)
                          (List.map u8v
                              (setB
                                (labsAt (labC (mkR (keepO (elAt intV cl o len)))) 0
                                  (mkR (keepO (elAt intV cl o len))).length))).length)
                        (Need
                          (leN
                            ((setB
                                  (labsAt (labC (mkR (keepO (elAt intV cl o len)))) 0
                                    (mkR (keepO (elAt intV cl o len))).length)).length *
                              1)
                            1099511627776)
                          (Need
                            (leN
                              (setB
                                  (labsAt (labC (mkR (keepO (elAt intV cl o len)))) 0
                                    (mkR (keepO (elAt intV cl o len))).length)).length
                              1099511627776)
                            (Need (leN (o3 + len3 * 1) cb.length)
                              (Need
                                (leN
                                  (0 +
                                    (setB
                                          (labsAt (labC (mkR (keepO (elAt intV cl o len)))) 0
                                            (mkR (keepO (elAt intV cl o len))).length)).length *
                                      1)
                                  (List.take
                                      ((setB
                                            (labsAt (labC (mkR (keepO (elAt intV cl o len)))) 0
                                              (mkR (keepO (elAt intV cl o len))).length)).length *
                                        1)
                                      (List.drop 0
                                        (List.map u8v
                                          (setB
                                            (labsAt (labC (mkR (keepO (elAt intV cl o len)))) 0
                                              (mkR (keepO (elAt intV cl o len))).length))))).length)
                                (Need
                                  (leN
                                    (((setB
                                            (labsAt (labC (mkR (keepO (elAt intV cl o len)))) 0
                                              (mkR (keepO (elAt intV cl o len))).length)).length +
                                        len3) *
                                      1)
                                    1099511627776)
                                  (Need
                                    (leN
                                      ((setB
                                            (labsAt (labC (mkR (keepO (elAt intV cl o len)))) 0
                                              (mkR (keepO (elAt intV cl o len))).length)).length +
                                        len3)
                                      1099511627776)
                                    (Need ((List.take (len3 * 1) (List.drop o3 cb)).all oneV)
                                      ((FlatL
                                            (List.take
                                                ((setB
                                                      (labsAt (labC (mkR (keepO (elAt intV cl o len)))) 0
                                                        (mkR (keepO (elAt intV cl o len))).length)).length *
                                                  1)
                                                (List.drop 0
                                                  (List.take
                                                    ((setB
                                                          (labsAt (labC (mkR (keepO (elAt intV cl o len)))) 0
                                                            (mkR (keepO (elAt intV cl o len))).length)).length *
                                                      1)
                                                    (List.drop 0
                                                      (List.map u8v
                                                        (setB
                                                          (labsAt (labC (mkR (keepO (elAt intV cl o len)))) 0
                                                            (mkR (keepO (elAt intV cl o len))).length)))))) ++
                                              List.take (len3 * 1) (List.drop o3 cb)) ∧
                                          True) ∧
                                        IsBs
                                            (List.take
                                                ((setB
                                                      (labsAt (labC (mkR (keepO (elAt intV cl o len)))) 0
                                                        (mkR (keepO (elAt intV cl o len))).length)).length *
                                                  1)
                                                (List.drop 0
                                                  (List.take
                                                    ((setB
                                                          (labsAt (labC (mkR (keepO (elAt intV cl o len)))) 0
                                                            (mkR (keepO (elAt intV cl o len))).length)).length *
                                                      1)
                                                    (List.drop 0
                                                      (List.map u8v
                                                        (setB
                                                          (labsAt (labC (mkR (keepO (elAt intV cl o len)))) 0
                                                            (mkR (keepO (elAt intV cl o len))).length)))))) ++
                                              List.take (len3 * 1) (List.drop o3 cb))
                                            0
                                            ((setB
                                                  (labsAt (labC (mkR (keepO (elAt intV cl o len)))) 0
                                                    (mkR (keepO (elAt intV cl o len))).length)).length +
                                              len3)
                                            ((setB
                                                  (labsAt (labC (mkR (keepO (elAt intV cl o len)))) 0
                                                    (mkR (keepO (elAt intV cl o len))).length)).length +
                                              len3) ∧
                                          Alt
                                            (!(rsR
                                                  (bytesAt
                                                    (List.take
                                                        ((setB
                                                              (labsAt (labC (mkR (keepO (elAt intV cl o len)))) 0
                                                                (mkR (keepO (elAt intV cl o len))).length)).length *
                                                          1)
                                                        (List.drop 0
                                                          (List.take
                                                            ((setB
                                                                  (labsAt (labC (mkR (keepO (elAt intV cl o len)))) 0
                                                                    (mkR (keepO (elAt intV cl o len))).length)).length *
                                                              1)
                                                            (List.drop 0
                                                              (List.map u8v
                                                                (setB
                                                                  (labsAt (labC (mkR (keepO (elAt intV cl o len)))) 0
                                                                    (mkR (keepO (elAt intV cl o len))).length)))))) ++
                                                      List.take (len3 * 1) (List.drop o3 cb))
                                                    0
                                                    ((setB
                                                          (labsAt (labC (mkR (keepO (elAt intV cl o len)))) 0
                                                            (mkR (keepO (elAt intV cl o len))).length)).length +
                                                      len3))).isSome)
                                            (K (Value.bool false)
                                              (hp [Blk.cells cl 1 false, Blk.cells cr 1 false, Blk.cells cb 1 false]))
                                            (Alt
                                              (!eqI
                                                  (↑(rsN
                                                        (rsR
                                                          (bytesAt
                                                            (List.take
                                                                ((setB
                                                                      (labsAt (labC (mkR (keepO (elAt intV cl o len))))
                                                                        0
                                                                        (mkR
                                                                            (keepO
                                                                              (elAt intV cl o len))).length)).length *
                                                                  1)
                                                                (List.drop 0
                                                                  (List.take
                                                                    ((setB
                                                                          (labsAt
                                                                            (labC (mkR (keepO (elAt intV cl o len)))) 0
                                                                            (mkR
                                                                                (keepO
                                                                                  (elAt intV cl o
                                                                                    len))).length)).length *
                                                                      1)
                                                                    (List.drop 0
                                                                      (List.map u8v
                                                                        (setB
                                                                          (labsAt
                                                                            (labC (mkR (keepO (elAt intV cl o len)))) 0
                                                                            (mkR
                                                                                (keepO
                                                                                  (elAt intV cl o len))).length)))))) ++
                                                              List.take (len3 * 1) (List.drop o3 cb))
                                                            0
                                                            ((setB
                                                                  (labsAt (labC (mkR (keepO (elAt intV cl o len)))) 0
                                                                    (mkR (keepO (elAt intV cl o len))).length)).length +
                                                              len3)))) :
                                                    Int)
                                                  (↑(setB
                                                          (labsAt (labC (mkR (keepO (elAt intV cl o len)))) 0
                                                            (mkR (keepO (elAt intV cl o len))).length)).length :
                                                    Int))
                                              (K (Value.bool false)
                                                (hp [Blk.cells cl 1 false, Blk.cells cr 1 false, Blk.cells cb 1 false]))
                                              ((FlatL (labC (mkR (keepO (elAt intV cl o len)))) ∧
                                                  FlatL
                                                      (labC
                                                        (rsL
                                                          (rsR
                                                            (bytesAt
                                                              (List.take
                                                                  ((setB
                                                                        (labsAt
                                                                          (labC (mkR (keepO (elAt intV cl o len)))) 0
                                                                          (mkR
                                                                              (keepO
                                                                                (elAt intV cl o len))).length)).length *
                                                                    1)
                                                                  (List.drop 0
                                                                    (List.take
                                                                      ((setB
                                                                            (labsAt
                                                                              (labC (mkR (keepO (elAt intV cl o len))))
                                                                              0
                                                                              (mkR
                                                                                  (keepO
                                                                                    (elAt intV cl o
                                                                                      len))).length)).length *
                                                                        1)
                                                                      (List.drop 0
                                                                        (List.map u8v
                                                                          (setB
                                                                            (labsAt
                                                                              (labC (mkR (keepO (elAt intV cl o len))))
                                                                              0
                                                                              (mkR
                                                                                  (keepO
                                                                                    (elAt intV cl o
                                                                                      len))).length)))))) ++
                                                                List.take (len3 * 1) (List.drop o3 cb))
                                                              0
                                                              ((setB
                                                                    (labsAt (labC (mkR (keepO (elAt intV cl o len)))) 0
                                                                      (mkR
                                                                          (keepO
                                                                            (elAt intV cl o len))).length)).length +
                                                                len3))))) ∧
                                                    True) ∧
                                                (IsLs (labC (mkR (keepO (elAt intV cl o len)))) 0
                                                      (mkR (keepO (elAt intV cl o len))).length
                                                      (mkR (keepO (elAt intV cl o len))).length ∧
                                                    IsLs
                                                      (labC
                                                        (rsL
                                                          (rsR
                                                            (bytesAt
                                                              (List.take
                                                                  ((setB
                                                                        (labsAt
                                                                          (labC (mkR (keepO (elAt intV cl o len)))) 0
                                                                          (mkR
                                                                              (keepO
                                                                                (elAt intV cl o len))).length)).length *
                                                                    1)
                                                                  (List.drop 0
                                                                    (List.take
                                                                      ((setB
                                                                            (labsAt
                                                                              (labC (mkR (keepO (elAt intV cl o len))))
                                                                              0
                                                                              (mkR
                                                                                  (keepO
                                                                                    (elAt intV cl o
                                                                                      len))).length)).length *
                                                                        1)
                                                                      (List.drop 0
                                                                        (List.map u8v
                                                                          (setB
                                                                            (labsAt
                                                                              (labC (mkR (keepO (elAt intV cl o len))))
                                                                              0
                                                                              (mkR
                                                                                  (keepO
                                                                                    (elAt intV cl o
                                                                                      len))).length)))))) ++
                                                                List.take (len3 * 1) (List.drop o3 cb))
                                                              0
                                                              ((setB
                                                                    (labsAt (labC (mkR (keepO (elAt intV cl o len)))) 0
                                                                      (mkR
                                                                          (keepO
                                                                            (elAt intV cl o len))).length)).length +
                                                                len3)))))
                                                      0
                                                      (rsL
                                                          (rsR
                                                            (bytesAt
                                                              (List.take
                                                                  ((setB
                                                                        (labsAt
                                                                          (labC (mkR (keepO (elAt intV cl o len)))) 0
                                                                          (mkR
                                                                              (keepO
                                                                                (elAt intV cl o len))).length)).length *
                                                                    1)
                                                                  (List.drop 0
                                                                    (List.take
                                                                      ((setB
                                                                            (labsAt
                                                                              (labC (mkR (keepO (elAt intV cl o len))))
                                                                              0
                                                                              (mkR
                                                                                  (keepO
                                                                                    (elAt intV cl o
                                                                                      len))).length)).length *
                                                                        1)
                                                                      (List.drop 0
                                                                        (List.map u8v
                                                                          (setB
                                                                            (labsAt
                                                                              (labC (mkR (keepO (elAt intV cl o len))))
                                                                              0
                                                                              (mkR
                                                                                  (keepO
                                                                                    (elAt intV cl o
                                                                                      len))).length)))))) ++
                                                                List.take (len3 * 1) (List.drop o3 cb))
                                                              0
                                                              ((setB
                                                                    (labsAt (labC (mkR (keepO (elAt intV cl o len)))) 0
                                                                      (mkR
                                                                          (keepO
                                                                            (elAt intV cl o len))).length)).length +
                                                                len3)))).length
                                                      (rsL
                                                          (rsR
                                                            (bytesAt
                                                              (List.take
                                                                  ((setB
                                                                        (labsAt
                                                                          (labC (mkR (keepO (elAt intV cl o len)))) 0
                                                                          (mkR
                                                                              (keepO
                                                                                (elAt intV cl o len))).length)).length *
                                                                    1)
                                                                  (List.drop 0
                                                                    (List.take
                                                                      ((setB
                                                                            (labsAt
                                                                              (labC (mkR (keepO (elAt intV cl o len))))
                                                                              0
                                                                              (mkR
                                                                                  (keepO
                                                                                    (elAt intV cl o
                                                                                      len))).length)).length *
                                                                        1)
                                                                      (List.drop 0
                                                                        (List.map u8v
                                                                          (setB
                                                                            (labsAt
                                                                              (labC (mkR (keepO (elAt intV cl o len))))
                                                                              0
                                                                              (mkR
                                                                                  (keepO
                                                                                    (elAt intV cl o
                                                                                      len))).length)))))) ++
                                                                List.take (len3 * 1) (List.drop o3 cb))
                                                              0
                                                              ((setB
                                                                    (labsAt (labC (mkR (keepO (elAt intV cl o len)))) 0
                                                                      (mkR
                                                                          (keepO
                                                                            (elAt intV cl o len))).length)).length +
                                                                len3)))).length) ∧
                                                  Alt
                                                    (!sameB
                                                        (labsAt (labC (mkR (keepO (elAt intV cl o len)))) 0
                                                          (mkR (keepO (elAt intV cl o len))).length)
                                                        (labsAt
                                                          (labC
                                                            (rsL
                                                              (rsR
                                                                (bytesAt
                                                                  (List.take
                                                                      ((setB
                                                                            (labsAt
                                                                              (labC (mkR (keepO (elAt intV cl o len))))
                                                                              0
                                                                              (mkR
                                                                                  (keepO
                                                                                    (elAt intV cl o
                                                                                      len))).length)).length *
                                                                        1)
                                                                      (List.drop 0
                                                                        (List.take
                                                                          ((setB
                                                                                (labsAt
                                                                                  (labC
                                                                                    (mkR (keepO (elAt intV cl o len))))
                                                                                  0
                                                                                  (mkR
                                                                                      (keepO
                                                                                        (elAt intV cl o
                                                                                          len))).length)).length *
                                                                            1)
                                                                          (List.drop 0
                                                                            (List.map u8v
                                                                              (setB
                                                                                (labsAt
                                                                                  (labC
                                                                                    (mkR (keepO (elAt intV cl o len))))
                                                                                  0
                                                                                  (mkR
                                                                                      (keepO
                                                                                        (elAt intV cl o
                                                                                          len))).length)))))) ++
                                                                    List.take (len3 * 1) (List.drop o3 cb))
                                                                  0
                                                                  ((setB
                                                                        (labsAt
                                                                          (labC (mkR (keepO (elAt intV cl o len)))) 0
                                                                          (mkR
                                                                              (keepO
                                                                                (elAt intV cl o len))).length)).length +
                                                                    len3)))))
                                                          0
                                                          (rsL
                                                              (rsR
                                                                (bytesAt
                                                                  (List.take
                                                                      ((setB
                                                                            (labsAt
                                                                              (labC (mkR (keepO (elAt intV cl o len))))
                                                                              0
                                                                              (mkR
                                                                                  (keepO
                                                                                    (elAt intV cl o
                                                                                      len))).length)).length *
                                                                        1)
                                                                      (List.drop 0
                                                                        (List.take
                                                                          ((setB
                                                                                (labsAt
                                                                                  (labC
                                                                                    (mkR (keepO (elAt intV cl o len))))
                                                                                  0
                                                                                  (mkR
                                                                                      (keepO
                                                                                        (elAt intV cl o
                                                                                          len))).length)).length *
                                                                            1)
                                                                          (List.drop 0
                                                                            (List.map u8v
                                                                              (setB
                                                                                (labsAt
                                                                                  (labC
                                                                                    (mkR (keepO (elAt intV cl o len))))
                                                                                  0
                                                                                  (mkR
                                                                                      (keepO
                                                                                        (elAt intV cl o
                                                                                          len))).length)))))) ++
                                                                    List.take (len3 * 1) (List.drop o3 cb))
                                                                  0
                                                                  ((setB
                                                                        (labsAt
                                                                          (labC (mkR (keepO (elAt intV cl o len)))) 0
                                                                          (mkR
                                                                              (keepO
                                                                                (elAt intV cl o len))).length)).length +
                                                                    len3)))).length))
                                                    (K (Value.bool false)
                                                      (hp
                                                        [Blk.cells cl 1 false, Blk.cells cr 1 false,
                                                          Blk.cells cb 1 false]))
                                                    (Alt
                                                      (leI
                                                        (↑(setB
                                                                (labsAt (labC (mkR (keepO (elAt intV cl o len)))) 0
                                                                  (mkR (keepO (elAt intV cl o len))).length)).length :
                                                          Int)
                                                        (↑(setB
                                                                (labsAt (labC (mkR (keepO (elAt intV cr o2 len2)))) 0
                                                                  (mkR (keepO (elAt intV cr o2 len2))).length)).length :
                                                          Int))
                                                      (Need
                                                        (leI
                                                          (↑(setB
                                                                  (labsAt (labC (mkR (keepO (elAt intV cl o len)))) 0
                                                                    (mkR (keepO (elAt intV cl o len))).length)).length :
                                                            Int)
                                                          (↑(setB
                                                                  (labsAt (labC (mkR (keepO (elAt intV cr o2 len2)))) 0
                                                                    (mkR
                                                                        (keepO
                                                                          (elAt intV cr o2 len2))).length)).length :
                                                            Int))
                                                        (Need
                                                          (leN
                                                            (0 +
                                                              ((↑(setB
                                                                          (labsAt
                                                                            (labC (mkR (keepO (elAt intV cl o len)))) 0
                                                                            (mkR
                                                                                (keepO
                                                                                  (elAt intV cl o
                                                                                    len))).length)).length :
                                                                    Int).toNat -
                                                                0))
                                                            (List.map u8v
                                                                (setB
                                                                  (labsAt (labC (mkR (keepO (elAt intV cr o2 len2)))) 0
                                                                    (mkR
                                                                        (keepO
                                                                          (elAt intV cr o2 len2))).length))).length)
                                                          (Need
                                                            (strOf
                                                                (List.take
                                                                  ((↑(setB
                                                                              (labsAt
                                                                                (labC
                                                                                  (mkR (keepO (elAt intV cl o len))))
                                                                                0
                                                                                (mkR
                                                                                    (keepO
                                                                                      (elAt intV cl o
                                                                                        len))).length)).length :
                                                                        Int).toNat -
                                                                    0)
                                                                  (List.drop 0
                                                                    (List.map u8v
                                                                      (setB
                                                                        (labsAt
                                                                          (labC (mkR (keepO (elAt intV cr o2 len2)))) 0
                                                                          (mkR
                                                                              (keepO
                                                                                (elAt intV cr o2
                                                                                  len2))).length)))))).isSome
                                                            (Need
                                                              (leN
                                                                (0 +
                                                                  (setB
                                                                      (labsAt (labC (mkR (keepO (elAt intV cl o len))))
                                                                        0
                                                                        (mkR
                                                                            (keepO
                                                                              (elAt intV cl o len))).length)).length)
                                                                (List.map u8v
                                                                    (setB
                                                                      (labsAt (labC (mkR (keepO (elAt intV cl o len))))
                                                                        0
                                                                        (mkR
                                                                            (keepO
                                                                              (elAt intV cl o len))).length))).length)
                                                              (Need
                                                                (strOf
                                                                    (List.take
                                                                      (setB
                                                                          (labsAt
                                                                            (labC (mkR (keepO (elAt intV cl o len)))) 0
                                                                            (mkR
                                                                                (keepO
                                                                                  (elAt intV cl o len))).length)).length
                                                                      (List.drop 0
                                                                        (List.map u8v
                                                                          (setB
                                                                            (labsAt
                                                                              (labC (mkR (keepO (elAt intV cl o len))))
                                                                              0
                                                                              (mkR
                                                                                  (keepO
                                                                                    (elAt intV cl o
                                                                                      len))).length)))))).isSome
                                                                ((FlatL (labC (mkR (keepO (elAt intV cl o len)))) ∧
                                                                    FlatL (labC (mkR (keepO (elAt intV cr o2 len2)))) ∧
                                                                      True) ∧
                                                                  (IsLs (labC (mkR (keepO (elAt intV cl o len)))) 0
                                                                        (mkR (keepO (elAt intV cl o len))).length
                                                                        (mkR (keepO (elAt intV cl o len))).length ∧
                                                                      IsLs (labC (mkR (keepO (elAt intV cr o2 len2)))) 0
                                                                        (mkR (keepO (elAt intV cr o2 len2))).length
                                                                        (mkR (keepO (elAt intV cr o2 len2))).length) ∧
                                                                    Need
                                                                      (beqV 64
                                                                        (Value.bool
                                                                          (eqS
                                                                            {
                                                                              data :=
                                                                                ((strOf
                                                                                        (List.take
                                                                                          ((↑(setB
                                                                                                      (labsAt
                                                                                                        (labC
                                                                                                          (mkR
                                                                                                            (keepO
                                                                                                              (elAt intV
                                                                                                                cl o
                                                                                                                len))))
                                                                                                        0
                                                                                                        (mkR
                                                                                                            (keepO
                                                                                                              (elAt intV
                                                                                                                cl o
                                                                                                                len))).length)).length :
                                                                                                Int).toNat -
                                                                                            0)
                                                                                          (List.drop 0
                                                                                            (List.map u8v
                                                                                              (setB
                                                                                                (labsAt
                                                                                                  (labC
                                                                                                    (mkR
                                                                                                      (keepO
                                                                                                        (elAt intV cr o2
                                                                                                          len2))))
                                                                                                  0
                                                                                                  (mkR
                                                                                                      (keepO
                                                                                                        (elAt intV cr o2
                                                                                                          len2))).length)))))).getD
                                                                                    []).toArray :
                                                                              ByteArray }
                                                                            {
                                                                              data :=
                                                                                ((strOf
                                                                                        (List.take
                                                                                          (setB
                                                                                              (labsAt
                                                                                                (labC
                                                                                                  (mkR
                                                                                                    (keepO
                                                                                                      (elAt intV cl o
                                                                                                        len))))
                                                                                                0
                                                                                                (mkR
                                                                                                    (keepO
                                                                                                      (elAt intV cl o
                                                                                                        len))).length)).length
                                                                                          (List.drop 0
                                                                                            (List.map u8v
                                                                                              (setB
                                                                                                (labsAt
                                                                                                  (labC
                                                                                                    (mkR
                                                                                                      (keepO
                                                                                                        (elAt intV cl o
                                                                                                          len))))
                                                                                                  0
                                                                                                  (mkR
                                                                                                      (keepO
                                                                                                        (elAt intV cl o
                                                                                                          len))).length)))))).getD
                                                                                    []).toArray :
                                                                              ByteArray }))
                                                                        (Value.bool
                                                                          (eqS
                                                                            {
                                                                              data :=
                                                                                ((strOf
                                                                                        (List.take
                                                                                          ((↑(setB
                                                                                                      (labsAt
                                                                                                        (labC
                                                                                                          (mkR
                                                                                                            (keepO
                                                                                                              (elAt intV
                                                                                                                cl o
                                                                                                                len))))
                                                                                                        0
                                                                                                        (mkR
                                                                                                            (keepO
                                                                                                              (elAt intV
                                                                                                                cl o
                                                                                                                len))).length)).length :
                                                                                                Int).toNat -
                                                                                            0)
                                                                                          (List.drop 0
                                                                                            (List.map u8v
                                                                                              (setB
                                                                                                (labsAt
                                                                                                  (labC
                                                                                                    (mkR
                                                                                                      (keepO
                                                                                                        (elAt intV cr o2
                                                                                                          len2))))
                                                                                                  0
                                                                                                  (mkR
                                                                                                      (keepO
                                                                                                        (elAt intV cr o2
                                                                                                          len2))).length)))))).getD
                                                                                    []).toArray :
                                                                              ByteArray }
                                                                            {
                                                                              data :=
                                                                                ((strOf
                                                                                        (List.take
                                                                                          (setB
                                                                                              (labsAt
                                                                                                (labC
                                                                                                  (mkR
                                                                                                    (keepO
                                                                                                      (elAt intV cl o
                                                                                                        len))))
                                                                                                0
                                                                                                (mkR
                                                                                                    (keepO
                                                                                                      (elAt intV cl o
                                                                                                        len))).length)).length
                                                                                          (List.drop 0
                                                                                            (List.map u8v
                                                                                              (setB
                                                                                                (labsAt
                                                                                                  (labC
                                                                                                    (mkR
                                                                                                      (keepO
                                                                                                        (elAt intV cl o
                                                                                                          len))))
                                                                                                  0
                                                                                                  (mkR
                                                                                                      (keepO
                                                                                                        (elAt intV cl o
                                                                                                          len))).length)))))).getD
                                                                                    []).toArray :
                                                                              ByteArray })))
                                                                      (Need
                                                                        (leN
                                                                          (0 +
                                                                            (setB
                                                                                (labsAt
                                                                                  (labC
                                                                                    (mkR (keepO (elAt intV cl o len))))
                                                                                  0
                                                                                  (mkR
                                                                                      (keepO
                                                                                        (elAt intV cl o
                                                                                          len))).length)).length)
                                                                          (List.map u8v
                                                                              (setB
                                                                                (labsAt
                                                                                  (labC
                                                                                    (mkR (keepO (elAt intV cl o len))))
                                                                                  0
                                                                                  (mkR
                                                                                      (keepO
                                                                                        (elAt intV cl o
                                                                                          len))).length))).length)
                                                                        (Need
                                                                          (strOf
                                                                              (List.take
                                                                                (setB
                                                                                    (labsAt
                                                                                      (labC
                                                                                        (mkR
                                                                                          (keepO (elAt intV cl o len))))
                                                                                      0
                                                                                      (mkR
                                                                                          (keepO
                                                                                            (elAt intV cl o
                                                                                              len))).length)).length
                                                                                (List.drop 0
                                                                                  (List.map u8v
                                                                                    (setB
                                                                                      (labsAt
                                                                                        (labC
                                                                                          (mkR
                                                                                            (keepO
                                                                                              (elAt intV cl o len))))
                                                                                        0
                                                                                        (mkR
                                                                                            (keepO
                                                                                              (elAt intV cl o
                                                                                                len))).length)))))).isSome
                                                                          (Need
                                                                            (beqV 64
                                                                              (Value.string
                                                                                {
                                                                                  data :=
                                                                                    ((strOf
                                                                                            (List.take
                                                                                              (setB
                                                                                                  (labsAt
                                                                                                    (labC
                                                                                                      (mkR
                                                                                                        (keepO
                                                                                                          (elAt intV cl
                                                                                                            o len))))
                                                                                                    0
                                                                                                    (mkR
                                                                                                        (keepO
                                                                                                          (elAt intV cl
                                                                                                            o
                                                                                                            len))).length)).length
                                                                                              (List.drop 0
                                                                                                (List.map u8v
                                                                                                  (setB
                                                                                                    (labsAt
                                                                                                      (labC
                                                                                                        (mkR
                                                                                                          (keepO
                                                                                                            (elAt intV
                                                                                                              cl o
                                                                                                              len))))
                                                                                                      0
                                                                                                      (mkR
                                                                                                          (keepO
                                                                                                            (elAt intV
                                                                                                              cl o
                                                                                                              len))).length)))))).getD
                                                                                        []).toArray :
                                                                                  ByteArray })
                                                                              (Value.string
                                                                                {
                                                                                  data :=
                                                                                    ((strOf
                                                                                            (List.take
                                                                                              (setB
                                                                                                  (labsAt
                                                                                                    (labC
                                                                                                      (mkR
                                                                                                        (keepO
                                                                                                          (elAt intV cl
                                                                                                            o len))))
                                                                                                    0
                                                                                                    (mkR
                                                                                                        (keepO
                                                                                                          (elAt intV cl
                                                                                                            o
                                                                                                            len))).length)).length
                                                                                              (List.drop 0
                                                                                                (List.map u8v
                                                                                                  (setB
                                                                                                    (labsAt
                                                                                                      (labC
                                                                                                        (mkR
                                                                                                          (keepO
                                                                                                            (elAt intV
                                                                                                              cl o
                                                                                                              len))))
                                                                                                      0
                                                                                                      (mkR
                                                                                                          (keepO
                                                                                                            (elAt intV
                                                                                                              cl o
                                                                                                              len))).length)))))).getD
                                                                                        []).toArray :
                                                                                  ByteArray }))
                                                                            (Need
                                                                              (beqV 64
                                                                                (Value.slice
                                                                                  (some
                                                                                    { block := 5, off := 0,
                                                                                      spot := some 1 : Addr })
                                                                                  (setB
                                                                                      (labsAt
                                                                                        (labC
                                                                                          (mkR
                                                                                            (keepO
                                                                                              (elAt intV cl o len))))
                                                                                        0
                                                                                        (mkR
                                                                                            (keepO
                                                                                              (elAt intV cl o
                                                                                                len))).length)).length
                                                                                  (setB
                                                                                      (labsAt
                                                                                        (labC
                                                                                          (mkR
                                                                                            (keepO
                                                                                              (elAt intV cl o len))))
                                                                                        0
                                                                                        (mkR
                                                                                            (keepO
                                                                                              (elAt intV cl o
                                                                                                len))).length)).length)
                                                                                (Value.slice
                                                                                  (some
                                                                                    { block := 5, off := 0,
                                                                                      spot := some 1 : Addr })
                                                                                  (setB
                                                                                      (labsAt
                                                                                        (labC
                                                                                          (mkR
                                                                                            (keepO
                                                                                              (elAt intV cl o len))))
                                                                                        0
                                                                                        (mkR
                                                                                            (keepO
                                                                                              (elAt intV cl o
                                                                                                len))).length)).length
                                                                                  (setB
                                                                                      (labsAt
                                                                                        (labC
                                                                                          (mkR
                                                                                            (keepO
                                                                                              (elAt intV cl o len))))
                                                                                        0
                                                                                        (mkR
                                                                                            (keepO
                                                                                              (elAt intV cl o
                                                                                                len))).length)).length))
                                                                              (Need
                                                                                (leN
                                                                                  (0 +
                                                                                    ((↑(setB
                                                                                                (labsAt
                                                                                                  (labC
                                                                                                    (mkR
                                                                                                      (keepO
                                                                                                        (elAt intV cl o
                                                                                                          len))))
                                                                                                  0
                                                                                                  (mkR
                                                                                                      (keepO
                                                                                                        (elAt intV cl o
                                                                                                          len))).length)).length :
                                                                                          Int).toNat -
                                                                                      0))
                                                                                  (List.map u8v
                                                                                      (setB
                                                                                        (labsAt
                                                                                          (labC
                                                                                            (mkR
                                                                                              (keepO
                                                                                                (elAt intV cr o2
                                                                                                  len2))))
                                                                                          0
                                                                                          (mkR
                                                                                              (keepO
                                                                                                (elAt intV cr o2
                                                                                                  len2))).length))).length)
                                                                                (Need
                                                                                  (strOf
                                                                                      (List.take
                                                                                        ((↑(setB
                                                                                                    (labsAt
                                                                                                      (labC
                                                                                                        (mkR
                                                                                                          (keepO
                                                                                                            (elAt intV
                                                                                                              cl o
                                                                                                              len))))
                                                                                                      0
                                                                                                      (mkR
                                                                                                          (keepO
                                                                                                            (elAt intV
                                                                                                              cl o
                                                                                                              len))).length)).length :
                                                                                              Int).toNat -
                                                                                          0)
                                                                                        (List.drop 0
                                                                                          (List.map u8v
                                                                                            (setB
                                                                                              (labsAt
                                                                                                (labC
                                                                                                  (mkR
                                                                                                    (keepO
                                                                                                      (elAt intV cr o2
                                                                                                        len2))))
                                                                                                0
                                                                                                (mkR
                                                                                                    (keepO
                                                                                                      (elAt intV cr o2
                                                                                                        len2))).length)))))).isSome
                                                                                  (Need
                                                                                    (beqV 64
                                                                                      (Value.string
                                                                                        {
                                                                                          data :=
                                                                                            ((strOf
                                                                                                    (List.take
                                                                                                      ((↑(setB
                                                                                                                  (labsAt
                                                                                                                    (labC
                                                                                                                      (mkR
                                                                                                                        (keepO
                                                                                                                          (elAt
                                                                                                                            intV
                                                                                                                            cl
                                                                                                                            o
                                                                                                                            len))))
                                                                                                                    0
                                                                                                                    (mkR
                                                                                                                        (keepO
                                                                                                                          (elAt
                                                                                                                            intV
                                                                                                                            cl
                                                                                                                            o
                                                                                                                            len))).length)).length :
                                                                                                            Int).toNat -
                                                                                                        0)
                                                                                                      (List.drop 0
                                                                                                        (List.map u8v
                                                                                                          (setB
                                                                                                            (labsAt
                                                                                                              (labC
                                                                                                                (mkR
                                                                                                                  (keepO
                                                                                                                    (elAt
                                                                                                                      intV
                                                                                                                      cr
                                                                                                                      o2
                                                                                                                      len2))))
                                                                                                              0
                                                                                                              (mkR
                                                                                                                  (keepO
                                                                                                                    (elAt
                                                                                                                      intV
                                                                                                                      cr
                                                                                                                      o2
                                                                                                                      len2))).length)))))).getD
                                                                                                []).toArray :
                                                                                          ByteArray })
                                                                                      (Value.string
                                                                                        {
                                                                                          data :=
                                                                                            ((strOf
                                                                                                    (List.take
                                                                                                      ((↑(setB
                                                                                                                  (labsAt
                                                                                                                    (labC
                                                                                                                      (mkR
                                                                                                                        (keepO
                                                                                                                          (elAt
                                                                                                                            intV
                                                                                                                            cl
                                                                                                                            o
                                                                                                                            len))))
                                                                                                                    0
                                                                                                                    (mkR
                                                                                                                        (keepO
                                                                                                                          (elAt
                                                                                                                            intV
                                                                                                                            cl
                                                                                                                            o
                                                                                                                            len))).length)).length :
                                                                                                            Int).toNat -
                                                                                                        0)
                                                                                                      (List.drop 0
                                                                                                        (List.map u8v
                                                                                                          (setB
                                                                                                            (labsAt
                                                                                                              (labC
                                                                                                                (mkR
                                                                                                                  (keepO
                                                                                                                    (elAt
                                                                                                                      intV
                                                                                                                      cr
                                                                                                                      o2
                                                                                                                      len2))))
                                                                                                              0
                                                                                                              (mkR
                                                                                                                  (keepO
                                                                                                                    (elAt
                                                                                                                      intV
                                                                                                                      cr
                                                                                                                      o2
                                                                                                                      len2))).length)))))).getD
                                                                                                []).toArray :
                                                                                          ByteArray }))
                                                                                    (Need
                                                                                      (leI
                                                                                        (↑(setB
                                                                                                (labsAt
                                                                                                  (labC
                                                                                                    (mkR
                                                                                                      (keepO
                                                                                                        (elAt intV cl o
                                                                                                          len))))
                                                                                                  0
                                                                                                  (mkR
                                                                                                      (keepO
                                                                                                        (elAt intV cl o
                                                                                                          len))).length)).length :
                                                                                          Int)
                                                                                        (↑(setB
                                                                                                (labsAt
                                                                                                  (labC
                                                                                                    (mkR
                                                                                                      (keepO
                                                                                                        (elAt intV cr o2
                                                                                                          len2))))
                                                                                                  0
                                                                                                  (mkR
                                                                                                      (keepO
                                                                                                        (elAt intV cr o2
                                                                                                          len2))).length)).length :
                                                                                          Int))
                                                                                      (Need
                                                                                        (beqV 64
                                                                                          (Value.slice
                                                                                            (some
                                                                                              { block := 6, off := 0,
                                                                                                spot := some 3 : Addr })
                                                                                            ((↑(setB
                                                                                                        (labsAt
                                                                                                          (labC
                                                                                                            (mkR
                                                                                                              (keepO
                                                                                                                (elAt
                                                                                                                  intV
                                                                                                                  cl o
                                                                                                                  len))))
                                                                                                          0
                                                                                                          (mkR
                                                                                                              (keepO
                                                                                                                (elAt
                                                                                                                  intV
                                                                                                                  cl o
                                                                                                                  len))).length)).length :
                                                                                                  Int).toNat -
                                                                                              0)
                                                                                            ((setB
                                                                                                  (labsAt
                                                                                                    (labC
                                                                                                      (mkR
                                                                                                        (keepO
                                                                                                          (elAt intV cr
                                                                                                            o2 len2))))
                                                                                                    0
                                                                                                    (mkR
                                                                                                        (keepO
                                                                                                          (elAt intV cr
                                                                                                            o2
                                                                                                            len2))).length)).length -
                                                                                              0))
                                                                                          (Value.slice
                                                                                            (some
                                                                                              { block := 6, off := 0,
                                                                                                spot := some 3 : Addr })
                                                                                            ((↑(setB
                                                                                                        (labsAt
                                                                                                          (labC
                                                                                                            (mkR
                                                                                                              (keepO
                                                                                                                (elAt
                                                                                                                  intV
                                                                                                                  cl o
                                                                                                                  len))))
                                                                                                          0
                                                                                                          (mkR
                                                                                                              (keepO
                                                                                                                (elAt
                                                                                                                  intV
                                                                                                                  cl o
                                                                                                                  len))).length)).length :
                                                                                                  Int).toNat -
                                                                                              0)
                                                                                            ((setB
                                                                                                  (labsAt
                                                                                                    (labC
                                                                                                      (mkR
                                                                                                        (keepO
                                                                                                          (elAt intV cr
                                                                                                            o2 len2))))
                                                                                                    0
                                                                                                    (mkR
                                                                                                        (keepO
                                                                                                          (elAt intV cr
                                                                                                            o2
                                                                                                            len2))).length)).length -
                                                                                              0)))
                                                                                        (Need
                                                                                          (beqV 64
                                                                                            (Value.int IntKind.i64
                                                                                              (↑(setB
                                                                                                      (labsAt
                                                                                                        (labC
                                                                                                          (mkR
                                                                                                            (keepO
                                                                                                              (elAt intV
                                                                                                                cl o
                                                                                                                len))))
                                                                                                        0
                                                                                                        (mkR
                                                                                                            (keepO
                                                                                                              (elAt intV
                                                                                                                cl o
                                                                                                                len))).length)).length :
                                                                                                Int))
                                                                                            (Value.int IntKind.i64
                                                                                              (↑(setB
                                                                                                      (labsAt
                                                                                                        (labC
                                                                                                          (mkR
                                                                                                            (keepO
                                                                                                              (elAt intV
                                                                                                                cl o
                                                                                                                len))))
                                                                                                        0
                                                                                                        (mkR
                                                                                                            (keepO
                                                                                                              (elAt intV
                                                                                                                cl o
                                                                                                                len))).length)).length :
                                                                                                Int)))
                                                                                          (Need
                                                                                            (beqV 64
                                                                                              (Value.slice
                                                                                                (some
                                                                                                  { block := 5,
                                                                                                    off := 0,
                                                                                                    spot := some 1 :
                                                                                                    Addr })
                                                                                                (setB
                                                                                                    (labsAt
                                                                                                      (labC
                                                                                                        (mkR
                                                                                                          (keepO
                                                                                                            (elAt intV
                                                                                                              cl o
                                                                                                              len))))
                                                                                                      0
                                                                                                      (mkR
                                                                                                          (keepO
                                                                                                            (elAt intV
                                                                                                              cl o
                                                                                                              len))).length)).length
                                                                                                (setB
                                                                                                    (labsAt
                                                                                                      (labC
                                                                                                        (mkR
                                                                                                          (keepO
                                                                                                            (elAt intV
                                                                                                              cl o
                                                                                                              len))))
                                                                                                      0
                                                                                                      (mkR
                                                                                                          (keepO
                                                                                                            (elAt intV
                                                                                                              cl o
                                                                                                              len))).length)).length)
                                                                                              (Value.slice
                                                                                                (some
                                                                                                  { block := 5,
                                                                                                    off := 0,
                                                                                                    spot := some 1 :
                                                                                                    Addr })
                                                                                                (setB
                                                                                                    (labsAt
                                                                                                      (labC
                                                                                                        (mkR
                                                                                                          (keepO
                                                                                                            (elAt intV
                                                                                                              cl o
                                                                                                              len))))
                                                                                                      0
                                                                                                      (mkR
                                                                                                          (keepO
                                                                                                            (elAt intV
                                                                                                              cl o
                                                                                                              len))).length)).length
                                                                                                (setB
                                                                                                    (labsAt
                                                                                                      (labC
                                                                                                        (mkR
                                                                                                          (keepO
                                                                                                            (elAt intV
                                                                                                              cl o
                                                                                                              len))))
                                                                                                      0
                                                                                                      (mkR
                                                                                                          (keepO
                                                                                                            (elAt intV
                                                                                                              cl o
                                                                                                              len))).length)).length))
                                                                                            (Need
                                                                                              (beqV 64
                                                                                                (Value.slice
                                                                                                  (some
                                                                                                    { block := 6,
                                                                                                      off := 0,
                                                                                                      spot := some 1 :
                                                                                                      Addr })
                                                                                                  (setB
                                                                                                      (labsAt
                                                                                                        (labC
                                                                                                          (mkR
                                                                                                            (keepO
                                                                                                              (elAt intV
                                                                                                                cr o2
                                                                                                                len2))))
                                                                                                        0
                                                                                                        (mkR
                                                                                                            (keepO
                                                                                                              (elAt intV
                                                                                                                cr o2
                                                                                                                len2))).length)).length
                                                                                                  (setB
                                                                                                      (labsAt
                                                                                                        (labC
                                                                                                          (mkR
                                                                                                            (keepO
                                                                                                              (elAt intV
                                                                                                                cr o2
                                                                                                                len2))))
                                                                                                        0
                                                                                                        (mkR
                                                                                                            (keepO
                                                                                                              (elAt intV
                                                                                                                cr o2
                                                                                                                len2))).length)).length)
                                                                                                (Value.slice
                                                                                                  (some
                                                                                                    { block := 6,
                                                                                                      off := 0,
                                                                                                      spot := some 1 :
                                                                                                      Addr })
                                                                                                  (setB
                                                                                                      (labsAt
                                                                                                        (labC
                                                                                                          (mkR
                                                                                                            (keepO
                                                                                                              (elAt intV
                                                                                                                cr o2
                                                                                                                len2))))
                                                                                                        0
                                                                                                        (mkR
                                                                                                            (keepO
                                                                                                              (elAt intV
                                                                                                                cr o2
                                                                                                                len2))).length)).length
                                                                                                  (setB
                                                                                                      (labsAt
                                                                                                        (labC
                                                                                                          (mkR
                                                                                                            (keepO
                                                                                                              (elAt intV
                                                                                                                cr o2
                                                                                                                len2))))
                                                                                                        0
                                                                                                        (mkR
                                                                                                            (keepO
                                                                                                              (elAt intV
                                                                                                                cr o2
                                                                                                                len2))).length)).length))
                                                                                              (Alt
                                                                                                (!eqS
                                                                                                      {
                                                                                                        data :=
                                                                                                          ((strOf
                                                                                                                  (List.take
                                                                                                                    ((↑(setB
                                                                                                                                (labsAt
                                                                                                                                  (labC
                                                                                                                                    (mkR
                                                                                                                                      (keepO
                                                                                                                                        (elAt
                                                                                                                                          intV
                                                                                                                                          cl
                                                                                                                                          o
                                                                                                                                          len))))
                                                                                                                                  0
                                                                                                                                  (mkR
                                                                                                                                      (keepO
                                                                                                                                        (elAt
                                                                                                                                          intV
                                                                                                                                          cl
                                                                                                                                          o
                                                                                                                                          len))).length)).length :
                                                                                                                          Int).toNat -
                                                                                                                      0)
                                                                                                                    (List.drop
                                                                                                                      0
                                                                                                                      (List.map
                                                                                                                        u8v
                                                                                                                        (setB
                                                                                                                          (labsAt
                                                                                                                            (labC
                                                                                                                              (mkR
                                                                                                                                (keepO
                                                                                                                                  (elAt
                                                                                                                                    intV
                                                                                                                                    cr
                                                                                                                                    o2
                                                                                                                                    len2))))
                                                                                                                            0
                                                                                                                            (mkR
                                                                                                                                (keepO
                                                                                                                                  (elAt
                                                                                                                                    intV
                                                                                                                                    cr
                                                                                                                                    o2
                                                                                                                                    len2))).length)))))).getD
                                                                                                              []).toArray :
                                                                                                        ByteArray }
                                                                                                      {
                                                                                                        data :=
                                                                                                          ((strOf
                                                                                                                  (List.take
                                                                                                                    (setB
                                                                                                                        (labsAt
                                                                                                                          (labC
                                                                                                                            (mkR
                                                                                                                              (keepO
                                                                                                                                (elAt
                                                                                                                                  intV
                                                                                                                                  cl
                                                                                                                                  o
                                                                                                                                  len))))
                                                                                                                          0
                                                                                                                          (mkR
                                                                                                                              (keepO
                                                                                                                                (elAt
                                                                                                                                  intV
                                                                                                                                  cl
                                                                                                                                  o
                                                                                                                                  len))).length)).length
                                                                                                                    (List.drop
                                                                                                                      0
                                                                                                                      (List.map
                                                                                                                        u8v
                                                                                                                        (setB
                                                                                                                          (labsAt
                                                                                                                            (labC
                                                                                                                              (mkR
                                                                                                                                (keepO
                                                                                                                                  (elAt
                                                                                                                                    intV
                                                                                                                                    cl
                                                                                                                                    o
                                                                                                                                    len))))
                                                                                                                            0
                                                                                                                            (mkR
                                                                                                                                (keepO
                                                                                                                                  (elAt
                                                                                                                                    intV
                                                                                                                                    cl
                                                                                                                                    o
                                                                                                                                    len))).length)))))).getD
                                                                                                              []).toArray :
                                                                                                        ByteArray } ==
                                                                                                    sameB
                                                                                                      (labsAt
                                                                                                        (labC
                                                                                                          (mkR
                                                                                                            (keepO
                                                                                                              (elAt intV
                                                                                                                cl o
                                                                                                                len))))
                                                                                                        0
                                                                                                        (mkR
                                                                                                            (keepO
                                                                                                              (elAt intV
                                                                                                                cl o
                                                                                                                len))).length)
                                                                                                      (labsAt
                                                                                                        (labC
                                                                                                          (mkR
                                                                                                            (keepO
                                                                                                              (elAt intV
                                                                                                                cr o2
                                                                                                                len2))))
                                                                                                        0
                                                                                                        (mkR
                                                                                                            (keepO
                                                                                                              (elAt intV
                                                                                                                cr o2
                                                                                                                len2))).length))
                                                                                                (K (Value.bool false)
                                                                                                  (hp
                                                                                                    [Blk.cells cl 1
                                                                                                        false,
                                                                                                      Blk.cells cr 1
                                                                                                        false,
                                                                                                      Blk.cells cb 1
                                                                                                        false]))
                                                                                                (True ∧
                                                                                                  True ∧
                                                                                                    K (Value.bool true)
                                                                                                      (hp
                                                                                                        [Blk.cells cl 1
                                                                                                            false,
                                                                                                          Blk.cells cr 1
                                                                                                            false,
                                                                                                          Blk.cells cb 1
                                                                                                            false])))))))))))))))))))))
                                                      (True ∧
                                                        True ∧
                                                          K (Value.bool true)
                                                            (hp
                                                              [Blk.cells cl 1 false, Blk.cells cr 1 false,
                                                                Blk.cells cb 1 false]))))))))))))))))) := by kernel_rfl

theorem getT_more (s : ByteArray) (t : List Int) (m : Int) (hs : s.size ≤ 1000) (hm : (s.size : Int) ≤ m) : getT (ptxt s ++ t) m = some (bytesS s, (ptxt s).length) := by
  unfold getT ptxt
  rw [List.append_assoc, dec_enc _ _ (by omega) (by omega)]
  simp only [List.length_append, bytesS_len]
  rw [if_neg (by push_cast; omega)]
  simp [bytesS_len]
theorem rsF_back : ∀ (B : List Lb) (pre t : List Int) (L : List Lb), Tiny B → rsF (pre ++ lB B ++ t) B.length pre.length L = some (L ++ B, (pre ++ lB B).length) := by
  intro B
  induction B with
  | nil => intro pre t L _; simp [rsF, lB]
  | cons x B ih =>
    intro pre t L h
    obtain ⟨h1, h2⟩ := h x List.mem_cons_self
    have e1 : (pre ++ lB (x :: B) ++ t).drop pre.length = ptxt x.1 ++ (ptxt x.2 ++ lB B ++ t) := by
      rw [lB_cons, List.append_assoc, List.drop_left]; simp only [List.append_assoc]
    have e2 : (pre ++ lB (x :: B) ++ t).drop (pre.length + (ptxt x.1).length) = ptxt x.2 ++ (lB B ++ t) := by
      have : pre ++ lB (x :: B) ++ t = (pre ++ ptxt x.1) ++ (ptxt x.2 ++ (lB B ++ t)) := by rw [lB_cons]; simp only [List.append_assoc]
      rw [this, ← List.length_append, List.drop_left]
    have e3 : pre ++ lB (x :: B) ++ t = (pre ++ ptxt x.1 ++ ptxt x.2) ++ lB B ++ t := by rw [lB_cons]; simp only [List.append_assoc]
    rw [List.length_cons, rsF, e1, getT_more x.1 _ 12 (by omega) (by omega)]
    simp only
    rw [e2, getT_more x.2 _ 24 (by omega) (by omega)]
    simp only [ofB_bytesS]
    have := ih (pre ++ ptxt x.1 ++ ptxt x.2) t (L ++ [(x.1, x.2)]) fun y hy => h y (List.mem_cons_of_mem _ hy)
    rw [← e3] at this
    simp only [List.length_append] at this
    rw [this]
    congr 1
    rw [lB_cons]
    simp [Nat.add_assoc]
theorem rsR_back {A : List Lb} (h : isSetB A = true) (t : List Int) : rsR (setB A ++ t) = some (A, (setB A).length) := by
  obtain ⟨h1, h2, h3⟩ := isSet_tiny h
  unfold setB
  rw [if_pos h]
  unfold rsR
  rw [List.append_assoc, dec_enc _ _ (by omega) (by omega)]
  simp only
  rw [if_pos (by omega), Int.toNat_natCast]
  have := rsF_back A (enc A.length) t [] h1
  rw [List.append_assoc] at this
  rw [this]
  simp only [List.nil_append]
  rw [if_pos h]
theorem lB_bytes : ∀ {l : List Lb}, Tiny l → Bytes (lB l) := by
  intro l
  induction l with
  | nil => intro _ x hx; simp [lB] at hx
  | cons x l ih =>
    intro h
    obtain ⟨h1, h2⟩ := h x List.mem_cons_self
    rw [lB_cons]
    exact Bytes.app (ptxt_bytes _ (by omega)) (Bytes.app (ptxt_bytes _ (by omega)) (ih fun y hy => h y (List.mem_cons_of_mem _ hy)))
theorem lB_len : ∀ {l : List Lb}, Tiny l → (lB l).length ≤ l.length * 60 := by
  intro l
  induction l with
  | nil => intro _; simp [lB]
  | cons x l ih =>
    intro h
    obtain ⟨h1, h2⟩ := h x List.mem_cons_self
    have := ih fun y hy => h y (List.mem_cons_of_mem _ hy)
    have := enc_len x.1.size
    have := enc_len x.2.size
    rw [lB_cons]
    simp only [List.length_append, ptxt_len, List.length_cons]
    omega
theorem setB_facts {l : List Lb} (h : isSetB l = true) : Bytes (setB l) ∧ (setB l).length ≤ 1000 := by
  obtain ⟨h1, h2, h3⟩ := isSet_tiny h
  have := enc_len l.length
  have := lB_len h1
  unfold setB
  rw [if_pos h]
  exact ⟨Bytes.app (enc_bytes _ (by omega) (by omega)) (lB_bytes h1), by rw [List.length_append]; omega⟩
theorem pre_same {A B : List Lb} (hA : isSetB A = true) (hB : isSetB B = true) (hl : (setB A).length ≤ (setB B).length) : eqS (ofB ((setB B).take (setB A).length)) (ofB (setB A)) = sameB A B := by
  obtain ⟨a1, a2⟩ := setB_facts hA
  obtain ⟨b1, b2⟩ := setB_facts hB
  rw [Bool.eq_iff_iff, eqS_iff, sameB_iff]
  constructor
  · intro h
    have e : (setB B).take (setB A).length = setB A := by
      rw [← bytesS_ofB (l := (setB B).take (setB A).length) (fun x hx => b1 x (List.mem_of_mem_take hx)), h, bytesS_ofB a1]
    have h1 := rsR_back hA ((setB B).drop (setB A).length)
    have h2 := rsR_back hB []
    rw [← e] at h1
    rw [List.append_nil] at h2
    rw [e] at h1
    have e3 : setB A ++ (setB B).drop (setB A).length = setB B := by
      conv => lhs; rw [← e]
      rw [e]
      exact (congrArg (· ++ _) e.symm).trans (List.take_append_drop _ _)
    rw [e3, h2] at h1
    injection h1 with h1
    injection h1 with h1 _
    exact h1.symm
  · intro h; subst h; rw [List.take_length]
theorem strOf_take2 (l : List Int) (n : Nat) : strOf (List.take n (List.map u8v l)) = some ((l.take n).map fun c => UInt8.ofNat c.toNat) := by
  rw [← List.map_take, strOf_u8]
theorem law107 (hmix : Try.prog.follows .mixedOrders = true) (cl cr cb : List Value) (sp s2 s3 : Option Nat) (cap cap2 cap3 : Nat) (l r b : List Int) (h0 : l.length ≤ cap) (h1 : r.length ≤ cap2) (h2 : b.length ≤ cap3) (hL : ESl (iE .i64) (ZP .i64) cl 0 l) (hR : ESl (iE .i64) (ZP .i64) cr 0 r) (fb : FlatL cb) (hB : b.length ≤ 300 → BSl cb 0 b) :
    FunSays Try.prog 7 [.slice (some ⟨0,0,sp⟩) l.length cap, .slice (some ⟨1,0,s2⟩) r.length cap2, .slice (some ⟨2,0,s3⟩) b.length cap3] (hp [.cells cl 1 false, .cells cr 1 false, .cells cb 1 false]) fun v _ => v = .bool true := by
  have hF : FlatD [] (hp [.cells cl 1 false, .cells cr 1 false, .cells cb 1 false]) := FlatD.hp ⟨hL.flat, hR.flat, fb, trivial⟩
  have iL : IsE (iE .i64) (ZP .i64) cl 0 l.length cap := ⟨l, rfl, h0, hL⟩
  have iR : IsE (iE .i64) (ZP .i64) cr 0 r.length cap2 := ⟨r, rfl, h1, hR⟩
  refine (sure49 hmix).funX F107 body107 [] [] Try.func7 rfl noLoops ?_
  rw [w107]
  by_cases hb : b.length ≤ 300
  · have hB := hB hb
    obtain ⟨a1, a2, a3⟩ := keep_facts l
    obtain ⟨b1, b2, b3⟩ := keep_facts r
    obtain ⟨sa, ea⟩ := keepO_set l
    obtain ⟨sb, eb⟩ := keepO_set r
    rw [← ea] at sa
    rw [← eb] at sb
    have e1 := hL.elAt (dec := intV) (fun _ => rfl)
    have e2 := hR.elAt (dec := intV) (fun _ => rfl)
    generalize hA : mkR (keepO l) = A at *
    generalize hBB : mkR (keepO r) = B at *
    obtain ⟨t1, t2⟩ := hB.take 0 b.length (by omega)
    obtain ⟨c1, c2⟩ := setB_facts sa
    obtain ⟨d1, d2⟩ := setB_facts sb
    have ia : IsLs (labC A) 0 A.length A.length := ⟨A, rfl, Nat.le_refl _, a1⟩
    have ib : IsLs (labC B) 0 B.length B.length := ⟨B, rfl, Nat.le_refl _, b1⟩
    have rb := rsR_back sa b
    have hby : Bytes (setB A ++ b) := Bytes.app c1 hB.ok
    have iX : IsBs ((setB A ++ b).map u8v) 0 ((setB A).length + b.length) ((setB A).length + b.length) := isBs_lit (by rw [List.length_append]) hby (Nat.le_refl _) (by omega)
    have bX : bytesAt ((setB A ++ b).map u8v) 0 ((setB A).length + b.length) = setB A ++ b := bytesAt_lit (by rw [List.length_append])
    have fX : FlatL ((setB A ++ b).map u8v) := flatL_u8 _
    rw [List.map_append] at iX bX fX
    have o1 : (b.map u8v).all oneV = true := oneV_u8s b
    have t3 : List.take b.length cb = b.map u8v := by
      rw [List.drop_zero (l := b), List.take_length] at t1
      simpa using t1
    have hcb : b.length ≤ cb.length := by
      have := congrArg List.length t3
      simp at this; omega
    have ps := pre_same sa sb
    unfold ofB at ps
    simp only [e1, e2, hA, hBB, iL, iR, hL.flat, hR.flat, fb, hF, ia, ib, a1.labsAt, b1.labsAt, labC_flat, List.length_map, tk_u, t3, o1, iX, bX, fX, rb, rsL, rsN, sameB_rfl, strOf_u8, strOf_take, strOf_take2, show ¬ (300 : Int) < (b.length : Int) by omega, Alt_iff, Need_iff, ltI_eq, leI_eq, eqI_eq, leN_eq, eqN_eq, decide_eq_true_eq, decide_eq_false_iff_not, decide_true, decide_false, true_and, and_true, Bool.true_eq_false, Bool.false_eq_true, false_implies, true_implies, implies_true, not_true_eq_false, not_false_eq_true, Bool.not_eq_true', Bool.not_eq_false', Nat.zero_add, Nat.add_zero, Nat.sub_zero, Nat.zero_mul, Nat.mul_one, Int.toNat_natCast, List.drop_zero, beqV_int, beqV_sl, beqV_str, beqV_bool, beqV_ptr, beqV_flt, beqV_agg, beqV_tuple, List.all_cons, List.all_nil, Bool.and_self, Bool.and_true, Bool.true_and, Nat.le_refl, Int.le_refl, Nat.zero_le, Option.getD_some, isStr, strV, isInt, intV, isBool, boolV, kindEq, at0, isJunk, Option.isSome_some, Option.isSome_none, if_true, if_false, Nat.add_sub_cancel_left, Nat.add_sub_cancel]
    refine fun _ _ => ⟨by omega, by omega, by omega, by omega, by omega, fun h => ?_⟩
    rw [ps (by omega), beq_self_eq_true]
    and_intros <;> first | omega | (intro hh; cases hh; done)
  · simp only [iL, iR, hL.flat, hR.flat, fb, hF, show (300 : Int) < (b.length : Int) by omega, Alt_iff, Need_iff, ltI_eq, leI_eq, eqI_eq, leN_eq, eqN_eq, decide_eq_true_eq, decide_eq_false_iff_not, decide_true, decide_false, true_and, and_true, Bool.true_eq_false, Bool.false_eq_true, false_implies, true_implies, implies_true, not_true_eq_false, not_false_eq_true, Bool.not_eq_true', Bool.not_eq_false', Nat.zero_add, Nat.add_zero, Nat.sub_zero, Nat.zero_mul, Nat.mul_one, Int.toNat_natCast, List.drop_zero, beqV_int, beqV_sl, beqV_str, beqV_bool, beqV_ptr, beqV_flt, beqV_agg, beqV_tuple, List.all_cons, List.all_nil, Bool.and_self, Bool.and_true, Bool.true_and, Nat.le_refl, Int.le_refl, Nat.zero_le, Option.getD_some, isStr, strV, isInt, intV, isBool, boolV, kindEq, at0, isJunk, Option.isSome_some, Option.isSome_none, if_true, if_false, Nat.add_sub_cancel_left, Nat.add_sub_cancel]
end Go.Proofs.Ytdpfmaimhimfcaa
