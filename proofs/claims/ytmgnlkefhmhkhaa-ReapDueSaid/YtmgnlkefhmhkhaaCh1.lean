/- Proved: what functions of the program come to, by their conditions over the abstract machine. Conditions: those that each theorem states. -/
import Derived.Test.YtmgnlkefhmhkhaaAm5
import Derived.Test.YtmgnlkefhmhkhaaProg
import Derived.WalkKit
import Derived.ProofKit
import Derived.Laws.BitsLemmas
import Derived.Deep.Strs
set_option linter.unusedVariables false
set_option linter.unusedSimpArgs false
namespace Go.Proofs.Ytmgnlkefhmhkhaa
open Go.RowKit Go.Proofs.Ytmgnlkefhmhkhaa.AM
set_option maxRecDepth 100000
set_option maxHeartbeats 4000000
noncomputable def S0 : Book := fun _ => none
theorem named : (Try.prog.funcs.toList.all fun fn => !(fn.name == "runtime.NumGoroutine")) = true := by decide +kernel
theorem plain : Plain Try.prog := fun f fn hf _ hn => by
  have h1 := List.all_eq_true.1 named fn (by simpa using Array.mem_of_getElem? hf)
  rw [hn] at h1
  exact absurd h1 (by decide)
theorem sums0 : SumsOk Try.prog S0.sums := fun f s hs => by cases hs
theorem sure0 (hmix : Try.prog.follows .mixedOrders = true) : Sure Try.prog S0 := ⟨hmix, plain, sums0⟩
noncomputable def body207 : Code := (Try.f11.body).getD .skip
def F207 : List Nat → Option (List Nat) := fun p => match p with
  | [1] => some [0, 1]
  | [1, 0, 1] => some [0, 1, 10]
  | [1, 0, 1, 0, 1] => some [4]
  | [1, 1] => some [0, 1]
  | [1, 0, 1, 1] => some [0, 1, 5]
  | [1, 0, 0, 0, 1, 0, 1, 1] => some [0, 1, 5, 14]
  | [1, 1, 0, 0, 0, 1, 0, 1, 1] => some []
  | [1, 0, 0, 1, 0, 1, 1] => some [0, 1, 5]
  | [1, 0, 0, 1, 0, 0, 1, 0, 1, 1] => some [0, 1, 5, 25]
  | [1, 0, 1, 0, 0, 1, 0, 0, 1, 0, 1, 1] => some [4]
  | [1, 1, 0, 0, 1, 0, 1, 1] => some [0, 1, 5]
  | [1, 1, 1] => some []
  | [1, 1, 1, 1] => some [4]
  | _ => none
noncomputable def body213 : Code := (Try.f16.body).getD .skip
def F213 : List Nat → Option (List Nat) := fun p => match p with
  | [1] => some [0, 1]
  | [1, 0, 1] => some [0, 1, 5]
  | [1, 0, 0, 0, 1, 0, 1] => some [0, 1, 5, 9]
  | [1, 1, 0, 0, 0, 1, 0, 1] => some []
  | [1, 0, 0, 1, 0, 1] => some [0, 1, 5]
  | [1, 0, 0, 1, 0, 0, 1, 0, 1] => some [0, 1, 5, 17]
  | [1, 0, 1, 0, 0, 1, 0, 0, 1, 0, 1] => some [4]
  | [1, 1, 0, 0, 1, 0, 1] => some [0, 1, 5]
  | [1, 1] => some []
  | [1, 1, 1] => some [4]
  | _ => none
noncomputable def trueC : Ctr where
  pre := fun args blks => match args, blks with
    | [], [] => True
    | _, _ => False
  val := fun _ _ => .bool true
  new := fun _ _ => []
theorem trueC_of {f : FuncId} (hs : FunSays Try.prog f [] (hp []) fun v h' => v = .bool true ∧ h' = hp []) : trueC.Holds Try.prog f := by
  intro args blks hf hp
  refine ⟨trivial, ?_⟩
  simp only [trueC] at hp ⊢
  split at hp
  · exact hs
  · exact hp.elim
/-! ### rows of numbers -/
abbrev ISl (cs : List Value) (o : Nat) (l : List Int) : Prop := ESl (iE .i64) (ZP .i64) cs o l
abbrev IsI (cs : List Value) (o len cap : Nat) : Prop := IsE (iE .i64) (ZP .i64) cs o len cap
noncomputable def intsAt (cs : List Value) (o len : Nat) : List Int := elAt intV cs o len
theorem intsAt_eq {cs : List Value} {o : Nat} {l : List Int} (h : ISl cs o l) : intsAt cs o l.length = l := ESl.elAt h fun _ => rfl
def hasL (n : Int) : List Int → Bool
  | [] => false
  | x :: t => if eqI x n then true else hasL n t
theorem hasL_iff {n : Int} : ∀ {l : List Int}, hasL n l = true ↔ n ∈ l := by
  intro l
  induction l with
  | nil => simp [hasL]
  | cons x t ih =>
    unfold hasL
    by_cases h : eqI x n = true
    · rw [if_pos h]; simp [eqI_iff.1 h]
    · rw [if_neg h, ih]
      have : ¬ n = x := fun hh => h (eqI_iff.2 hh.symm)
      simp [this]
def idxL (n : Int) : Nat → List Int → Int
  | _, [] => -1
  | i, x :: t => if eqI x n then (i : Int) else idxL n (i + 1) t
theorem idxL_has (n : Int) : ∀ (l : List Int) (i : Nat), (idxL n i l = -1 ∧ hasL n l = false) ∨ (0 ≤ idxL n i l ∧ hasL n l = true) := by
  intro l
  induction l with
  | nil => intro i; exact .inl ⟨rfl, rfl⟩
  | cons x t ih =>
    intro i
    unfold idxL hasL
    by_cases h : eqI x n = true
    · rw [if_pos h, if_pos h]; exact .inr ⟨by omega, rfl⟩
    · rw [if_neg h, if_neg h]; exact ih (i + 1)
def allI : List Int → List Int → Bool
  | [], _ => true
  | x :: a, y :: b => eqI x y && allI a b
  | _, [] => false
def sameI (a b : List Int) : Bool := decide (a.length = b.length) && allI a b
theorem allI_iff : ∀ {a b : List Int}, a.length = b.length → (allI a b = true ↔ a = b) := by
  intro a
  induction a with
  | nil => intro b h; cases b with
    | nil => simp [allI]
    | cons => simp at h
  | cons x a ih =>
    intro b h
    cases b with
    | nil => simp at h
    | cons y b => simp only [allI, Bool.and_eq_true, ih (by simpa using h), eqI_iff, List.cons.injEq]
theorem sameI_iff {a b : List Int} : sameI a b = true ↔ a = b := by
  unfold sameI
  rw [Bool.and_eq_true, decide_eq_true_iff]
  exact ⟨fun ⟨h1, h2⟩ => (allI_iff h1).1 h2, fun h => by subst h; exact ⟨rfl, (allI_iff rfl).2 rfl⟩⟩
/-- rising behind what stands ahead -/
def upF : Option Int → List Int → Bool
  | _, [] => true
  | none, x :: t => upF (some x) t
  | some p, x :: t => if leI x p then false else upF (some x) t
def upI (l : List Int) : Bool := upF none l
def prevI (l : List Int) (i : Nat) : Option Int := if i = 0 then none else l[i - 1]?
theorem upF_iff : ∀ (l : List Int) (p : Option Int), upF p l = true ↔ l.Pairwise (fun x y => x < y) ∧ ∀ q, p = some q → ∀ x ∈ l, q < x := by
  intro l
  induction l with
  | nil => intro p; cases p <;> simp [upF]
  | cons x t ih =>
    intro p
    cases p with
    | none =>
      rw [upF, ih, List.pairwise_cons]
      exact ⟨fun ⟨h1, h2⟩ => ⟨⟨h2 x rfl, h1⟩, fun q hq => by cases hq⟩, fun ⟨⟨h1, h2⟩, _⟩ => ⟨h2, fun q hq => by injection hq with hq; subst hq; exact h1⟩⟩
    | some p =>
      rw [upF]
      by_cases h : leI x p = true
      · rw [if_pos h]
        have h := leI_iff.1 h
        refine ⟨fun hh => (by cases hh), fun ⟨_, h2⟩ => ?_⟩
        have := h2 p rfl x List.mem_cons_self
        omega
      · rw [if_neg h, ih, List.pairwise_cons]
        have h : p < x := by
          by_cases q : x ≤ p
          · exact absurd (leI_iff.2 q) h
          · omega
        refine ⟨fun ⟨h1, h2⟩ => ⟨⟨h2 x rfl, h1⟩, fun q hq y hy => ?_⟩, fun ⟨⟨h1, h2⟩, _⟩ => ⟨h2, fun q hq => by injection hq with hq; subst hq; exact h1⟩⟩
        injection hq with hq; subst hq
        rcases List.mem_cons.1 hy with rfl | hy
        · exact h
        · have := h2 x rfl y hy; omega
theorem upI_iff {l : List Int} : upI l = true ↔ l.Pairwise (fun x y => x < y) := by
  unfold upI; rw [upF_iff]; exact ⟨fun h => h.1, fun h => ⟨h, fun q hq => by cases hq⟩⟩
/-! ### contracts: of one row, of two -/
noncomputable def rowQ (ok : List Value → Prop) (g : List Int → List Value → Value) : Ctr where
  pre := fun args blks => match args, blks with
    | .slice (some ⟨0, o, _⟩) len cap :: xs, [.cells cs 1 _] => IsI cs o len cap ∧ ok xs
    | _, _ => False
  val := fun args blks => match args, blks with
    | .slice (some ⟨0, o, _⟩) len _ :: xs, [.cells cs 1 _] => g (intsAt cs o len) xs
    | _, _ => undef
  new := fun _ _ => []
theorem rowQ_of {ok : List Value → Prop} {g : List Int → List Value → Value} {f : FuncId}
    (h : ∀ (l : List Int) (cs : List Value) (own : Bool) (o : Nat) (sp : Option Nat) (cap : Nat) (xs : List Value), l.length ≤ cap → ISl cs o l → ok xs →
      FunSays Try.prog f (.slice (some ⟨0,o,sp⟩) l.length cap :: xs) (hp [.cells cs 1 own]) fun v h' => v = g l xs ∧ h' = hp [.cells cs 1 own]) : (rowQ ok g).Holds Try.prog f := by
  intro args blks hf hp
  refine ⟨trivial, ?_⟩
  simp only [rowQ] at hp ⊢
  split at hp
  · rename_i o sp len cap xs cs own
    obtain ⟨⟨l, rfl, hc, hB⟩, hk⟩ := hp
    simp only [intsAt_eq hB]
    exact h l cs own o sp cap xs hc hB hk
  · exact hp.elim
inductive IsN : List Value → Prop
  | mk (n : Int) (h : ZP .i64 n) : IsN [.int .i64 n]
inductive IsO : List Value → Prop
  | mk : IsO []
noncomputable def hasG (l : List Int) (xs : List Value) : Value := match xs with
  | [.int .i64 n] => .bool (hasL n l)
  | _ => undef
noncomputable def hasC : Ctr := rowQ IsN hasG
noncomputable def idxG (l : List Int) (xs : List Value) : Value := match xs with
  | [.int .i64 n] => .int .i64 (idxL n 0 l)
  | _ => undef
noncomputable def idxC : Ctr := rowQ IsN idxG
noncomputable def isC : Ctr := rowQ IsO fun l _ => .bool (upI l)
noncomputable def T213 (o : Nat) (sp : Option Nat) (len cap i : Nat) (n : Int) : List Value := tmps 18 [(0, .slice (some ⟨0,o,sp⟩) len cap), (1, .int .i64 n), (5, .int .i64 i)]
noncomputable def T209 (o : Nat) (sp : Option Nat) (len cap i : Nat) : List Value := tmps 20 [(0, .slice (some ⟨0,o,sp⟩) len cap), (3, .int .i64 i)]
noncomputable def T229 (o : Nat) (sp : Option Nat) (len cap i : Nat) (n : Int) : List Value := tmps 19 [(0, .slice (some ⟨0,o,sp⟩) len cap), (1, .int .i64 n), (7, .int .i64 len), (8, .int .i64 i)]
noncomputable def T207 (a b : Value) (i : Nat) : List Value := tmps 26 [(0, a), (1, b), (5, .int .i64 i)]

theorem r213 (cs : List Value) (own : Bool) (o : Nat) (sp : Option Nat) (len cap i : Nat) (n : Int) (K : Post) :
  roundX Try.prog S0 noLoop F213 body213 1 [] [] [] [] [0,1,5] [0,0,1,0,1] (T213 o sp len cap i n) (hp [.cells cs 1 own]) K = (
Alt (ltI (↑i : Int) (↑len : Int))
  (Need (ltI (↑i : Int) (↑len : Int))
    (Need (isInt IntKind.i64 ((getO cs (o + (↑i : Int).toNat * 1)).getD undef))
      (Alt (eqI (intV ((getO cs (o + (↑i : Int).toNat * 1)).getD undef)) n)
        (K AE.ret (tmps 18 [(4, Value.bool true)]) (hp [Blk.cells cs 1 own]))
        (K AE.normal
          (tmps 18
            [(0, Value.slice (some { block := 0, off := o, spot := sp : Addr }) len cap), (1, Value.int IntKind.i64 n),
              (5, Value.int IntKind.i64 (wr IntKind.i64 ((↑i : Int) + 1)))])
          (hp [Blk.cells cs 1 own])))))
  (K (AE.exit 0) (tmps 18 []) (hp [Blk.cells cs 1 own]))) := by kernel_rfl




theorem r207 (ca cb : List Value) (own own2 : Bool) (o o2 : Nat) (sp s2 : Option Nat) (len cap len2 cap2 i : Nat) (K : Post) :
  roundX Try.prog S0 noLoop F207 body207 2 [] [] [] [] [0,1,5] [0,0,1,0,1,1] (T207 (.slice (some ⟨0,o,sp⟩) len cap) (.slice (some ⟨1,o2,s2⟩) len2 cap2) i) (hp [.cells ca 1 own, .cells cb 1 own2]) K = (
Alt (ltI (↑i : Int) (↑len : Int))
  (Need (ltI (↑i : Int) (↑len : Int))
    (Need (isInt IntKind.i64 ((getO ca (o + (↑i : Int).toNat * 1)).getD undef))
      (Need (ltI (↑i : Int) (↑len2 : Int))
        (Need (isInt IntKind.i64 ((getO cb (o2 + (↑i : Int).toNat * 1)).getD undef))
          (Alt
            (!eqI (intV ((getO ca (o + (↑i : Int).toNat * 1)).getD undef))
                (intV ((getO cb (o2 + (↑i : Int).toNat * 1)).getD undef)))
            (K AE.ret (tmps 26 [(4, Value.bool false)]) (hp [Blk.cells ca 1 own, Blk.cells cb 1 own2]))
            (K AE.normal
              (tmps 26
                [(0, Value.slice (some { block := 0, off := o, spot := sp : Addr }) len cap),
                  (1, Value.slice (some { block := 1, off := o2, spot := s2 : Addr }) len2 cap2),
                  (5, Value.int IntKind.i64 (wr IntKind.i64 ((↑i : Int) + 1)))])
              (hp [Blk.cells ca 1 own, Blk.cells cb 1 own2])))))))
  (K (AE.exit 0) (tmps 26 []) (hp [Blk.cells ca 1 own, Blk.cells cb 1 own2]))) := by kernel_rfl

end Go.Proofs.Ytmgnlkefhmhkhaa

namespace Go.Proofs.Ytmgnlkefhmhkhaa
open Go.RowKit Go.Proofs.Ytmgnlkefhmhkhaa.AM
set_option maxRecDepth 100000
set_option maxHeartbeats 4000000

theorem w213 (cs : List Value) (own : Bool) (o : Nat) (sp : Option Nat) (len cap : Nat) (n : Int) (ok : Bool) (K : Value → Heap → Prop) :
  funX Try.prog S0 (gcLKX (at0 []) (at0 []) 1 (cutLK [⟨[0,1,0,1], T213 o sp len cap 0 n, hp [.cells cs 1 own], fun K => Alt ok (K .ret (tmps 18 [(4, .bool true)]) (hp [.cells cs 1 own])) (K (.exit 0) (tmps 18 []) (hp [.cells cs 1 own]))⟩])) F213 body213 Try.f16 [] [] [.slice (some ⟨0,o,sp⟩) len cap, .int .i64 n] (hp [.cells cs 1 own]) K = (
FlatD [] (hp [Blk.cells cs 1 own]) ∧
  tmps 18
        [(0, Value.slice (some { block := 0, off := o, spot := sp : Addr }) len cap), (1, Value.int IntKind.i64 n),
          (5, Value.int IntKind.i64 0)] =
      tmps 18
        [(0, Value.slice (some { block := 0, off := o, spot := sp : Addr }) len cap), (1, Value.int IntKind.i64 n),
          (5, Value.int IntKind.i64 0)] ∧
    hp [Blk.cells cs 1 own] = hp [Blk.cells cs 1 own] ∧
      Alt ok (K (Value.bool true) (hp [Blk.cells cs 1 own])) (K (Value.bool false) (hp [Blk.cells cs 1 own]))) := by kernel_rfl




theorem w207 (ca cb : List Value) (own own2 : Bool) (o o2 : Nat) (sp s2 : Option Nat) (len cap len2 cap2 : Nat) (ok : Bool) (K : Value → Heap → Prop) :
  funX Try.prog S0 (gcLKX (at0 []) (at0 []) 2 (cutLK [⟨[0,1,0,1,1], T207 (.slice (some ⟨0,o,sp⟩) len cap) (.slice (some ⟨1,o2,s2⟩) len2 cap2) 0, hp [.cells ca 1 own, .cells cb 1 own2], fun K => Alt ok (K (.exit 0) (tmps 26 []) (hp [.cells ca 1 own, .cells cb 1 own2])) (K .ret (tmps 26 [(4, .bool false)]) (hp [.cells ca 1 own, .cells cb 1 own2]))⟩])) F207 body207 Try.f11 [] [] [.slice (some ⟨0,o,sp⟩) len cap, .slice (some ⟨1,o2,s2⟩) len2 cap2] (hp [.cells ca 1 own, .cells cb 1 own2]) K = (
Alt (!eqI (↑len : Int) (↑len2 : Int)) (K (Value.bool false) (hp [Blk.cells ca 1 own, Blk.cells cb 1 own2]))
  (FlatD [] (hp [Blk.cells ca 1 own, Blk.cells cb 1 own2]) ∧
    tmps 26
          [(0, Value.slice (some { block := 0, off := o, spot := sp : Addr }) len cap),
            (1, Value.slice (some { block := 1, off := o2, spot := s2 : Addr }) len2 cap2),
            (5, Value.int IntKind.i64 0)] =
        tmps 26
          [(0, Value.slice (some { block := 0, off := o, spot := sp : Addr }) len cap),
            (1, Value.slice (some { block := 1, off := o2, spot := s2 : Addr }) len2 cap2),
            (5, Value.int IntKind.i64 0)] ∧
      hp [Blk.cells ca 1 own, Blk.cells cb 1 own2] = hp [Blk.cells ca 1 own, Blk.cells cb 1 own2] ∧
        Alt ok (K (Value.bool true) (hp [Blk.cells ca 1 own, Blk.cells cb 1 own2]))
          (K (Value.bool false) (hp [Blk.cells ca 1 own, Blk.cells cb 1 own2])))) := by kernel_rfl

theorem w207e (ca cb : List Value) (own own2 : Bool) (o o2 : Nat) (sp s2 : Option Nat) (len cap len2 cap2 : Nat) (K : Value → Heap → Prop) :
  funX Try.prog S0 noLoop F207 body207 Try.f11 [] [] [.slice (some ⟨0,o,sp⟩) len cap, .slice (some ⟨1,o2,s2⟩) len2 cap2] (hp [.cells ca 1 own, .cells cb 1 own2]) K = (
Need (!eqI (↑len : Int) (↑len2 : Int)) (K (Value.bool false) (hp [Blk.cells ca 1 own, Blk.cells cb 1 own2]))) := by kernel_rfl

theorem hf1 {cs : List Value} {own : Bool} (h : FlatL cs) : FlatD [] (hp [.cells cs 1 own]) := FlatD.hp ⟨h, trivial⟩
theorem has_loop (hmix : Try.prog.follows .mixedOrders = true) (l : List Int) (cs : List Value) (own : Bool) (o : Nat) (sp : Option Nat) (cap : Nat) (n : Int) (hB : ISl cs o l) (K : Post) : ∀ (t : List Int) (i : Nat), l.drop i = t → i ≤ l.length →
    Alt (hasL n t) (K .ret (tmps 18 [(4, .bool true)]) (hp [.cells cs 1 own])) (K (.exit 0) (tmps 18 []) (hp [.cells cs 1 own])) →
    LSays Try.prog 1 (sub body213 [0,0,1,0,1]) (T213 o sp l.length cap i n) (hp [.cells cs 1 own]) K := by
  have hsh := hB.short
  intro t
  induction t with
  | nil =>
    intro i ht hi hK
    have hge : ¬ ((i : Int) < (l.length : Int)) := by have := List.drop_eq_nil_iff.1 ht; omega
    refine (sure0 hmix).roundX F213 noLoops [] [] [] [] [0,1,5] ?_
    rw [r213]
    simp only [hge, hf1 hB.flat, Alt_iff, Need_iff, ltI_eq, leI_eq, eqI_eq, leN_eq, eqN_eq, decide_eq_true_eq, decide_eq_false_iff_not, decide_true, decide_false, true_and, and_true, Bool.true_eq_false, Bool.false_eq_true, false_implies, true_implies, implies_true, not_true_eq_false, not_false_eq_true, Bool.not_eq_true', Bool.not_eq_false', Nat.zero_add, Nat.add_zero, Nat.sub_zero, Nat.zero_mul, Nat.mul_one, Int.toNat_natCast, List.drop_zero, beqV_int, beqV_sl, beqV_str, beqV_bool, beqV_ptr, beqV_flt, beqV_agg, beqV_tuple, List.all_cons, List.all_nil, Bool.and_self, Bool.and_true, Bool.true_and, Nat.le_refl, Int.le_refl, Nat.zero_le, Option.getD_some, isStr, strV, isInt, intV, isBool, boolV, kindEq, at0, isJunk, Option.isSome_some, Option.isSome_none, if_true, if_false, Nat.add_sub_cancel_left, Nat.add_sub_cancel]; exact hK
  | cons x t ih =>
    intro i ht hi hK
    obtain ⟨hlt, hx, hd⟩ := cons_of_drop ht
    refine (sure0 hmix).roundX F213 noLoops [] [] [] [] [0,1,5] ?_
    rw [r213]
    simp only [show (i : Int) < (l.length : Int) by omega, hB.cell i x hx, hf1 hB.flat, nx i (by omega), Alt_iff, Need_iff, ltI_eq, leI_eq, eqI_eq, leN_eq, eqN_eq, decide_eq_true_eq, decide_eq_false_iff_not, decide_true, decide_false, true_and, and_true, Bool.true_eq_false, Bool.false_eq_true, false_implies, true_implies, implies_true, not_true_eq_false, not_false_eq_true, Bool.not_eq_true', Bool.not_eq_false', Nat.zero_add, Nat.add_zero, Nat.sub_zero, Nat.zero_mul, Nat.mul_one, Int.toNat_natCast, List.drop_zero, beqV_int, beqV_sl, beqV_str, beqV_bool, beqV_ptr, beqV_flt, beqV_agg, beqV_tuple, List.all_cons, List.all_nil, Bool.and_self, Bool.and_true, Bool.true_and, Nat.le_refl, Int.le_refl, Nat.zero_le, Option.getD_some, isStr, strV, isInt, intV, isBool, boolV, kindEq, at0, isJunk, Option.isSome_some, Option.isSome_none, if_true, if_false, Nat.add_sub_cancel_left, Nat.add_sub_cancel]
    rw [hasL] at hK
    refine ⟨fun h => ?_, fun h => ?_⟩
    · rw [if_pos (eqI_iff.2 h)] at hK; exact hK
    · rw [if_neg (fun hh => h (eqI_iff.1 hh))] at hK; exact ih (i + 1) hd (by omega) hK
theorem has_says (hmix : Try.prog.follows .mixedOrders = true) : hasC.Holds Try.prog 16 := by
  refine rowQ_of fun l cs own o sp cap xs hc hB hk => ?_
  obtain ⟨n, hn⟩ := hk
  have hL : Loops Try.prog body213 1 (cutLK [⟨[0,1,0,1], T213 o sp l.length cap 0 n, AM.hp [.cells cs 1 own], fun K => Alt (hasL n l) (K .ret (tmps 18 [(4, .bool true)]) (AM.hp [.cells cs 1 own])) (K (.exit 0) (tmps 18 []) (AM.hp [.cells cs 1 own]))⟩]) := Loops.none.more _ fun K hK => by
    show LSays Try.prog _ (sub body213 [0,0,1,0,1]) _ _ _
    exact has_loop hmix l cs own o sp cap n hB K l 0 rfl (by omega) hK
  refine (sure0 hmix).funX F213 body213 [] [] Try.func16 rfl (hL.gcX (at0 []) (at0 [])) ?_
  rw [w213]
  unfold hasG
  cases hq : hasL n l with
  | true => simp only [hq, hf1 hB.flat, Alt_iff, Need_iff, ltI_eq, leI_eq, eqI_eq, leN_eq, eqN_eq, decide_eq_true_eq, decide_eq_false_iff_not, decide_true, decide_false, true_and, and_true, Bool.true_eq_false, Bool.false_eq_true, false_implies, true_implies, implies_true, not_true_eq_false, not_false_eq_true, Bool.not_eq_true', Bool.not_eq_false', Nat.zero_add, Nat.add_zero, Nat.sub_zero, Nat.zero_mul, Nat.mul_one, Int.toNat_natCast, List.drop_zero, beqV_int, beqV_sl, beqV_str, beqV_bool, beqV_ptr, beqV_flt, beqV_agg, beqV_tuple, List.all_cons, List.all_nil, Bool.and_self, Bool.and_true, Bool.true_and, Nat.le_refl, Int.le_refl, Nat.zero_le, Option.getD_some, isStr, strV, isInt, intV, isBool, boolV, kindEq, at0, isJunk, Option.isSome_some, Option.isSome_none, if_true, if_false, Nat.add_sub_cancel_left, Nat.add_sub_cancel]
  | false => simp only [hq, hf1 hB.flat, Alt_iff, Need_iff, ltI_eq, leI_eq, eqI_eq, leN_eq, eqN_eq, decide_eq_true_eq, decide_eq_false_iff_not, decide_true, decide_false, true_and, and_true, Bool.true_eq_false, Bool.false_eq_true, false_implies, true_implies, implies_true, not_true_eq_false, not_false_eq_true, Bool.not_eq_true', Bool.not_eq_false', Nat.zero_add, Nat.add_zero, Nat.sub_zero, Nat.zero_mul, Nat.mul_one, Int.toNat_natCast, List.drop_zero, beqV_int, beqV_sl, beqV_str, beqV_bool, beqV_ptr, beqV_flt, beqV_agg, beqV_tuple, List.all_cons, List.all_nil, Bool.and_self, Bool.and_true, Bool.true_and, Nat.le_refl, Int.le_refl, Nat.zero_le, Option.getD_some, isStr, strV, isInt, intV, isBool, boolV, kindEq, at0, isJunk, Option.isSome_some, Option.isSome_none, if_true, if_false, Nat.add_sub_cancel_left, Nat.add_sub_cancel]
theorem same_loop (hmix : Try.prog.follows .mixedOrders = true) (a b : List Int) (ca cb : List Value) (own own2 : Bool) (o o2 : Nat) (sp s2 : Option Nat) (cap cap2 : Nat) (hA : ISl ca o a) (hB : ISl cb o2 b) (hlen : a.length = b.length) (K : Post) : ∀ (t u : List Int) (i : Nat), a.drop i = t → b.drop i = u → i ≤ a.length →
    Alt (allI t u) (K (.exit 0) (tmps 26 []) (hp [.cells ca 1 own, .cells cb 1 own2])) (K .ret (tmps 26 [(4, .bool false)]) (hp [.cells ca 1 own, .cells cb 1 own2])) →
    LSays Try.prog 2 (sub body207 [0,0,1,0,1,1]) (T207 (.slice (some ⟨0,o,sp⟩) a.length cap) (.slice (some ⟨1,o2,s2⟩) b.length cap2) i) (hp [.cells ca 1 own, .cells cb 1 own2]) K := by
  have hF : FlatD [] (hp [.cells ca 1 own, .cells cb 1 own2]) := FlatD.hp ⟨hA.flat, hB.flat, trivial⟩
  have hsh := hA.short
  intro t
  induction t with
  | nil =>
    intro u i ht hu hi hK
    have hge : ¬ ((i : Int) < (a.length : Int)) := by have := List.drop_eq_nil_iff.1 ht; omega
    refine (sure0 hmix).roundX F207 noLoops [] [] [] [] [0,1,5] ?_
    rw [r207]
    simp only [hge, hF, Alt_iff, Need_iff, ltI_eq, leI_eq, eqI_eq, leN_eq, eqN_eq, decide_eq_true_eq, decide_eq_false_iff_not, decide_true, decide_false, true_and, and_true, Bool.true_eq_false, Bool.false_eq_true, false_implies, true_implies, implies_true, not_true_eq_false, not_false_eq_true, Bool.not_eq_true', Bool.not_eq_false', Nat.zero_add, Nat.add_zero, Nat.sub_zero, Nat.zero_mul, Nat.mul_one, Int.toNat_natCast, List.drop_zero, beqV_int, beqV_sl, beqV_str, beqV_bool, beqV_ptr, beqV_flt, beqV_agg, beqV_tuple, List.all_cons, List.all_nil, Bool.and_self, Bool.and_true, Bool.true_and, Nat.le_refl, Int.le_refl, Nat.zero_le, Option.getD_some, isStr, strV, isInt, intV, isBool, boolV, kindEq, at0, isJunk, Option.isSome_some, Option.isSome_none, if_true, if_false, Nat.add_sub_cancel_left, Nat.add_sub_cancel]; exact hK
  | cons x t ih =>
    intro u i ht hu hi hK
    obtain ⟨hlt, hx, hd⟩ := cons_of_drop ht
    cases u with
    | nil => have := List.drop_eq_nil_iff.1 hu; omega
    | cons y u =>
      obtain ⟨hlt2, hy, hd2⟩ := cons_of_drop hu
      refine (sure0 hmix).roundX F207 noLoops [] [] [] [] [0,1,5] ?_
      rw [r207]
      simp only [show (i : Int) < (a.length : Int) by omega, show (i : Int) < (b.length : Int) by omega, hA.cell i x hx, hB.cell i y hy, hF, nx i (by omega), Alt_iff, Need_iff, ltI_eq, leI_eq, eqI_eq, leN_eq, eqN_eq, decide_eq_true_eq, decide_eq_false_iff_not, decide_true, decide_false, true_and, and_true, Bool.true_eq_false, Bool.false_eq_true, false_implies, true_implies, implies_true, not_true_eq_false, not_false_eq_true, Bool.not_eq_true', Bool.not_eq_false', Nat.zero_add, Nat.add_zero, Nat.sub_zero, Nat.zero_mul, Nat.mul_one, Int.toNat_natCast, List.drop_zero, beqV_int, beqV_sl, beqV_str, beqV_bool, beqV_ptr, beqV_flt, beqV_agg, beqV_tuple, List.all_cons, List.all_nil, Bool.and_self, Bool.and_true, Bool.true_and, Nat.le_refl, Int.le_refl, Nat.zero_le, Option.getD_some, isStr, strV, isInt, intV, isBool, boolV, kindEq, at0, isJunk, Option.isSome_some, Option.isSome_none, if_true, if_false, Nat.add_sub_cancel_left, Nat.add_sub_cancel]
      rw [allI] at hK
      refine ⟨fun h => ?_, fun h => ?_⟩
      · rw [show eqI x y = false from Bool.eq_false_iff.2 (fun hh => h (eqI_iff.1 hh))] at hK; exact hK
      · rw [show eqI x y = true from eqI_iff.2 h] at hK
        exact ih u (i + 1) hd hd2 (by omega) hK
noncomputable def sameC : Ctr where
  pre := fun args blks => match args, blks with
    | [.slice (some ⟨0, o, _⟩) len cap, .slice (some ⟨1, o2, _⟩) len2 cap2], [.cells ca 1 _, .cells cb 1 _] => IsI ca o len cap ∧ IsI cb o2 len2 cap2
    | _, _ => False
  val := fun args blks => match args, blks with
    | [.slice (some ⟨0, o, _⟩) len _, .slice (some ⟨1, o2, _⟩) len2 _], [.cells ca 1 _, .cells cb 1 _] => .bool (sameI (intsAt ca o len) (intsAt cb o2 len2))
    | _, _ => undef
  new := fun _ _ => []
theorem same_says (hmix : Try.prog.follows .mixedOrders = true) : sameC.Holds Try.prog 11 := by
  intro args blks hf hp
  refine ⟨trivial, ?_⟩
  simp only [sameC] at hp ⊢
  split at hp
  · rename_i o sp len cap o2 s2 len2 cap2 ca own cb own2
    obtain ⟨⟨a, rfl, hc, hA⟩, ⟨b, rfl, hc2, hB⟩⟩ := hp
    simp only [intsAt_eq hA, intsAt_eq hB, List.append_nil]
    have hF : FlatD [] (AM.hp [.cells ca 1 own, .cells cb 1 own2]) := FlatD.hp ⟨hA.flat, hB.flat, trivial⟩
    unfold sameI
    by_cases hlen : a.length = b.length
    · have hL : Loops Try.prog body207 2 (cutLK [⟨[0,1,0,1,1], T207 (.slice (some ⟨0,o,sp⟩) a.length cap) (.slice (some ⟨1,o2,s2⟩) b.length cap2) 0, AM.hp [.cells ca 1 own, .cells cb 1 own2], fun K => Alt (allI a b) (K (.exit 0) (tmps 26 []) (AM.hp [.cells ca 1 own, .cells cb 1 own2])) (K .ret (tmps 26 [(4, .bool false)]) (AM.hp [.cells ca 1 own, .cells cb 1 own2]))⟩]) := Loops.none.more _ fun K hK => by
        show LSays Try.prog _ (sub body207 [0,0,1,0,1,1]) _ _ _
        exact same_loop hmix a b ca cb own own2 o o2 sp s2 cap cap2 hA hB hlen K a b 0 rfl rfl (by omega) hK
      refine (sure0 hmix).funX F207 body207 [] [] Try.func11 rfl (hL.gcX (at0 []) (at0 [])) ?_
      rw [w207]
      have he : ((a.length : Nat) : Int) = (b.length : Int) := by rw [hlen]
      cases hq : allI a b with
      | true => simp only [he, hF, hlen, Bool.not_true, Alt_iff, Need_iff, ltI_eq, leI_eq, eqI_eq, leN_eq, eqN_eq, decide_eq_true_eq, decide_eq_false_iff_not, decide_true, decide_false, true_and, and_true, Bool.true_eq_false, Bool.false_eq_true, false_implies, true_implies, implies_true, not_true_eq_false, not_false_eq_true, Bool.not_eq_true', Bool.not_eq_false', Nat.zero_add, Nat.add_zero, Nat.sub_zero, Nat.zero_mul, Nat.mul_one, Int.toNat_natCast, List.drop_zero, beqV_int, beqV_sl, beqV_str, beqV_bool, beqV_ptr, beqV_flt, beqV_agg, beqV_tuple, List.all_cons, List.all_nil, Bool.and_self, Bool.and_true, Bool.true_and, Nat.le_refl, Int.le_refl, Nat.zero_le, Option.getD_some, isStr, strV, isInt, intV, isBool, boolV, kindEq, at0, isJunk, Option.isSome_some, Option.isSome_none, if_true, if_false, Nat.add_sub_cancel_left, Nat.add_sub_cancel]
      | false => simp only [he, hF, hlen, Bool.not_true, Bool.and_false, Alt_iff, Need_iff, ltI_eq, leI_eq, eqI_eq, leN_eq, eqN_eq, decide_eq_true_eq, decide_eq_false_iff_not, decide_true, decide_false, true_and, and_true, Bool.true_eq_false, Bool.false_eq_true, false_implies, true_implies, implies_true, not_true_eq_false, not_false_eq_true, Bool.not_eq_true', Bool.not_eq_false', Nat.zero_add, Nat.add_zero, Nat.sub_zero, Nat.zero_mul, Nat.mul_one, Int.toNat_natCast, List.drop_zero, beqV_int, beqV_sl, beqV_str, beqV_bool, beqV_ptr, beqV_flt, beqV_agg, beqV_tuple, List.all_cons, List.all_nil, Bool.and_self, Bool.and_true, Bool.true_and, Nat.le_refl, Int.le_refl, Nat.zero_le, Option.getD_some, isStr, strV, isInt, intV, isBool, boolV, kindEq, at0, isJunk, Option.isSome_some, Option.isSome_none, if_true, if_false, Nat.add_sub_cancel_left, Nat.add_sub_cancel]
    · refine (sure0 hmix).funX F207 body207 [] [] Try.func11 rfl noLoops ?_
      rw [w207e]
      have he : ¬ ((a.length : Nat) : Int) = (b.length : Int) := by omega
      simp only [he, hF, hlen, Bool.not_false, Bool.false_and, Alt_iff, Need_iff, ltI_eq, leI_eq, eqI_eq, leN_eq, eqN_eq, decide_eq_true_eq, decide_eq_false_iff_not, decide_true, decide_false, true_and, and_true, Bool.true_eq_false, Bool.false_eq_true, false_implies, true_implies, implies_true, not_true_eq_false, not_false_eq_true, Bool.not_eq_true', Bool.not_eq_false', Nat.zero_add, Nat.add_zero, Nat.sub_zero, Nat.zero_mul, Nat.mul_one, Int.toNat_natCast, List.drop_zero, beqV_int, beqV_sl, beqV_str, beqV_bool, beqV_ptr, beqV_flt, beqV_agg, beqV_tuple, List.all_cons, List.all_nil, Bool.and_self, Bool.and_true, Bool.true_and, Nat.le_refl, Int.le_refl, Nat.zero_le, Option.getD_some, isStr, strV, isInt, intV, isBool, boolV, kindEq, at0, isJunk, Option.isSome_some, Option.isSome_none, if_true, if_false, Nat.add_sub_cancel_left, Nat.add_sub_cancel]
  · exact hp.elim
end Go.Proofs.Ytmgnlkefhmhkhaa

namespace Go.Proofs.Ytmgnlkefhmhkhaa
open Go.RowKit Go.Proofs.Ytmgnlkefhmhkhaa.AM
set_option maxRecDepth 100000
set_option maxHeartbeats 4000000
noncomputable def body1325 : Code := (Try.f33.body).getD .skip
def F1325 : List Nat → Option (List Nat) := fun p => match p with
  | [1] => some [1, 2]
  | [1, 1] => some [3]
  | _ => none
noncomputable def body1324 : Code := (Try.f32.body).getD .skip
def F1324 : List Nat → Option (List Nat) := fun p => match p with
  | [1] => some [0, 1]
  | [1, 0, 1] => some [0, 1, 7, 8]
  | [1, 0, 0, 1, 0, 1] => some [0, 1, 7, 8, 9]
  | [1, 0, 1, 0, 0, 1, 0, 1] => some []
  | [1, 1, 0, 0, 1, 0, 1] => some [0, 1, 7, 8]
  | [1, 0, 0, 1, 1, 0, 0, 1, 0, 1] => some [0, 1, 5, 7, 8]
  | [1, 1, 0, 0, 1, 1, 0, 0, 1, 0, 1] => some [0, 1, 5, 7, 8, 16]
  | [1, 0, 1, 1, 0, 0, 1, 1, 0, 0, 1, 0, 1] => some [4]
  | [1, 1, 1, 0, 0, 1, 0, 1] => some [0, 1, 7, 8]
  | [1, 1] => some []
  | [1, 1, 1] => some [4]
  | _ => none
noncomputable def body1319 : Code := (Try.f26.body).getD .skip
def F1319 : List Nat → Option (List Nat) := fun p => match p with
  | [1] => some [0, 3]
  | [1, 1] => some [4]
  | _ => none
noncomputable def body1315 : Code := (Try.f22.body).getD .skip
def F1315 : List Nat → Option (List Nat) := fun p => match p with
  | [1] => some [0, 1, 2]
  | [1, 1] => some [0, 1, 2]
  | [1, 0, 1, 1] => some [0, 1, 2, 16]
  | [1, 0, 1, 0, 1, 1] => some [6]
  | [1, 1, 1] => some [0, 1, 2]
  | [1, 1, 1, 1] => some [0, 1, 2, 7]
  | [1, 1, 1, 1, 1] => some [0, 7]
  | [1, 1, 1, 1, 1, 1] => some [0]
  | [1, 1, 1, 1, 1, 1, 1] => some [6]
  | _ => none
/-! ### rows of what is due, and when -/
abbrev Re := Int × Int
def reF (x : Re) : Value := .int .u64 x.1
def reG (x : Re) : Value := .int .i64 x.2
def reD (a b : Value) : Re := (intV a, intV b)
structure ReOk (x : Re) : Prop where
  d : ZP .u64 x.1
  n : ZP .i64 x.2
abbrev RSl (cs : List Value) (l : List Re) : Prop := PSl reF reG ReOk cs l
abbrev IsR (cs : List Value) (len cap : Nat) : Prop := IsP reF reG ReOk cs len cap
structure IsRL (F : List Re) (cs : List Value) (m k : Nat) : Prop where
  row : RSl cs F
  len : m = F.length
  le : m ≤ k
noncomputable def resAt (cs : List Value) (n : Nat) : List Re := pairAt reD cs n
theorem resAt_eq {cs : List Value} {l : List Re} (h : RSl cs l) : resAt cs l.length = l := h.at fun _ => rfl
theorem re_flat (a : Re) : flat (reF a) = true := rfl
theorem re_flatG (a : Re) : flat (reG a) = true := rfl
theorem re_one (a : Re) : oneV (reF a) = true := rfl
theorem re_oneG (a : Re) : oneV (reG a) = true := rfl
def isG (g : Nat) (fn : Fn) (f c : Array Value) (b : Nat) : Prop := match fn, f.toList, c.toList with
  | .func g', [], [.pointer (some ⟨b', 0, none⟩)] => Need (eqN g' g) (Need (eqN b' b) True)
  | _, _, _ => False
theorem isG_eq {g : Nat} {fn : Fn} {f c : Array Value} {b : Nat} (h : isG g fn f c b) : fn = .func g ∧ f = #[] ∧ c = #[.pointer (some ⟨b, 0, none⟩)] := by
  unfold isG at h
  split at h
  · rename_i g' b' h1 h2
    simp only [Alt_iff, Need_iff, ltI_eq, leI_eq, eqI_eq, leN_eq, eqN_eq, decide_eq_true_eq, decide_eq_false_iff_not, decide_true, decide_false, true_and, and_true, Bool.true_eq_false, Bool.false_eq_true, false_implies, true_implies, implies_true, not_true_eq_false, not_false_eq_true, Bool.not_eq_true', Bool.not_eq_false'] at h
    obtain ⟨rfl, rfl⟩ := h
    exact ⟨rfl, by cases f; simp_all, by cases c; simp_all⟩
  · exact h.elim
/-- where a number stands -/
def idxE (o : Int) : Nat → List Re → Int
  | _, [] => -1
  | i, x :: t => if eqI x.2 o then (i : Int) else idxE o (i + 1) t
noncomputable def S1325 : Book := addI Try.prog [(33, Try.f33, body1325)] S0
theorem sure1325 (hm : Try.prog.follows .mixedOrders = true) : Sure Try.prog S1325 := Sure.addI (sure0 hm) (l := [(33, Try.f33, body1325)]) ⟨⟨Try.func33, rfl⟩, trivial⟩
noncomputable def hO (cs : List Value) (o : Int) : List Blk := [.cells cs 2 true, .cells [.int .i64 o] 1 true]
noncomputable def T1324 (m k i : Nat) : List Value := tmps 19 [(0, .slice (some ⟨0,0,some 1⟩) m k), (1, .func (.func 33) #[] #[.pointer (some ⟨1,0,none⟩)]), (7, .int .i64 m), (8, .int .i64 i)]
noncomputable def fO : Value := .func (.func 33) #[] #[.pointer (some ⟨1,0,none⟩)]

theorem r1324 (cs : List Value) (o : Int) (m k i : Nat) (K : Post) :
  roundX Try.prog S1325 noLoop F1324 body1324 2 [] [] [] [] [0,1,7,8] [0,0,1,0,1] (T1324 m k i) (hp (hO cs o)) K = (
Alt (ltI (↑i : Int) (↑m : Int))
  (Need (ltI (↑i : Int) (↑m : Int))
    (Need (isInt IntKind.u64 ((getO cs (0 + (↑i : Int).toNat * 2)).getD undef))
      (Need (isInt IntKind.i64 ((getO cs (0 + (↑i : Int).toNat * 2 + 1)).getD undef))
        (Alt
          (eqI (intV (Value.int IntKind.i64 (intV ((getO cs (0 + (↑i : Int).toNat * 2 + 1)).getD undef))))
            (intV (Value.int IntKind.i64 o)))
          (K AE.ret (tmps 19 [(4, Value.int IntKind.i64 (↑i : Int))])
            (hp [Blk.cells cs 2 true, Blk.cells [Value.int IntKind.i64 o] 1 true]))
          (K AE.normal
            (tmps 19
              [(0, Value.slice (some { block := 0, off := 0, spot := some 1 : Addr }) m k),
                (1, Value.func (Fn.func 33) #[] #[Value.pointer (some { block := 1, off := 0 : Addr })]),
                (7, Value.int IntKind.i64 (↑m : Int)), (8, Value.int IntKind.i64 (wr IntKind.i64 ((↑i : Int) + 1)))])
            (hp [Blk.cells cs 2 true, Blk.cells [Value.int IntKind.i64 o] 1 true]))))))
  (K (AE.exit 0) (tmps 19 []) (hp [Blk.cells cs 2 true, Blk.cells [Value.int IntKind.i64 o] 1 true]))) := by kernel_rfl

noncomputable def cut1324 (o : Int) (k : Nat) (cs : List Value) (L : List Re) : CutE where
  β := Nat
  p := [0,1,0,1]
  t := fun x => T1324 L.length k x
  h := fun x => hp (hO cs o)
  Q := fun x K => (idxE o x (L.drop x) = idxE o 0 L) ∧ Alt (eqI (idxE o 0 L) (-1)) (K (.exit 0) (tmps 19 []) (hp (hO cs o))) (K .ret (tmps 19 [(4, .int .i64 (idxE o 0 L))]) (hp (hO cs o)))

theorem w1324 (o : Int) (k : Nat) (cs : List Value) (L : List Re) (K : Value → Heap → Prop) :
  funX Try.prog S1325 (gcLKX (at0 []) (at0 []) 2 (cutE [cut1324 o k cs L])) F1324 body1324 Try.f32 [] [] [.slice (some ⟨0,0,some 1⟩) L.length k, fO] (hp (hO cs o)) K = (
FlatD [] (hp [Blk.cells cs 2 true, Blk.cells [Value.int IntKind.i64 o] 1 true]) ∧
  ∃ (b : Nat),
    tmps 19
          [(0, Value.slice (some { block := 0, off := 0, spot := some 1 : Addr }) L.length k),
            (1, Value.func (Fn.func 33) #[] #[Value.pointer (some { block := 1, off := 0 : Addr })]),
            (7, Value.int IntKind.i64 (↑L.length : Int)), (8, Value.int IntKind.i64 0)] =
        tmps 19
          [(0, Value.slice (some { block := 0, off := 0, spot := some 1 : Addr }) L.length k),
            (1, Value.func (Fn.func 33) #[] #[Value.pointer (some { block := 1, off := 0 : Addr })]),
            (7, Value.int IntKind.i64 (↑L.length : Int)), (8, Value.int IntKind.i64 (↑b : Int))] ∧
      hp [Blk.cells cs 2 true, Blk.cells [Value.int IntKind.i64 o] 1 true] =
          hp [Blk.cells cs 2 true, Blk.cells [Value.int IntKind.i64 o] 1 true] ∧
        idxE o b (List.drop b L) = idxE o 0 L ∧
          Alt (eqI (idxE o 0 L) (-1))
            (K (Value.int IntKind.i64 (-1)) (hp [Blk.cells cs 2 true, Blk.cells [Value.int IntKind.i64 o] 1 true]))
            (K (Value.int IntKind.i64 (idxE o 0 L))
              (hp [Blk.cells cs 2 true, Blk.cells [Value.int IntKind.i64 o] 1 true]))) := by kernel_rfl

noncomputable def idxEC : CtrW where
  D := []
  W := []
  E := []
  pre := fun args blks => match args, blks with
    | [.slice (some ⟨0,0,some 1⟩) m k, .func fn f c], [.cells cs 2 true, .cells [.int .i64 _] 1 true] => isG 33 fn f c 1 ∧ IsR cs m k ∧ Need (leN m 1000000) True
    | _, _ => False
  val := fun args blks => match args, blks with
    | [.slice (some ⟨0,0,some 1⟩) m k, .func fn f c], [.cells cs 2 true, .cells [.int .i64 o] 1 true] => .int .i64 (idxE o 0 (resAt cs m))
    | _, _ => undef
  out := fun _ blks => blks

theorem w1315 (m k i j : Nat) (sp : Option Nat) (cs : List Value) (K : Value → Heap → Prop) :
  funX Try.prog S0 noLoop F1315 body1315 Try.f22 [] [.tmp 0 2] [.slice (some ⟨0,0,some 1⟩) m k, .int .i64 i, .int .i64 j] (hp [.cells cs 2 true]) K = (
Need (leI (↑m : Int) (↑k : Int))
  (Need (leI (↑j : Int) (↑(↑m : Int).toNat : Int))
    (Need (leI (↑i : Int) (↑(↑j : Int).toNat : Int))
      (Alt (eqI (↑i : Int) (↑j : Int))
        (K (Value.slice (some { block := 0, off := 0, spot := some 1 : Addr }) m k) (hp [Blk.cells cs 2 true]))
        (Need (leI (↑i : Int) (↑k : Int))
          (Need (leI (↑j : Int) (↑m : Int))
            (Need (leN (0 + (↑j : Int).toNat * 2 + (m - (↑j : Int).toNat) * 2) cs.length)
              (Need (leN (0 + ((↑i : Int).toNat - 0) * 2) cs.length)
                (Alt (leN ((↑i : Int).toNat - 0 + (m - (↑j : Int).toNat)) (k - 0))
                  (Alt (eqN (m - (↑j : Int).toNat) 0)
                    (Need (leI (↑m : Int) (↑(k - 0) : Int))
                      (Need (leI (↑((↑i : Int).toNat - 0) : Int) (↑(↑m : Int).toNat : Int))
                        (Alt (eqN ((↑m : Int).toNat - (↑((↑i : Int).toNat - 0) : Int).toNat) 0)
                          (K
                            (Value.slice (some { block := 0, off := 0, spot := some 1 : Addr }) ((↑i : Int).toNat - 0)
                              (k - 0))
                            (hp [Blk.cells cs 2 true]))
                          (Need
                            (leN
                              (0 + (↑((↑i : Int).toNat - 0) : Int).toNat * 2 +
                                (repl ((↑m : Int).toNat - (↑((↑i : Int).toNat - 0) : Int).toNat)
                                    [Value.int IntKind.u64 0, Value.int IntKind.i64 0]).length)
                              cs.length)
                            (Need
                              ((repl ((↑m : Int).toNat - (↑((↑i : Int).toNat - 0) : Int).toNat)
                                    [Value.int IntKind.u64 0, Value.int IntKind.i64 0]).all
                                oneV)
                              (K
                                (Value.slice (some { block := 0, off := 0, spot := some 1 : Addr })
                                  ((↑i : Int).toNat - 0) (k - 0))
                                (hp
                                  [Blk.cells
                                      (setAll cs (0 + (↑((↑i : Int).toNat - 0) : Int).toNat * 2)
                                        (repl ((↑m : Int).toNat - (↑((↑i : Int).toNat - 0) : Int).toNat)
                                          [Value.int IntKind.u64 0, Value.int IntKind.i64 0]))
                                      2 true])))))))
                    (Need
                      (leN
                        (0 + ((↑i : Int).toNat - 0) * 2 +
                          (List.take ((m - (↑j : Int).toNat) * 2) (List.drop (0 + (↑j : Int).toNat * 2) cs)).length)
                        cs.length)
                      (Need
                        ((List.take ((m - (↑j : Int).toNat) * 2) (List.drop (0 + (↑j : Int).toNat * 2) cs)).all oneV)
                        (Need (leI (↑m : Int) (↑(k - 0) : Int))
                          (Need (leI (↑((↑i : Int).toNat - 0 + (m - (↑j : Int).toNat)) : Int) (↑(↑m : Int).toNat : Int))
                            (Alt
                              (eqN ((↑m : Int).toNat - (↑((↑i : Int).toNat - 0 + (m - (↑j : Int).toNat)) : Int).toNat)
                                0)
                              (K
                                (Value.slice (some { block := 0, off := 0, spot := some 1 : Addr })
                                  ((↑i : Int).toNat - 0 + (m - (↑j : Int).toNat)) (k - 0))
                                (hp
                                  [Blk.cells
                                      (setAll cs (0 + ((↑i : Int).toNat - 0) * 2)
                                        (List.take ((m - (↑j : Int).toNat) * 2)
                                          (List.drop (0 + (↑j : Int).toNat * 2) cs)))
                                      2 true]))
                              (Need
                                (leN
                                  (0 + (↑((↑i : Int).toNat - 0 + (m - (↑j : Int).toNat)) : Int).toNat * 2 +
                                    (repl
                                        ((↑m : Int).toNat -
                                          (↑((↑i : Int).toNat - 0 + (m - (↑j : Int).toNat)) : Int).toNat)
                                        [Value.int IntKind.u64 0, Value.int IntKind.i64 0]).length)
                                  (setAll cs (0 + ((↑i : Int).toNat - 0) * 2)
                                      (List.take ((m - (↑j : Int).toNat) * 2)
                                        (List.drop (0 + (↑j : Int).toNat * 2) cs))).length)
                                (Need
                                  ((repl
                                        ((↑m : Int).toNat -
                                          (↑((↑i : Int).toNat - 0 + (m - (↑j : Int).toNat)) : Int).toNat)
                                        [Value.int IntKind.u64 0, Value.int IntKind.i64 0]).all
                                    oneV)
                                  (K
                                    (Value.slice (some { block := 0, off := 0, spot := some 1 : Addr })
                                      ((↑i : Int).toNat - 0 + (m - (↑j : Int).toNat)) (k - 0))
                                    (hp
                                      [Blk.cells
                                          (setAll
                                            (setAll cs (0 + ((↑i : Int).toNat - 0) * 2)
                                              (List.take ((m - (↑j : Int).toNat) * 2)
                                                (List.drop (0 + (↑j : Int).toNat * 2) cs)))
                                            (0 + (↑((↑i : Int).toNat - 0 + (m - (↑j : Int).toNat)) : Int).toNat * 2)
                                            (repl
                                              ((↑m : Int).toNat -
                                                (↑((↑i : Int).toNat - 0 + (m - (↑j : Int).toNat)) : Int).toNat)
                                              [Value.int IntKind.u64 0, Value.int IntKind.i64 0]))
                                          2 true]))))))))))
                  (Need (leN (((↑i : Int).toNat - 0 + (m - (↑j : Int).toNat)) * 16) 1099511627776)
                    (Need (leN ((↑i : Int).toNat - 0 + (m - (↑j : Int).toNat)) 1099511627776)
                      (Need
                        ((List.take ((m - (↑j : Int).toNat) * 2) (List.drop (0 + (↑j : Int).toNat * 2) cs)).all oneV)
                        (Need (leI (↑m : Int) (↑((↑i : Int).toNat - 0 + (m - (↑j : Int).toNat)) : Int))
                          (Need (leI (↑((↑i : Int).toNat - 0 + (m - (↑j : Int).toNat)) : Int) (↑(↑m : Int).toNat : Int))
                            (Alt
                              (eqN ((↑m : Int).toNat - (↑((↑i : Int).toNat - 0 + (m - (↑j : Int).toNat)) : Int).toNat)
                                0)
                              (K
                                (Value.slice (some { block := 1, off := 0, spot := some 1 : Addr })
                                  ((↑i : Int).toNat - 0 + (m - (↑j : Int).toNat))
                                  ((↑i : Int).toNat - 0 + (m - (↑j : Int).toNat)))
                                (hp
                                  [Blk.dead,
                                    Blk.cells
                                      (List.take (((↑i : Int).toNat - 0) * 2) (List.drop 0 cs) ++
                                        List.take ((m - (↑j : Int).toNat) * 2)
                                          (List.drop (0 + (↑j : Int).toNat * 2) cs))
                                      2 true]))
                              (Need
                                (leN
                                  (0 + (↑((↑i : Int).toNat - 0 + (m - (↑j : Int).toNat)) : Int).toNat * 2 +
                                    (repl
                                        ((↑m : Int).toNat -
                                          (↑((↑i : Int).toNat - 0 + (m - (↑j : Int).toNat)) : Int).toNat)
                                        [Value.int IntKind.u64 0, Value.int IntKind.i64 0]).length)
                                  (List.take (((↑i : Int).toNat - 0) * 2) (List.drop 0 cs) ++
                                      List.take ((m - (↑j : Int).toNat) * 2)
                                        (List.drop (0 + (↑j : Int).toNat * 2) cs)).length)
                                (Need
                                  ((repl
                                        ((↑m : Int).toNat -
                                          (↑((↑i : Int).toNat - 0 + (m - (↑j : Int).toNat)) : Int).toNat)
                                        [Value.int IntKind.u64 0, Value.int IntKind.i64 0]).all
                                    oneV)
                                  (K
                                    (Value.slice (some { block := 1, off := 0, spot := some 1 : Addr })
                                      ((↑i : Int).toNat - 0 + (m - (↑j : Int).toNat))
                                      ((↑i : Int).toNat - 0 + (m - (↑j : Int).toNat)))
                                    (hp
                                      [Blk.dead,
                                        Blk.cells
                                          (setAll
                                            (List.take (((↑i : Int).toNat - 0) * 2) (List.drop 0 cs) ++
                                              List.take ((m - (↑j : Int).toNat) * 2)
                                                (List.drop (0 + (↑j : Int).toNat * 2) cs))
                                            (0 + (↑((↑i : Int).toNat - 0 + (m - (↑j : Int).toNat)) : Int).toNat * 2)
                                            (repl
                                              ((↑m : Int).toNat -
                                                (↑((↑i : Int).toNat - 0 + (m - (↑j : Int).toNat)) : Int).toNat)
                                              [Value.int IntKind.u64 0, Value.int IntKind.i64 0]))
                                          2 true]))))))))))))))))))) := by kernel_rfl

theorem hO_flat {cs : List Value} {o : Int} (h : FlatL cs) : FlatD [] (hp [.cells cs 2 true, .cells [.int .i64 o] 1 true]) := FlatD.hp ⟨h, ⟨fun x hx => by simp at hx; rw [hx]; rfl⟩, trivial⟩
theorem int_flat (o : Int) : FlatL [Value.int .i64 o] := ⟨fun x hx => by simp at hx; rw [hx]; rfl⟩
theorem idx_loopE (hmix : Try.prog.follows .mixedOrders = true) (o : Int) (k : Nat) (cs : List Value) (L : List Re) (hB : RSl cs L) (hl : L.length ≤ 1000000) (K : Post)
    (hK : Alt (eqI (idxE o 0 L) (-1)) (K (.exit 0) (tmps 19 []) (hp (hO cs o))) (K .ret (tmps 19 [(4, .int .i64 (idxE o 0 L))]) (hp (hO cs o)))) : ∀ (t : List Re) (i : Nat), L.drop i = t → idxE o i t = idxE o 0 L →
    LSays Try.prog 2 (sub body1324 [0,0,1,0,1]) (T1324 L.length k i) (hp (hO cs o)) K := by
  have hF := hO_flat (o := o) hB.flat
  unfold hO at hK
  intro t
  induction t with
  | nil =>
    intro i ht ha
    have hge : ¬ ((i : Int) < (L.length : Int)) := by have := List.drop_eq_nil_iff.1 ht; omega
    refine (sure1325 hmix).roundX F1324 noLoops [] [] [] [] [0,1,7,8] ?_
    rw [r1324]
    simp only [hge, hF, Alt_iff, Need_iff, ltI_eq, leI_eq, eqI_eq, leN_eq, eqN_eq, decide_eq_true_eq, decide_eq_false_iff_not, decide_true, decide_false, true_and, and_true, Bool.true_eq_false, Bool.false_eq_true, false_implies, true_implies, implies_true, not_true_eq_false, not_false_eq_true, Bool.not_eq_true', Bool.not_eq_false', Nat.zero_add, Nat.add_zero, Nat.sub_zero, Nat.zero_mul, Nat.mul_one, Int.toNat_natCast, List.drop_zero, beqV_int, beqV_sl, beqV_str, beqV_bool, beqV_ptr, beqV_flt, beqV_agg, beqV_tuple, List.all_cons, List.all_nil, Bool.and_self, Bool.and_true, Bool.true_and, Nat.le_refl, Int.le_refl, Nat.zero_le, Option.getD_some, isStr, strV, isInt, intV, isBool, boolV, kindEq, at0, isJunk, Option.isSome_some, Option.isSome_none, if_true, if_false, Nat.add_sub_cancel_left, Nat.add_sub_cancel]
    rw [← ha] at hK
    exact (Alt_iff.1 hK).1 rfl
  | cons x t ih =>
    intro i ht ha
    obtain ⟨hlt, hx, hd⟩ := cons_of_drop ht
    refine (sure1325 hmix).roundX F1324 noLoops [] [] [] [] [0,1,7,8] ?_
    rw [r1324]
    simp only [show (i : Int) < (L.length : Int) by omega, hB.get0 hx, hB.get1 hx, reF, reG, nx i (by omega), hF, Alt_iff, Need_iff, ltI_eq, leI_eq, eqI_eq, leN_eq, eqN_eq, decide_eq_true_eq, decide_eq_false_iff_not, decide_true, decide_false, true_and, and_true, Bool.true_eq_false, Bool.false_eq_true, false_implies, true_implies, implies_true, not_true_eq_false, not_false_eq_true, Bool.not_eq_true', Bool.not_eq_false', Nat.zero_add, Nat.add_zero, Nat.sub_zero, Nat.zero_mul, Nat.mul_one, Int.toNat_natCast, List.drop_zero, beqV_int, beqV_sl, beqV_str, beqV_bool, beqV_ptr, beqV_flt, beqV_agg, beqV_tuple, List.all_cons, List.all_nil, Bool.and_self, Bool.and_true, Bool.true_and, Nat.le_refl, Int.le_refl, Nat.zero_le, Option.getD_some, isStr, strV, isInt, intV, isBool, boolV, kindEq, at0, isJunk, Option.isSome_some, Option.isSome_none, if_true, if_false, Nat.add_sub_cancel_left, Nat.add_sub_cancel]
    rw [idxE] at ha
    refine ⟨fun h => ?_, fun h => ?_⟩
    · rw [if_pos (eqI_iff.2 h)] at ha
      rw [← ha] at hK
      exact (Alt_iff.1 hK).2 (Bool.eq_false_iff.2 fun hh => by have := eqI_iff.1 hh; omega)
    · exact ih (i + 1) hd (by rw [if_neg (fun hh => h (eqI_iff.1 hh))] at ha; exact ha)
theorem idxE_says (hmix : Try.prog.follows .mixedOrders = true) : idxEC.Holds Try.prog 32 := by
  intro args blks hf hp
  simp only [idxEC] at hp ⊢
  split at hp
  · rename_i m k fn f c cs o
    obtain ⟨hG, ⟨L, rfl, hc, hB⟩, hl⟩ := hp
    obtain ⟨rfl, rfl, rfl⟩ := isG_eq hG
    simp only [Alt_iff, Need_iff, ltI_eq, leI_eq, eqI_eq, leN_eq, eqN_eq, decide_eq_true_eq, decide_eq_false_iff_not, decide_true, decide_false, true_and, and_true, Bool.true_eq_false, Bool.false_eq_true, false_implies, true_implies, implies_true, not_true_eq_false, not_false_eq_true, Bool.not_eq_true', Bool.not_eq_false'] at hl
    simp only [resAt_eq hB]
    refine ⟨⟨rfl, rfl, trivial⟩, trivial, ?_⟩
    have hL : Loops Try.prog body1324 2 (cutE [cut1324 o k cs L]) := Loops.noneE.moreE _ fun x K hQ => by
      obtain ⟨h1, h2⟩ := hQ
      exact idx_loopE hmix o k cs L hB hl K h2 _ x rfl h1
    have hF := hO_flat (o := o) hB.flat
    refine (sure1325 hmix).funX F1324 body1324 [] [] Try.func32 rfl (hL.gcX (at0 []) (at0 [])) ?_
    have hw := w1324 o k cs L
    unfold hO fO at hw
    rw [hw]
    refine ⟨hF, 0, rfl, rfl, rfl, ?_⟩
    rw [Alt_iff]
    exact ⟨fun h => ⟨hF, rfl, by rw [eqI_iff.1 h], rfl⟩, fun _ => ⟨hF, rfl, rfl, rfl⟩⟩
  · exact hp.elim
noncomputable def delEX : CtrX (List Value × Nat) where
  D := []
  W := [0]
  E := []
  pre := fun args blks => match args, blks with
    | [.slice (some ⟨0,0,some 1⟩) m k, .int .i64 i, .int .i64 j], [.cells cs 2 true] => IsR cs m k ∧ Need (leI 0 i) (Need (ltI i m) (Need (eqI j (i + 1)) (Need (leN m 1000000) True)))
    | _, _ => False
  rel := fun args blks x => match args, blks with
    | [.slice (some ⟨0,0,some 1⟩) m k, .int .i64 i, .int .i64 j], [.cells cs 2 true] => IsRL ((resAt cs m).eraseIdx i.toNat) x.1 (m - 1) x.2
    | _, _ => False
  val := fun args blks x => match args with
    | [.slice (some ⟨0,0,some 1⟩) m k, _, _] => .slice (some ⟨0,0,some 1⟩) (m - 1) x.2
    | _ => undef
  out := fun args blks x => [.cells x.1 2 true]
theorem delE_says (hmix : Try.prog.follows .mixedOrders = true) : delEX.Holds Try.prog 22 := by
  intro args blks hf hp
  simp only [delEX] at hp ⊢
  split at hp
  · rename_i m k i j cs
    obtain ⟨⟨L, rfl, hc, hB⟩, hl⟩ := hp
    simp only [Alt_iff, Need_iff, ltI_eq, leI_eq, eqI_eq, leN_eq, eqN_eq, decide_eq_true_eq, decide_eq_false_iff_not, decide_true, decide_false, true_and, and_true, Bool.true_eq_false, Bool.false_eq_true, false_implies, true_implies, implies_true, not_true_eq_false, not_false_eq_true, Bool.not_eq_true', Bool.not_eq_false'] at hl
    obtain ⟨h0, h1, rfl, h2⟩ := hl
    obtain ⟨i, rfl⟩ := Int.eq_ofNat_of_zero_le h0
    have h1 : i < L.length := by omega
    have hsz := hB.size
    have e1 := hB.dropN (i + 1) (by omega)
    have e2 := hB.takeN i (by omega)
    have hal : (pC reF reG (L.drop (i + 1))).all oneV = true := pC_one re_one re_oneG _
    have hcs : cs = pC reF reG (L.take i) ++ cs.drop (i * 2) := by rw [← e2, List.take_append_drop]
    have hli : (pC reF reG (L.take i)).length = i * 2 := by rw [pC_len, List.length_take]; omega
    have hld : (pC reF reG (L.drop (i + 1))).length = (L.length - (i + 1)) * 2 := by rw [pC_len, List.length_drop]
    have hee : L.eraseIdx i = L.take i ++ L.drop (i + 1) := List.eraseIdx_eq_take_drop_succ _ _
    have hlee : (L.eraseIdx i).length = L.length - 1 := by rw [List.length_eraseIdx]; simp [h1]
    have hok : ∀ x ∈ L.eraseIdx i, ReOk x := fun x hx => hB.ok x (List.mem_of_mem_eraseIdx hx)
    obtain ⟨R, hR⟩ : ∃ R, R = ((cs.drop (i * 2)).drop ((L.length - (i + 1)) * 2)).drop 2 := ⟨_, rfl⟩
    have hX : RSl (pC reF reG (L.eraseIdx i) ++ ([Value.int .u64 0, Value.int .i64 0] ++ R)) (L.eraseIdx i) := PSl.own re_flat re_flatG hok _ ⟨fun x hx => by
      rcases List.mem_append.1 hx with hx | hx
      · simp at hx; rcases hx with rfl | rfl <;> rfl
      · rw [hR] at hx; exact hB.flat.1 x (List.mem_of_mem_drop (List.mem_of_mem_drop (List.mem_of_mem_drop hx)))⟩
    have hdl : (cs.drop (i * 2)).length = cs.length - i * 2 := List.length_drop
    simp only [resAt_eq hB, Int.toNat_natCast]
    refine ⟨(_, k), ⟨hX, hlee.symm, by show L.length - 1 ≤ k; omega⟩, ⟨trivial, trivial⟩, ⟨hX.flat, trivial⟩, ?_⟩
    refine (sure0 hmix).funX F1315 body1315 [] [.tmp 0 2] Try.func22 rfl noLoops ?_
    have hw := w1315 L.length k i (i + 1) none cs
    rw [show (((i + 1 : Nat)) : Int) = (i : Int) + 1 from rfl] at hw
    rw [hw]
    have hF := fun (a : List Value) (h : FlatL a) => (FlatD.hp (D := []) (l := [.cells a 2 true]) ⟨h, trivial⟩)
    rw [show ((i : Int) + 1) = ((i + 1 : Nat) : Int) from rfl]
    simp only [Int.toNat_natCast, Nat.sub_zero, Nat.zero_add, e1, show (L.length : Int) ≤ (k : Int) by omega, show (((i + 1 : Nat)) : Int) ≤ (L.length : Int) by omega, show (i : Int) ≤ (((i + 1 : Nat)) : Int) by omega, show ¬ (i : Int) = (((i + 1 : Nat)) : Int) by omega, show (i : Int) ≤ (k : Int) by omega,
      show (i + 1) * 2 + (L.length - (i + 1)) * 2 ≤ cs.length by omega, show i * 2 ≤ cs.length by omega, show i + (L.length - (i + 1)) ≤ k by omega, hld, show L.length - i = 1 + (L.length - (i + 1)) by omega, show i + (L.length - (i + 1)) = L.length - 1 by omega, show L.length - (L.length - 1) = 1 by omega, hal, repl_1, Alt_iff, Need_iff, ltI_eq, leI_eq, eqI_eq, leN_eq, eqN_eq, decide_eq_true_eq, decide_eq_false_iff_not, decide_true, decide_false, true_and, and_true, Bool.true_eq_false, Bool.false_eq_true, false_implies, true_implies, implies_true, not_true_eq_false, not_false_eq_true, Bool.not_eq_true', Bool.not_eq_false', Nat.zero_add, Nat.add_zero, Nat.sub_zero, Nat.zero_mul, Nat.mul_one, Int.toNat_natCast, List.drop_zero, beqV_int, beqV_sl, beqV_str, beqV_bool, beqV_ptr, beqV_flt, beqV_agg, beqV_tuple, List.all_cons, List.all_nil, Bool.and_self, Bool.and_true, Bool.true_and, Nat.le_refl, Int.le_refl, Nat.zero_le, Option.getD_some, isStr, strV, isInt, intV, isBool, boolV, kindEq, at0, isJunk, Option.isSome_some, Option.isSome_none, if_true, if_false, Nat.add_sub_cancel_left, Nat.add_sub_cancel]
    have hs1 : L.length - (i + 1) = 0 → setAll cs (i * 2) [Value.int .u64 0, Value.int .i64 0] = pC reF reG (L.eraseIdx i) ++ ([Value.int .u64 0, Value.int .i64 0] ++ R) := fun hz => by
      rw [hee, List.drop_eq_nil_of_le (show L.length ≤ i + 1 by omega), List.append_nil, hR, hz, Nat.zero_mul, List.drop_zero]
      conv => lhs; rw [hcs]
      rw [setAll_at _ _ _ _ hli (by rw [hdl]; simp; omega), List.append_assoc]
      rw [hcs, List.drop_left' hli]
      rfl
    have hs2 : setAll (setAll cs (i * 2) (pC reF reG (L.drop (i + 1)))) ((L.length - 1) * 2) [Value.int .u64 0, Value.int .i64 0] = pC reF reG (L.eraseIdx i) ++ ([Value.int .u64 0, Value.int .i64 0] ++ R) := by
      conv => lhs; rw [hcs]
      rw [setAll_at _ _ _ _ hli (by rw [hdl, hld]; omega), ← pC_append, ← hee, setAll_at _ _ _ _ (by rw [pC_len, hlee]) (by rw [List.length_drop, hdl, hld]; simp; omega), List.append_assoc, hR, hld]
      rfl
    have hln : (setAll cs (i * 2) (pC reF reG (L.drop (i + 1)))).length = cs.length := by
      conv => lhs; rw [hcs]
      rw [setAll_at _ _ _ _ hli (by rw [hdl, hld]; omega), List.length_append, List.length_append, hli, hld, List.length_drop, hdl]; omega
    rw [hln, hs2]
    have hFX := hF _ hX.flat
    have hm : ((L.length - 1 : Nat) : Int) ≤ (L.length : Int) := by omega
    refine ⟨fun _ => ⟨fun hz => ⟨by omega, fun h => by omega, fun _ => ?_⟩, fun hz => ⟨by omega, hm, fun h => by omega, fun _ => ⟨by simp; omega, rfl, hFX, rfl⟩⟩⟩, fun hn => by omega⟩
    rw [hz, Nat.add_zero, repl_1, hs1 hz]
    exact ⟨by simp; omega, rfl, hFX, by rw [show i = L.length - 1 by omega], rfl⟩
  · exact hp.elim
end Go.Proofs.Ytmgnlkefhmhkhaa

namespace Go.Proofs.Ytmgnlkefhmhkhaa
open Go.RowKit Go.Proofs.Ytmgnlkefhmhkhaa.AM
set_option maxRecDepth 100000
set_option maxHeartbeats 4000000
noncomputable def body1313 : Code := (Try.f20.body).getD .skip
def F1313 : List Nat → Option (List Nat) := fun p => match p with
  | [1] => some [2, 3]
  | [1, 1] => some [4]
  | _ => none
noncomputable def body1320 : Code := (Try.f27.body).getD .skip
def F1320 : List Nat → Option (List Nat) := fun p => match p with
  | [1] => some [0]
  | [1, 1] => some [0, 3]
  | [1, 0, 1, 1] => some [3, 6, 7, 8]
  | [1, 0, 0, 1, 0, 1, 1] => some [3, 6, 7, 8, 9]
  | [1, 0, 1, 0, 0, 1, 0, 1, 1] => some [3]
  | [1, 1, 0, 0, 1, 0, 1, 1] => some [3, 6, 7, 8]
  | [1, 0, 0, 1, 1, 0, 0, 1, 0, 1, 1] => some [3, 5, 6, 7, 8]
  | [1, 1, 0, 0, 1, 1, 0, 0, 1, 0, 1, 1] => some [3, 5, 6, 7, 8, 14]
  | [1, 0, 1, 1, 0, 0, 1, 1, 0, 0, 1, 0, 1, 1] => some [2]
  | [1, 1, 1, 0, 0, 1, 0, 1, 1] => some [3, 6, 7, 8]
  | [1, 1, 1] => some [3]
  | [1, 1, 1, 1] => some [2]
  | _ => none
noncomputable def body1321 : Code := (Try.f28.body).getD .skip
def F1321 : List Nat → Option (List Nat) := fun p => match p with
  | [1] => some [0, 1]
  | [1, 1] => some [0, 1, 5]
  | [1, 1, 1] => some [0, 1, 5, 6]
  | [1, 0, 1, 1, 1] => some [0, 1, 6, 11]
  | [1, 0, 0, 1, 0, 1, 1, 1] => some [12]
  | [1, 0, 1, 0, 0, 1, 0, 1, 1, 1] => some [4]
  | [1, 0, 1, 0, 1, 1, 1] => some []
  | [1, 1, 0, 1, 0, 1, 1, 1] => some [4]
  | [1, 1, 1, 1] => some [0, 1, 6]
  | [1, 0, 1, 1, 1, 1] => some [0, 1, 13]
  | [1, 0, 1, 0, 1, 1, 1, 1] => some [4]
  | [1, 1, 1, 1, 1] => some [0, 1]
  | [1, 0, 1, 1, 1, 1, 1] => some [0, 1, 16]
  | [1, 0, 1, 0, 1, 1, 1, 1, 1] => some [4]
  | [1, 1, 1, 1, 1, 1] => some [0, 1]
  | [1, 0, 1, 1, 1, 1, 1, 1] => some [19]
  | [1, 0, 1, 0, 1, 1, 1, 1, 1, 1] => some [4]
  | [1, 1, 1, 1, 1, 1, 1] => some []
  | [1, 1, 1, 1, 1, 1, 1, 1] => some [4]
  | _ => none
noncomputable def body1322 : Code := (Try.f29.body).getD .skip
def F1322 : List Nat → Option (List Nat) := fun p => match p with
  | [1] => some [0, 1]
  | [1, 1] => some [0, 1, 5]
  | [1, 1, 1] => some [0, 1, 5, 6]
  | [1, 0, 1, 1, 1] => some [0, 1, 6, 11]
  | [1, 0, 0, 1, 0, 1, 1, 1] => some [12]
  | [1, 0, 1, 0, 0, 1, 0, 1, 1, 1] => some [4]
  | [1, 0, 1, 0, 1, 1, 1] => some []
  | [1, 1, 0, 1, 0, 1, 1, 1] => some [4]
  | [1, 1, 1, 1] => some [0, 1, 6]
  | [1, 0, 1, 1, 1, 1] => some [0, 1, 13]
  | [1, 0, 1, 0, 1, 1, 1, 1] => some [4]
  | [1, 1, 1, 1, 1] => some [0, 1]
  | [1, 0, 1, 1, 1, 1, 1] => some [0, 1, 16]
  | [1, 0, 1, 0, 1, 1, 1, 1, 1] => some [4]
  | [1, 1, 1, 1, 1, 1] => some [0, 1]
  | [1, 0, 1, 1, 1, 1, 1, 1] => some [19]
  | [1, 0, 1, 0, 1, 1, 1, 1, 1, 1] => some [4]
  | [1, 1, 1, 1, 1, 1, 1] => some []
  | [1, 1, 1, 1, 1, 1, 1, 1] => some [4]
  | _ => none
noncomputable def body1326 : Code := (Try.f34.body).getD .skip
def F1326 : List Nat → Option (List Nat) := fun p => match p with
  | [1] => some [0]
  | [1, 1] => some [2]
  | _ => none
noncomputable def body514 : Code := (Try.f35.body).getD .skip
def F514 : List Nat → Option (List Nat) := fun p => match p with
  | [1] => some [0]
  | [1, 1] => some [2]
  | _ => none
def cmpI (a b : Int) : Int := if ltI a b then -1 else if ltI b a then 1 else 0
def cmpE (x y : Re) : Int := if eqI (cmpI x.1 y.1) 0 then cmpI x.2 y.2 else cmpI x.1 y.1
noncomputable def cmpQ (k : IntKind) : Ctr where
  pre := fun args blks => match args, blks with
    | [.int q a, .int r b], [] => q = k ∧ r = k
    | _, _ => False
  val := fun args blks => match args, blks with
    | [.int _ a, .int _ b], [] => .int .i64 (cmpI a b)
    | _, _ => undef
  new := fun _ _ => []
noncomputable def cmpUC : Ctr := cmpQ .u64
noncomputable def cmpNC : Ctr := cmpQ .i64
noncomputable def S1321 : Book := addI Try.prog [(34, Try.f34, body1326), (35, Try.f35, body514)] S0
theorem sure1321 (hm : Try.prog.follows .mixedOrders = true) : Sure Try.prog S1321 := Sure.addI (sure0 hm) (l := [(34, Try.f34, body1326), (35, Try.f35, body514)]) ⟨⟨Try.func34, rfl⟩, ⟨Try.func35, rfl⟩, trivial⟩

theorem w1321 (a b : Int) (K : Value → Heap → Prop) :
  funX Try.prog S1321 noLoop F1321 body1321 Try.f28 [] [] [.int .u64 a, .int .u64 b] (hp []) K = (
Alt (!eqI a a) (Alt (!eqI b b) (K (Value.int IntKind.i64 0) (hp [])) (K (Value.int IntKind.i64 (-1)) (hp [])))
  (Alt (!eqI b b) (K (Value.int IntKind.i64 1) (hp []))
    (Alt (ltI a b) (K (Value.int IntKind.i64 (-1)) (hp []))
      (Alt (ltI b a) (K (Value.int IntKind.i64 1) (hp [])) (K (Value.int IntKind.i64 0) (hp [])))))) := by kernel_rfl

theorem w1322 (a b : Int) (K : Value → Heap → Prop) :
  funX Try.prog S1321 noLoop F1322 body1322 Try.f29 [] [] [.int .i64 a, .int .i64 b] (hp []) K = (
Alt (!eqI a a) (Alt (!eqI b b) (K (Value.int IntKind.i64 0) (hp [])) (K (Value.int IntKind.i64 (-1)) (hp [])))
  (Alt (!eqI b b) (K (Value.int IntKind.i64 1) (hp []))
    (Alt (ltI a b) (K (Value.int IntKind.i64 (-1)) (hp []))
      (Alt (ltI b a) (K (Value.int IntKind.i64 1) (hp [])) (K (Value.int IntKind.i64 0) (hp [])))))) := by kernel_rfl

theorem cmpU_says (hmix : Try.prog.follows .mixedOrders = true) : cmpUC.Holds Try.prog 28 := by
  intro args blks hf hp
  refine ⟨trivial, ?_⟩
  simp only [cmpUC, cmpQ] at hp ⊢
  split at hp
  · rename_i q a r b
    obtain ⟨rfl, rfl⟩ := hp
    refine (sure1321 hmix).funX F1321 body1321 [] [] Try.func28 rfl noLoops ?_
    rw [w1321]
    have hF : FlatD [] (AM.hp []) := FlatD.hp trivial
    unfold cmpI
    simp only [hF, show eqI a a = true from eqI_iff.2 rfl, show eqI b b = true from eqI_iff.2 rfl, Bool.not_true, Alt_iff, Need_iff, ltI_eq, leI_eq, eqI_eq, leN_eq, eqN_eq, decide_eq_true_eq, decide_eq_false_iff_not, decide_true, decide_false, true_and, and_true, Bool.true_eq_false, Bool.false_eq_true, false_implies, true_implies, implies_true, not_true_eq_false, not_false_eq_true, Bool.not_eq_true', Bool.not_eq_false', Nat.zero_add, Nat.add_zero, Nat.sub_zero, Nat.zero_mul, Nat.mul_one, Int.toNat_natCast, List.drop_zero, beqV_int, beqV_sl, beqV_str, beqV_bool, beqV_ptr, beqV_flt, beqV_agg, beqV_tuple, List.all_cons, List.all_nil, Bool.and_self, Bool.and_true, Bool.true_and, Nat.le_refl, Int.le_refl, Nat.zero_le, Option.getD_some, isStr, strV, isInt, intV, isBool, boolV, kindEq, at0, isJunk, Option.isSome_some, Option.isSome_none, if_true, if_false, Nat.add_sub_cancel_left, Nat.add_sub_cancel]
    exact ⟨fun h => by rw [if_pos h]; exact ⟨rfl, rfl⟩, fun h => ⟨fun h2 => by rw [if_neg h, if_pos h2]; exact ⟨rfl, rfl⟩, fun h2 => by rw [if_neg h, if_neg h2]; exact ⟨rfl, rfl⟩⟩⟩
  · exact hp.elim
theorem cmpN_says (hmix : Try.prog.follows .mixedOrders = true) : cmpNC.Holds Try.prog 29 := by
  intro args blks hf hp
  refine ⟨trivial, ?_⟩
  simp only [cmpNC, cmpQ] at hp ⊢
  split at hp
  · rename_i q a r b
    obtain ⟨rfl, rfl⟩ := hp
    refine (sure1321 hmix).funX F1322 body1322 [] [] Try.func29 rfl noLoops ?_
    rw [w1322]
    have hF : FlatD [] (AM.hp []) := FlatD.hp trivial
    unfold cmpI
    simp only [hF, show eqI a a = true from eqI_iff.2 rfl, show eqI b b = true from eqI_iff.2 rfl, Bool.not_true, Alt_iff, Need_iff, ltI_eq, leI_eq, eqI_eq, leN_eq, eqN_eq, decide_eq_true_eq, decide_eq_false_iff_not, decide_true, decide_false, true_and, and_true, Bool.true_eq_false, Bool.false_eq_true, false_implies, true_implies, implies_true, not_true_eq_false, not_false_eq_true, Bool.not_eq_true', Bool.not_eq_false', Nat.zero_add, Nat.add_zero, Nat.sub_zero, Nat.zero_mul, Nat.mul_one, Int.toNat_natCast, List.drop_zero, beqV_int, beqV_sl, beqV_str, beqV_bool, beqV_ptr, beqV_flt, beqV_agg, beqV_tuple, List.all_cons, List.all_nil, Bool.and_self, Bool.and_true, Bool.true_and, Nat.le_refl, Int.le_refl, Nat.zero_le, Option.getD_some, isStr, strV, isInt, intV, isBool, boolV, kindEq, at0, isJunk, Option.isSome_some, Option.isSome_none, if_true, if_false, Nat.add_sub_cancel_left, Nat.add_sub_cancel]
    exact ⟨fun h => by rw [if_pos h]; exact ⟨rfl, rfl⟩, fun h => ⟨fun h2 => by rw [if_neg h, if_pos h2]; exact ⟨rfl, rfl⟩, fun h2 => by rw [if_neg h, if_neg h2]; exact ⟨rfl, rfl⟩⟩⟩
  · exact hp.elim
noncomputable def S1313 : Book := addI Try.prog [(27, Try.f27, body1320)] (bookOf [(28, cmpUC), (29, cmpNC)])
theorem sure1313 (hm : Try.prog.follows .mixedOrders = true) : Sure Try.prog S1313 := Sure.addI ⟨hm, plain, bookOf_ok (l := [(28, cmpUC), (29, cmpNC)]) ⟨cmpU_says hm, cmpN_says hm, trivial⟩⟩ (l := [(27, Try.f27, body1320)]) ⟨⟨Try.func27, rfl⟩, trivial⟩

theorem w1313 (a b c d : Int) (K : Value → Heap → Prop) :
  funX Try.prog S1313 noLoop F1313 body1313 Try.f20 [] [] [.agg #[.int .u64 a, .int .i64 b], .agg #[.int .u64 c, .int .i64 d]] (hp []) K = (
True ∧
  (IntKind.u64 = IntKind.u64 ∧ IntKind.u64 = IntKind.u64) ∧
    True ∧
      (IntKind.i64 = IntKind.i64 ∧ IntKind.i64 = IntKind.i64) ∧
        Alt
          (!eqI (intV (Value.int IntKind.i64 (cmpI (intV (Value.int IntKind.u64 a)) (intV (Value.int IntKind.u64 c)))))
              0)
          (Need
            (beqV 64 (Value.int IntKind.i64 (intV (Value.int IntKind.i64 d)))
              (Value.int IntKind.i64 (intV (Value.int IntKind.i64 d))))
            (Need
              (beqV 64 (Value.int IntKind.i64 (intV (Value.int IntKind.i64 b)))
                (Value.int IntKind.i64 (intV (Value.int IntKind.i64 b))))
              (K
                (Value.int IntKind.i64
                  (intV
                    (Value.int IntKind.i64 (cmpI (intV (Value.int IntKind.u64 a)) (intV (Value.int IntKind.u64 c))))))
                (hp []))))
          (Alt
            (!eqI
                (intV (Value.int IntKind.i64 (cmpI (intV (Value.int IntKind.i64 b)) (intV (Value.int IntKind.i64 d)))))
                0)
            (Need
              (beqV 64 (Value.int IntKind.i64 (intV (Value.int IntKind.i64 d)))
                (Value.int IntKind.i64 (intV (Value.int IntKind.i64 d))))
              (Need
                (beqV 64 (Value.int IntKind.i64 (intV (Value.int IntKind.i64 b)))
                  (Value.int IntKind.i64 (intV (Value.int IntKind.i64 b))))
                (K
                  (Value.int IntKind.i64
                    (intV
                      (Value.int IntKind.i64 (cmpI (intV (Value.int IntKind.i64 b)) (intV (Value.int IntKind.i64 d))))))
                  (hp []))))
            (Need
              (beqV 64 (Value.int IntKind.i64 (intV (Value.int IntKind.i64 d)))
                (Value.int IntKind.i64 (intV (Value.int IntKind.i64 d))))
              (Need
                (beqV 64 (Value.int IntKind.i64 (intV (Value.int IntKind.i64 b)))
                  (Value.int IntKind.i64 (intV (Value.int IntKind.i64 b))))
                (K (Value.int IntKind.i64 0) (hp [])))))) := by kernel_rfl

noncomputable def cmpEC : Ctr where
  pre := fun args blks => match args, blks with
    | [.agg x, .agg y], [] => match x.toList, y.toList with
      | [.int .u64 _, .int .i64 _], [.int .u64 _, .int .i64 _] => True
      | _, _ => False
    | _, _ => False
  val := fun args blks => match args, blks with
    | [.agg x, .agg y], [] => match x.toList, y.toList with
      | [.int .u64 a, .int .i64 b], [.int .u64 c, .int .i64 d] => .int .i64 (cmpE (a, b) (c, d))
      | _, _ => undef
    | _, _ => undef
  new := fun _ _ => []
theorem cmpE_says (hmix : Try.prog.follows .mixedOrders = true) : cmpEC.Holds Try.prog 20 := by
  intro args blks hf hp
  refine ⟨trivial, ?_⟩
  simp only [cmpEC] at hp ⊢
  split at hp
  · rename_i x y
    split at hp
    · rename_i a b c d hx hy
      obtain rfl : x = #[.int .u64 a, .int .i64 b] := Array.toList_inj.1 hx
      obtain rfl : y = #[.int .u64 c, .int .i64 d] := Array.toList_inj.1 hy
      refine (sure1313 hmix).funX F1313 body1313 [] [] Try.func20 rfl noLoops ?_
      rw [w1313]
      have hF : FlatD [] (AM.hp []) := FlatD.hp trivial
      unfold cmpE
      simp only [hF, Bool.not_eq_true', Bool.not_eq_false', Alt_iff, Need_iff, ltI_eq, leI_eq, eqI_eq, leN_eq, eqN_eq, decide_eq_true_eq, decide_eq_false_iff_not, decide_true, decide_false, true_and, and_true, Bool.true_eq_false, Bool.false_eq_true, false_implies, true_implies, implies_true, not_true_eq_false, not_false_eq_true, Bool.not_eq_true', Bool.not_eq_false', Nat.zero_add, Nat.add_zero, Nat.sub_zero, Nat.zero_mul, Nat.mul_one, Int.toNat_natCast, List.drop_zero, beqV_int, beqV_sl, beqV_str, beqV_bool, beqV_ptr, beqV_flt, beqV_agg, beqV_tuple, List.all_cons, List.all_nil, Bool.and_self, Bool.and_true, Bool.true_and, Nat.le_refl, Int.le_refl, Nat.zero_le, Option.getD_some, isStr, strV, isInt, intV, isBool, boolV, kindEq, at0, isJunk, Option.isSome_some, Option.isSome_none, if_true, if_false, Nat.add_sub_cancel_left, Nat.add_sub_cancel]
      refine ⟨fun h => by rw [if_neg h]; exact ⟨rfl, rfl⟩, fun h => ⟨fun h2 => by rw [if_pos h]; exact ⟨rfl, rfl⟩, fun h2 => by rw [if_pos h, h2]; exact ⟨rfl, rfl⟩⟩⟩
    · exact hp.elim
  · exact hp.elim
end Go.Proofs.Ytmgnlkefhmhkhaa

namespace Go.Proofs.Ytmgnlkefhmhkhaa
open Go.RowKit Go.Proofs.Ytmgnlkefhmhkhaa.AM
set_option maxRecDepth 100000
set_option maxHeartbeats 4000000
noncomputable def body1312 : Code := (Try.f19.body).getD .skip
def F1312 : List Nat → Option (List Nat) := fun p => match p with
  | [1] => some [0, 2, 4]
  | [1, 1] => some [0, 2, 4, 8]
  | [1, 1, 1] => some [0, 2, 4, 8, 9, 10]
  | [1, 0, 0, 0, 0, 1, 1, 1] => some [0, 2, 4, 8, 9, 10, 17]
  | [1, 1, 0, 0, 0, 0, 1, 1, 1] => some [0, 2, 4, 8, 9]
  | [1, 0, 0, 0, 1, 1, 1] => some [0, 2, 4, 8, 9, 10]
  | [1, 0, 1, 0, 0, 0, 1, 1, 1] => some [0, 2, 4, 8, 9, 10, 11]
  | [1, 1, 0, 1, 0, 0, 0, 1, 1, 1] => some [0, 2, 4, 8, 9, 10, 11, 31]
  | [1, 1, 1, 1] => some [0, 2, 4, 8, 9]
  | [1, 1, 1, 1, 1] => some [6, 7]
  | _ => none
noncomputable def S1312 : Book := bookOf [(20, cmpEC)]
theorem sure1312 (hm : Try.prog.follows .mixedOrders = true) : Sure Try.prog S1312 := ⟨hm, plain, bookOf_ok (l := [(20, cmpEC)]) ⟨cmpE_says hm, trivial⟩⟩
noncomputable def fC : Value := .func (.func 20) #[] #[]
noncomputable def T1312 (m k : Nat) (i j : Nat) : List Value := tmps 49 [(0, .slice (some ⟨0,0,some 1⟩) m k), (2, .func (.func 20) #[] #[]), (4, .pointer (some ⟨1,0,none⟩)), (8, .int .i64 m), (9, .int .i64 i), (10, .int .i64 j)]
noncomputable def U1312 (m k : Nat) (i : Nat) : List Value := tmps 49 [(0, .slice (some ⟨0,0,some 1⟩) m k), (2, .func (.func 20) #[] #[]), (4, .pointer (some ⟨1,0,none⟩)), (8, .int .i64 m), (9, .int .i64 i)]
noncomputable def hE (cs : List Value) (d n : Int) : List Blk := [.cells cs 2 true, .cells [.int .u64 d, .int .i64 n] 2 true]

theorem r1312 (cs : List Value) (d n : Int) (m k i j : Nat) (K : Post) :
  roundX Try.prog S1312 noLoop F1312 body1312 1 [] [] [] [] [0,2,4,8,9,10] [0,0,0,1,1,1] (T1312 m k i j) (hp (hE cs d n)) K = (
Alt (ltI (↑i : Int) (↑j : Int))
  (Need (leI 0 (wr IntKind.i64 ((wr IntKind.u64 (wr IntKind.i64 ((↑i : Int) + (↑j : Int)))).fdiv 2)))
    (Need (ltI (wr IntKind.i64 ((wr IntKind.u64 (wr IntKind.i64 ((↑i : Int) + (↑j : Int)))).fdiv 2)) (↑m : Int))
      (Need
        (isInt IntKind.u64
          ((getO cs
                (0 +
                  (wr IntKind.i64 ((wr IntKind.u64 (wr IntKind.i64 ((↑i : Int) + (↑j : Int)))).fdiv 2)).toNat * 2)).getD
            undef))
        (Need
          (isInt IntKind.i64
            ((getO cs
                  (0 + (wr IntKind.i64 ((wr IntKind.u64 (wr IntKind.i64 ((↑i : Int) + (↑j : Int)))).fdiv 2)).toNat * 2 +
                    1)).getD
              undef))
          (True ∧
            True ∧
              Alt
                (ltI
                  (cmpE
                    (intV
                        ((getO cs
                              (0 +
                                (wr IntKind.i64
                                      ((wr IntKind.u64 (wr IntKind.i64 ((↑i : Int) + (↑j : Int)))).fdiv 2)).toNat *
                                  2)).getD
                          undef),
                      intV
                        ((getO cs
                              (0 +
                                  (wr IntKind.i64
                                        ((wr IntKind.u64 (wr IntKind.i64 ((↑i : Int) + (↑j : Int)))).fdiv 2)).toNat *
                                    2 +
                                1)).getD
                          undef))
                    (intV (Value.int IntKind.u64 d), intV (Value.int IntKind.i64 n)))
                  0)
                (K AE.normal
                  (tmps 49
                    [(0, Value.slice (some { block := 0, off := 0, spot := some 1 : Addr }) m k),
                      (2, Value.func (Fn.func 20) #[] #[]), (4, Value.pointer (some { block := 1, off := 0 : Addr })),
                      (8, Value.int IntKind.i64 (↑m : Int)),
                      (9,
                        Value.int IntKind.i64
                          (wr IntKind.i64
                            (wr IntKind.i64 ((wr IntKind.u64 (wr IntKind.i64 ((↑i : Int) + (↑j : Int)))).fdiv 2) + 1))),
                      (10, Value.int IntKind.i64 (↑j : Int))])
                  (hp [Blk.cells cs 2 true, Blk.cells [Value.int IntKind.u64 d, Value.int IntKind.i64 n] 2 true]))
                (K AE.normal
                  (tmps 49
                    [(0, Value.slice (some { block := 0, off := 0, spot := some 1 : Addr }) m k),
                      (2, Value.func (Fn.func 20) #[] #[]), (4, Value.pointer (some { block := 1, off := 0 : Addr })),
                      (8, Value.int IntKind.i64 (↑m : Int)), (9, Value.int IntKind.i64 (↑i : Int)),
                      (10,
                        Value.int IntKind.i64
                          (wr IntKind.i64 ((wr IntKind.u64 (wr IntKind.i64 ((↑i : Int) + (↑j : Int)))).fdiv 2)))])
                  (hp [Blk.cells cs 2 true, Blk.cells [Value.int IntKind.u64 d, Value.int IntKind.i64 n] 2 true])))))))
  (K (AE.exit 0)
    (tmps 49
      [(0, Value.slice (some { block := 0, off := 0, spot := some 1 : Addr }) m k),
        (2, Value.func (Fn.func 20) #[] #[]), (4, Value.pointer (some { block := 1, off := 0 : Addr })),
        (8, Value.int IntKind.i64 (↑m : Int)), (9, Value.int IntKind.i64 (↑i : Int))])
    (hp [Blk.cells cs 2 true, Blk.cells [Value.int IntKind.u64 d, Value.int IntKind.i64 n] 2 true]))) := by kernel_rfl

/-- a row whose elements rise -/
def UpE (l : List Re) : Prop := l.Pairwise (fun x y => cmpE x y < 0)
/-- what is ahead of i is less, what is from j on is not -/
structure HalvesE (l : List Re) (e : Re) (i j : Nat) : Prop where
  le : i ≤ j
  len : j ≤ l.length
  low : ∀ (k : Nat) x, k < i → l[k]? = some x → cmpE x e < 0
  high : ∀ (k : Nat) x, j ≤ k → l[k]? = some x → ¬ cmpE x e < 0
noncomputable def cut1312 (cs : List Value) (e : Re) (k : Nat) (l : List Re) : CutE where
  β := Nat × Nat
  p := [0,0,1,1,1]
  t := fun x => T1312 l.length k x.1 x.2
  h := fun x => hp (hE cs e.1 e.2)
  Q := fun x K => HalvesE l e x.1 x.2 ∧ ∀ i, HalvesE l e i i → K (.exit 0) (U1312 l.length k i) (hp (hE cs e.1 e.2))

theorem w1312 (cs : List Value) (k : Nat) (e : Re) (l : List Re) (K : Value → Heap → Prop) :
  funX Try.prog S1312 (gcLKX (at0 []) (at0 []) 1 (cutE [cut1312 cs e k l])) F1312 body1312 Try.f19 [] [] [.slice (some ⟨0,0,some 1⟩) l.length k, .agg #[.int .u64 e.1, .int .i64 e.2], fC] (hp [.cells cs 2 true]) K = (
FlatD [] (hp [Blk.cells cs 2 true, Blk.cells [Value.int IntKind.u64 e.fst, Value.int IntKind.i64 e.snd] 2 true]) ∧
  ∃ (b : Nat × Nat),
    tmps 49
          [(0, Value.slice (some { block := 0, off := 0, spot := some 1 : Addr }) l.length k),
            (2, Value.func (Fn.func 20) #[] #[]), (4, Value.pointer (some { block := 1, off := 0 : Addr })),
            (8, Value.int IntKind.i64 (↑l.length : Int)), (9, Value.int IntKind.i64 0),
            (10, Value.int IntKind.i64 (↑l.length : Int))] =
        tmps 49
          [(0, Value.slice (some { block := 0, off := 0, spot := some 1 : Addr }) l.length k),
            (2, Value.func (Fn.func 20) #[] #[]), (4, Value.pointer (some { block := 1, off := 0 : Addr })),
            (8, Value.int IntKind.i64 (↑l.length : Int)), (9, Value.int IntKind.i64 (↑b.fst : Int)),
            (10, Value.int IntKind.i64 (↑b.snd : Int))] ∧
      hp [Blk.cells cs 2 true, Blk.cells [Value.int IntKind.u64 e.fst, Value.int IntKind.i64 e.snd] 2 true] =
          hp [Blk.cells cs 2 true, Blk.cells [Value.int IntKind.u64 e.fst, Value.int IntKind.i64 e.snd] 2 true] ∧
        HalvesE l e b.fst b.snd ∧
          ∀ (i : Nat),
            HalvesE l e i i →
              Alt (ltI (↑i : Int) (↑l.length : Int))
                (Need (ltI (↑i : Int) (↑l.length : Int))
                  (Need (isInt IntKind.u64 ((getO cs (0 + (↑i : Int).toNat * 2)).getD undef))
                    (Need (isInt IntKind.i64 ((getO cs (0 + (↑i : Int).toNat * 2 + 1)).getD undef))
                      (True ∧
                        True ∧
                          Need (beqV 64 (Value.int IntKind.i64 (↑i : Int)) (Value.int IntKind.i64 (↑i : Int)))
                            (K
                              (Value.tuple
                                #[Value.int IntKind.i64 (↑i : Int),
                                  Value.bool
                                    (eqI
                                      (cmpE
                                        (intV ((getO cs (0 + (↑i : Int).toNat * 2)).getD undef),
                                          intV ((getO cs (0 + (↑i : Int).toNat * 2 + 1)).getD undef))
                                        (intV (Value.int IntKind.u64 e.fst), intV (Value.int IntKind.i64 e.snd)))
                                      0)])
                              (hp [Blk.cells cs 2 true]))))))
                (Need (beqV 64 (Value.int IntKind.i64 (↑i : Int)) (Value.int IntKind.i64 (↑i : Int)))
                  (K (Value.tuple #[Value.int IntKind.i64 (↑i : Int), Value.bool false]) (hp [Blk.cells cs 2 true])))) := by kernel_rfl

end Go.Proofs.Ytmgnlkefhmhkhaa

namespace Go.Proofs.Ytmgnlkefhmhkhaa
open Go.RowKit Go.Proofs.Ytmgnlkefhmhkhaa.AM
set_option maxRecDepth 100000
set_option maxHeartbeats 4000000
theorem cmpI_lt {a b : Int} : cmpI a b < 0 ↔ a < b := by
  unfold cmpI
  by_cases h : a < b
  · simp [ltI_iff.2 h, h]
  · rw [if_neg (fun hh => h (ltI_iff.1 hh))]
    by_cases h2 : b < a
    · simp [ltI_iff.2 h2, h]
    · rw [if_neg (fun hh => h2 (ltI_iff.1 hh))]; simp; omega
theorem cmpI_eq {a b : Int} : cmpI a b = 0 ↔ a = b := by
  unfold cmpI
  by_cases h : a < b
  · simp [ltI_iff.2 h]; omega
  · rw [if_neg (fun hh => h (ltI_iff.1 hh))]
    by_cases h2 : b < a
    · simp [ltI_iff.2 h2]; omega
    · rw [if_neg (fun hh => h2 (ltI_iff.1 hh))]; simp; omega
theorem cmpE_lt {x y : Re} : cmpE x y < 0 ↔ x.1 < y.1 ∨ x.1 = y.1 ∧ x.2 < y.2 := by
  unfold cmpE
  by_cases h : x.1 = y.1
  · rw [if_pos (eqI_iff.2 (cmpI_eq.2 h)), cmpI_lt]; omega
  · rw [if_neg (fun hh => h (cmpI_eq.1 (eqI_iff.1 hh))), cmpI_lt]; omega
theorem cmpE_eq {x y : Re} : cmpE x y = 0 ↔ x = y := by
  unfold cmpE
  by_cases h : x.1 = y.1
  · rw [if_pos (eqI_iff.2 (cmpI_eq.2 h)), cmpI_eq]
    exact ⟨fun h2 => Prod.ext h h2, fun h2 => by rw [h2]⟩
  · rw [if_neg (fun hh => h (cmpI_eq.1 (eqI_iff.1 hh))), cmpI_eq]
    exact ⟨fun h2 => absurd h2 h, fun h2 => by rw [h2]⟩
theorem wr_u64 (x : Int) (h0 : 0 ≤ x) (h1 : x < 18446744073709551616) : wr .u64 x = x := by
  rw [wr_eq]; simp [IntKind.wrap, IntKind.bits, IntKind.signed]; omega
theorem mid_eq (i j : Nat) (h : i + j < 4611686018427387904) : wr .i64 ((wr .u64 (wr .i64 ((i : Int) + (j : Int)))).fdiv 2) = (((i + j) / 2 : Nat) : Int) := by
  rw [wr_i64 ((i : Int) + (j : Int)) (by omega) (by omega), wr_u64 _ (by omega) (by omega), Int.fdiv_eq_ediv_of_nonneg _ (by omega), wr_i64 _ (by omega) (by omega)]; omega
theorem hE_flat {cs : List Value} {d n : Int} (h : FlatL cs) : FlatD [] (hp [.cells cs 2 true, .cells [.int .u64 d, .int .i64 n] 2 true]) := FlatD.hp ⟨h, ⟨fun x hx => by simp at hx; rcases hx with rfl | rfl <;> rfl⟩, trivial⟩
theorem find_loopE (hmix : Try.prog.follows .mixedOrders = true) (l : List Re) (hup : UpE l) (cs : List Value) (k : Nat) (e : Re) (hB : RSl cs l) (hl : l.length ≤ 1000000) (K : Post)
    (hK : ∀ i, HalvesE l e i i → K (.exit 0) (U1312 l.length k i) (hp (hE cs e.1 e.2))) : ∀ (m i j : Nat), j - i ≤ m → HalvesE l e i j →
    LSays Try.prog 1 (sub body1312 [0,0,0,1,1,1]) (T1312 l.length k i j) (hp (hE cs e.1 e.2)) K := by
  have hF := hE_flat (d := e.1) (n := e.2) hB.flat
  have hsorted : ∀ (a b : Nat) x y, a < b → l[a]? = some x → l[b]? = some y → cmpE x y < 0 := fun a b x y hab ha hb => by
    obtain ⟨h1, h2⟩ := List.getElem?_eq_some_iff.1 ha
    obtain ⟨h3, h4⟩ := List.getElem?_eq_some_iff.1 hb
    have := List.pairwise_iff_getElem.1 hup a b h1 h3 hab
    rw [h2, h4] at this; exact this
  intro m
  induction m with
  | zero =>
    intro i j hm hh
    have : i = j := by have := hh.le; omega
    subst this
    refine (sure1312 hmix).roundX F1312 noLoops [] [] [] [] [0,2,4,8,9,10] ?_
    rw [r1312]
    simp only [show ¬ ((i : Int) < (i : Int)) by omega, hF, Alt_iff, Need_iff, ltI_eq, leI_eq, eqI_eq, leN_eq, eqN_eq, decide_eq_true_eq, decide_eq_false_iff_not, decide_true, decide_false, true_and, and_true, Bool.true_eq_false, Bool.false_eq_true, false_implies, true_implies, implies_true, not_true_eq_false, not_false_eq_true, Bool.not_eq_true', Bool.not_eq_false', Nat.zero_add, Nat.add_zero, Nat.sub_zero, Nat.zero_mul, Nat.mul_one, Int.toNat_natCast, List.drop_zero, beqV_int, beqV_sl, beqV_str, beqV_bool, beqV_ptr, beqV_flt, beqV_agg, beqV_tuple, List.all_cons, List.all_nil, Bool.and_self, Bool.and_true, Bool.true_and, Nat.le_refl, Int.le_refl, Nat.zero_le, Option.getD_some, isStr, strV, isInt, intV, isBool, boolV, kindEq, at0, isJunk, Option.isSome_some, Option.isSome_none, if_true, if_false, Nat.add_sub_cancel_left, Nat.add_sub_cancel]
    exact hK i hh
  | succ m ih =>
    intro i j hm hh
    by_cases hij : i < j
    · have hj := hh.len
      have hlt : (i + j) / 2 < l.length := by omega
      have hx : l[(i + j) / 2]? = some l[(i + j) / 2] := List.getElem?_eq_getElem hlt
      generalize l[(i + j) / 2] = x at hx
      refine (sure1312 hmix).roundX F1312 noLoops [] [] [] [] [0,2,4,8,9,10] ?_
      rw [r1312, mid_eq i j (by omega)]
      simp only [show ((i : Int) < (j : Int)) by omega, hF, hB.get0 hx, hB.get1 hx, reF, reG, show (0 : Int) ≤ (((i + j) / 2 : Nat) : Int) by omega, show ((((i + j) / 2 : Nat) : Int) < (l.length : Int)) by omega, nx ((i + j) / 2) (by omega), Bool.not_true, Bool.not_false, Alt_iff, Need_iff, ltI_eq, leI_eq, eqI_eq, leN_eq, eqN_eq, decide_eq_true_eq, decide_eq_false_iff_not, decide_true, decide_false, true_and, and_true, Bool.true_eq_false, Bool.false_eq_true, false_implies, true_implies, implies_true, not_true_eq_false, not_false_eq_true, Bool.not_eq_true', Bool.not_eq_false', Nat.zero_add, Nat.add_zero, Nat.sub_zero, Nat.zero_mul, Nat.mul_one, Int.toNat_natCast, List.drop_zero, beqV_int, beqV_sl, beqV_str, beqV_bool, beqV_ptr, beqV_flt, beqV_agg, beqV_tuple, List.all_cons, List.all_nil, Bool.and_self, Bool.and_true, Bool.true_and, Nat.le_refl, Int.le_refl, Nat.zero_le, Option.getD_some, isStr, strV, isInt, intV, isBool, boolV, kindEq, at0, isJunk, Option.isSome_some, Option.isSome_none, if_true, if_false, Nat.add_sub_cancel_left, Nat.add_sub_cancel]
      refine ⟨fun h => ih _ j (by omega) ⟨by omega, hj, fun k y hk hy => ?_, hh.high⟩, fun h => ih i _ (by omega) ⟨by omega, by omega, hh.low, fun k y hk hy => ?_⟩⟩
      · have h : cmpE x e < 0 := h
        by_cases hk2 : k = (i + j) / 2
        · subst hk2; rw [hx] at hy; injection hy with hy; rw [← hy]; exact h
        · have := hsorted k _ y x (by omega) hy hx
          rw [cmpE_lt] at this h ⊢; omega
      · have h : ¬ cmpE x e < 0 := h
        by_cases hk2 : k = (i + j) / 2
        · subst hk2; rw [hx] at hy; injection hy with hy; rw [← hy]; exact h
        · have := hsorted _ k x y (by omega) hx hy
          rw [cmpE_lt] at this h ⊢; omega
    · have : i = j := by have := hh.le; omega
      subst this
      refine (sure1312 hmix).roundX F1312 noLoops [] [] [] [] [0,2,4,8,9,10] ?_
      rw [r1312]
      simp only [show ¬ ((i : Int) < (i : Int)) by omega, hF, Alt_iff, Need_iff, ltI_eq, leI_eq, eqI_eq, leN_eq, eqN_eq, decide_eq_true_eq, decide_eq_false_iff_not, decide_true, decide_false, true_and, and_true, Bool.true_eq_false, Bool.false_eq_true, false_implies, true_implies, implies_true, not_true_eq_false, not_false_eq_true, Bool.not_eq_true', Bool.not_eq_false', Nat.zero_add, Nat.add_zero, Nat.sub_zero, Nat.zero_mul, Nat.mul_one, Int.toNat_natCast, List.drop_zero, beqV_int, beqV_sl, beqV_str, beqV_bool, beqV_ptr, beqV_flt, beqV_agg, beqV_tuple, List.all_cons, List.all_nil, Bool.and_self, Bool.and_true, Bool.true_and, Nat.le_refl, Int.le_refl, Nat.zero_le, Option.getD_some, isStr, strV, isInt, intV, isBool, boolV, kindEq, at0, isJunk, Option.isSome_some, Option.isSome_none, if_true, if_false, Nat.add_sub_cancel_left, Nat.add_sub_cancel]
      exact hK i hh
/-- how many stand ahead of an element -/
def posE (e : Re) : List Re → Nat
  | [] => 0
  | x :: t => if cmpE x e < 0 then posE e t + 1 else 0
theorem half_pos {e : Re} : ∀ {l : List Re} {i : Nat}, HalvesE l e i i → i = posE e l := by
  intro l
  induction l with
  | nil => intro i h; have := h.len; simp at this; simp [posE, this]
  | cons x t ih =>
    intro i h
    unfold posE
    by_cases hx : cmpE x e < 0
    · rw [if_pos hx]
      cases i with
      | zero => exact absurd hx (h.high 0 x (Nat.le_refl _) rfl)
      | succ i =>
        have := ih (i := i) ⟨Nat.le_refl _, by have := h.len; simp at this; omega, fun k y hk hy => h.low (k + 1) y (by omega) (by simpa using hy), fun k y hk hy => h.high (k + 1) y (by omega) (by simpa using hy)⟩
        omega
    · rw [if_neg hx]
      cases i with
      | zero => rfl
      | succ i => exact absurd (h.low 0 x (by omega) rfl) hx
theorem posE_le (e : Re) : ∀ l : List Re, posE e l ≤ l.length := by
  intro l
  induction l with
  | nil => exact Nat.le_refl _
  | cons x t ih => unfold posE; split <;> simp; omega
def foundE (e : Re) (l : List Re) : Bool := match l[posE e l]? with
  | some x => eqI (cmpE x e) 0
  | none => false
inductive IsUpE (l : List Re) : Prop
  | mk (h : UpE l) (hl : l.length ≤ 1000000) : IsUpE l
structure ReOkV (x : Re) : Prop where
  ok : ReOk x
noncomputable def findEC : CtrW where
  D := []
  W := []
  E := []
  pre := fun args blks => match args, blks with
    | [.slice (some ⟨0,0,some 1⟩) m k, .agg x, .func (.func g) f c], [.cells cs 2 true] => IsR cs m k ∧ IsUpE (resAt cs m) ∧ (match x.toList, f.toList, c.toList with
      | [.int .u64 _, .int .i64 _], [], [] => Need (eqN g 20) True
      | _, _, _ => False)
    | _, _ => False
  val := fun args blks => match args, blks with
    | [.slice (some ⟨0,0,some 1⟩) m k, .agg x, .func (.func g) f c], [.cells cs 2 true] => (match x.toList with
      | [.int .u64 a, .int .i64 b] => .tuple #[.int .i64 (posE (a, b) (resAt cs m)), .bool (foundE (a, b) (resAt cs m))]
      | _ => undef)
    | _, _ => undef
  out := fun _ blks => blks
theorem findE_says (hmix : Try.prog.follows .mixedOrders = true) : findEC.Holds Try.prog 19 := by
  intro args blks hf hp
  simp only [findEC] at hp ⊢
  split at hp
  · rename_i m k x g f c cs
    obtain ⟨⟨l, rfl, hc, hB⟩, hU, hx⟩ := hp
    split at hx
    · rename_i a b h1 h2 h3
      obtain rfl : x = #[.int .u64 a, .int .i64 b] := Array.toList_inj.1 h1
      obtain rfl : f = #[] := Array.toList_inj.1 h2
      obtain rfl : c = #[] := Array.toList_inj.1 h3
      simp only [Alt_iff, Need_iff, ltI_eq, leI_eq, eqI_eq, leN_eq, eqN_eq, decide_eq_true_eq, decide_eq_false_iff_not, decide_true, decide_false, true_and, and_true, Bool.true_eq_false, Bool.false_eq_true, false_implies, true_implies, implies_true, not_true_eq_false, not_false_eq_true, Bool.not_eq_true', Bool.not_eq_false'] at hx
      subst hx
      simp only [resAt_eq hB] at hU ⊢
      obtain ⟨hup, hl⟩ := hU
      refine ⟨⟨rfl, trivial⟩, trivial, ?_⟩
      have hF := hE_flat (d := a) (n := b) hB.flat
      have hF1 : FlatD [] (AM.hp [.cells cs 2 true]) := FlatD.hp ⟨hB.flat, trivial⟩
      have hL : Loops Try.prog body1312 1 (cutE [cut1312 cs (a, b) k l]) := Loops.noneE.moreE _ fun x K hQ => by
        obtain ⟨h1, h2⟩ := hQ
        exact find_loopE hmix l hup cs k (a, b) hB hl K h2 _ x.1 x.2 (Nat.le_refl _) h1
      refine (sure1312 hmix).funX F1312 body1312 [] [] Try.func19 rfl (hL.gcX (at0 []) (at0 [])) ?_
      have hw := w1312 cs k (a, b) l
      unfold fC at hw
      rw [hw]
      refine ⟨hF, (0, l.length), rfl, rfl, ⟨Nat.zero_le _, Nat.le_refl _, fun k x hk => by omega, fun k x hk hx => by have := (List.getElem?_eq_some_iff.1 hx).1; omega⟩, fun i hi => ?_⟩
      have hip := half_pos hi
      subst hip
      cases hx : l[posE (a, b) l]? with
      | none =>
        have hge := List.getElem?_eq_none_iff.1 hx
        simp only [show ¬ ((posE (a, b) l : Nat) : Int) < (l.length : Int) by omega, hF1, foundE, hx, Alt_iff, Need_iff, ltI_eq, leI_eq, eqI_eq, leN_eq, eqN_eq, decide_eq_true_eq, decide_eq_false_iff_not, decide_true, decide_false, true_and, and_true, Bool.true_eq_false, Bool.false_eq_true, false_implies, true_implies, implies_true, not_true_eq_false, not_false_eq_true, Bool.not_eq_true', Bool.not_eq_false', Nat.zero_add, Nat.add_zero, Nat.sub_zero, Nat.zero_mul, Nat.mul_one, Int.toNat_natCast, List.drop_zero, beqV_int, beqV_sl, beqV_str, beqV_bool, beqV_ptr, beqV_flt, beqV_agg, beqV_tuple, List.all_cons, List.all_nil, Bool.and_self, Bool.and_true, Bool.true_and, Nat.le_refl, Int.le_refl, Nat.zero_le, Option.getD_some, isStr, strV, isInt, intV, isBool, boolV, kindEq, at0, isJunk, Option.isSome_some, Option.isSome_none, if_true, if_false, Nat.add_sub_cancel_left, Nat.add_sub_cancel]
      | some y =>
        have hlt := (List.getElem?_eq_some_iff.1 hx).1
        simp only [show ((posE (a, b) l : Nat) : Int) < (l.length : Int) by omega, hF1, foundE, hB.get0 hx, hB.get1 hx, reF, reG, hx, Alt_iff, Need_iff, ltI_eq, leI_eq, eqI_eq, leN_eq, eqN_eq, decide_eq_true_eq, decide_eq_false_iff_not, decide_true, decide_false, true_and, and_true, Bool.true_eq_false, Bool.false_eq_true, false_implies, true_implies, implies_true, not_true_eq_false, not_false_eq_true, Bool.not_eq_true', Bool.not_eq_false', Nat.zero_add, Nat.add_zero, Nat.sub_zero, Nat.zero_mul, Nat.mul_one, Int.toNat_natCast, List.drop_zero, beqV_int, beqV_sl, beqV_str, beqV_bool, beqV_ptr, beqV_flt, beqV_agg, beqV_tuple, List.all_cons, List.all_nil, Bool.and_self, Bool.and_true, Bool.true_and, Nat.le_refl, Int.le_refl, Nat.zero_le, Option.getD_some, isStr, strV, isInt, intV, isBool, boolV, kindEq, at0, isJunk, Option.isSome_some, Option.isSome_none, if_true, if_false, Nat.add_sub_cancel_left, Nat.add_sub_cancel]
        skip
    · exact hx.elim
  · exact hp.elim
end Go.Proofs.Ytmgnlkefhmhkhaa

namespace Go.Proofs.Ytmgnlkefhmhkhaa
open Go.RowKit Go.Proofs.Ytmgnlkefhmhkhaa.AM
set_option maxRecDepth 100000
set_option maxHeartbeats 4000000
noncomputable def body1314 : Code := (Try.f21.body).getD .skip
def F1314 : List Nat → Option (List Nat) := fun p => match p with
  | [1] => some [0, 1, 2]
  | [1, 1] => some [0, 1, 2]
  | [1, 1, 1] => some [0, 1, 2, 7]
  | [1, 0, 1, 1, 1] => some [0, 1, 2, 7, 16]
  | [1, 0, 1, 0, 1, 1, 1] => some [6]
  | [1, 1, 1, 1] => some [0, 1, 2, 7]
  | [1, 1, 1, 1, 1] => some [0, 1, 2, 7, 8]
  | [1, 0, 1, 1, 1, 1, 1] => some [0, 1, 2, 7, 8, 22]
  | [1, 0, 1, 0, 1, 1, 1, 1, 1] => some [6]
  | [1, 1, 1, 1, 1, 1] => some [0, 1, 2, 7, 8]
  | [1, 0, 1, 1, 1, 1, 1, 1] => some [0, 1, 2, 7, 8, 31]
  | [1, 0, 1, 0, 1, 1, 1, 1, 1, 1] => some [0, 1, 2, 7, 9]
  | [1, 1, 0, 1, 0, 1, 1, 1, 1, 1, 1] => some [0, 1, 7, 9]
  | [1, 1, 1, 0, 1, 0, 1, 1, 1, 1, 1, 1] => some [9]
  | [1, 1, 1, 1, 0, 1, 0, 1, 1, 1, 1, 1, 1] => some [6]
  | [1, 1, 1, 1, 1, 1, 1] => some [0, 1, 2, 7, 8]
  | [1, 1, 1, 1, 1, 1, 1, 1] => some [0, 1, 2, 7, 8]
  | [1, 0, 1, 1, 1, 1, 1, 1, 1, 1] => some [0, 1, 2, 7, 8, 68]
  | [1, 0, 1, 0, 1, 1, 1, 1, 1, 1, 1, 1] => some [0, 1, 2]
  | [1, 1, 0, 1, 0, 1, 1, 1, 1, 1, 1, 1, 1] => some [0]
  | [1, 1, 1, 0, 1, 0, 1, 1, 1, 1, 1, 1, 1, 1] => some [6]
  | [1, 1, 1, 1, 1, 1, 1, 1, 1] => some [0, 1, 2, 7, 8]
  | [1, 1, 1, 1, 1, 1, 1, 1, 1, 1] => some [0, 1, 7]
  | [1, 1, 1, 1, 1, 1, 1, 1, 1, 1, 1] => some [0]
  | [1, 1, 1, 1, 1, 1, 1, 1, 1, 1, 1, 1] => some [6]
  | _ => none
theorem isLap : IsLap Try.prog 30 52 4 56 2 := ⟨Try.underlying52, Try.sizeOf56, fun args w => run_callFunc_extern Try.func30 (by kernel_rfl) (by kernel_rfl) (by kernel_rfl) (e := Extern.SlicesOverlaps.overlaps #[52, 52] #[4]) (by kernel_rfl) args w⟩
noncomputable def S1314 : Book := bookS [(30, lapS)] S0
theorem sure1314 (hm : Try.prog.follows .mixedOrders = true) : Sure Try.prog S1314 := Sure.withS (sure0 hm) (l := [(30, lapS)]) ⟨lap_ok isLap, trivial⟩

theorem w1314a (n k : Nat) (cs : List Value) (d o : Int) (K : Value → Heap → Prop) :
  funX Try.prog S1314 noLoop F1314 body1314 Try.f21 [] [.tmp 0 2] [.slice (some ⟨0,0,some 1⟩) n k, .int .i64 n, .slice (some ⟨1,0,some 0⟩) 1 1] (hp (hE cs d o)) K = (
Need (leI (↑n : Int) (↑n : Int))
  (Need (eqI (↑n : Int) (↑n : Int))
    (Need (leN (0 + n * 2) cs.length)
      (Need (leN ((n + 1) * 16) 1099511627776)
        (Need (leN (n + 1) 1099511627776)
          (K (Value.slice (some { block := 2, off := 0, spot := some 1 : Addr }) (n + 1) (n + 1))
            (hp
              [Blk.dead, Blk.cells [Value.int IntKind.u64 d, Value.int IntKind.i64 o] 2 true,
                Blk.cells (List.take (n * 2) (List.drop 0 cs) ++ [Value.int IntKind.u64 d, Value.int IntKind.i64 o]) 2
                  true]))))))) := by kernel_rfl

theorem w1314b (n k i : Nat) (cs : List Value) (d o : Int) (K : Value → Heap → Prop) :
  funX Try.prog S1314 noLoop F1314 body1314 Try.f21 [] [.tmp 0 2] [.slice (some ⟨0,0,some 5⟩) n k, .int .i64 i, .slice (some ⟨1,0,some 0⟩) 1 1] (hp (hE cs d o)) K = (
Need (leI (↑i : Int) (↑n : Int)) (Alt (eqI (↑i : Int) (↑n : Int)) (Need (leN (0 + n * 2) cs.length) (Alt (leN (n + 1) k) (Need (leN (0 + n * 2 + 2) cs.length) (K (Value.slice (some
{ block := 0, off := 0, spot := some 1 : Addr }) (n + 1) k) (hp [Blk.cells (setAll cs (0 + n * 2) [Value.int IntKind.u64 d, Value.int IntKind.i64 o]) 2 true, Blk.cells [Value.int IntKind.u64 d, Value.int IntKind.i64 o] 2
true]))) (Need (leN ((n + 1) * 16) 1099511627776) (Need (leN (n + 1) 1099511627776) (K (Value.slice (some { block := 2, off := 0, spot := some 1 : Addr }) (n + 1) (n + 1)) (hp [Blk.cells cs 2 true, Blk.cells [Value.int
IntKind.u64 d, Value.int IntKind.i64 o] 2 true, Blk.cells (List.take (n * 2) (List.drop 0 cs) ++ [Value.int IntKind.u64 d, Value.int IntKind.i64 o]) 2 true])))))) (Alt (ltI (↑k : Int) (wr IntKind.i64 ((↑n : Int) + 1)))
(Need (leI (↑i : Int) (↑k : Int)) (Need (leI 0 (wr IntKind.i64 (wr IntKind.i64 ((↑n : Int) + 1) - (↑i : Int)))) (Need (leI (wr IntKind.i64 (wr IntKind.i64 ((↑n : Int) + 1) - (↑i : Int))) 1099511627776) (Need (leI (wr
IntKind.i64 (wr IntKind.i64 ((↑n : Int) + 1) - (↑i : Int)) * 16) 1099511627776) (Need (leN (0 + ((↑i : Int).toNat - 0) * 2) cs.length) (Alt (leN ((↑i : Int).toNat - 0 + (wr IntKind.i64 (wr IntKind.i64 ((↑n : Int) + 1) -
(↑i : Int))).toNat) (k - 0)) (Alt (eqN (wr IntKind.i64 (wr IntKind.i64 ((↑n : Int) + 1) - (↑i : Int))).toNat 0) (Need (leI (↑i : Int) (↑((↑i : Int).toNat - 0) : Int)) (Need (leN (0 + Nat.min 1 ((↑i : Int).toNat - 0 - (↑i
: Int).toNat) * 2) 2) (Alt (eqN (Nat.min 1 ((↑i : Int).toNat - 0 - (↑i : Int).toNat)) 0) (Need (leI 0 (wr IntKind.i64 ((↑i : Int) + 1))) (Need (leI (wr IntKind.i64 ((↑i : Int) + 1)) (↑((↑i : Int).toNat - 0) : Int)) (Need
(leI (↑i : Int) (↑n : Int)) (Need (leN (0 + (↑i : Int).toNat * 2 + (n - (↑i : Int).toNat).min ((↑i : Int).toNat - 0 - (wr IntKind.i64 ((↑i : Int) + 1)).toNat) * 2) cs.length) (Alt (eqN ((n - (↑i : Int).toNat).min ((↑i :
Int).toNat - 0 - (wr IntKind.i64 ((↑i : Int) + 1)).toNat)) 0) (K (Value.slice (some { block := 0, off := 0, spot := some 1 : Addr }) ((↑i : Int).toNat - 0) (k - 0)) (hp [Blk.cells cs 2 true, Blk.cells [Value.int
IntKind.u64 d, Value.int IntKind.i64 o] 2 true])) (Need (leN (0 + (wr IntKind.i64 ((↑i : Int) + 1)).toNat * 2) cs.length) (Need ((List.take ((n - (↑i : Int).toNat).min ((↑i : Int).toNat - 0 - (wr IntKind.i64 ((↑i : Int)
+ 1)).toNat) * 2) (List.drop (0 + (↑i : Int).toNat * 2) cs)).all oneV) (K (Value.slice (some { block := 0, off := 0, spot := some 1 : Addr }) ((↑i : Int).toNat - 0) (k - 0)) (hp [Blk.cells (extL cs (0 + (wr IntKind.i64
((↑i : Int) + 1)).toNat * 2) (List.take ((n - (↑i : Int).toNat).min ((↑i : Int).toNat - 0 - (wr IntKind.i64 ((↑i : Int) + 1)).toNat) * 2) (List.drop (0 + (↑i : Int).toNat * 2) cs))) 2 true, Blk.cells [Value.int
IntKind.u64 d, Value.int IntKind.i64 o] 2 true]))))))))) (Need (leN (0 + (↑i : Int).toNat * 2) cs.length) (Need ((List.take (Nat.min 1 ((↑i : Int).toNat - 0 - (↑i : Int).toNat) * 2) [Value.int IntKind.u64 d, Value.int
IntKind.i64 o]).all oneV) (Need (leI 0 (wr IntKind.i64 ((↑i : Int) + 1))) (Need (leI (wr IntKind.i64 ((↑i : Int) + 1)) (↑((↑i : Int).toNat - 0) : Int)) (Need (leI (↑i : Int) (↑n : Int)) (Need (leN (0 + (↑i : Int).toNat *
2 + (n - (↑i : Int).toNat).min ((↑i : Int).toNat - 0 - (wr IntKind.i64 ((↑i : Int) + 1)).toNat) * 2) (extL cs (0 + (↑i : Int).toNat * 2) (List.take (Nat.min 1 ((↑i : Int).toNat - 0 - (↑i : Int).toNat) * 2) [Value.int
IntKind.u64 d, Value.int IntKind.i64 o])).length) (Alt (eqN ((n - (↑i : Int).toNat).min ((↑i : Int).toNat - 0 - (wr IntKind.i64 ((↑i : Int) + 1)).toNat)) 0) (K (Value.slice (some
{ block := 0, off := 0, spot := some 1 : Addr }) ((↑i : Int).toNat - 0) (k - 0)) (hp [Blk.cells (extL cs (0 + (↑i : Int).toNat * 2) (List.take (Nat.min 1 ((↑i : Int).toNat - 0 - (↑i : Int).toNat) * 2) [Value.int
IntKind.u64 d, Value.int IntKind.i64 o])) 2 true, Blk.cells [Value.int IntKind.u64 d, Value.int IntKind.i64 o] 2 true])) (Need (leN (0 + (wr IntKind.i64 ((↑i : Int) + 1)).toNat * 2) (extL cs (0 + (↑i : Int).toNat * 2)
(List.take (Nat.min 1 ((↑i : Int).toNat - 0 - (↑i : Int).toNat) * 2) [Value.int IntKind.u64 d, Value.int IntKind.i64 o])).length) (Need ((List.take ((n - (↑i : Int).toNat).min ((↑i : Int).toNat - 0 - (wr IntKind.i64 ((↑i
: Int) + 1)).toNat) * 2) (List.drop (0 + (↑i : Int).toNat * 2) (extL cs (0 + (↑i : Int).toNat * 2) (List.take (Nat.min 1 ((↑i : Int).toNat - 0 - (↑i : Int).toNat) * 2) [Value.int IntKind.u64 d, Value.int IntKind.i64
o])))).all oneV) (K (Value.slice (some { block := 0, off := 0, spot := some 1 : Addr }) ((↑i : Int).toNat - 0) (k - 0)) (hp [Blk.cells (extL (extL cs (0 + (↑i : Int).toNat * 2) (List.take (Nat.min 1 ((↑i : Int).toNat - 0
- (↑i : Int).toNat) * 2) [Value.int IntKind.u64 d, Value.int IntKind.i64 o])) (0 + (wr IntKind.i64 ((↑i : Int) + 1)).toNat * 2) (List.take ((n - (↑i : Int).toNat).min ((↑i : Int).toNat - 0 - (wr IntKind.i64 ((↑i : Int) +
1)).toNat) * 2) (List.drop (0 + (↑i : Int).toNat * 2) (extL cs (0 + (↑i : Int).toNat * 2) (List.take (Nat.min 1 ((↑i : Int).toNat - 0 - (↑i : Int).toNat) * 2) [Value.int IntKind.u64 d, Value.int IntKind.i64 o]))))) 2
true, Blk.cells [Value.int IntKind.u64 d, Value.int IntKind.i64 o] 2 true])))))))))))))) (Need (leN (0 + ((↑i : Int).toNat - 0) * 2 + (repl (wr IntKind.i64 (wr IntKind.i64 ((↑n : Int) + 1) - (↑i : Int))).toNat [Value.int
IntKind.u64 0, Value.int IntKind.i64 0]).length) cs.length) (Need ((repl (wr IntKind.i64 (wr IntKind.i64 ((↑n : Int) + 1) - (↑i : Int))).toNat [Value.int IntKind.u64 0, Value.int IntKind.i64 0]).all oneV) (Need (leI (↑i
: Int) (↑((↑i : Int).toNat - 0 + (wr IntKind.i64 (wr IntKind.i64 ((↑n : Int) + 1) - (↑i : Int))).toNat) : Int)) (Need (leN (0 + Nat.min 1 ((↑i : Int).toNat - 0 + (wr IntKind.i64 (wr IntKind.i64 ((↑n : Int) + 1) - (↑i :
Int))).toNat - (↑i : Int).toNat) * 2) 2) (Alt (eqN (Nat.min 1 ((↑i : Int).toNat - 0 + (wr IntKind.i64 (wr IntKind.i64 ((↑n : Int) + 1) - (↑i : Int))).toNat - (↑i : Int).toNat)) 0) (Need (leI 0 (wr IntKind.i64 ((↑i : Int)
+ 1))) (Need (leI (wr IntKind.i64 ((↑i : Int) + 1)) (↑((↑i : Int).toNat - 0 + (wr IntKind.i64 (wr IntKind.i64 ((↑n : Int) + 1) - (↑i : Int))).toNat) : Int)) (Need (leI (↑i : Int) (↑n : Int)) (Need (leN (0 + (↑i :
Int).toNat * 2 + (n - (↑i : Int).toNat).min ((↑i : Int).toNat - 0 + (wr IntKind.i64 (wr IntKind.i64 ((↑n : Int) + 1) - (↑i : Int))).toNat - (wr IntKind.i64 ((↑i : Int) + 1)).toNat) * 2) (setAll cs (0 + ((↑i : Int).toNat
- 0) * 2) (repl (wr IntKind.i64 (wr IntKind.i64 ((↑n : Int) + 1) - (↑i : Int))).toNat [Value.int IntKind.u64 0, Value.int IntKind.i64 0])).length) (Alt (eqN ((n - (↑i : Int).toNat).min ((↑i : Int).toNat - 0 + (wr
IntKind.i64 (wr IntKind.i64 ((↑n : Int) + 1) - (↑i : Int))).toNat - (wr IntKind.i64 ((↑i : Int) + 1)).toNat)) 0) (K (Value.slice (some { block := 0, off := 0, spot := some 1 : Addr }) ((↑i : Int).toNat - 0 + (wr
IntKind.i64 (wr IntKind.i64 ((↑n : Int) + 1) - (↑i : Int))).toNat) (k - 0)) (hp [Blk.cells (setAll cs (0 + ((↑i : Int).toNat - 0) * 2) (repl (wr IntKind.i64 (wr IntKind.i64 ((↑n : Int) + 1) - (↑i : Int))).toNat
[Value.int IntKind.u64 0, Value.int IntKind.i64 0])) 2 true, Blk.cells [Value.int IntKind.u64 d, Value.int IntKind.i64 o] 2 true])) (Need (leN (0 + (wr IntKind.i64 ((↑i : Int) + 1)).toNat * 2) (setAll cs (0 + ((↑i :
Int).toNat - 0) * 2) (repl (wr IntKind.i64 (wr IntKind.i64 ((↑n : Int) + 1) - (↑i : Int))).toNat [Value.int IntKind.u64 0, Value.int IntKind.i64 0])).length) (Need ((List.take ((n - (↑i : Int).toNat).min ((↑i :
Int).toNat - 0 + (wr IntKind.i64 (wr IntKind.i64 ((↑n : Int) + 1) - (↑i : Int))).toNat - (wr IntKind.i64 ((↑i : Int) + 1)).toNat) * 2) (List.drop (0 + (↑i : Int).toNat * 2) (setAll cs (0 + ((↑i : Int).toNat - 0) * 2)
(repl (wr IntKind.i64 (wr IntKind.i64 ((↑n : Int) + 1) - (↑i : Int))).toNat [Value.int IntKind.u64 0, Value.int IntKind.i64 0])))).all oneV) (K (Value.slice (some { block := 0, off := 0, spot := some 1 : Addr }) ((↑i :
Int).toNat - 0 + (wr IntKind.i64 (wr IntKind.i64 ((↑n : Int) + 1) - (↑i : Int))).toNat) (k - 0)) (hp [Blk.cells (extL (setAll cs (0 + ((↑i : Int).toNat - 0) * 2) (repl (wr IntKind.i64 (wr IntKind.i64 ((↑n : Int) + 1) -
(↑i : Int))).toNat [Value.int IntKind.u64 0, Value.int IntKind.i64 0])) (0 + (wr IntKind.i64 ((↑i : Int) + 1)).toNat * 2) (List.take ((n - (↑i : Int).toNat).min ((↑i : Int).toNat - 0 + (wr IntKind.i64 (wr IntKind.i64
((↑n : Int) + 1) - (↑i : Int))).toNat - (wr IntKind.i64 ((↑i : Int) + 1)).toNat) * 2) (List.drop (0 + (↑i : Int).toNat * 2) (setAll cs (0 + ((↑i : Int).toNat - 0) * 2) (repl (wr IntKind.i64 (wr IntKind.i64 ((↑n : Int) +
1) - (↑i : Int))).toNat [Value.int IntKind.u64 0, Value.int IntKind.i64 0]))))) 2 true, Blk.cells [Value.int IntKind.u64 d, Value.int IntKind.i64 o] 2 true]))))))))) (Need (leN (0 + (↑i : Int).toNat * 2) (setAll cs (0 +
((↑i : Int).toNat - 0) * 2) (repl (wr IntKind.i64 (wr IntKind.i64 ((↑n : Int) + 1) - (↑i : Int))).toNat [Value.int IntKind.u64 0, Value.int IntKind.i64 0])).length) (Need ((List.take (Nat.min 1 ((↑i : Int).toNat - 0 +
(wr IntKind.i64 (wr IntKind.i64 ((↑n : Int) + 1) - (↑i : Int))).toNat - (↑i : Int).toNat) * 2) [Value.int IntKind.u64 d, Value.int IntKind.i64 o]).all oneV) (Need (leI 0 (wr IntKind.i64 ((↑i : Int) + 1))) (Need (leI (wr
IntKind.i64 ((↑i : Int) + 1)) (↑((↑i : Int).toNat - 0 + (wr IntKind.i64 (wr IntKind.i64 ((↑n : Int) + 1) - (↑i : Int))).toNat) : Int)) (Need (leI (↑i : Int) (↑n : Int)) (Need (leN (0 + (↑i : Int).toNat * 2 + (n - (↑i :
Int).toNat).min ((↑i : Int).toNat - 0 + (wr IntKind.i64 (wr IntKind.i64 ((↑n : Int) + 1) - (↑i : Int))).toNat - (wr IntKind.i64 ((↑i : Int) + 1)).toNat) * 2) (extL (setAll cs (0 + ((↑i : Int).toNat - 0) * 2) (repl (wr
IntKind.i64 (wr IntKind.i64 ((↑n : Int) + 1) - (↑i : Int))).toNat [Value.int IntKind.u64 0, Value.int IntKind.i64 0])) (0 + (↑i : Int).toNat * 2) (List.take (Nat.min 1 ((↑i : Int).toNat - 0 + (wr IntKind.i64 (wr
IntKind.i64 ((↑n : Int) + 1) - (↑i : Int))).toNat - (↑i : Int).toNat) * 2) [Value.int IntKind.u64 d, Value.int IntKind.i64 o])).length) (Alt (eqN ((n - (↑i : Int).toNat).min ((↑i : Int).toNat - 0 + (wr IntKind.i64 (wr
IntKind.i64 ((↑n : Int) + 1) - (↑i : Int))).toNat - (wr IntKind.i64 ((↑i : Int) + 1)).toNat)) 0) (K (Value.slice (some { block := 0, off := 0, spot := some 1 : Addr }) ((↑i : Int).toNat - 0 + (wr IntKind.i64 (wr
IntKind.i64 ((↑n : Int) + 1) - (↑i : Int))).toNat) (k - 0)) (hp [Blk.cells (extL (setAll cs (0 + ((↑i : Int).toNat - 0) * 2) (repl (wr IntKind.i64 (wr IntKind.i64 ((↑n : Int) + 1) - (↑i : Int))).toNat [Value.int
IntKind.u64 0, Value.int IntKind.i64 0])) (0 + (↑i : Int).toNat * 2) (List.take (Nat.min 1 ((↑i : Int).toNat - 0 + (wr IntKind.i64 (wr IntKind.i64 ((↑n : Int) + 1) - (↑i : Int))).toNat - (↑i : Int).toNat) * 2) [Value.int
IntKind.u64 d, Value.int IntKind.i64 o])) 2 true, Blk.cells [Value.int IntKind.u64 d, Value.int IntKind.i64 o] 2 true])) (Need (leN (0 + (wr IntKind.i64 ((↑i : Int) + 1)).toNat * 2) (extL (setAll cs (0 + ((↑i :
Int).toNat - 0) * 2) (repl (wr IntKind.i64 (wr IntKind.i64 ((↑n : Int) + 1) - (↑i : Int))).toNat [Value.int IntKind.u64 0, Value.int IntKind.i64 0])) (0 + (↑i : Int).toNat * 2) (List.take (Nat.min 1 ((↑i : Int).toNat - 0
+ (wr IntKind.i64 (wr IntKind.i64 ((↑n : Int) + 1) - (↑i : Int))).toNat - (↑i : Int).toNat) * 2) [Value.int IntKind.u64 d, Value.int IntKind.i64 o])).length) (Need ((List.take ((n - (↑i : Int).toNat).min ((↑i :
Int).toNat - 0 + (wr IntKind.i64 (wr IntKind.i64 ((↑n : Int) + 1) - (↑i : Int))).toNat - (wr IntKind.i64 ((↑i : Int) + 1)).toNat) * 2) (List.drop (0 + (↑i : Int).toNat * 2) (extL (setAll cs (0 + ((↑i : Int).toNat - 0) *
2) (repl (wr IntKind.i64 (wr IntKind.i64 ((↑n : Int) + 1) - (↑i : Int))).toNat [Value.int IntKind.u64 0, Value.int IntKind.i64 0])) (0 + (↑i : Int).toNat * 2) (List.take (Nat.min 1 ((↑i : Int).toNat - 0 + (wr IntKind.i64
(wr IntKind.i64 ((↑n : Int) + 1) - (↑i : Int))).toNat - (↑i : Int).toNat) * 2) [Value.int IntKind.u64 d, Value.int IntKind.i64 o])))).all oneV) (K (Value.slice (some { block := 0, off := 0, spot := some 1 : Addr }) ((↑i
: Int).toNat - 0 + (wr IntKind.i64 (wr IntKind.i64 ((↑n : Int) + 1) - (↑i : Int))).toNat) (k - 0)) (hp [Blk.cells (extL (extL (setAll cs (0 + ((↑i : Int).toNat - 0) * 2) (repl (wr IntKind.i64 (wr IntKind.i64 ((↑n : Int)
+ 1) - (↑i : Int))).toNat [Value.int IntKind.u64 0, Value.int IntKind.i64 0])) (0 + (↑i : Int).toNat * 2) (List.take (Nat.min 1 ((↑i : Int).toNat - 0 + (wr IntKind.i64 (wr IntKind.i64 ((↑n : Int) + 1) - (↑i :
Int))).toNat - (↑i : Int).toNat) * 2) [Value.int IntKind.u64 d, Value.int IntKind.i64 o])) (0 + (wr IntKind.i64 ((↑i : Int) + 1)).toNat * 2) (List.take ((n - (↑i : Int).toNat).min ((↑i : Int).toNat - 0 + (wr IntKind.i64
(wr IntKind.i64 ((↑n : Int) + 1) - (↑i : Int))).toNat - (wr IntKind.i64 ((↑i : Int) + 1)).toNat) * 2) (List.drop (0 + (↑i : Int).toNat * 2) (extL (setAll cs (0 + ((↑i : Int).toNat - 0) * 2) (repl (wr IntKind.i64 (wr
IntKind.i64 ((↑n : Int) + 1) - (↑i : Int))).toNat [Value.int IntKind.u64 0, Value.int IntKind.i64 0])) (0 + (↑i : Int).toNat * 2) (List.take (Nat.min 1 ((↑i : Int).toNat - 0 + (wr IntKind.i64 (wr IntKind.i64 ((↑n : Int)
+ 1) - (↑i : Int))).toNat - (↑i : Int).toNat) * 2) [Value.int IntKind.u64 d, Value.int IntKind.i64 o]))))) 2 true, Blk.cells [Value.int IntKind.u64 d, Value.int IntKind.i64 o] 2 true]))))))))))))))))) (Need (leN (((↑i :
Int).toNat - 0 + (wr IntKind.i64 (wr IntKind.i64 ((↑n : Int) + 1) - (↑i : Int))).toNat) * 16) 1099511627776) (Need (leN ((↑i : Int).toNat - 0 + (wr IntKind.i64 (wr IntKind.i64 ((↑n : Int) + 1) - (↑i : Int))).toNat)
1099511627776) (Need (leI (↑i : Int) (↑((↑i : Int).toNat - 0 + (wr IntKind.i64 (wr IntKind.i64 ((↑n : Int) + 1) - (↑i : Int))).toNat) : Int)) (Need (leN (0 + Nat.min 1 ((↑i : Int).toNat - 0 + (wr IntKind.i64 (wr
IntKind.i64 ((↑n : Int) + 1) - (↑i : Int))).toNat - (↑i : Int).toNat) * 2) 2) (Alt (eqN (Nat.min 1 ((↑i : Int).toNat - 0 + (wr IntKind.i64 (wr IntKind.i64 ((↑n : Int) + 1) - (↑i : Int))).toNat - (↑i : Int).toNat)) 0)
(Need (leI 0 (wr IntKind.i64 ((↑i : Int) + 1))) (Need (leI (wr IntKind.i64 ((↑i : Int) + 1)) (↑((↑i : Int).toNat - 0 + (wr IntKind.i64 (wr IntKind.i64 ((↑n : Int) + 1) - (↑i : Int))).toNat) : Int)) (Need (leI (↑i : Int)
(↑n : Int)) (Need (leN (0 + (↑i : Int).toNat * 2 + (n - (↑i : Int).toNat).min ((↑i : Int).toNat - 0 + (wr IntKind.i64 (wr IntKind.i64 ((↑n : Int) + 1) - (↑i : Int))).toNat - (wr IntKind.i64 ((↑i : Int) + 1)).toNat) * 2)
cs.length) (Alt (eqN ((n - (↑i : Int).toNat).min ((↑i : Int).toNat - 0 + (wr IntKind.i64 (wr IntKind.i64 ((↑n : Int) + 1) - (↑i : Int))).toNat - (wr IntKind.i64 ((↑i : Int) + 1)).toNat)) 0) (K (Value.slice (some
{ block := 2, off := 0, spot := some 1 : Addr }) ((↑i : Int).toNat - 0 + (wr IntKind.i64 (wr IntKind.i64 ((↑n : Int) + 1) - (↑i : Int))).toNat) ((↑i : Int).toNat - 0 + (wr IntKind.i64 (wr IntKind.i64 ((↑n : Int) + 1) -
(↑i : Int))).toNat)) (hp [Blk.cells cs 2 true, Blk.cells [Value.int IntKind.u64 d, Value.int IntKind.i64 o] 2 true, Blk.cells (List.take (((↑i : Int).toNat - 0) * 2) (List.drop 0 cs) ++ repl (wr IntKind.i64 (wr
IntKind.i64 ((↑n : Int) + 1) - (↑i : Int))).toNat [Value.int IntKind.u64 0, Value.int IntKind.i64 0]) 2 true])) (Need (leN (0 + (wr IntKind.i64 ((↑i : Int) + 1)).toNat * 2 + (List.take ((n - (↑i : Int).toNat).min ((↑i :
Int).toNat - 0 + (wr IntKind.i64 (wr IntKind.i64 ((↑n : Int) + 1) - (↑i : Int))).toNat - (wr IntKind.i64 ((↑i : Int) + 1)).toNat) * 2) (List.drop (0 + (↑i : Int).toNat * 2) cs)).length) (List.take (((↑i : Int).toNat - 0)
* 2) (List.drop 0 cs) ++ repl (wr IntKind.i64 (wr IntKind.i64 ((↑n : Int) + 1) - (↑i : Int))).toNat [Value.int IntKind.u64 0, Value.int IntKind.i64 0]).length) (Need ((List.take ((n - (↑i : Int).toNat).min ((↑i :
Int).toNat - 0 + (wr IntKind.i64 (wr IntKind.i64 ((↑n : Int) + 1) - (↑i : Int))).toNat - (wr IntKind.i64 ((↑i : Int) + 1)).toNat) * 2) (List.drop (0 + (↑i : Int).toNat * 2) cs)).all oneV) (K (Value.slice (some
{ block := 2, off := 0, spot := some 1 : Addr }) ((↑i : Int).toNat - 0 + (wr IntKind.i64 (wr IntKind.i64 ((↑n : Int) + 1) - (↑i : Int))).toNat) ((↑i : Int).toNat - 0 + (wr IntKind.i64 (wr IntKind.i64 ((↑n : Int) + 1) -
(↑i : Int))).toNat)) (hp [Blk.cells cs 2 true, Blk.cells [Value.int IntKind.u64 d, Value.int IntKind.i64 o] 2 true, Blk.cells (setAll (List.take (((↑i : Int).toNat - 0) * 2) (List.drop 0 cs) ++ repl (wr IntKind.i64 (wr
IntKind.i64 ((↑n : Int) + 1) - (↑i : Int))).toNat [Value.int IntKind.u64 0, Value.int IntKind.i64 0]) (0 + (wr IntKind.i64 ((↑i : Int) + 1)).toNat * 2) (List.take ((n - (↑i : Int).toNat).min ((↑i : Int).toNat - 0 + (wr
IntKind.i64 (wr IntKind.i64 ((↑n : Int) + 1) - (↑i : Int))).toNat - (wr IntKind.i64 ((↑i : Int) + 1)).toNat) * 2) (List.drop (0 + (↑i : Int).toNat * 2) cs))) 2 true]))))))))) (Need (leN (0 + (↑i : Int).toNat * 2 +
(List.take (Nat.min 1 ((↑i : Int).toNat - 0 + (wr IntKind.i64 (wr IntKind.i64 ((↑n : Int) + 1) - (↑i : Int))).toNat - (↑i : Int).toNat) * 2) [Value.int IntKind.u64 d, Value.int IntKind.i64 o]).length) (List.take (((↑i :
Int).toNat - 0) * 2) (List.drop 0 cs) ++ repl (wr IntKind.i64 (wr IntKind.i64 ((↑n : Int) + 1) - (↑i : Int))).toNat [Value.int IntKind.u64 0, Value.int IntKind.i64 0]).length) (Need ((List.take (Nat.min 1 ((↑i :
Int).toNat - 0 + (wr IntKind.i64 (wr IntKind.i64 ((↑n : Int) + 1) - (↑i : Int))).toNat - (↑i : Int).toNat) * 2) [Value.int IntKind.u64 d, Value.int IntKind.i64 o]).all oneV) (Need (leI 0 (wr IntKind.i64 ((↑i : Int) +
1))) (Need (leI (wr IntKind.i64 ((↑i : Int) + 1)) (↑((↑i : Int).toNat - 0 + (wr IntKind.i64 (wr IntKind.i64 ((↑n : Int) + 1) - (↑i : Int))).toNat) : Int)) (Need (leI (↑i : Int) (↑n : Int)) (Need (leN (0 + (↑i :
Int).toNat * 2 + (n - (↑i : Int).toNat).min ((↑i : Int).toNat - 0 + (wr IntKind.i64 (wr IntKind.i64 ((↑n : Int) + 1) - (↑i : Int))).toNat - (wr IntKind.i64 ((↑i : Int) + 1)).toNat) * 2) cs.length) (Alt (eqN ((n - (↑i :
Int).toNat).min ((↑i : Int).toNat - 0 + (wr IntKind.i64 (wr IntKind.i64 ((↑n : Int) + 1) - (↑i : Int))).toNat - (wr IntKind.i64 ((↑i : Int) + 1)).toNat)) 0) (K (Value.slice (some
{ block := 2, off := 0, spot := some 1 : Addr }) ((↑i : Int).toNat - 0 + (wr IntKind.i64 (wr IntKind.i64 ((↑n : Int) + 1) - (↑i : Int))).toNat) ((↑i : Int).toNat - 0 + (wr IntKind.i64 (wr IntKind.i64 ((↑n : Int) + 1) -
(↑i : Int))).toNat)) (hp [Blk.cells cs 2 true, Blk.cells [Value.int IntKind.u64 d, Value.int IntKind.i64 o] 2 true, Blk.cells (setAll (List.take (((↑i : Int).toNat - 0) * 2) (List.drop 0 cs) ++ repl (wr IntKind.i64 (wr
IntKind.i64 ((↑n : Int) + 1) - (↑i : Int))).toNat [Value.int IntKind.u64 0, Value.int IntKind.i64 0]) (0 + (↑i : Int).toNat * 2) (List.take (Nat.min 1 ((↑i : Int).toNat - 0 + (wr IntKind.i64 (wr IntKind.i64 ((↑n : Int) +
1) - (↑i : Int))).toNat - (↑i : Int).toNat) * 2) [Value.int IntKind.u64 d, Value.int IntKind.i64 o])) 2 true])) (Need (leN (0 + (wr IntKind.i64 ((↑i : Int) + 1)).toNat * 2 + (List.take ((n - (↑i : Int).toNat).min ((↑i :
Int).toNat - 0 + (wr IntKind.i64 (wr IntKind.i64 ((↑n : Int) + 1) - (↑i : Int))).toNat - (wr IntKind.i64 ((↑i : Int) + 1)).toNat) * 2) (List.drop (0 + (↑i : Int).toNat * 2) cs)).length) (setAll (List.take (((↑i :
Int).toNat - 0) * 2) (List.drop 0 cs) ++ repl (wr IntKind.i64 (wr IntKind.i64 ((↑n : Int) + 1) - (↑i : Int))).toNat [Value.int IntKind.u64 0, Value.int IntKind.i64 0]) (0 + (↑i : Int).toNat * 2) (List.take (Nat.min 1
((↑i : Int).toNat - 0 + (wr IntKind.i64 (wr IntKind.i64 ((↑n : Int) + 1) - (↑i : Int))).toNat - (↑i : Int).toNat) * 2) [Value.int IntKind.u64 d, Value.int IntKind.i64 o])).length) (Need ((List.take ((n - (↑i :
Int).toNat).min ((↑i : Int).toNat - 0 + (wr IntKind.i64 (wr IntKind.i64 ((↑n : Int) + 1) - (↑i : Int))).toNat - (wr IntKind.i64 ((↑i : Int) + 1)).toNat) * 2) (List.drop (0 + (↑i : Int).toNat * 2) cs)).all oneV) (K
(Value.slice (some { block := 2, off := 0, spot := some 1 : Addr }) ((↑i : Int).toNat - 0 + (wr IntKind.i64 (wr IntKind.i64 ((↑n : Int) + 1) - (↑i : Int))).toNat) ((↑i : Int).toNat - 0 + (wr IntKind.i64 (wr IntKind.i64
((↑n : Int) + 1) - (↑i : Int))).toNat)) (hp [Blk.cells cs 2 true, Blk.cells [Value.int IntKind.u64 d, Value.int IntKind.i64 o] 2 true, Blk.cells (setAll (setAll (List.take (((↑i : Int).toNat - 0) * 2) (List.drop 0 cs) ++
repl (wr IntKind.i64 (wr IntKind.i64 ((↑n : Int) + 1) - (↑i : Int))).toNat [Value.int IntKind.u64 0, Value.int IntKind.i64 0]) (0 + (↑i : Int).toNat * 2) (List.take (Nat.min 1 ((↑i : Int).toNat - 0 + (wr IntKind.i64 (wr
IntKind.i64 ((↑n : Int) + 1) - (↑i : Int))).toNat - (↑i : Int).toNat) * 2) [Value.int IntKind.u64 d, Value.int IntKind.i64 o])) (0 + (wr IntKind.i64 ((↑i : Int) + 1)).toNat * 2) (List.take ((n - (↑i : Int).toNat).min
((↑i : Int).toNat - 0 + (wr IntKind.i64 (wr IntKind.i64 ((↑n : Int) + 1) - (↑i : Int))).toNat - (wr IntKind.i64 ((↑i : Int) + 1)).toNat) * 2) (List.drop (0 + (↑i : Int).toNat * 2) cs))) 2 true]))))))))))))))))))))))
(Need (leI 0 (wr IntKind.i64 ((↑n : Int) + 1))) (Need (leI (wr IntKind.i64 ((↑n : Int) + 1)) (↑k : Int)) (Need (leI 0 (wr IntKind.i64 ((↑i : Int) + 1))) (Need (leI (wr IntKind.i64 ((↑i : Int) + 1)) (↑((wr IntKind.i64
((↑n : Int) + 1)).toNat - 0) : Int)) (Need (leI 0 (wr IntKind.i64 ((↑i : Int) + 1))) (Need (leI (wr IntKind.i64 ((↑i : Int) + 1)) (↑((wr IntKind.i64 ((↑n : Int) + 1)).toNat - 0) : Int)) (Need (leI (↑i : Int) (↑((wr
IntKind.i64 ((↑n : Int) + 1)).toNat - 0) : Int)) (Need (leN (0 + (↑i : Int).toNat * 2 + ((wr IntKind.i64 ((↑n : Int) + 1)).toNat - 0 - (↑i : Int).toNat).min ((wr IntKind.i64 ((↑n : Int) + 1)).toNat - 0 - (wr IntKind.i64
((↑i : Int) + 1)).toNat) * 2) cs.length) (Alt (eqN (((wr IntKind.i64 ((↑n : Int) + 1)).toNat - 0 - (↑i : Int).toNat).min ((wr IntKind.i64 ((↑n : Int) + 1)).toNat - 0 - (wr IntKind.i64 ((↑i : Int) + 1)).toNat)) 0) (Need
(leI (↑i : Int) (↑((wr IntKind.i64 ((↑n : Int) + 1)).toNat - 0) : Int)) (Need (leN (0 + Nat.min 1 ((wr IntKind.i64 ((↑n : Int) + 1)).toNat - 0 - (↑i : Int).toNat) * 2) 2) (Alt (eqN (Nat.min 1 ((wr IntKind.i64 ((↑n : Int)
+ 1)).toNat - 0 - (↑i : Int).toNat)) 0) (K (Value.slice (some { block := 0, off := 0, spot := some 1 : Addr }) ((wr IntKind.i64 ((↑n : Int) + 1)).toNat - 0) (k - 0)) (hp [Blk.cells cs 2 true, Blk.cells [Value.int
IntKind.u64 d, Value.int IntKind.i64 o] 2 true])) (Need (leN (0 + (↑i : Int).toNat * 2) cs.length) (Need ((List.take (Nat.min 1 ((wr IntKind.i64 ((↑n : Int) + 1)).toNat - 0 - (↑i : Int).toNat) * 2) [Value.int IntKind.u64
d, Value.int IntKind.i64 o]).all oneV) (K (Value.slice (some { block := 0, off := 0, spot := some 1 : Addr }) ((wr IntKind.i64 ((↑n : Int) + 1)).toNat - 0) (k - 0)) (hp [Blk.cells (extL cs (0 + (↑i : Int).toNat * 2)
(List.take (Nat.min 1 ((wr IntKind.i64 ((↑n : Int) + 1)).toNat - 0 - (↑i : Int).toNat) * 2) [Value.int IntKind.u64 d, Value.int IntKind.i64 o])) 2 true, Blk.cells [Value.int IntKind.u64 d, Value.int IntKind.i64 o] 2
true]))))))) (Need (leN (0 + (wr IntKind.i64 ((↑i : Int) + 1)).toNat * 2) cs.length) (Need ((List.take (((wr IntKind.i64 ((↑n : Int) + 1)).toNat - 0 - (↑i : Int).toNat).min ((wr IntKind.i64 ((↑n : Int) + 1)).toNat - 0 -
(wr IntKind.i64 ((↑i : Int) + 1)).toNat) * 2) (List.drop (0 + (↑i : Int).toNat * 2) cs)).all oneV) (Need (leI (↑i : Int) (↑((wr IntKind.i64 ((↑n : Int) + 1)).toNat - 0) : Int)) (Need (leN (0 + Nat.min 1 ((wr IntKind.i64
((↑n : Int) + 1)).toNat - 0 - (↑i : Int).toNat) * 2) 2) (Alt (eqN (Nat.min 1 ((wr IntKind.i64 ((↑n : Int) + 1)).toNat - 0 - (↑i : Int).toNat)) 0) (K (Value.slice (some { block := 0, off := 0, spot := some 1 : Addr })
((wr IntKind.i64 ((↑n : Int) + 1)).toNat - 0) (k - 0)) (hp [Blk.cells (extL cs (0 + (wr IntKind.i64 ((↑i : Int) + 1)).toNat * 2) (List.take (((wr IntKind.i64 ((↑n : Int) + 1)).toNat - 0 - (↑i : Int).toNat).min ((wr
IntKind.i64 ((↑n : Int) + 1)).toNat - 0 - (wr IntKind.i64 ((↑i : Int) + 1)).toNat) * 2) (List.drop (0 + (↑i : Int).toNat * 2) cs))) 2 true, Blk.cells [Value.int IntKind.u64 d, Value.int IntKind.i64 o] 2 true])) (Need
(leN (0 + (↑i : Int).toNat * 2) (extL cs (0 + (wr IntKind.i64 ((↑i : Int) + 1)).toNat * 2) (List.take (((wr IntKind.i64 ((↑n : Int) + 1)).toNat - 0 - (↑i : Int).toNat).min ((wr IntKind.i64 ((↑n : Int) + 1)).toNat - 0 -
(wr IntKind.i64 ((↑i : Int) + 1)).toNat) * 2) (List.drop (0 + (↑i : Int).toNat * 2) cs))).length) (Need ((List.take (Nat.min 1 ((wr IntKind.i64 ((↑n : Int) + 1)).toNat - 0 - (↑i : Int).toNat) * 2) [Value.int IntKind.u64
d, Value.int IntKind.i64 o]).all oneV) (K (Value.slice (some { block := 0, off := 0, spot := some 1 : Addr }) ((wr IntKind.i64 ((↑n : Int) + 1)).toNat - 0) (k - 0)) (hp [Blk.cells (extL (extL cs (0 + (wr IntKind.i64 ((↑i
: Int) + 1)).toNat * 2) (List.take (((wr IntKind.i64 ((↑n : Int) + 1)).toNat - 0 - (↑i : Int).toNat).min ((wr IntKind.i64 ((↑n : Int) + 1)).toNat - 0 - (wr IntKind.i64 ((↑i : Int) + 1)).toNat) * 2) (List.drop (0 + (↑i :
Int).toNat * 2) cs))) (0 + (↑i : Int).toNat * 2) (List.take (Nat.min 1 ((wr IntKind.i64 ((↑n : Int) + 1)).toNat - 0 - (↑i : Int).toNat) * 2) [Value.int IntKind.u64 d, Value.int IntKind.i64 o])) 2 true, Blk.cells
[Value.int IntKind.u64 d, Value.int IntKind.i64 o] 2 true]))))))))))))))))))))) := by kernel_rfl

end Go.Proofs.Ytmgnlkefhmhkhaa

namespace Go.Proofs.Ytmgnlkefhmhkhaa
open Go.RowKit Go.Proofs.Ytmgnlkefhmhkhaa.AM
set_option maxRecDepth 100000
set_option maxHeartbeats 4000000
theorem extL_at : ∀ (vs cs : List Value) (o : Nat), o ≤ cs.length → extL cs o vs = cs.take o ++ (vs ++ cs.drop (o + vs.length)) := by
  intro vs
  induction vs with
  | nil => intro cs o h; simp [extL]
  | cons v vs ih =>
    intro cs o h
    have hp : (putX cs o v).length = max cs.length (o + 1) := by unfold putX; simp; omega
    rw [extL, ih _ _ (by rw [hp]; omega)]
    have h1 : (putX cs o v).take (o + 1) = cs.take o ++ [v] := by
      unfold putX
      rw [show cs.take o ++ v :: cs.drop (o + 1) = (cs.take o ++ [v]) ++ cs.drop (o + 1) by simp]
      rw [List.take_append_of_le_length (by simp; omega), List.take_of_length_le (by simp; omega)]
    have h2 : (putX cs o v).drop (o + 1 + vs.length) = cs.drop (o + (vs.length + 1)) := by
      unfold putX
      rw [show cs.take o ++ v :: cs.drop (o + 1) = (cs.take o ++ [v]) ++ cs.drop (o + 1) by simp]
      rw [List.drop_append, List.drop_eq_nil_of_le (by simp; omega), List.nil_append, List.drop_drop]
      congr 1
      simp; omega
    rw [h1, h2]
    simp
/-- what is put in -/
def insL (i : Nat) (e : Re) (L : List Re) : List Re := L.take i ++ e :: L.drop i
theorem insL_len (i : Nat) (e : Re) (L : List Re) (h : i ≤ L.length) : (insL i e L).length = L.length + 1 := by unfold insL; simp; omega
theorem insL_ok {i : Nat} {e : Re} {L : List Re} (he : ReOk e) (h : ∀ x ∈ L, ReOk x) : ∀ x ∈ insL i e L, ReOk x := fun x hx => by
  unfold insL at hx
  rcases List.mem_append.1 hx with hx | hx
  · exact h x (List.mem_of_mem_take hx)
  · rcases List.mem_cons.1 hx with rfl | hx
    · exact he
    · exact h x (List.mem_of_mem_drop hx)
theorem insL_cells (i : Nat) (e : Re) (L : List Re) : pC reF reG (insL i e L) = pC reF reG (L.take i) ++ ([.int .u64 e.1, .int .i64 e.2] ++ pC reF reG (L.drop i)) := by
  unfold insL
  rw [pC_append]; rfl
structure InsB (L : List Re) (i : Nat) (e : Re) (x : List Value × Nat) : Prop where
  is : IsRL (insL i e L) x.1 (L.length + 1) x.2
theorem insA (hmix : Try.prog.follows .mixedOrders = true) (k : Nat) (cs : List Value) (L : List Re) (d o : Int) (hB : RSl cs L) (hl : L.length ≤ 1000000) :
    FunSays Try.prog 21 [.slice (some ⟨0,0,some 1⟩) L.length k, .int .i64 L.length, .slice (some ⟨1,0,some 0⟩) 1 1] (hp (hE cs d o)) fun v h' => v = .slice (some ⟨2,0,some 1⟩) (L.length + 1) (L.length + 1) ∧ h' = hp [.dead, .cells [.int .u64 d, .int .i64 o] 2 true, .cells (pC reF reG (insL L.length (d, o) L)) 2 true] := by
  refine (sure1314 hmix).funX F1314 body1314 [] [.tmp 0 2] Try.func21 rfl noLoops ?_
  rw [w1314a]
  have e1 := hB.takeN L.length (Nat.le_refl _)
  have hsz := hB.size
  have e2 : pC reF reG (insL L.length (d, o) L) = pC reF reG L ++ [.int .u64 d, .int .i64 o] := by rw [insL_cells]; simp [pC]
  rw [List.take_length] at e1
  simp only [e1, e2, hsz, show (L.length + 1) * 16 ≤ 1099511627776 by omega, show L.length + 1 ≤ 1099511627776 by omega, Alt_iff, Need_iff, ltI_eq, leI_eq, eqI_eq, leN_eq, eqN_eq, decide_eq_true_eq, decide_eq_false_iff_not, decide_true, decide_false, true_and, and_true, Bool.true_eq_false, Bool.false_eq_true, false_implies, true_implies, implies_true, not_true_eq_false, not_false_eq_true, Bool.not_eq_true', Bool.not_eq_false', Nat.zero_add, Nat.add_zero, Nat.sub_zero, Nat.zero_mul, Nat.mul_one, Int.toNat_natCast, List.drop_zero, beqV_int, beqV_sl, beqV_str, beqV_bool, beqV_ptr, beqV_flt, beqV_agg, beqV_tuple, List.all_cons, List.all_nil, Bool.and_self, Bool.and_true, Bool.true_and, Nat.le_refl, Int.le_refl, Nat.zero_le, Option.getD_some, isStr, strV, isInt, intV, isBool, boolV, kindEq, at0, isJunk, Option.isSome_some, Option.isSome_none, if_true, if_false, Nat.add_sub_cancel_left, Nat.add_sub_cancel]
  exact FlatD.hp ⟨⟨fun x hx => by simp at hx; rcases hx with rfl | rfl <;> rfl⟩, ⟨fun x hx => (List.mem_append.1 hx).elim ((pC_flat re_flat re_flatG L).1 x) (fun hx => by simp at hx; rcases hx with rfl | rfl <;> rfl)⟩, trivial⟩
theorem insB (hmix : Try.prog.follows .mixedOrders = true) (k i : Nat) (cs : List Value) (L : List Re) (d o : Int) (hB : RSl cs L) (hc : L.length ≤ k) (hl : L.length ≤ 1000000) (hi : i < L.length) (K : Value → Heap → Prop)
    (h1 : K (.slice (some ⟨2,0,some 1⟩) (L.length + 1) (L.length + 1)) (hp [.cells cs 2 true, .cells [.int .u64 d, .int .i64 o] 2 true, .cells (pC reF reG (insL i (d, o) L)) 2 true]))
    (h2 : ∀ q, FlatL q → L.length + 1 ≤ k → K (.slice (some ⟨0,0,some 1⟩) (L.length + 1) k) (hp [.cells (pC reF reG (insL i (d, o) L) ++ q) 2 true, .cells [.int .u64 d, .int .i64 o] 2 true])) :
    FunSays Try.prog 21 [.slice (some ⟨0,0,some 5⟩) L.length k, .int .i64 i, .slice (some ⟨1,0,some 0⟩) 1 1] (hp (hE cs d o)) K := by
  refine (sure1314 hmix).funX F1314 body1314 [] [.tmp 0 2] Try.func21 rfl noLoops ?_
  rw [w1314b]
  have hsz := hB.size
  have n1 : wr .i64 ((L.length : Int) + 1) = ((L.length + 1 : Nat) : Int) := nx _ (by omega)
  have n2 : wr .i64 (((L.length + 1 : Nat) : Int) - (i : Int)) = ((L.length + 1 - i : Nat) : Int) := by rw [wr_i64 _ (by omega) (by omega)]; omega
  have n3 : wr .i64 ((i : Int) + 1) = ((i + 1 : Nat) : Int) := nx _ (by omega)
  have e1 := hB.takeN i (by omega)
  have e2 := hB.dropN i (by omega)
  have l1 : (pC reF reG (L.take i)).length = i * 2 := by rw [pC_len, List.length_take]; omega
  have l2 : (pC reF reG (L.drop i)).length = (L.length - i) * 2 := by rw [pC_len, List.length_drop]
  have hal : (pC reF reG (L.drop i)).all oneV = true := pC_one re_one re_oneG _
  rw [n1, n2, n3]
  have hF : ∀ q, FlatL q → FlatD [] (hp [.cells q 2 true, .cells [.int .u64 d, .int .i64 o] 2 true]) := fun q hq => hE_flat hq
  have hF3 : FlatD [] (hp [.cells cs 2 true, .cells [.int .u64 d, .int .i64 o] 2 true, .cells (pC reF reG (insL i (d, o) L)) 2 true]) := FlatD.hp ⟨hB.flat, ⟨fun x hx => by simp at hx; rcases hx with rfl | rfl <;> rfl⟩, pC_flat re_flat re_flatG _, trivial⟩
  by_cases hk : L.length + 1 ≤ k
  · have hk2 : ¬ (k : Int) < ((L.length + 1 : Nat) : Int) := by omega
    simp only [Int.toNat_natCast, Nat.sub_zero, Nat.zero_add, show (i : Int) ≤ (L.length : Int) by omega, show ¬ (i : Int) = (L.length : Int) by omega, show (i : Int) ≤ (k : Int) by omega, show (0 : Int) ≤ ((L.length + 1 - i : Nat) : Int) by omega, show ((L.length + 1 - i : Nat) : Int) ≤ 1099511627776 by omega, show ((L.length + 1 - i : Nat) : Int) * 16 ≤ 1099511627776 by omega,
      show i * 2 ≤ cs.length by omega, show ¬ L.length + 1 - i = 0 by omega, show i + (L.length + 1 - i) = L.length + 1 by omega, Nat.sub_self, Nat.zero_min, Nat.min_zero, show Nat.min 1 (L.length + 1 - i) = 1 from Nat.min_eq_left (by omega), show (L.length - i).min (L.length + 1 - (i + 1)) = L.length - i from (by rw [show L.length + 1 - (i + 1) = L.length - i by omega]; exact Nat.min_self _), show ¬ L.length - i = 0 by omega, show (L.length + 1 - i).min (L.length + 1 - (i + 1)) = L.length - i from (by rw [show L.length + 1 - (i + 1) = L.length - i by omega]; exact Nat.min_eq_right (by omega)),
      show ((i : Nat) : Int) ≤ ((L.length + 1 : Nat) : Int) by omega, show (((i + 1 : Nat)) : Int) ≤ ((L.length + 1 : Nat) : Int) by omega, show (0 : Int) ≤ ((i + 1 : Nat) : Int) by omega, show i * 2 + (L.length - i) * 2 ≤ cs.length by omega, show (i + 1) * 2 ≤ cs.length by omega, e1, e2, hal, Nat.one_ne_zero, hk, hk2, show ((L.length + 1 : Nat) : Int) ≤ (k : Int) by omega, Alt_iff, Need_iff, ltI_eq, leI_eq, eqI_eq, leN_eq, eqN_eq, decide_eq_true_eq, decide_eq_false_iff_not, decide_true, decide_false, true_and, and_true, Bool.true_eq_false, Bool.false_eq_true, false_implies, true_implies, implies_true, not_true_eq_false, not_false_eq_true, Bool.not_eq_true', Bool.not_eq_false', Nat.zero_add, Nat.add_zero, Nat.sub_zero, Nat.zero_mul, Nat.mul_one, Int.toNat_natCast, List.drop_zero, beqV_int, beqV_sl, beqV_str, beqV_bool, beqV_ptr, beqV_flt, beqV_agg, beqV_tuple, List.all_cons, List.all_nil, Bool.and_self, Bool.and_true, Bool.true_and, Nat.le_refl, Int.le_refl, Nat.zero_le, Option.getD_some, isStr, strV, isInt, intV, isBool, boolV, kindEq, at0, isJunk, Option.isSome_some, Option.isSome_none, if_true, if_false, Nat.add_sub_cancel_left, Nat.add_sub_cancel]
    have hv : List.take (1 * 2) [Value.int IntKind.u64 d, Value.int IntKind.i64 o] = [Value.int IntKind.u64 d, Value.int IntKind.i64 o] := rfl
    have hX : extL (extL cs ((i + 1) * 2) (pC reF reG (List.drop i L))) (i * 2) [Value.int IntKind.u64 d, Value.int IntKind.i64 o] = pC reF reG (insL i (d, o) L) ++ cs.drop ((i + 1) * 2 + (pC reF reG (List.drop i L)).length) := by
      rw [extL_at _ cs _ (by omega), extL_at _ _ _ (by simp; omega), insL_cells, List.take_append_of_le_length (by simp; omega), List.take_take, Nat.min_eq_left (by omega), e1]
      rw [show i * 2 + [Value.int IntKind.u64 d, Value.int IntKind.i64 o].length = (i + 1) * 2 by simp; omega, List.drop_append, List.drop_eq_nil_of_le (by simp; omega), List.nil_append, List.length_take, Nat.min_eq_left (by omega), Nat.sub_self, List.drop_zero]
      simp only [List.append_assoc]
    rw [hv, hX]
    refine ⟨by omega, by rw [extL_at _ cs _ (by omega)]; simp; omega, rfl, hF _ ⟨fun x hx => (List.mem_append.1 hx).elim ((pC_flat re_flat re_flatG _).1 x) (fun hx => hB.flat.1 x (List.mem_of_mem_drop hx))⟩, h2 _ ⟨fun x hx => hB.flat.1 x (List.mem_of_mem_drop hx)⟩ hk⟩
  · have hk2 : (k : Int) < ((L.length + 1 : Nat) : Int) := by omega
    simp only [Int.toNat_natCast, Nat.sub_zero, Nat.zero_add, show (i : Int) ≤ (L.length : Int) by omega, show ¬ (i : Int) = (L.length : Int) by omega, show (i : Int) ≤ (k : Int) by omega, show (0 : Int) ≤ ((L.length + 1 - i : Nat) : Int) by omega, show ((L.length + 1 - i : Nat) : Int) ≤ 1099511627776 by omega, show ((L.length + 1 - i : Nat) : Int) * 16 ≤ 1099511627776 by omega,
      show i * 2 ≤ cs.length by omega, show ¬ L.length + 1 - i = 0 by omega, show i + (L.length + 1 - i) = L.length + 1 by omega, Nat.sub_self, Nat.zero_min, Nat.min_zero, show Nat.min 1 (L.length + 1 - i) = 1 from Nat.min_eq_left (by omega), show (L.length - i).min (L.length + 1 - (i + 1)) = L.length - i from (by rw [show L.length + 1 - (i + 1) = L.length - i by omega]; exact Nat.min_self _), show ¬ L.length - i = 0 by omega, show (L.length + 1 - i).min (L.length + 1 - (i + 1)) = L.length - i from (by rw [show L.length + 1 - (i + 1) = L.length - i by omega]; exact Nat.min_eq_right (by omega)),
      show ((i : Nat) : Int) ≤ ((L.length + 1 : Nat) : Int) by omega, show (((i + 1 : Nat)) : Int) ≤ ((L.length + 1 : Nat) : Int) by omega, show (0 : Int) ≤ ((i + 1 : Nat) : Int) by omega, show i * 2 + (L.length - i) * 2 ≤ cs.length by omega, show (i + 1) * 2 ≤ cs.length by omega, e1, e2, hal, Nat.one_ne_zero, hk, hk2, show (L.length + 1) * 16 ≤ 1099511627776 by omega, show L.length + 1 ≤ 1099511627776 by omega, Alt_iff, Need_iff, ltI_eq, leI_eq, eqI_eq, leN_eq, eqN_eq, decide_eq_true_eq, decide_eq_false_iff_not, decide_true, decide_false, true_and, and_true, Bool.true_eq_false, Bool.false_eq_true, false_implies, true_implies, implies_true, not_true_eq_false, not_false_eq_true, Bool.not_eq_true', Bool.not_eq_false', Nat.zero_add, Nat.add_zero, Nat.sub_zero, Nat.zero_mul, Nat.mul_one, Int.toNat_natCast, List.drop_zero, beqV_int, beqV_sl, beqV_str, beqV_bool, beqV_ptr, beqV_flt, beqV_agg, beqV_tuple, List.all_cons, List.all_nil, Bool.and_self, Bool.and_true, Bool.true_and, Nat.le_refl, Int.le_refl, Nat.zero_le, Option.getD_some, isStr, strV, isInt, intV, isBool, boolV, kindEq, at0, isJunk, Option.isSome_some, Option.isSome_none, if_true, if_false, Nat.add_sub_cancel_left, Nat.add_sub_cancel]
    have hv : List.take (1 * 2) [Value.int IntKind.u64 d, Value.int IntKind.i64 o] = [Value.int IntKind.u64 d, Value.int IntKind.i64 o] := rfl
    have hr : (repl (L.length + 1 - i) [Value.int IntKind.u64 0, Value.int IntKind.i64 0]).length = (L.length + 1 - i) * 2 := by unfold repl; simp
    have hX1 : setAll (pC reF reG (List.take i L) ++ repl (L.length + 1 - i) [Value.int IntKind.u64 0, Value.int IntKind.i64 0]) (i * 2) [Value.int IntKind.u64 d, Value.int IntKind.i64 o] = (pC reF reG (List.take i L) ++ [Value.int IntKind.u64 d, Value.int IntKind.i64 o]) ++ (repl (L.length + 1 - i) [Value.int IntKind.u64 0, Value.int IntKind.i64 0]).drop 2 := by
      rw [setAll_at _ _ _ _ l1 (by rw [hr]; simp; omega)]; rfl
    have hX2 : setAll (setAll (pC reF reG (List.take i L) ++ repl (L.length + 1 - i) [Value.int IntKind.u64 0, Value.int IntKind.i64 0]) (i * 2) [Value.int IntKind.u64 d, Value.int IntKind.i64 o]) ((i + 1) * 2) (pC reF reG (List.drop i L)) = pC reF reG (insL i (d, o) L) := by
      rw [hX1, setAll_at _ _ _ _ (by simp [l1]; omega) (by rw [List.length_drop, hr, l2]; omega), List.drop_eq_nil_of_le («as» := List.drop 2 (repl (L.length + 1 - i) [Value.int IntKind.u64 0, Value.int IntKind.i64 0])) (by rw [List.length_drop, hr, l2]; omega), List.append_nil, insL_cells, List.append_assoc]
    rw [hv, hX2, hX1]
    refine ⟨by simp [l1, hr]; omega, rfl, by simp [l1, l2, hr]; omega, hF3, h1⟩
noncomputable def insEC : CtrW where
  D := []
  W := [0]
  E := []
  pre := fun args blks => match args, blks with
    | [.slice (some ⟨0,0,some 1⟩) m k, .int .i64 i, .slice (some ⟨1,0,some 0⟩) 1 1], [.cells cs 2 true, .cells [.int .u64 d, .int .i64 o] 2 true] => IsR cs m k ∧ ReOk (d, o) ∧ Need (leI 0 i) (Need (leI i m) (Need (leN m 1000000) True))
    | _, _ => False
  val := fun args blks => match args with
    | [.slice (some ⟨0,0,some 1⟩) m k, _, _] => .slice (some ⟨2,0,some 1⟩) (m + 1) (m + 1)
    | _ => undef
  out := fun args blks => match args, blks with
    | [.slice (some ⟨0,0,some 1⟩) m k, .int .i64 i, .slice (some ⟨1,0,some 0⟩) 1 1], [.cells cs 2 true, .cells [.int .u64 d, .int .i64 o] 2 true] => [.dead, .cells [.int .u64 d, .int .i64 o] 2 true, .cells (pC reF reG (insL i.toNat (d, o) (resAt cs m))) 2 true]
    | _, _ => []
/-- a row at its place, told as a new one -/
theorem new_ren {p vs : List Value} {n B : Nat} {h : Heap} (hpf : FlatL p) (hv : FlatL vs) (hB : B ≠ 1) (h1 : h.get 1 = some (.cells vs 2 true)) (h0 : h.get B = some (.cells p 2 true)) :
    Ren 2 (fun i => if i = 2 then B else i) [.slice (some ⟨B,0,some 1⟩) n n] h [.slice (some ⟨2,0,some 1⟩) n n] (hp [.dead, .cells vs 2 true, .cells p 2 true]) := by
  refine ⟨by rw [hp_size]; simp, fun i hi => if_neg (by omega), fun i c e o hi => ?_, fun i j c e o c' e' o' hi hj he => ?_, rfl, fun i x y hx hy => ?_⟩
  · rw [hp_get] at hi
    rcases i with _ | _ | _ | i
    · simp at hi
    · simp only [List.getElem?_cons_succ, List.getElem?_cons_zero, Option.some.injEq, Blk.cells.injEq] at hi
      obtain ⟨rfl, rfl, rfl⟩ := hi
      exact ⟨_, h1, fun ρ ρ2 hρ => Mvs.flat hv.1⟩
    · simp only [List.getElem?_cons_succ, List.getElem?_cons_zero, Option.some.injEq, Blk.cells.injEq] at hi
      obtain ⟨rfl, rfl, rfl⟩ := hi
      exact ⟨_, h0, fun ρ ρ2 hρ => Mvs.flat hpf.1⟩
    · simp at hi
  · rw [hp_get] at hi hj
    rcases i with _ | _ | _ | i <;> rcases j with _ | _ | _ | j <;> simp at hi hj he ⊢ <;> omega
  · cases i with
    | zero =>
      simp at hx hy
      subst hx hy
      exact .inr ⟨rfl, fun ρ ρ2 hρ => Mv.sl (hρ 2 (by rw [hp_size]; simp)) _ _ _ _⟩
    | succ i => simp at hx
theorem ins_says (hmix : Try.prog.follows .mixedOrders = true) : insEC.Holds Try.prog 21 := by
  intro args blks hf hp
  simp only [insEC] at hp ⊢
  split at hp
  · rename_i m k i cs d o
    obtain ⟨⟨L, rfl, hc, hB⟩, he, hl⟩ := hp
    simp only [Alt_iff, Need_iff, ltI_eq, leI_eq, eqI_eq, leN_eq, eqN_eq, decide_eq_true_eq, decide_eq_false_iff_not, decide_true, decide_false, true_and, and_true, Bool.true_eq_false, Bool.false_eq_true, false_implies, true_implies, implies_true, not_true_eq_false, not_false_eq_true, Bool.not_eq_true', Bool.not_eq_false'] at hl
    obtain ⟨h0, h1, h2⟩ := hl
    obtain ⟨i, rfl⟩ := Int.eq_ofNat_of_zero_le h0
    simp only [resAt_eq hB, Int.toNat_natCast]
    have hv : FlatL [Value.int .u64 d, .int .i64 o] := ⟨fun x hx => by simp at hx; rcases hx with rfl | rfl <;> rfl⟩
    have hpf := pC_flat re_flat re_flatG (insL i (d, o) L)
    refine ⟨⟨trivial, rfl, trivial⟩, ⟨hpf, trivial⟩, ?_⟩
    by_cases hi : i = L.length
    · subst hi
      exact insA hmix k cs L d o hB h2
    · refine FunSays.ren (FunSays.slack (FunSays.cap rfl fun cc hcc => insB hmix cc i cs L d o hB (by omega) h2 (by omega) (fun v h' => ∃ B, ∃ q, ∃ ca, B ≠ 1 ∧ FlatL q ∧ L.length + 1 ≤ ca ∧ h'.get 1 = some (.cells [.int .u64 d, .int .i64 o] 2 true) ∧ h'.get B = some (.cells (pC reF reG (insL i (d, o) L) ++ q) 2 true) ∧ v = .slice (some ⟨B,0,some 1⟩) (L.length + 1) ca) ?_ ?_) (K2 := fun v h' => ∃ B, B ≠ 1 ∧ h'.get 1 = some (.cells [.int .u64 d, .int .i64 o] 2 true) ∧ h'.get B = some (.cells (pC reF reG (insL i (d, o) L)) 2 true) ∧ v = .slice (some ⟨B,0,some 1⟩) (L.length + 1) (L.length + 1)) ?_) ?_
      · exact ⟨2, [], _, by decide, ⟨fun x hx => by simp at hx⟩, Nat.le_refl _, by rw [hp_get]; rfl, by rw [List.append_nil, hp_get]; rfl, rfl⟩
      · intro q hq hk
        exact ⟨0, q, _, by decide, hq, hk, by rw [hp_get]; rfl, by rw [hp_get]; rfl, rfl⟩
      · rintro v h' ⟨B, q, ca, q1, q2, q3, q4, q5, rfl⟩
        have hBl := Heap.get_lt q5
        refine ⟨_, _, (Slack.tmp (i := 0) (v2 := .slice (some ⟨B,0,some 1⟩) (L.length + 1) (L.length + 1)) rfl rfl (Less.cap rfl (Nat.le_refl _) q3)).trans (Slack.pre (B := B) q5), rfl, B, q1, ?_, ?_, rfl⟩
        · rw [Heap.get_set hBl, if_neg (fun hh => q1 hh.symm)]; exact q4
        · rw [Heap.get_set hBl, if_pos rfl]
      · rintro v h' ⟨B, q1, q2, q3, rfl⟩
        exact ⟨_, _, _, new_ren hpf hv q1 q2 q3, rfl, rfl, rfl⟩
  · exact hp.elim
end Go.Proofs.Ytmgnlkefhmhkhaa

namespace Go.Proofs.Ytmgnlkefhmhkhaa
open Go.RowKit Go.Proofs.Ytmgnlkefhmhkhaa.AM
set_option maxRecDepth 100000
set_option maxHeartbeats 4000000
noncomputable def body1311 : Code := (Try.f18.body).getD .skip
def F1311 : List Nat → Option (List Nat) := fun p => match p with
  | [1] => some [0, 1]
  | [1, 1] => some [0, 5]
  | [1, 0, 1, 1] => some [0, 5, 10]
  | [1, 0, 1, 0, 1, 1] => some [4]
  | [1, 1, 1] => some [0, 5]
  | [1, 1, 1, 1] => some []
  | [1, 1, 1, 1, 1] => some [4]
  | _ => none
noncomputable def body1302 : Code := (Try.f8.body).getD .skip
def F1302 : List Nat → Option (List Nat) := fun p => match p with
  | [1] => some [0, 1, 2]
  | [1, 1] => some [0, 6]
  | [1, 1, 1] => some [0, 6, 7]
  | _ => none
noncomputable def body1305 : Code := (Try.f12.body).getD .skip
def F1305 : List Nat → Option (List Nat) := fun p => match p with
  | [1] => some [0, 1]
  | [1, 1] => some [0, 1, 5]
  | [1, 0, 0, 0, 0, 1, 1] => some [0, 1, 5, 22]
  | [1, 1, 0, 0, 0, 0, 1, 1] => some [5]
  | [1, 0, 0, 0, 1, 1] => some [0, 1, 5]
  | [1, 0, 1, 0, 0, 0, 1, 1] => some [0, 1, 5]
  | [1, 1, 1] => some [5]
  | [1, 1, 1, 1] => some [4]
  | _ => none
noncomputable def body1307 : Code := (Try.f14.body).getD .skip
def F1307 : List Nat → Option (List Nat) := fun p => match p with
  | [1] => some [0, 1]
  | [1, 1] => some [0, 6]
  | [1, 0, 1, 1] => some [0, 6, 11]
  | [1, 0, 1, 0, 1, 1] => some [4, 5]
  | [1, 1, 1] => some [0, 6]
  | [1, 1, 1, 1] => some [4, 5]
  | _ => none
noncomputable def body1303 : Code := (Try.f9.body).getD .skip
def F1303 : List Nat → Option (List Nat) := fun p => match p with
  | [1] => some [0]
  | [1, 0, 1] => some [0, 10]
  | [1, 0, 1, 0, 1] => some [2, 3, 4]
  | [1, 1] => some [0]
  | [1, 1, 1] => some [2, 3, 4]
  | _ => none
noncomputable def body1304 : Code := (Try.f10.body).getD .skip
def F1304 : List Nat → Option (List Nat) := fun p => match p with
  | [1] => some [0]
  | [1, 1] => some [2]
  | _ => none
noncomputable def body1301 : Code := (Try.f7.body).getD .skip
def F1301 : List Nat → Option (List Nat) := fun p => match p with
  | [1] => some []
  | [1, 1] => some [0]
  | _ => none
abbrev reC (L : List Re) : List Value := pC reF reG L
/-- a row of its own, exactly -/
inductive IsRC (cs : List Value) (m k : Nat) : Prop
  | mk (L : List Re) (hc : cs = reC L) (hm : m = L.length) (hk : k = L.length) (ok : ∀ x ∈ L, ReOk x) (hl : L.length ≤ 1000000) : IsRC cs m k
theorem reC_row {L : List Re} (h : ∀ x ∈ L, ReOk x) : RSl (reC L) L := PSl.own0 re_flat re_flatG h
theorem reC_at {L : List Re} (h : ∀ x ∈ L, ReOk x) : resAt (reC L) L.length = L := resAt_eq (reC_row h)
theorem reC_flat (L : List Re) : FlatL (reC L) := pC_flat re_flat re_flatG L
noncomputable def delEC : CtrW where
  D := []
  W := [0]
  E := []
  pre := fun args blks => match args, blks with
    | [.slice (some ⟨0,0,some 1⟩) m k, .int .i64 i, .int .i64 j], [.cells cs 2 true] => IsRC cs m k ∧ Need (leI 0 i) (Need (ltI i m) (Need (eqI j (i + 1)) True))
    | _, _ => False
  val := fun args blks => match args with
    | [.slice (some ⟨0,0,some 1⟩) m k, _, _] => .slice (some ⟨0,0,some 1⟩) (m - 1) (m - 1)
    | _ => undef
  out := fun args blks => match args, blks with
    | [.slice (some ⟨0,0,some 1⟩) m k, .int .i64 i, .int .i64 j], [.cells cs 2 true] => [.cells (reC ((resAt cs m).eraseIdx i.toNat)) 2 true]
    | _, _ => []
theorem delC_says (hmix : Try.prog.follows .mixedOrders = true) : delEC.Holds Try.prog 22 := by
  intro args blks hf hp
  simp only [delEC] at hp ⊢
  split at hp
  · rename_i m k i j cs
    obtain ⟨⟨L, rfl, rfl, rfl, ok, hl⟩, hp⟩ := hp
    simp only [Alt_iff, Need_iff, ltI_eq, leI_eq, eqI_eq, leN_eq, eqN_eq, decide_eq_true_eq, decide_eq_false_iff_not, decide_true, decide_false, true_and, and_true, Bool.true_eq_false, Bool.false_eq_true, false_implies, true_implies, implies_true, not_true_eq_false, not_false_eq_true, Bool.not_eq_true', Bool.not_eq_false'] at hp
    obtain ⟨h0, h1, h2⟩ := hp
    obtain ⟨x, r1, _, _, r2⟩ := delE_says hmix [.slice (some ⟨0,0,some 1⟩) L.length L.length, .int .i64 i, .int .i64 j] [.cells (reC L) 2 true] hf (show delEX.pre [.slice (some ⟨0,0,some 1⟩) L.length L.length, .int .i64 i, .int .i64 j] [.cells (reC L) 2 true] from ⟨⟨L, rfl, Nat.le_refl _, reC_row ok⟩, by simp only [Alt_iff, Need_iff, ltI_eq, leI_eq, eqI_eq, leN_eq, eqN_eq, decide_eq_true_eq, decide_eq_false_iff_not, decide_true, decide_false, true_and, and_true, Bool.true_eq_false, Bool.false_eq_true, false_implies, true_implies, implies_true, not_true_eq_false, not_false_eq_true, Bool.not_eq_true', Bool.not_eq_false']; exact ⟨h0, h1, h2, hl⟩⟩)
    have r1 : IsRL ((resAt (reC L) L.length).eraseIdx i.toNat) x.1 (L.length - 1) x.2 := r1
    rw [reC_at ok] at r1 ⊢
    have hlen : (L.eraseIdx i.toNat).length = L.length - 1 := r1.len.symm
    refine ⟨⟨trivial, trivial⟩, ⟨reC_flat _, trivial⟩, ?_⟩
    refine FunSays.slack (FunSays.slack r2 (K2 := fun v h' => v = .slice (some ⟨0,0,some 1⟩) (L.length - 1) (L.length - 1) ∧ h'.size = 1 ∧ h'.get 0 = some (.cells (reC (L.eraseIdx i.toNat)) 2 true)) ?_) ?_
    · rintro v h' ⟨rfl, rfl⟩
      have hg : (AM.hp (delEX.out [.slice (some ⟨0,0,some 1⟩) L.length L.length, .int .i64 i, .int .i64 j] [.cells (reC L) 2 true] x)).get 0 = some (.cells (reC (L.eraseIdx i.toNat) ++ x.1.drop ((L.eraseIdx i.toNat).length * 2)) 2 true) := by
        rw [hp_get, ← r1.row.eq]; rfl
      have hBl := Heap.get_lt hg
      refine ⟨_, _, (Slack.tmp (i := 0) (v2 := .slice (some ⟨0,0,some 1⟩) (L.length - 1) (L.length - 1)) rfl rfl (Less.cap rfl (Nat.le_refl _) r1.le)).trans (Slack.pre (B := 0) hg), rfl, rfl, ?_, ?_⟩
      · rw [Heap.size_set, hp_size]; rfl
      · rw [Heap.get_set hBl, if_pos rfl]
    · rintro v h' ⟨rfl, hs, hg⟩
      exact ⟨_, _, Slack.heap (by rw [hs, hp_size]; rfl) (fun B => by
        rw [hp_get]
        rcases B with _ | B
        · exact hg
        · rw [Heap.get_ge (by omega)]; rfl), rfl, rfl, rfl⟩
  · exact hp.elim
end Go.Proofs.Ytmgnlkefhmhkhaa

namespace Go.Proofs.Ytmgnlkefhmhkhaa
open Go.RowKit Go.Proofs.Ytmgnlkefhmhkhaa.AM
set_option maxRecDepth 100000
set_option maxHeartbeats 4000000
noncomputable def S1311 : Book := addI Try.prog [(26, Try.f26, body1319)] (bookW [(22, delEC), (32, idxEC)] (bookOf []))
theorem sure1311 (hm : Try.prog.follows .mixedOrders = true) : Sure Try.prog S1311 := Sure.addI ⟨hm, plain, bookW_ok (bookOf_ok (l := []) trivial) (l := [(22, delEC), (32, idxEC)]) ⟨delC_says hm, idxE_says hm, trivial⟩⟩ (l := [(26, Try.f26, body1319)]) ⟨⟨Try.func26, rfl⟩, trivial⟩
noncomputable def hQ (n : Nat) (cs : List Value) : List Blk := [.cells [.slice (some ⟨1,0,some 1⟩) n n] 1 true, .cells cs 2 true]
noncomputable def p0 : Value := .pointer (some ⟨0,0,none⟩)

theorem w1311 (n : Nat) (cs : List Value) (id : Int) (K : Value → Heap → Prop) :
  funX Try.prog S1311 noLoop F1311 body1311 Try.f18 [0] [] [p0, .int .i64 id] (hp (hQ n cs)) K = (
(FlatL cs ∧ FlatL [Value.int IntKind.i64 id] ∧ True) ∧
  (True ∧ IsP reF reG ReOk cs n n ∧ Need (leN n 1000000) True) ∧
    Alt (ltI (idxE id 0 (resAt cs n)) 0)
      (K (Value.bool false)
        (hp
          [Blk.cells [Value.slice (some { block := 1, off := 0, spot := some 1 : Addr }) n n] 1 true,
            Blk.cells cs 2 true]))
      ((FlatL cs ∧ True) ∧
        (IsRC cs n n ∧
            Need (leI 0 (idxE id 0 (resAt cs n)))
              (Need (ltI (idxE id 0 (resAt cs n)) (↑n : Int))
                (Need (eqI (wr IntKind.i64 (idxE id 0 (resAt cs n) + 1)) (idxE id 0 (resAt cs n) + 1)) True))) ∧
          K (Value.bool true)
            (hp
              [Blk.cells [Value.slice (some { block := 1, off := 0, spot := some 1 : Addr }) (n - 1) (n - 1)] 1 true,
                Blk.cells (reC ((resAt cs n).eraseIdx (idxE id 0 (resAt cs n)).toNat)) 2 true]))) := by kernel_rfl

/-- without the first of a number -/
def dropE (o : Int) : List Re → List Re
  | [] => []
  | x :: t => if eqI x.2 o then t else x :: dropE o t
def hasE (o : Int) : List Re → Bool
  | [] => false
  | x :: t => if eqI x.2 o then true else hasE o t
theorem idxE_cases (o : Int) : ∀ (L : List Re) (i : Nat), (idxE o i L = -1 ∧ dropE o L = L ∧ hasE o L = false) ∨ ∃ j : Nat, idxE o i L = ((i + j : Nat) : Int) ∧ j < L.length ∧ dropE o L = L.eraseIdx j ∧ hasE o L = true := by
  intro L
  induction L with
  | nil => intro i; exact .inl ⟨rfl, rfl, rfl⟩
  | cons x t ih =>
    intro i
    by_cases h : eqI x.2 o = true
    · exact .inr ⟨0, by simp [idxE, h], by simp, by simp [dropE, h], by simp [hasE, h]⟩
    · rcases ih (i + 1) with ⟨q1, q2, q3⟩ | ⟨j, q1, q2, q3, q4⟩
      · exact .inl ⟨by rw [idxE, if_neg h, q1], by rw [dropE, if_neg h, q2], by rw [hasE, if_neg h, q3]⟩
      · exact .inr ⟨j + 1, by rw [idxE, if_neg h, q1]; omega, by simp; omega, by rw [dropE, if_neg h, q3]; rfl, by rw [hasE, if_neg h, q4]⟩
theorem dropE_len (o : Int) (L : List Re) : (dropE o L).length ≤ L.length := by
  rcases idxE_cases o L 0 with ⟨_, h, _⟩ | ⟨j, _, _, h, _⟩
  · rw [h]; exact Nat.le_refl _
  · rw [h]; exact List.length_eraseIdx_le _ _
theorem dropE_mem {o : Int} {L : List Re} {x : Re} (hx : x ∈ dropE o L) : x ∈ L := by
  rcases idxE_cases o L 0 with ⟨_, h, _⟩ | ⟨j, _, _, h, _⟩
  · rw [h] at hx; exact hx
  · rw [h] at hx; exact List.mem_of_mem_eraseIdx hx
theorem dropE_sub (o : Int) (L : List Re) : (dropE o L).Sublist L := by
  rcases idxE_cases o L 0 with ⟨_, h, _⟩ | ⟨j, _, _, h, _⟩
  · rw [h]; exact List.Sublist.refl _
  · rw [h]; exact List.eraseIdx_sublist _ _
theorem hQ_flat {n m : Nat} {cs : List Value} (h : FlatL cs) : FlatD [0] (hp [.cells [.slice (some ⟨1,0,some 1⟩) n m] 1 true, .cells cs 2 true]) := FlatD.hp ⟨rfl, h, trivial⟩
noncomputable def qDropC : CtrW where
  D := [0]
  W := [0, 1]
  E := [0]
  pre := fun args blks => match args, blks with
    | [.pointer (some ⟨0,0,none⟩), .int .i64 _], [.cells [.slice (some ⟨1,0,some 1⟩) m k] 1 true, .cells cs 2 true] => IsRC cs m k
    | _, _ => False
  val := fun args blks => match args, blks with
    | [.pointer (some ⟨0,0,none⟩), .int .i64 o], [.cells [.slice (some ⟨1,0,some 1⟩) m k] 1 true, .cells cs 2 true] => .bool (hasE o (resAt cs m))
    | _, _ => undef
  out := fun args blks => match args, blks with
    | [.pointer (some ⟨0,0,none⟩), .int .i64 o], [.cells [.slice (some ⟨1,0,some 1⟩) m k] 1 true, .cells cs 2 true] => [.cells [.slice (some ⟨1,0,some 1⟩) (dropE o (resAt cs m)).length (dropE o (resAt cs m)).length] 1 true, .cells (reC (dropE o (resAt cs m))) 2 true]
    | _, _ => []
theorem qDrop_says (hmix : Try.prog.follows .mixedOrders = true) : qDropC.Holds Try.prog 18 := by
  intro args blks hf hp
  simp only [qDropC] at hp ⊢
  split at hp
  · rename_i o m k cs
    have hI := hp
    obtain ⟨L, rfl, rfl, rfl, ok, hl⟩ := hp
    simp only [reC_at ok]
    refine ⟨⟨trivial, trivial, trivial⟩, ⟨rfl, reC_flat _, trivial⟩, ?_⟩
    refine (sure1311 hmix).funX F1311 body1311 [0] [] Try.func18 rfl noLoops ?_
    have hw := w1311 L.length (reC L) o
    unfold hQ p0 at hw
    rw [hw, reC_at ok]
    refine ⟨⟨reC_flat L, int_flat o, trivial⟩, ⟨trivial, ⟨L, rfl, Nat.le_refl _, reC_row ok⟩, Need_iff.2 ⟨leN_iff.2 hl, trivial⟩⟩, ?_⟩
    rcases idxE_cases o L 0 with ⟨h1, h2, h3⟩ | ⟨j, h1, h2, h3, h4⟩
    · rw [h1, h2, h3]
      exact Alt_iff.2 ⟨fun _ => ⟨hQ_flat (reC_flat L), rfl, rfl, rfl⟩, fun h => by cases h⟩
    · rw [h1, h3, h4, Nat.zero_add]
      have hlen : (L.eraseIdx j).length = L.length - 1 := by rw [List.length_eraseIdx, if_pos h2]
      have hj : wr .i64 ((j : Int) + 1) = (j : Int) + 1 := by rw [nx _ (by omega)]; rfl
      simp only [hj, Int.toNat_natCast, hI, reC_flat, hlen, show ¬ (j : Int) < 0 by omega, show (0 : Int) ≤ (j : Int) by omega, show (j : Int) < (L.length : Int) by omega, Alt_iff, Need_iff, ltI_eq, leI_eq, eqI_eq, leN_eq, eqN_eq, decide_eq_true_eq, decide_eq_false_iff_not, decide_true, decide_false, true_and, and_true, Bool.true_eq_false, Bool.false_eq_true, false_implies, true_implies, implies_true, not_true_eq_false, not_false_eq_true, Bool.not_eq_true', Bool.not_eq_false', Nat.zero_add, Nat.add_zero, Nat.sub_zero, Nat.zero_mul, Nat.mul_one, Int.toNat_natCast, List.drop_zero, beqV_int, beqV_sl, beqV_str, beqV_bool, beqV_ptr, beqV_flt, beqV_agg, beqV_tuple, List.all_cons, List.all_nil, Bool.and_self, Bool.and_true, Bool.true_and, Nat.le_refl, Int.le_refl, Nat.zero_le, Option.getD_some, isStr, strV, isInt, intV, isBool, boolV, kindEq, at0, isJunk, Option.isSome_some, Option.isSome_none, if_true, if_false, Nat.add_sub_cancel_left, Nat.add_sub_cancel]
      simp only [hQ_flat (reC_flat _), and_self, and_true]
  · exact hp.elim
noncomputable def S1302 : Book := bookW [(18, qDropC), (19, findEC), (21, insEC)] (bookOf [])
theorem sure1302 (hm : Try.prog.follows .mixedOrders = true) : Sure Try.prog S1302 := ⟨hm, plain, bookW_ok (bookOf_ok (l := []) trivial) (l := [(18, qDropC), (19, findEC), (21, insEC)]) ⟨qDrop_says hm, findE_says hm, ins_says hm, trivial⟩⟩

theorem w1302 (n : Nat) (cs : List Value) (o d : Int) (K : Value → Heap → Prop) :
  funX Try.prog S1302 noLoop F1302 body1302 Try.f8 [0] [] [p0, .int .i64 o, .int .u64 d] (hp (hQ n cs)) K = (
(nojL [Value.slice (some { block := 1, off := 0, spot := some 1 : Addr }) n n] = true ∧ FlatL cs ∧ True) ∧
  IsRC cs n n ∧
    (FlatL (reC (dropE o (resAt cs n))) ∧ True) ∧
      (IsP reF reG ReOk (reC (dropE o (resAt cs n))) (dropE o (resAt cs n)).length (dropE o (resAt cs n)).length ∧
          IsUpE (resAt (reC (dropE o (resAt cs n))) (dropE o (resAt cs n)).length) ∧ True) ∧
        (FlatL (reC (dropE o (resAt cs n))) ∧
            FlatL
                [Value.int IntKind.u64 (intV (Value.int IntKind.u64 d)),
                  Value.int IntKind.i64 (intV (Value.int IntKind.i64 o))] ∧
              True) ∧
          (IsP reF reG ReOk (reC (dropE o (resAt cs n))) (dropE o (resAt cs n)).length (dropE o (resAt cs n)).length ∧
              ReOk (intV (Value.int IntKind.u64 d), intV (Value.int IntKind.i64 o)) ∧
                Need
                  (leI
                    (↑(posE (intV (Value.int IntKind.u64 d), intV (Value.int IntKind.i64 o))
                          (resAt (reC (dropE o (resAt cs n))) (dropE o (resAt cs n)).length)) :
                      Int)
                    (↑(dropE o (resAt cs n)).length : Int))
                  (Need (leN (dropE o (resAt cs n)).length 1000000) True)) ∧
            Need
              (beqV 64
                (Value.int IntKind.i64
                  (↑(posE (intV (Value.int IntKind.u64 d), intV (Value.int IntKind.i64 o))
                        (resAt (reC (dropE o (resAt cs n))) (dropE o (resAt cs n)).length)) :
                    Int))
                (Value.int IntKind.i64
                  (↑(posE (intV (Value.int IntKind.u64 d), intV (Value.int IntKind.i64 o))
                        (resAt (reC (dropE o (resAt cs n))) (dropE o (resAt cs n)).length)) :
                    Int)))
              (Need
                (beqV 64
                  (Value.slice (some { block := 1, off := 0, spot := some 1 : Addr }) (dropE o (resAt cs n)).length
                    (dropE o (resAt cs n)).length)
                  (Value.slice (some { block := 1, off := 0, spot := some 1 : Addr }) (dropE o (resAt cs n)).length
                    (dropE o (resAt cs n)).length))
                (K undef
                  (hp
                    [Blk.cells
                        [Value.slice (some { block := 2, off := 0, spot := some 1 : Addr })
                            ((dropE o (resAt cs n)).length + 1) ((dropE o (resAt cs n)).length + 1)]
                        1 true,
                      Blk.dead,
                      Blk.cells
                        (pC reF reG
                          (insL
                            (↑(posE (intV (Value.int IntKind.u64 d), intV (Value.int IntKind.i64 o))
                                    (resAt (reC (dropE o (resAt cs n))) (dropE o (resAt cs n)).length)) :
                                Int).toNat
                            (intV (Value.int IntKind.u64 d), intV (Value.int IntKind.i64 o))
                            (resAt (reC (dropE o (resAt cs n))) (dropE o (resAt cs n)).length)))
                        2 true])))) := by kernel_rfl

end Go.Proofs.Ytmgnlkefhmhkhaa

namespace Go.Proofs.Ytmgnlkefhmhkhaa
open Go.RowKit Go.Proofs.Ytmgnlkefhmhkhaa.AM
set_option maxRecDepth 100000
set_option maxHeartbeats 4000000
def putE (o d : Int) (L : List Re) : List Re := insL (posE (d, o) (dropE o L)) (d, o) (dropE o L)
theorem putE_len (o d : Int) (L : List Re) : (putE o d L).length = (dropE o L).length + 1 := insL_len _ _ _ (posE_le _ _)
theorem putE_ok {o d : Int} {L : List Re} (he : ReOk (d, o)) (h : ∀ x ∈ L, ReOk x) : ∀ x ∈ putE o d L, ReOk x := insL_ok he fun x hx => h x (dropE_mem hx)
theorem upE_drop {o : Int} {L : List Re} (h : UpE L) : UpE (dropE o L) := List.Pairwise.sublist (dropE_sub o L) h
noncomputable def qPutC : CtrW where
  D := [0]
  W := [0, 1]
  E := [0]
  pre := fun args blks => match args, blks with
    | [.pointer (some ⟨0,0,none⟩), .int .i64 o, .int .u64 d], [.cells [.slice (some ⟨1,0,some 1⟩) m k] 1 true, .cells cs 2 true] => IsRC cs m k ∧ IsUpE (resAt cs m) ∧ ReOk (d, o) ∧ Need (leN m 999999) True
    | _, _ => False
  val := fun args blks => undef
  out := fun args blks => match args, blks with
    | [.pointer (some ⟨0,0,none⟩), .int .i64 o, .int .u64 d], [.cells [.slice (some ⟨1,0,some 1⟩) m k] 1 true, .cells cs 2 true] => [.cells [.slice (some ⟨2,0,some 1⟩) (putE o d (resAt cs m)).length (putE o d (resAt cs m)).length] 1 true, .dead, .cells (reC (putE o d (resAt cs m))) 2 true]
    | _, _ => []
theorem qPut_says (hmix : Try.prog.follows .mixedOrders = true) : qPutC.Holds Try.prog 8 := by
  intro args blks hf hp
  simp only [qPutC] at hp ⊢
  split at hp
  · rename_i o d m k cs
    obtain ⟨hI, ⟨hup, _⟩, he, hl⟩ := hp
    obtain ⟨L, rfl, rfl, rfl, ok, hl0⟩ := hI
    rw [reC_at ok] at hup ⊢
    simp only [Alt_iff, Need_iff, ltI_eq, leI_eq, eqI_eq, leN_eq, eqN_eq, decide_eq_true_eq, decide_eq_false_iff_not, decide_true, decide_false, true_and, and_true, Bool.true_eq_false, Bool.false_eq_true, false_implies, true_implies, implies_true, not_true_eq_false, not_false_eq_true, Bool.not_eq_true', Bool.not_eq_false'] at hl
    have hI : IsRC (reC L) L.length L.length := .mk L rfl rfl rfl ok hl0
    refine ⟨⟨trivial, trivial, trivial⟩, ⟨rfl, reC_flat _, trivial⟩, ?_⟩
    refine (sure1302 hmix).funX F1302 body1302 [0] [] Try.func8 rfl noLoops ?_
    have hw := w1302 L.length (reC L) o d
    unfold hQ p0 at hw
    rw [hw, reC_at ok]
    have hdl := dropE_len o L
    have okd : ∀ x ∈ dropE o L, ReOk x := fun x hx => ok x (dropE_mem hx)
    have hR : IsR (reC (dropE o L)) (dropE o L).length (dropE o L).length := .mk (dropE o L) rfl (Nat.le_refl _) (reC_row okd)
    have hU : IsUpE (dropE o L) := ⟨upE_drop hup, by omega⟩
    have hpl := posE_le (d, o) (dropE o L)
    have hF : FlatD [0] (AM.hp [.cells [.slice (some ⟨2,0,some 1⟩) (putE o d L).length (putE o d L).length] 1 true, .dead, .cells (reC (putE o d L)) 2 true]) := FlatD.hp ⟨rfl, reC_flat _, trivial⟩
    have hpu : putE o d L = insL (posE (d, o) (dropE o L)) (d, o) (dropE o L) := rfl
    have hpn := putE_len o d L
    have hv : FlatL [Value.int .u64 d, .int .i64 o] := ⟨fun x hx => by simp at hx; rcases hx with rfl | rfl <;> rfl⟩
    rw [reC_at okd]
    simp only [show intV (Value.int .u64 d) = d from rfl, show intV (Value.int .i64 o) = o from rfl, Int.toNat_natCast, ← hpu, ← hpn, hI, hR, hU, hv, hF, he, reC_flat, show ((posE (d, o) (dropE o L) : Nat) : Int) ≤ ((dropE o L).length : Int) by omega, show (dropE o L).length ≤ 1000000 by omega, Alt_iff, Need_iff, ltI_eq, leI_eq, eqI_eq, leN_eq, eqN_eq, decide_eq_true_eq, decide_eq_false_iff_not, decide_true, decide_false, true_and, and_true, Bool.true_eq_false, Bool.false_eq_true, false_implies, true_implies, implies_true, not_true_eq_false, not_false_eq_true, Bool.not_eq_true', Bool.not_eq_false', Nat.zero_add, Nat.add_zero, Nat.sub_zero, Nat.zero_mul, Nat.mul_one, Int.toNat_natCast, List.drop_zero, beqV_int, beqV_sl, beqV_str, beqV_bool, beqV_ptr, beqV_flt, beqV_agg, beqV_tuple, List.all_cons, List.all_nil, Bool.and_self, Bool.and_true, Bool.true_and, Nat.le_refl, Int.le_refl, Nat.zero_le, Option.getD_some, isStr, strV, isInt, intV, isBool, boolV, kindEq, at0, isJunk, Option.isSome_some, Option.isSome_none, if_true, if_false, Nat.add_sub_cancel_left, Nat.add_sub_cancel]
    exact ⟨rfl, rfl⟩
  · exact hp.elim
noncomputable def S1305 : Book := bookW [(22, delEC)] (bookOf [])
theorem sure1305 (hm : Try.prog.follows .mixedOrders = true) : Sure Try.prog S1305 := ⟨hm, plain, bookW_ok (bookOf_ok (l := []) trivial) (l := [(22, delEC)]) ⟨delC_says hm, trivial⟩⟩
noncomputable def T1305 (now : Int) (q q2 : Nat) : List Value := tmps 42 [(0, p0), (1, .int .u64 now), (5, .slice (some ⟨2,0,some 1⟩) q q2)]

theorem r1305 (now : Int) (n q q2 : Nat) (cs ci : List Value) (K : Post) :
  roundX Try.prog S1305 noLoop F1305 body1305 2 [0] [.tmp 5 1] [0] [.tmp 5 1] [0,1,5] [0,0,0,1,1] (T1305 now q q2) (hp (hQ n cs ++ [.cells ci 1 true])) K = (
Alt (ltI 0 (↑n : Int))
  (Need (ltI 0 (↑n : Int))
    (Need (isInt IntKind.u64 ((getO cs 0).getD undef))
      (Alt (leI (intV ((getO cs 0).getD undef)) now)
        (Need (ltI 0 (↑n : Int))
          (Need (isInt IntKind.i64 ((getO cs 1).getD undef))
            (Need (leN (0 + q * 1) ci.length)
              (Need (leN ((q + 1) * 8) 1099511627776)
                (Need (leN (q + 1) 1099511627776)
                  ((FlatL cs ∧ True) ∧
                    (IsRC cs n n ∧ Need (ltI 0 (↑n : Int)) True) ∧
                      K AE.normal
                        (tmps 42
                          [(0, Value.pointer (some { block := 0, off := 0 : Addr })), (1, Value.int IntKind.u64 now),
                            (5, Value.slice (some { block := 2, off := 0, spot := some 1 : Addr }) (q + 1) (q + 1))])
                        (hp
                          [Blk.cells
                              [Value.slice (some { block := 1, off := 0, spot := some 1 : Addr }) (n - 1) (n - 1)] 1
                              true,
                            Blk.cells (reC ((resAt cs n).eraseIdx 0)) 2 true,
                            Blk.cells
                              (List.take (q * 1) (List.drop 0 ci) ++
                                [Value.int IntKind.i64 (intV ((getO cs 1).getD undef))])
                              1 true])))))))
        (K (AE.exit 0) (tmps 42 [(5, Value.slice (some { block := 2, off := 0, spot := some 1 : Addr }) q q2)])
          (hp
            [Blk.cells [Value.slice (some { block := 1, off := 0, spot := some 1 : Addr }) n n] 1 true,
              Blk.cells cs 2 true, Blk.cells ci 1 true])))))
  (K (AE.exit 0) (tmps 42 [(5, Value.slice (some { block := 2, off := 0, spot := some 1 : Addr }) q q2)])
    (hp
      [Blk.cells [Value.slice (some { block := 1, off := 0, spot := some 1 : Addr }) n n] 1 true, Blk.cells cs 2 true,
        Blk.cells ci 1 true]))) := by kernel_rfl

end Go.Proofs.Ytmgnlkefhmhkhaa

namespace Go.Proofs.Ytmgnlkefhmhkhaa
open Go.RowKit Go.Proofs.Ytmgnlkefhmhkhaa.AM
set_option maxRecDepth 100000
set_option maxHeartbeats 4000000
def ripeE (now : Int) : List Re → List Int
  | [] => []
  | x :: t => if leI x.1 now then x.2 :: ripeE now t else []
def restE (now : Int) : List Re → List Re
  | [] => []
  | x :: t => if leI x.1 now then restE now t else x :: t
abbrev iC (l : List Int) : List Value := eC (iE .i64) l
theorem ripeE_len (now : Int) : ∀ L : List Re, (ripeE now L).length + (restE now L).length = L.length := by
  intro L
  induction L with
  | nil => rfl
  | cons x t ih => unfold ripeE restE; split <;> simp; omega
theorem restE_mem {now : Int} : ∀ {L : List Re} {x : Re}, x ∈ restE now L → x ∈ L := by
  intro L
  induction L with
  | nil => intro x h; exact h
  | cons y t ih => intro x h; unfold restE at h; split at h; exact List.mem_cons_of_mem _ (ih h); exact h
theorem ripeE_ok {now : Int} : ∀ {L : List Re}, (∀ x ∈ L, ReOk x) → ∀ y ∈ ripeE now L, ZP .i64 y := by
  intro L
  induction L with
  | nil => intro _ y hy; simp [ripeE] at hy
  | cons x t ih =>
    intro h y hy
    unfold ripeE at hy
    split at hy
    · rcases List.mem_cons.1 hy with rfl | hy
      · exact (h x List.mem_cons_self).n
      · exact ih (fun z hz => h z (List.mem_cons_of_mem _ hz)) y hy
    · simp at hy
theorem iC_snoc (F : List Int) (x : Int) : List.take (F.length * 1) (List.drop 0 (iC F)) ++ [Value.int IntKind.i64 x] = iC (F ++ [x]) := by rw [Nat.mul_one, List.drop_zero, List.take_of_length_le (by rw [eC_len]; exact Nat.le_refl _)]; exact (eC_append (iE .i64) F [x]).symm
theorem iC_flat (l : List Int) : FlatL (eC (iE .i64) l) := eC_flat (enc := iE .i64) flat_i l
theorem hQ3_flat {n m : Nat} {cs ci : List Value} (h : FlatL cs) (h2 : FlatL ci) : FlatD [0] (hp [.cells [.slice (some ⟨1,0,some 1⟩) n m] 1 true, .cells cs 2 true, .cells ci 1 true]) := FlatD.hp ⟨rfl, h, h2, trivial⟩
theorem due_loop (hmix : Try.prog.follows .mixedOrders = true) (now : Int) (L0 : List Re) (ok0 : ∀ x ∈ L0, ReOk x) (hl : L0.length ≤ 1000000) (K : Post)
    (hK : K (.exit 0) (tmps 42 [(5, .slice (some ⟨2,0,some 1⟩) (ripeE now L0).length (ripeE now L0).length)]) (hp (hQ (restE now L0).length (reC (restE now L0)) ++ [.cells (iC (ripeE now L0)) 1 true]))) :
    ∀ (L : List Re) (F : List Int), (∀ x ∈ L, ReOk x) → F ++ ripeE now L = ripeE now L0 → restE now L = restE now L0 → F.length + L.length = L0.length →
    LSays Try.prog 2 (sub body1305 [0,0,0,1,1]) (T1305 now F.length F.length) (hp (hQ L.length (reC L) ++ [.cells (iC F) 1 true])) K := by
  unfold hQ at hK
  intro L
  induction L with
  | nil =>
    intro F ok ha hb hc
    have hF := hQ3_flat (n := 0) (m := 0) (reC_flat []) (iC_flat F)
    refine (sure1305 hmix).roundX F1305 noLoops [0] [.tmp 5 1] [0] [.tmp 5 1] [0,1,5] ?_
    rw [r1305]
    have ha : F = ripeE now L0 := by rw [← ha]; simp [ripeE]
    have hb : restE now L0 = [] := by rw [← hb]; rfl
    rw [← ha, hb] at hK
    exact Alt_iff.2 ⟨fun h => (by cases h), fun _ => ⟨hF, hK⟩⟩
  | cons x t ih =>
    intro F ok ha hb hc
    have hI : IsRC (reC (x :: t)) (x :: t).length (x :: t).length := .mk _ rfl rfl rfl ok (by simp at hc ⊢; omega)
    refine (sure1305 hmix).roundX F1305 noLoops [0] [.tmp 5 1] [0] [.tmp 5 1] [0,1,5] ?_
    rw [r1305, iC_snoc, reC_at ok]
    have g0 : getO (reC (x :: t)) 0 = some (.int .u64 x.1) := rfl
    have g1 : getO (reC (x :: t)) 1 = some (.int .i64 x.2) := rfl
    have hF1 := hQ3_flat (n := (x :: t).length) (m := (x :: t).length) (reC_flat (x :: t)) (iC_flat F)
    have hF2 := hQ3_flat (n := t.length) (m := t.length) (reC_flat t) (iC_flat (F ++ [x.2]))
    have e1 : (x :: t).length - 1 = t.length := rfl
    have e2 : (x :: t).eraseIdx 0 = t := rfl
    have hiF : F.length ≤ (iC F).length := Nat.le_of_eq (eC_len _ _).symm
    have hle : F.length + 1 ≤ 1000000 := by simp at hc; omega
    simp only [g0, g1, e1, e2, hF1, hF2, hI, hiF, reC_flat, show ((0 : Int) < ((x :: t).length : Int)) by simp, show (F.length + 1) * 8 ≤ 1099511627776 by omega, show F.length + 1 ≤ 1099511627776 by omega, show intV (Value.int .u64 x.1) = x.1 from rfl, show intV (Value.int .i64 x.2) = x.2 from rfl, Alt_iff, Need_iff, ltI_eq, leI_eq, eqI_eq, leN_eq, eqN_eq, decide_eq_true_eq, decide_eq_false_iff_not, decide_true, decide_false, true_and, and_true, Bool.true_eq_false, Bool.false_eq_true, false_implies, true_implies, implies_true, not_true_eq_false, not_false_eq_true, Bool.not_eq_true', Bool.not_eq_false', Nat.zero_add, Nat.add_zero, Nat.sub_zero, Nat.zero_mul, Nat.mul_one, Int.toNat_natCast, List.drop_zero, beqV_int, beqV_sl, beqV_str, beqV_bool, beqV_ptr, beqV_flt, beqV_agg, beqV_tuple, List.all_cons, List.all_nil, Bool.and_self, Bool.and_true, Bool.true_and, Nat.le_refl, Int.le_refl, Nat.zero_le, Option.getD_some, isStr, strV, isInt, intV, isBool, boolV, kindEq, at0, isJunk, Option.isSome_some, Option.isSome_none, if_true, if_false, Nat.add_sub_cancel_left, Nat.add_sub_cancel]
    refine ⟨fun h => ?_, fun h => ?_⟩
    · have := ih (F ++ [x.2]) (fun z hz => ok z (List.mem_cons_of_mem _ hz)) (by rw [ripeE, if_pos (leI_iff.2 h)] at ha; rw [List.append_assoc]; exact ha) (by rw [restE, if_pos (leI_iff.2 h)] at hb; exact hb) (by simp at hc ⊢; omega)
      rw [List.length_append, List.length_singleton] at this
      exact this
    · have ha : F = ripeE now L0 := by rw [← ha, ripeE, if_neg (fun hh => h (leI_iff.1 hh)), List.append_nil]
      have hb : restE now L0 = x :: t := by rw [← hb, restE, if_neg (fun hh => h (leI_iff.1 hh))]
      rw [← ha, hb] at hK
      exact hK
noncomputable def cut1305 (now : Int) (L0 : List Re) : CutE where
  β := List Re × List Int
  p := [0,0,1,1]
  t := fun x => T1305 now x.2.length x.2.length
  h := fun x => hp (hQ x.1.length (reC x.1) ++ [.cells (iC x.2) 1 true])
  Q := fun x K => ((∀ y ∈ x.1, ReOk y) ∧ x.2 ++ ripeE now x.1 = ripeE now L0 ∧ restE now x.1 = restE now L0 ∧ x.2.length + x.1.length = L0.length) ∧ K (.exit 0) (tmps 42 [(5, .slice (some ⟨2,0,some 1⟩) (ripeE now L0).length (ripeE now L0).length)]) (hp (hQ (restE now L0).length (reC (restE now L0)) ++ [.cells (iC (ripeE now L0)) 1 true]))

theorem w1305 (now : Int) (n : Nat) (cs : List Value) (L0 : List Re) (K : Value → Heap → Prop) :
  funX Try.prog S1305 (gcLKX (at0 [0]) (at0 [.tmp 5 1]) 2 (cutE [cut1305 now L0])) F1305 body1305 Try.f12 [0] [.tmp 0 1] [p0, .int .u64 now] (hp (hQ n cs)) K = (
FlatD [0]
    (hp
      [Blk.cells [Value.slice (some { block := 1, off := 0, spot := some 1 : Addr }) n n] 1 true, Blk.cells cs 2 true,
        Blk.cells [] 1 true]) ∧
  ∃ (b : List Re × List Int),
    tmps 42
          [(0, Value.pointer (some { block := 0, off := 0 : Addr })), (1, Value.int IntKind.u64 now),
            (5, Value.slice (some { block := 2, off := 0, spot := some 1 : Addr }) 0 0)] =
        tmps 42
          [(0, Value.pointer (some { block := 0, off := 0 : Addr })), (1, Value.int IntKind.u64 now),
            (5, Value.slice (some { block := 2, off := 0, spot := some 1 : Addr }) b.snd.length b.snd.length)] ∧
      hp
            [Blk.cells [Value.slice (some { block := 1, off := 0, spot := some 1 : Addr }) n n] 1 true,
              Blk.cells cs 2 true, Blk.cells [] 1 true] =
          hp
            [Blk.cells [Value.slice (some { block := 1, off := 0, spot := some 1 : Addr }) b.fst.length b.fst.length] 1
                true,
              Blk.cells (reC b.fst) 2 true, Blk.cells (iC b.snd) 1 true] ∧
        ((∀ (y : Re), List.Mem y b.fst → ReOk y) ∧
            b.snd ++ ripeE now b.fst = ripeE now L0 ∧
              restE now b.fst = restE now L0 ∧ b.snd.length + b.fst.length = L0.length) ∧
          K
            (Value.slice (some { block := 2, off := 0, spot := some 1 : Addr }) (ripeE now L0).length
              (ripeE now L0).length)
            (hp
              [Blk.cells
                  [Value.slice (some { block := 1, off := 0, spot := some 1 : Addr }) (restE now L0).length
                      (restE now L0).length]
                  1 true,
                Blk.cells (reC (restE now L0)) 2 true, Blk.cells (iC (ripeE now L0)) 1 true])) := by kernel_rfl

noncomputable def qDueC : CtrW where
  D := [0]
  W := [0, 1]
  E := [0]
  pre := fun args blks => match args, blks with
    | [.pointer (some ⟨0,0,none⟩), .int .u64 _], [.cells [.slice (some ⟨1,0,some 1⟩) m k] 1 true, .cells cs 2 true] => IsRC cs m k
    | _, _ => False
  val := fun args blks => match args, blks with
    | [.pointer (some ⟨0,0,none⟩), .int .u64 d], [.cells [.slice (some ⟨1,0,some 1⟩) m k] 1 true, .cells cs 2 true] => .slice (some ⟨2,0,some 1⟩) (ripeE d (resAt cs m)).length (ripeE d (resAt cs m)).length
    | _, _ => undef
  out := fun args blks => match args, blks with
    | [.pointer (some ⟨0,0,none⟩), .int .u64 d], [.cells [.slice (some ⟨1,0,some 1⟩) m k] 1 true, .cells cs 2 true] => [.cells [.slice (some ⟨1,0,some 1⟩) (restE d (resAt cs m)).length (restE d (resAt cs m)).length] 1 true, .cells (reC (restE d (resAt cs m))) 2 true, .cells (iC (ripeE d (resAt cs m))) 1 true]
    | _, _ => []
theorem qDue_says (hmix : Try.prog.follows .mixedOrders = true) : qDueC.Holds Try.prog 12 := by
  intro args blks hf hp
  simp only [qDueC] at hp ⊢
  split at hp
  · rename_i d m k cs
    obtain ⟨L, rfl, rfl, rfl, ok, hl⟩ := hp
    rw [reC_at ok]
    refine ⟨⟨trivial, trivial, trivial⟩, ⟨rfl, reC_flat _, iC_flat _, trivial⟩, ?_⟩
    have hL : Loops Try.prog body1305 2 (cutE [cut1305 d L]) := Loops.noneE.moreE _ fun x K hQ => by
      obtain ⟨⟨h1, h2, h3, h4⟩, h5⟩ := hQ
      exact due_loop hmix d L ok hl K h5 x.1 x.2 h1 h2 h3 h4
    refine (sure1305 hmix).funX F1305 body1305 [0] [.tmp 0 1] Try.func12 rfl (hL.gcX (at0 [0]) (at0 [.tmp 5 1])) ?_
    have hw := w1305 d L.length (reC L) L
    unfold hQ p0 at hw
    rw [hw]
    refine ⟨hQ3_flat (reC_flat _) (iC_flat []), (L, []), rfl, rfl, ⟨ok, rfl, rfl, by simp⟩, ?_⟩
    refine ⟨hQ3_flat (reC_flat _) (iC_flat _), rfl, rfl, rfl⟩
  · exact hp.elim
end Go.Proofs.Ytmgnlkefhmhkhaa

namespace Go.Proofs.Ytmgnlkefhmhkhaa
open Go.RowKit Go.Proofs.Ytmgnlkefhmhkhaa.AM
set_option maxRecDepth 100000
set_option maxHeartbeats 4000000
noncomputable def body1308 : Code := (Try.f15.body).getD .skip
def F1308 : List Nat → Option (List Nat) := fun p => match p with
  | [1] => some [0, 1]
  | [1, 0, 1] => some [0, 1, 6]
  | [1, 0, 0, 0, 1, 0, 1] => some [0, 1, 6, 13]
  | [1, 1, 0, 0, 0, 1, 0, 1] => some []
  | [1, 0, 0, 1, 0, 1] => some [0, 1, 6]
  | [1, 0, 0, 1, 0, 0, 1, 0, 1] => some [0, 1, 6, 25]
  | [1, 0, 1, 0, 0, 1, 0, 0, 1, 0, 1] => some [4, 5]
  | [1, 1, 0, 0, 1, 0, 1] => some [0, 1, 6]
  | [1, 1] => some []
  | [1, 1, 1] => some [4, 5]
  | _ => none
noncomputable def body1316 : Code := (Try.f23.body).getD .skip
def F1316 : List Nat → Option (List Nat) := fun p => match p with
  | [1] => some [0, 1, 2]
  | [1, 1] => some [0, 1, 2, 6]
  | [1, 0, 0, 0, 0, 1, 1] => some [0, 1, 2, 6, 55]
  | [1, 1, 0, 0, 0, 0, 1, 1] => some [0, 1, 2, 6]
  | [1, 0, 0, 0, 1, 1] => some [0, 1, 2, 6]
  | [1, 1, 1] => some [0, 1, 2, 6]
  | _ => none
noncomputable def body1317 : Code := (Try.f24.body).getD .skip
def F1317 : List Nat → Option (List Nat) := fun p => match p with
  | [1] => some [0, 1]
  | [1, 0, 1] => some [0, 1, 5]
  | [1, 0, 0, 0, 1, 0, 1] => some [0, 1, 5, 12]
  | [1, 1, 0, 0, 0, 1, 0, 1] => some []
  | [1, 0, 0, 1, 0, 1] => some [0, 1, 5]
  | [1, 0, 0, 1, 0, 0, 1, 0, 1] => some [0, 1, 5, 24]
  | [1, 0, 1, 0, 0, 1, 0, 0, 1, 0, 1] => some []
  | [1, 1, 0, 1, 0, 0, 1, 0, 0, 1, 0, 1] => some [4]
  | [1, 1, 0, 0, 1, 0, 1] => some [0, 1, 5]
  | [1, 1] => some []
  | [1, 1, 1] => some [4]
  | _ => none
noncomputable def body1318 : Code := (Try.f25.body).getD .skip
def F1318 : List Nat → Option (List Nat) := fun p => match p with
  | [1] => some [0, 1]
  | [1, 1] => some [0, 1, 5]
  | [1, 0, 0, 0, 0, 1, 1] => some [0, 1, 5, 22]
  | [1, 1, 0, 0, 0, 0, 1, 1] => some [5]
  | [1, 0, 0, 0, 1, 1] => some [0, 1, 5]
  | [1, 0, 1, 0, 0, 0, 1, 1] => some [0, 1, 5]
  | [1, 1, 1] => some [5]
  | [1, 1, 1, 1] => some [4]
  | _ => none
noncomputable def hR (o n : Nat) (cs : List Value) : List Blk := [.cells [.slice (some ⟨1,o,some 1⟩) n n] 1 true, .cells cs 2 true]
noncomputable def T1308 (id : Int) (i : Nat) : List Value := tmps 34 [(0, p0), (1, .int .i64 id), (6, .int .i64 i)]
noncomputable def T1317 (id : Int) (i : Nat) : List Value := tmps 43 [(0, p0), (1, .int .i64 id), (5, .int .i64 i)]
noncomputable def T1318 (now : Int) (q : Nat) : List Value := tmps 42 [(0, p0), (1, .int .u64 now), (5, .slice (some ⟨2,0,some 1⟩) q q)]
noncomputable def T1316 (id d : Int) (n : Nat) : List Value := tmps 80 [(0, p0), (1, .int .i64 id), (2, .int .u64 d), (6, .int .i64 n)]

theorem r1308 (id : Int) (i o n : Nat) (cs : List Value) (K : Post) :
  roundX Try.prog S0 noLoop F1308 body1308 2 [0] [] [0] [] [0,1,6] [0,0,1,0,1] (T1308 id i) (hp (hR o n cs)) K = (
Alt (ltI (↑i : Int) (↑n : Int))
  (Need (ltI (↑i : Int) (↑n : Int))
    (Need (isInt IntKind.i64 ((getO cs (o + (↑i : Int).toNat * 2 + 0)).getD undef))
      (Alt (eqI (intV ((getO cs (o + (↑i : Int).toNat * 2 + 0)).getD undef)) id)
        (Need (ltI (↑i : Int) (↑n : Int))
          (Need (isInt IntKind.u64 ((getO cs (o + (↑i : Int).toNat * 2 + 1)).getD undef))
            (K AE.ret
              (tmps 34
                [(4, Value.int IntKind.u64 (intV ((getO cs (o + (↑i : Int).toNat * 2 + 1)).getD undef))),
                  (5, Value.bool true)])
              (hp
                [Blk.cells [Value.slice (some { block := 1, off := o, spot := some 1 : Addr }) n n] 1 true,
                  Blk.cells cs 2 true]))))
        (K AE.normal
          (tmps 34
            [(0, Value.pointer (some { block := 0, off := 0 : Addr })), (1, Value.int IntKind.i64 id),
              (6, Value.int IntKind.i64 (wr IntKind.i64 ((↑i : Int) + 1)))])
          (hp
            [Blk.cells [Value.slice (some { block := 1, off := o, spot := some 1 : Addr }) n n] 1 true,
              Blk.cells cs 2 true])))))
  (K (AE.exit 0) (tmps 34 [])
    (hp
      [Blk.cells [Value.slice (some { block := 1, off := o, spot := some 1 : Addr }) n n] 1 true, Blk.cells cs 2 true]))) := by kernel_rfl

theorem r1317 (id : Int) (i o n : Nat) (cs : List Value) (K : Post) :
  roundX Try.prog S0 noLoop F1317 body1317 2 [0] [] [0] [] [0,1,5] [0,0,1,0,1] (T1317 id i) (hp (hR o n cs)) K = (
Alt (ltI (↑i : Int) (↑n : Int))
  (Need (ltI (↑i : Int) (↑n : Int))
    (Need (isInt IntKind.i64 ((getO cs (o + (↑i : Int).toNat * 2 + 0)).getD undef))
      (Alt (eqI (intV ((getO cs (o + (↑i : Int).toNat * 2 + 0)).getD undef)) id)
        (Need (leI (↑i : Int) (↑n : Int))
          (Need (leN (o + 0 + ((↑i : Int).toNat - 0) * 2) cs.length)
            (Need (leN (((↑i : Int).toNat - 0) * 16) 1099511627776)
              (Need (leN ((↑i : Int).toNat - 0) 1099511627776)
                (Need (leI 0 (wr IntKind.i64 ((↑i : Int) + 1)))
                  (Need (leI (wr IntKind.i64 ((↑i : Int) + 1)) (↑n : Int))
                    (Need
                      (leN
                        (o + (wr IntKind.i64 ((↑i : Int) + 1)).toNat * 2 +
                          (n - (wr IntKind.i64 ((↑i : Int) + 1)).toNat) * 2)
                        cs.length)
                      (Need
                        (leN (0 + ((↑i : Int).toNat - 0) * 2)
                          (List.take (((↑i : Int).toNat - 0) * 2) (List.drop (o + 0) cs)).length)
                        (Need
                          (leN (((↑i : Int).toNat - 0 + (n - (wr IntKind.i64 ((↑i : Int) + 1)).toNat)) * 16)
                            1099511627776)
                          (Need
                            (leN ((↑i : Int).toNat - 0 + (n - (wr IntKind.i64 ((↑i : Int) + 1)).toNat)) 1099511627776)
                            (Need
                              ((List.take ((n - (wr IntKind.i64 ((↑i : Int) + 1)).toNat) * 2)
                                    (List.drop (o + (wr IntKind.i64 ((↑i : Int) + 1)).toNat * 2) cs)).all
                                oneV)
                              (Need (leI 0 (wr IntKind.i64 ((↑i : Int) + 1)))
                                (Need (leI (wr IntKind.i64 ((↑i : Int) + 1)) (↑n : Int))
                                  (Need
                                    (beqV 64
                                      (Value.slice
                                        (some
                                          { block := 1, off := o + (wr IntKind.i64 ((↑i : Int) + 1)).toNat * 2,
                                            spot := some 3 : Addr })
                                        (n - (wr IntKind.i64 ((↑i : Int) + 1)).toNat)
                                        (n - (wr IntKind.i64 ((↑i : Int) + 1)).toNat))
                                      (Value.slice
                                        (some
                                          { block := 1, off := o + (wr IntKind.i64 ((↑i : Int) + 1)).toNat * 2,
                                            spot := some 3 : Addr })
                                        (n - (wr IntKind.i64 ((↑i : Int) + 1)).toNat)
                                        (n - (wr IntKind.i64 ((↑i : Int) + 1)).toNat)))
                                    (Need
                                      (beqV 64 (Value.int IntKind.i64 (wr IntKind.i64 ((↑i : Int) + 1)))
                                        (Value.int IntKind.i64 (wr IntKind.i64 ((↑i : Int) + 1))))
                                      (Need
                                        (beqV 64 (Value.int IntKind.i64 (↑i : Int)) (Value.int IntKind.i64 (↑i : Int)))
                                        (Need
                                          (beqV 64
                                            (Value.slice (some { block := 1, off := o, spot := some 1 : Addr }) n n)
                                            (Value.slice (some { block := 1, off := o, spot := some 1 : Addr }) n n))
                                          (K AE.ret (tmps 43 [(4, Value.bool true)])
                                            (hp
                                              [Blk.cells
                                                  [Value.slice (some { block := 2, off := 0, spot := some 1 : Addr })
                                                      ((↑i : Int).toNat - 0 +
                                                        (n - (wr IntKind.i64 ((↑i : Int) + 1)).toNat))
                                                      ((↑i : Int).toNat - 0 +
                                                        (n - (wr IntKind.i64 ((↑i : Int) + 1)).toNat))]
                                                  1 true,
                                                Blk.cells cs 2 true,
                                                Blk.cells
                                                  (List.take (((↑i : Int).toNat - 0) * 2)
                                                      (List.drop 0
                                                        (List.take (((↑i : Int).toNat - 0) * 2)
                                                          (List.drop (o + 0) cs))) ++
                                                    List.take ((n - (wr IntKind.i64 ((↑i : Int) + 1)).toNat) * 2)
                                                      (List.drop (o + (wr IntKind.i64 ((↑i : Int) + 1)).toNat * 2) cs))
                                                  2 true])))))))))))))))))))
        (K AE.normal
          (tmps 43
            [(0, Value.pointer (some { block := 0, off := 0 : Addr })), (1, Value.int IntKind.i64 id),
              (5, Value.int IntKind.i64 (wr IntKind.i64 ((↑i : Int) + 1)))])
          (hp
            [Blk.cells [Value.slice (some { block := 1, off := o, spot := some 1 : Addr }) n n] 1 true,
              Blk.cells cs 2 true])))))
  (K (AE.exit 0) (tmps 43 [])
    (hp
      [Blk.cells [Value.slice (some { block := 1, off := o, spot := some 1 : Addr }) n n] 1 true, Blk.cells cs 2 true]))) := by kernel_rfl

theorem r1318 (now : Int) (q o n : Nat) (cs ci : List Value) (K : Post) :
  roundX Try.prog S0 noLoop F1318 body1318 2 [0] [.tmp 5 1, .cell 0 0 2] [0] [.tmp 5 1] [0,1,5] [0,0,0,1,1] (T1318 now q) (hp (hR o n cs ++ [.cells ci 1 true])) K = (
Alt (ltI 0 (↑n : Int))
  (Need (ltI 0 (↑n : Int))
    (Need (isInt IntKind.u64 ((getO cs (o + 0 + 1)).getD undef))
      (Alt (leI (intV ((getO cs (o + 0 + 1)).getD undef)) now)
        (Need (ltI 0 (↑n : Int))
          (Need (isInt IntKind.i64 ((getO cs (o + 0 + 0)).getD undef))
            (Need (leN (0 + q * 1) ci.length)
              (Need (leN ((q + 1) * 8) 1099511627776)
                (Need (leN (q + 1) 1099511627776)
                  (Need (leI 1 (↑n : Int))
                    (K AE.normal
                      (tmps 42
                        [(0, Value.pointer (some { block := 0, off := 0 : Addr })), (1, Value.int IntKind.u64 now),
                          (5, Value.slice (some { block := 2, off := 0, spot := some 1 : Addr }) (q + 1) (q + 1))])
                      (hp
                        [Blk.cells
                            [Value.slice (some { block := 1, off := o + 2, spot := some 1 : Addr }) (n - 1) (n - 1)] 1
                            true,
                          Blk.cells cs 2 true,
                          Blk.cells
                            (List.take (q * 1) (List.drop 0 ci) ++
                              [Value.int IntKind.i64 (intV ((getO cs (o + 0 + 0)).getD undef))])
                            1 true]))))))))
        (K (AE.exit 0) (tmps 42 [(5, Value.slice (some { block := 2, off := 0, spot := some 1 : Addr }) q q)])
          (hp
            [Blk.cells [Value.slice (some { block := 1, off := o, spot := some 1 : Addr }) n n] 1 true,
              Blk.cells cs 2 true, Blk.cells ci 1 true])))))
  (K (AE.exit 0) (tmps 42 [(5, Value.slice (some { block := 2, off := 0, spot := some 1 : Addr }) q q)])
    (hp
      [Blk.cells [Value.slice (some { block := 1, off := o, spot := some 1 : Addr }) n n] 1 true, Blk.cells cs 2 true,
        Blk.cells ci 1 true]))) := by kernel_rfl

def deF (x : Re) : Value := .int .i64 x.2
def deG (x : Re) : Value := .int .u64 x.1
def deD (a b : Value) : Re := (intV b, intV a)
abbrev deC (L : List Re) : List Value := pC deF deG L
theorem de_flat (a : Re) : flat (deF a) = true := rfl
theorem de_flatG (a : Re) : flat (deG a) = true := rfl
theorem de_one (a : Re) : oneV (deF a) = true := rfl
theorem de_oneG (a : Re) : oneV (deG a) = true := rfl
theorem deC_flat (L : List Re) : FlatL (deC L) := pC_flat de_flat de_flatG L
noncomputable def desAt (cs : List Value) (o n : Nat) : List Re := pairAt deD (cs.drop o) n
/-- a row that runs from a place on -/
structure DRow (cs : List Value) (o : Nat) (L : List Re) : Prop where
  eq : cs.drop o = deC L
  le : o ≤ cs.length
  ok : ∀ x ∈ L, ReOk x
  short : L.length ≤ 1000000
  flat : FlatL cs
inductive IsDC (cs : List Value) (o m k : Nat) : Prop
  | mk (L : List Re) (h : DRow cs o L) (hm : m = L.length) (hk : k = L.length) : IsDC cs o m k
theorem DRow.sl {cs : List Value} {o : Nat} {L : List Re} (h : DRow cs o L) : PSl deF deG ReOk (cs.drop o) L := by rw [h.eq]; exact PSl.own0 de_flat de_flatG h.ok
theorem DRow.at {cs : List Value} {o : Nat} {L : List Re} (h : DRow cs o L) : desAt cs o L.length = L := h.sl.at fun _ => rfl
theorem DRow.size {cs : List Value} {o : Nat} {L : List Re} (h : DRow cs o L) : cs.length = o + L.length * 2 := by
  have := congrArg List.length h.eq
  rw [List.length_drop, pC_len] at this
  have := h.le; omega
theorem DRow.get0 {cs : List Value} {o : Nat} {L : List Re} (h : DRow cs o L) {j : Nat} {x : Re} (hj : L[j]? = some x) : getO cs (o + j * 2) = some (.int .i64 x.2) := by
  have := h.sl.get0 hj
  rw [getO_eq, List.getElem?_drop] at this
  rw [getO_eq]; exact this
theorem DRow.get1 {cs : List Value} {o : Nat} {L : List Re} (h : DRow cs o L) {j : Nat} {x : Re} (hj : L[j]? = some x) : getO cs (o + j * 2 + 1) = some (.int .u64 x.1) := by
  have := h.sl.get1 hj
  rw [getO_eq, List.getElem?_drop] at this
  rw [getO_eq, Nat.add_assoc]; exact this
theorem DRow.takeN {cs : List Value} {o : Nat} {L : List Re} (h : DRow cs o L) (n : Nat) : List.take (n * 2) (cs.drop o) = deC (L.take n) := by rw [h.eq, pC_take]
theorem DRow.dropN {cs : List Value} {o : Nat} {L : List Re} (h : DRow cs o L) (n : Nat) : List.take ((L.length - n) * 2) (cs.drop (o + n * 2)) = deC (L.drop n) := by
  rw [← List.drop_drop, h.eq, pC_drop, List.take_of_length_le]
  rw [pC_len, List.length_drop]; exact Nat.le_refl _
theorem deC_row {L : List Re} (ok : ∀ x ∈ L, ReOk x) (hl : L.length ≤ 1000000) : DRow (deC L) 0 L := ⟨rfl, Nat.zero_le _, ok, hl, deC_flat L⟩
theorem hR_flat {o n m : Nat} {cs : List Value} (h : FlatL cs) : FlatD [0] (hp [.cells [.slice (some ⟨1,o,some 1⟩) n m] 1 true, .cells cs 2 true]) := FlatD.hp ⟨rfl, h, trivial⟩
theorem hR3_flat {o n m : Nat} {cs ci : List Value} {e : Nat} (h : FlatL cs) (h2 : FlatL ci) : FlatD [0] (hp [.cells [.slice (some ⟨1,o,some 1⟩) n m] 1 true, .cells cs 2 true, .cells ci e true]) := FlatD.hp ⟨rfl, h, h2, trivial⟩
theorem hR4_flat {n m : Nat} {cs ci : List Value} {e : Nat} (h : FlatL cs) (h2 : FlatL ci) : FlatD [0] (hp [.cells [.slice (some ⟨2,0,some 1⟩) n m] 1 true, .cells cs 2 true, .cells ci e true]) := FlatD.hp ⟨rfl, h, h2, trivial⟩
/-- what is told of one that stands for a number -/
def whenE (o : Int) : List Re → Int
  | [] => 0
  | x :: t => if eqI x.2 o then x.1 else whenE o t
theorem rat_loop (hmix : Try.prog.follows .mixedOrders = true) (id : Int) (o : Nat) (cs : List Value) (L : List Re) (hB : DRow cs o L) (K : Post)
    (hK : Alt (hasE id L) (K .ret (tmps 34 [(4, .int .u64 (whenE id L)), (5, .bool true)]) (hp (hR o L.length cs))) (K (.exit 0) (tmps 34 []) (hp (hR o L.length cs)))) : ∀ (t : List Re) (i : Nat), L.drop i = t → hasE id t = hasE id L → whenE id t = whenE id L →
    LSays Try.prog 2 (sub body1308 [0,0,1,0,1]) (T1308 id i) (hp (hR o L.length cs)) K := by
  have hF := hR_flat (o := o) (n := L.length) (m := L.length) hB.flat
  have hl := hB.short
  unfold hR at hK
  intro t
  induction t with
  | nil =>
    intro i ht ha hb
    have hge : ¬ ((i : Int) < (L.length : Int)) := by have := List.drop_eq_nil_iff.1 ht; omega
    refine (sure0 hmix).roundX F1308 noLoops [0] [] [0] [] [0,1,6] ?_
    rw [r1308]
    simp only [hge, hF, Alt_iff, Need_iff, ltI_eq, leI_eq, eqI_eq, leN_eq, eqN_eq, decide_eq_true_eq, decide_eq_false_iff_not, decide_true, decide_false, true_and, and_true, Bool.true_eq_false, Bool.false_eq_true, false_implies, true_implies, implies_true, not_true_eq_false, not_false_eq_true, Bool.not_eq_true', Bool.not_eq_false', Nat.zero_add, Nat.add_zero, Nat.sub_zero, Nat.zero_mul, Nat.mul_one, Int.toNat_natCast, List.drop_zero, beqV_int, beqV_sl, beqV_str, beqV_bool, beqV_ptr, beqV_flt, beqV_agg, beqV_tuple, List.all_cons, List.all_nil, Bool.and_self, Bool.and_true, Bool.true_and, Nat.le_refl, Int.le_refl, Nat.zero_le, Option.getD_some, isStr, strV, isInt, intV, isBool, boolV, kindEq, at0, isJunk, Option.isSome_some, Option.isSome_none, if_true, if_false, Nat.add_sub_cancel_left, Nat.add_sub_cancel]
    rw [← ha] at hK
    exact (Alt_iff.1 hK).2 rfl
  | cons x t ih =>
    intro i ht ha hb
    obtain ⟨hlt, hx, hd⟩ := cons_of_drop ht
    refine (sure0 hmix).roundX F1308 noLoops [0] [] [0] [] [0,1,6] ?_
    rw [r1308]
    simp only [show (i : Int) < (L.length : Int) by omega, Int.toNat_natCast, hB.get0 hx, hB.get1 hx, nx i (by omega), hF, Alt_iff, Need_iff, ltI_eq, leI_eq, eqI_eq, leN_eq, eqN_eq, decide_eq_true_eq, decide_eq_false_iff_not, decide_true, decide_false, true_and, and_true, Bool.true_eq_false, Bool.false_eq_true, false_implies, true_implies, implies_true, not_true_eq_false, not_false_eq_true, Bool.not_eq_true', Bool.not_eq_false', Nat.zero_add, Nat.add_zero, Nat.sub_zero, Nat.zero_mul, Nat.mul_one, Int.toNat_natCast, List.drop_zero, beqV_int, beqV_sl, beqV_str, beqV_bool, beqV_ptr, beqV_flt, beqV_agg, beqV_tuple, List.all_cons, List.all_nil, Bool.and_self, Bool.and_true, Bool.true_and, Nat.le_refl, Int.le_refl, Nat.zero_le, Option.getD_some, isStr, strV, isInt, intV, isBool, boolV, kindEq, at0, isJunk, Option.isSome_some, Option.isSome_none, if_true, if_false, Nat.add_sub_cancel_left, Nat.add_sub_cancel]
    rw [hasE] at ha
    rw [whenE] at hb
    refine ⟨fun h => ?_, fun h => ?_⟩
    · rw [if_pos (eqI_iff.2 h)] at ha hb
      rw [← ha, ← hb] at hK
      exact (Alt_iff.1 hK).1 rfl
    · exact ih (i + 1) hd (by rw [if_neg (fun hh => h (eqI_iff.1 hh))] at ha; exact ha) (by rw [if_neg (fun hh => h (eqI_iff.1 hh))] at hb; exact hb)
theorem rdrop_loop (hmix : Try.prog.follows .mixedOrders = true) (id : Int) (o : Nat) (cs : List Value) (L : List Re) (hB : DRow cs o L) (K : Post)
    (hK : Alt (hasE id L) (K .ret (tmps 43 [(4, .bool true)]) (hp [.cells [.slice (some ⟨2,0,some 1⟩) (dropE id L).length (dropE id L).length] 1 true, .cells cs 2 true, .cells (deC (dropE id L)) 2 true])) (K (.exit 0) (tmps 43 []) (hp (hR o L.length cs)))) : ∀ (t : List Re) (i : Nat), L.drop i = t → hasE id t = hasE id L → dropE id L = L.take i ++ dropE id t →
    LSays Try.prog 2 (sub body1317 [0,0,1,0,1]) (T1317 id i) (hp (hR o L.length cs)) K := by
  have hF := hR_flat (o := o) (n := L.length) (m := L.length) hB.flat
  have hl := hB.short
  have hsz := hB.size
  unfold hR at hK
  intro t
  induction t with
  | nil =>
    intro i ht ha hb
    have hge : ¬ ((i : Int) < (L.length : Int)) := by have := List.drop_eq_nil_iff.1 ht; omega
    refine (sure0 hmix).roundX F1317 noLoops [0] [] [0] [] [0,1,5] ?_
    rw [r1317]
    simp only [hge, hF, Alt_iff, Need_iff, ltI_eq, leI_eq, eqI_eq, leN_eq, eqN_eq, decide_eq_true_eq, decide_eq_false_iff_not, decide_true, decide_false, true_and, and_true, Bool.true_eq_false, Bool.false_eq_true, false_implies, true_implies, implies_true, not_true_eq_false, not_false_eq_true, Bool.not_eq_true', Bool.not_eq_false', Nat.zero_add, Nat.add_zero, Nat.sub_zero, Nat.zero_mul, Nat.mul_one, Int.toNat_natCast, List.drop_zero, beqV_int, beqV_sl, beqV_str, beqV_bool, beqV_ptr, beqV_flt, beqV_agg, beqV_tuple, List.all_cons, List.all_nil, Bool.and_self, Bool.and_true, Bool.true_and, Nat.le_refl, Int.le_refl, Nat.zero_le, Option.getD_some, isStr, strV, isInt, intV, isBool, boolV, kindEq, at0, isJunk, Option.isSome_some, Option.isSome_none, if_true, if_false, Nat.add_sub_cancel_left, Nat.add_sub_cancel]
    rw [← ha] at hK
    exact (Alt_iff.1 hK).2 rfl
  | cons x t ih =>
    intro i ht ha hb
    obtain ⟨hlt, hx, hd⟩ := cons_of_drop ht
    refine (sure0 hmix).roundX F1317 noLoops [0] [] [0] [] [0,1,5] ?_
    rw [r1317]
    have e1 := hB.takeN i
    have e2 := hB.dropN (i + 1)
    have hal : (deC (L.drop (i + 1))).all oneV = true := pC_one de_one de_oneG _
    have e3 : List.take (i * 2) (deC (L.take i)) = deC (L.take i) := List.take_of_length_le (by rw [pC_len, List.length_take]; omega)
    have l1 : (deC (L.take i)).length = i * 2 := by rw [pC_len, List.length_take]; omega
    rw [dropE] at hb
    simp only [show (i : Int) < (L.length : Int) by omega, show (i : Int) ≤ (L.length : Int) by omega, Int.toNat_natCast, hB.get0 hx, hB.get1 hx, nx i (by omega), hF, e1, e2, e3, l1, hal, Nat.sub_zero, Nat.add_zero, Nat.zero_add, List.drop_zero,
      show o + i * 2 ≤ cs.length by omega, show i * 16 ≤ 1099511627776 by omega, show i ≤ 1099511627776 by omega, show (0 : Int) ≤ ((i + 1 : Nat) : Int) by omega, show ((i + 1 : Nat) : Int) ≤ (L.length : Int) by omega, show o + (i + 1) * 2 + (L.length - (i + 1)) * 2 ≤ cs.length by omega, show (i + (L.length - (i + 1))) * 16 ≤ 1099511627776 by omega, show i + (L.length - (i + 1)) ≤ 1099511627776 by omega, Alt_iff, Need_iff, ltI_eq, leI_eq, eqI_eq, leN_eq, eqN_eq, decide_eq_true_eq, decide_eq_false_iff_not, decide_true, decide_false, true_and, and_true, Bool.true_eq_false, Bool.false_eq_true, false_implies, true_implies, implies_true, not_true_eq_false, not_false_eq_true, Bool.not_eq_true', Bool.not_eq_false', Nat.zero_add, Nat.add_zero, Nat.sub_zero, Nat.zero_mul, Nat.mul_one, Int.toNat_natCast, List.drop_zero, beqV_int, beqV_sl, beqV_str, beqV_bool, beqV_ptr, beqV_flt, beqV_agg, beqV_tuple, List.all_cons, List.all_nil, Bool.and_self, Bool.and_true, Bool.true_and, Nat.le_refl, Int.le_refl, Nat.zero_le, Option.getD_some, isStr, strV, isInt, intV, isBool, boolV, kindEq, at0, isJunk, Option.isSome_some, Option.isSome_none, if_true, if_false, Nat.add_sub_cancel_left, Nat.add_sub_cancel]
    rw [hasE] at ha
    refine ⟨fun h => ?_, fun h => ?_⟩
    · rw [if_pos (eqI_iff.2 h)] at ha hb
      have hc : deC (L.take i) ++ deC (L.drop (i + 1)) = deC (dropE id L) := by rw [hb, ← hd]; exact (pC_append _ _).symm
      have hn : i + (L.length - (i + 1)) = (dropE id L).length := by rw [hb, ← hd]; simp; omega
      rw [hc, hn]
      rw [← ha] at hK
      exact ⟨hR4_flat hB.flat (deC_flat _), (Alt_iff.1 hK).1 rfl⟩
    · exact ih (i + 1) hd (by rw [if_neg (fun hh => h (eqI_iff.1 hh))] at ha; exact ha) (by
        rw [if_neg (fun hh => h (eqI_iff.1 hh))] at hb
        rw [hb, List.take_add_one, hx]; simp)
end Go.Proofs.Ytmgnlkefhmhkhaa

namespace Go.Proofs.Ytmgnlkefhmhkhaa
open Go.RowKit Go.Proofs.Ytmgnlkefhmhkhaa.AM
set_option maxRecDepth 100000
set_option maxHeartbeats 4000000
noncomputable def cut1308 (id : Int) (o : Nat) (cs : List Value) (L : List Re) : CutE where
  β := Nat
  p := [0,1,0,1]
  t := fun x => T1308 id x
  h := fun x => hp (hR o L.length cs)
  Q := fun x K => (hasE id (L.drop x) = hasE id L ∧ whenE id (L.drop x) = whenE id L) ∧ Alt (hasE id L) (K .ret (tmps 34 [(4, .int .u64 (whenE id L)), (5, .bool true)]) (hp (hR o L.length cs))) (K (.exit 0) (tmps 34 []) (hp (hR o L.length cs)))

theorem w1308 (id : Int) (o : Nat) (cs : List Value) (L : List Re) (K : Value → Heap → Prop) :
  funX Try.prog S0 (gcLKX (at0 [0]) (at0 []) 2 (cutE [cut1308 id o cs L])) F1308 body1308 Try.f15 [0] [] [p0, .int .i64 id] (hp (hR o L.length cs)) K = (
FlatD [0]
    (hp
      [Blk.cells [Value.slice (some { block := 1, off := o, spot := some 1 : Addr }) L.length L.length] 1 true,
        Blk.cells cs 2 true]) ∧
  ∃ (b : Nat),
    tmps 34
          [(0, Value.pointer (some { block := 0, off := 0 : Addr })), (1, Value.int IntKind.i64 id),
            (6, Value.int IntKind.i64 0)] =
        tmps 34
          [(0, Value.pointer (some { block := 0, off := 0 : Addr })), (1, Value.int IntKind.i64 id),
            (6, Value.int IntKind.i64 (↑b : Int))] ∧
      hp
            [Blk.cells [Value.slice (some { block := 1, off := o, spot := some 1 : Addr }) L.length L.length] 1 true,
              Blk.cells cs 2 true] =
          hp
            [Blk.cells [Value.slice (some { block := 1, off := o, spot := some 1 : Addr }) L.length L.length] 1 true,
              Blk.cells cs 2 true] ∧
        (hasE id (List.drop b L) = hasE id L ∧ whenE id (List.drop b L) = whenE id L) ∧
          Alt (hasE id L)
            (K (Value.tuple #[Value.int IntKind.u64 (whenE id L), Value.bool true])
              (hp
                [Blk.cells [Value.slice (some { block := 1, off := o, spot := some 1 : Addr }) L.length L.length] 1
                    true,
                  Blk.cells cs 2 true]))
            (K (Value.tuple #[Value.int IntKind.u64 0, Value.bool false])
              (hp
                [Blk.cells [Value.slice (some { block := 1, off := o, spot := some 1 : Addr }) L.length L.length] 1
                    true,
                  Blk.cells cs 2 true]))) := by kernel_rfl

noncomputable def cut1317 (id : Int) (o : Nat) (cs : List Value) (L : List Re) : CutE where
  β := Nat
  p := [0,1,0,1]
  t := fun x => T1317 id x
  h := fun x => hp (hR o L.length cs)
  Q := fun x K => (hasE id (L.drop x) = hasE id L ∧ dropE id L = L.take x ++ dropE id (L.drop x)) ∧ Alt (hasE id L) (K .ret (tmps 43 [(4, .bool true)]) (hp [.cells [.slice (some ⟨2,0,some 1⟩) (dropE id L).length (dropE id L).length] 1 true, .cells cs 2 true, .cells (deC (dropE id L)) 2 true])) (K (.exit 0) (tmps 43 []) (hp (hR o L.length cs)))

theorem w1317 (id : Int) (o : Nat) (cs : List Value) (L : List Re) (K : Value → Heap → Prop) :
  funX Try.prog S0 (gcLKX (at0 [0]) (at0 []) 2 (cutE [cut1317 id o cs L])) F1317 body1317 Try.f24 [0] [] [p0, .int .i64 id] (hp (hR o L.length cs)) K = (
FlatD [0]
    (hp
      [Blk.cells [Value.slice (some { block := 1, off := o, spot := some 1 : Addr }) L.length L.length] 1 true,
        Blk.cells cs 2 true]) ∧
  ∃ (b : Nat),
    tmps 43
          [(0, Value.pointer (some { block := 0, off := 0 : Addr })), (1, Value.int IntKind.i64 id),
            (5, Value.int IntKind.i64 0)] =
        tmps 43
          [(0, Value.pointer (some { block := 0, off := 0 : Addr })), (1, Value.int IntKind.i64 id),
            (5, Value.int IntKind.i64 (↑b : Int))] ∧
      hp
            [Blk.cells [Value.slice (some { block := 1, off := o, spot := some 1 : Addr }) L.length L.length] 1 true,
              Blk.cells cs 2 true] =
          hp
            [Blk.cells [Value.slice (some { block := 1, off := o, spot := some 1 : Addr }) L.length L.length] 1 true,
              Blk.cells cs 2 true] ∧
        (hasE id (List.drop b L) = hasE id L ∧ dropE id L = List.take b L ++ dropE id (List.drop b L)) ∧
          Alt (hasE id L)
            (K (Value.bool true)
              (hp
                [Blk.cells
                    [Value.slice (some { block := 2, off := 0, spot := some 1 : Addr }) (dropE id L).length
                        (dropE id L).length]
                    1 true,
                  Blk.cells cs 2 true, Blk.cells (deC (dropE id L)) 2 true]))
            (K (Value.bool false)
              (hp
                [Blk.cells [Value.slice (some { block := 1, off := o, spot := some 1 : Addr }) L.length L.length] 1
                    true,
                  Blk.cells cs 2 true]))) := by kernel_rfl

/-- a row where it stood, told as a new one, or a new one -/
theorem ref_ren {cs : List Value} {o n B : Nat} {h : Heap} {v : Value} (hv : flat v = true) (hj : isJunk v = false) (hf : FlatL cs) (hB : B ≠ 0) (h0 : h.get 0 = some (.cells [.slice (some ⟨B,o,some 1⟩) n n] 1 true)) (h1 : h.get B = some (.cells cs 2 true)) :
    Ren 2 (fun i => if i = 2 then B else i) [v] h [v] (hp [.cells [.slice (some ⟨2,o,some 1⟩) n n] 1 true, .dead, .cells cs 2 true]) := by
  refine ⟨by rw [hp_size]; simp, fun i hi => if_neg (by omega), fun i c e ow hi => ?_, fun i j c e ow c' e' o' hi hj he => ?_, rfl, fun i x y hx hy => ?_⟩
  · rw [hp_get] at hi
    rcases i with _ | _ | _ | i
    · simp only [List.getElem?_cons_zero, Option.some.injEq, Blk.cells.injEq] at hi
      obtain ⟨rfl, rfl, rfl⟩ := hi
      refine ⟨_, h0, fun ρ ρ2 hρ => Mvs.cons (Mv.sl ?_ _ _ _ _) Mvs.nil⟩
      exact hρ 2 (by rw [hp_size]; simp)
    · simp at hi
    · simp only [List.getElem?_cons_succ, List.getElem?_cons_zero, Option.some.injEq, Blk.cells.injEq] at hi
      obtain ⟨rfl, rfl, rfl⟩ := hi
      exact ⟨_, h1, fun ρ ρ2 hρ => Mvs.flat hf.1⟩
    · simp at hi
  · rw [hp_get] at hi hj
    rcases i with _ | _ | _ | i <;> rcases j with _ | _ | _ | j <;> simp at hi hj he ⊢ <;> omega
  · cases i with
    | zero =>
      simp at hx hy
      subst hx hy
      exact .inr ⟨hj, fun ρ ρ2 hρ => Mv.flat hv⟩
    | succ i => simp at hx
noncomputable def rAtC : CtrW where
  D := [0]
  W := []
  E := []
  pre := fun args blks => match args, blks with
    | [.pointer (some ⟨0,0,none⟩), .int .i64 _], [.cells [.slice (some ⟨1,o,some 1⟩) m k] 1 true, .cells cs 2 true] => IsDC cs o m k
    | _, _ => False
  val := fun args blks => match args, blks with
    | [.pointer (some ⟨0,0,none⟩), .int .i64 id], [.cells [.slice (some ⟨1,o,some 1⟩) m k] 1 true, .cells cs 2 true] => .tuple #[.int .u64 (whenE id (desAt cs o m)), .bool (hasE id (desAt cs o m))]
    | _, _ => undef
  out := fun args blks => blks
theorem when_no {o : Int} : ∀ {L : List Re}, hasE o L = false → whenE o L = 0 := by
  intro L
  induction L with
  | nil => intro _; rfl
  | cons x t ih =>
    intro h
    unfold hasE at h
    unfold whenE
    split at h
    · cases h
    · rename_i hx; rw [if_neg hx]; exact ih h
theorem drop_no {o : Int} : ∀ {L : List Re}, hasE o L = false → dropE o L = L := by
  intro L
  induction L with
  | nil => intro _; rfl
  | cons x t ih =>
    intro h
    unfold hasE at h
    unfold dropE
    split at h
    · cases h
    · rename_i hx; rw [if_neg hx, ih h]
theorem rAt_says (hmix : Try.prog.follows .mixedOrders = true) : rAtC.Holds Try.prog 15 := by
  intro args blks hf hp
  simp only [rAtC] at hp ⊢
  split at hp
  · rename_i id o m k cs
    obtain ⟨L, hB, rfl, rfl⟩ := hp
    rw [hB.at]
    refine ⟨⟨rfl, rfl, trivial⟩, trivial, ?_⟩
    have hL : Loops Try.prog body1308 2 (cutE [cut1308 id o cs L]) := Loops.noneE.moreE _ fun x K hQ => by
      obtain ⟨⟨h1, h2⟩, h3⟩ := hQ
      exact rat_loop hmix id o cs L hB K h3 _ x rfl h1 h2
    refine (sure0 hmix).funX F1308 body1308 [0] [] Try.func15 rfl (hL.gcX (at0 [0]) (at0 [])) ?_
    have hw := w1308 id o cs L
    unfold hR p0 at hw
    rw [hw]
    have hF := hR_flat (o := o) (n := L.length) (m := L.length) hB.flat
    refine ⟨hF, 0, rfl, rfl, ⟨rfl, rfl⟩, ?_⟩
    refine Alt_iff.2 ⟨fun h => ?_, fun h => ?_⟩
    · rw [h]; exact ⟨hF, rfl, rfl, rfl⟩
    · rw [h, when_no h]; exact ⟨hF, rfl, rfl, rfl⟩
  · exact hp.elim
def dOff (id : Int) (o : Nat) (L : List Re) : Nat := if hasE id L then 0 else o
noncomputable def dCs (id : Int) (cs : List Value) (L : List Re) : List Value := if hasE id L then deC (dropE id L) else cs
theorem dRow {id : Int} {o : Nat} {cs : List Value} {L : List Re} (h : DRow cs o L) : DRow (dCs id cs L) (dOff id o L) (dropE id L) := by
  unfold dCs dOff
  cases hq : hasE id L with
  | true =>
    simp only [if_true]
    exact deC_row (fun x hx => h.ok x (dropE_mem hx)) (Nat.le_trans (dropE_len _ _) h.short)
  | false =>
    simp only [Bool.false_eq_true, if_false]
    rw [drop_no hq]; exact h
noncomputable def rDropC : CtrW where
  D := [0]
  W := [0, 1]
  E := [0]
  pre := fun args blks => match args, blks with
    | [.pointer (some ⟨0,0,none⟩), .int .i64 _], [.cells [.slice (some ⟨1,o,some 1⟩) m k] 1 true, .cells cs 2 true] => IsDC cs o m k
    | _, _ => False
  val := fun args blks => match args, blks with
    | [.pointer (some ⟨0,0,none⟩), .int .i64 id], [.cells [.slice (some ⟨1,o,some 1⟩) m k] 1 true, .cells cs 2 true] => .bool (hasE id (desAt cs o m))
    | _, _ => undef
  out := fun args blks => match args, blks with
    | [.pointer (some ⟨0,0,none⟩), .int .i64 id], [.cells [.slice (some ⟨1,o,some 1⟩) m k] 1 true, .cells cs 2 true] => [.cells [.slice (some ⟨2,dOff id o (desAt cs o m),some 1⟩) (dropE id (desAt cs o m)).length (dropE id (desAt cs o m)).length] 1 true, .dead, .cells (dCs id cs (desAt cs o m)) 2 true]
    | _, _ => []
theorem rDrop_says (hmix : Try.prog.follows .mixedOrders = true) : rDropC.Holds Try.prog 24 := by
  intro args blks hf hp
  simp only [rDropC] at hp ⊢
  split at hp
  · rename_i id o m k cs
    obtain ⟨L, hB, rfl, rfl⟩ := hp
    rw [hB.at]
    refine ⟨⟨trivial, trivial, trivial⟩, ⟨rfl, (dRow hB).flat, trivial⟩, ?_⟩
    have hL : Loops Try.prog body1317 2 (cutE [cut1317 id o cs L]) := Loops.noneE.moreE _ fun x K hQ => by
      obtain ⟨⟨h1, h2⟩, h3⟩ := hQ
      exact rdrop_loop hmix id o cs L hB K h3 _ x rfl h1 h2
    refine FunSays.ren (K := fun v h' => v = .bool (hasE id L) ∧ ∃ B, B ≠ 0 ∧ h'.get 0 = some (.cells [.slice (some ⟨B, dOff id o L, some 1⟩) (dropE id L).length (dropE id L).length] 1 true) ∧ h'.get B = some (.cells (dCs id cs L) 2 true)) ((sure0 hmix).funX F1317 body1317 [0] [] Try.func24 rfl (hL.gcX (at0 [0]) (at0 [])) ?_) ?_
    · have hw := w1317 id o cs L
      unfold hR p0 at hw
      rw [hw]
      have hF := hR_flat (o := o) (n := L.length) (m := L.length) hB.flat
      refine ⟨hF, 0, rfl, rfl, ⟨rfl, rfl⟩, ?_⟩
      refine Alt_iff.2 ⟨fun h => ?_, fun h => ?_⟩
      · unfold dOff dCs
        rw [h]; exact ⟨hR4_flat hB.flat (deC_flat _), rfl, rfl, 2, by decide, by rw [hp_get]; rfl, by rw [hp_get]; rfl⟩
      · unfold dOff dCs
        rw [h, drop_no h]; exact ⟨hF, rfl, rfl, 1, by decide, by rw [hp_get]; rfl, by rw [hp_get]; rfl⟩
    · rintro v h' ⟨rfl, B, hB0, q1, q2⟩
      exact ⟨_, _, _, ref_ren rfl rfl (dRow hB).flat hB0 q1 q2, rfl, rfl, rfl⟩
  · exact hp.elim
noncomputable def S1316 : Book := bookW [(24, rDropC)] (bookOf [])
theorem sure1316 (hm : Try.prog.follows .mixedOrders = true) : Sure Try.prog S1316 := ⟨hm, plain, bookW_ok (bookOf_ok (l := []) trivial) (l := [(24, rDropC)]) ⟨rDrop_says hm, trivial⟩⟩
noncomputable def hR2 (o n : Nat) (cs : List Value) : List Blk := [.cells [.slice (some ⟨2,o,some 1⟩) n n] 1 true, .dead, .cells cs 2 true]

theorem r1316z (id d : Int) (o n : Nat) (cs : List Value) (K : Post) :
  roundX Try.prog S1316 noLoop F1316 body1316 2 [0] [] [0] [] [0,1,2,6] [0,0,0,1,1] (T1316 id d 0) (hp (hR2 o n cs)) K = (
K (AE.exit 0)
  (tmps 80
    [(0, Value.pointer (some { block := 0, off := 0 : Addr })), (1, Value.int IntKind.i64 id),
      (2, Value.int IntKind.u64 d), (6, Value.int IntKind.i64 0)])
  (hp
    [Blk.cells [Value.slice (some { block := 2, off := o, spot := some 1 : Addr }) n n] 1 true, Blk.dead,
      Blk.cells cs 2 true])) := by kernel_rfl

theorem r1316s (id d : Int) (i o n : Nat) (cs : List Value) (K : Post) :
  roundX Try.prog S1316 noLoop F1316 body1316 2 [0] [] [0] [] [0,1,2,6] [0,0,0,1,1] (T1316 id d (i + 1)) (hp (hR2 o n cs)) K = (
Need (leI 0 (wr IntKind.i64 ((↑(i + 1) : Int) - 1)))
  (Need (ltI (wr IntKind.i64 ((↑(i + 1) : Int) - 1)) (↑n : Int))
    (Need (isInt IntKind.u64 ((getO cs (o + (wr IntKind.i64 ((↑(i + 1) : Int) - 1)).toNat * 2 + 1)).getD undef))
      (Alt (ltI d (intV ((getO cs (o + (wr IntKind.i64 ((↑(i + 1) : Int) - 1)).toNat * 2 + 1)).getD undef)))
        (K AE.normal
          (tmps 80
            [(0, Value.pointer (some { block := 0, off := 0 : Addr })), (1, Value.int IntKind.i64 id),
              (2, Value.int IntKind.u64 d), (6, Value.int IntKind.i64 (wr IntKind.i64 ((↑(i + 1) : Int) - 1)))])
          (hp
            [Blk.cells [Value.slice (some { block := 2, off := o, spot := some 1 : Addr }) n n] 1 true, Blk.dead,
              Blk.cells cs 2 true]))
        (Need (leI 0 (wr IntKind.i64 ((↑(i + 1) : Int) - 1)))
          (Need (ltI (wr IntKind.i64 ((↑(i + 1) : Int) - 1)) (↑n : Int))
            (Need (isInt IntKind.u64 ((getO cs (o + (wr IntKind.i64 ((↑(i + 1) : Int) - 1)).toNat * 2 + 1)).getD undef))
              (Alt (eqI (intV ((getO cs (o + (wr IntKind.i64 ((↑(i + 1) : Int) - 1)).toNat * 2 + 1)).getD undef)) d)
                (Need (leI 0 (wr IntKind.i64 ((↑(i + 1) : Int) - 1)))
                  (Need (ltI (wr IntKind.i64 ((↑(i + 1) : Int) - 1)) (↑n : Int))
                    (Need
                      (isInt IntKind.i64
                        ((getO cs (o + (wr IntKind.i64 ((↑(i + 1) : Int) - 1)).toNat * 2 + 0)).getD undef))
                      (Alt
                        (ltI id
                          (intV ((getO cs (o + (wr IntKind.i64 ((↑(i + 1) : Int) - 1)).toNat * 2 + 0)).getD undef)))
                        (K AE.normal
                          (tmps 80
                            [(0, Value.pointer (some { block := 0, off := 0 : Addr })), (1, Value.int IntKind.i64 id),
                              (2, Value.int IntKind.u64 d),
                              (6, Value.int IntKind.i64 (wr IntKind.i64 ((↑(i + 1) : Int) - 1)))])
                          (hp
                            [Blk.cells [Value.slice (some { block := 2, off := o, spot := some 1 : Addr }) n n] 1 true,
                              Blk.dead, Blk.cells cs 2 true]))
                        (K (AE.exit 0)
                          (tmps 80
                            [(0, Value.pointer (some { block := 0, off := 0 : Addr })), (1, Value.int IntKind.i64 id),
                              (2, Value.int IntKind.u64 d), (6, Value.int IntKind.i64 (↑(i + 1) : Int))])
                          (hp
                            [Blk.cells [Value.slice (some { block := 2, off := o, spot := some 1 : Addr }) n n] 1 true,
                              Blk.dead, Blk.cells cs 2 true]))))))
                (K (AE.exit 0)
                  (tmps 80
                    [(0, Value.pointer (some { block := 0, off := 0 : Addr })), (1, Value.int IntKind.i64 id),
                      (2, Value.int IntKind.u64 d), (6, Value.int IntKind.i64 (↑(i + 1) : Int))])
                  (hp
                    [Blk.cells [Value.slice (some { block := 2, off := o, spot := some 1 : Addr }) n n] 1 true,
                      Blk.dead, Blk.cells cs 2 true])))))))))) := by kernel_rfl

/-- from the end on: behind which it comes -/
def posR (e : Re) (L : List Re) : Nat → Nat
  | 0 => 0
  | n + 1 => match L[n]? with
    | some x => if cmpE e x < 0 then posR e L n else n + 1
    | none => n + 1
noncomputable def cut1316 (id d : Int) (o : Nat) (cs : List Value) (L : List Re) : CutE where
  β := Nat
  p := [0,0,1,1]
  t := fun x => T1316 id d x
  h := fun x => hp (hR2 o L.length cs)
  Q := fun x K => (x ≤ L.length ∧ posR (d, id) L x = posR (d, id) L L.length) ∧ K (.exit 0) (T1316 id d (posR (d, id) L L.length)) (hp (hR2 o L.length cs))

theorem w1316 (id d : Int) (o o2 n : Nat) (cs c2 : List Value) (L : List Re) (K : Value → Heap → Prop) :
  funX Try.prog S1316 (gcLKX (at0 [0]) (at0 []) 2 (cutE [cut1316 id d o2 c2 L])) F1316 body1316 Try.f23 [0] [] [p0, .int .i64 id, .int .u64 d] (hp (hR o n cs)) K = (
(nojL [Value.slice (some { block := 1, off := o, spot := some 1 : Addr }) n n] = true ∧ FlatL cs ∧ True) ∧
  IsDC cs o n n ∧
    FlatD [0]
        (hp
          [Blk.cells
              [Value.slice (some { block := 2, off := dOff id o (desAt cs o n), spot := some 1 : Addr })
                  (dropE id (desAt cs o n)).length (dropE id (desAt cs o n)).length]
              1 true,
            Blk.dead, Blk.cells (dCs id cs (desAt cs o n)) 2 true]) ∧
      ∃ (b : Nat),
        tmps 80
              [(0, Value.pointer (some { block := 0, off := 0 : Addr })), (1, Value.int IntKind.i64 id),
                (2, Value.int IntKind.u64 d), (6, Value.int IntKind.i64 (↑(dropE id (desAt cs o n)).length : Int))] =
            tmps 80
              [(0, Value.pointer (some { block := 0, off := 0 : Addr })), (1, Value.int IntKind.i64 id),
                (2, Value.int IntKind.u64 d), (6, Value.int IntKind.i64 (↑b : Int))] ∧
          hp
                [Blk.cells
                    [Value.slice (some { block := 2, off := dOff id o (desAt cs o n), spot := some 1 : Addr })
                        (dropE id (desAt cs o n)).length (dropE id (desAt cs o n)).length]
                    1 true,
                  Blk.dead, Blk.cells (dCs id cs (desAt cs o n)) 2 true] =
              hp
                [Blk.cells [Value.slice (some { block := 2, off := o2, spot := some 1 : Addr }) L.length L.length] 1
                    true,
                  Blk.dead, Blk.cells c2 2 true] ∧
            (b.le L.length ∧ posR (d, id) L b = posR (d, id) L L.length) ∧
              Need (leI (↑(posR (d, id) L L.length) : Int) (↑L.length : Int))
                (Need (leN (o2 + 0 + ((↑(posR (d, id) L L.length) : Int).toNat - 0) * 2) c2.length)
                  (Need (leN (((↑(posR (d, id) L L.length) : Int).toNat - 0) * 16) 1099511627776)
                    (Need (leN ((↑(posR (d, id) L L.length) : Int).toNat - 0) 1099511627776)
                      (Need
                        (leN (0 + ((↑(posR (d, id) L L.length) : Int).toNat - 0) * 2)
                          (List.take (((↑(posR (d, id) L L.length) : Int).toNat - 0) * 2)
                              (List.drop (o2 + 0) c2)).length)
                        (Need (leN (((↑(posR (d, id) L L.length) : Int).toNat - 0 + 1) * 16) 1099511627776)
                          (Need (leN ((↑(posR (d, id) L L.length) : Int).toNat - 0 + 1) 1099511627776)
                            (Need (leI (↑(posR (d, id) L L.length) : Int) (↑L.length : Int))
                              (Need
                                (leN
                                  (o2 + (↑(posR (d, id) L L.length) : Int).toNat * 2 +
                                    (L.length - (↑(posR (d, id) L L.length) : Int).toNat) * 2)
                                  c2.length)
                                (Need
                                  (leN (0 + ((↑(posR (d, id) L L.length) : Int).toNat - 0 + 1) * 2)
                                    (List.take (((↑(posR (d, id) L L.length) : Int).toNat - 0) * 2)
                                          (List.drop 0
                                            (List.take (((↑(posR (d, id) L L.length) : Int).toNat - 0) * 2)
                                              (List.drop (o2 + 0) c2))) ++
                                        [Value.int IntKind.i64 id, Value.int IntKind.u64 d]).length)
                                  (Need
                                    (leN
                                      (((↑(posR (d, id) L L.length) : Int).toNat - 0 + 1 +
                                          (L.length - (↑(posR (d, id) L L.length) : Int).toNat)) *
                                        16)
                                      1099511627776)
                                    (Need
                                      (leN
                                        ((↑(posR (d, id) L L.length) : Int).toNat - 0 + 1 +
                                          (L.length - (↑(posR (d, id) L L.length) : Int).toNat))
                                        1099511627776)
                                      (Need
                                        ((List.take ((L.length - (↑(posR (d, id) L L.length) : Int).toNat) * 2)
                                              (List.drop (o2 + (↑(posR (d, id) L L.length) : Int).toNat * 2) c2)).all
                                          oneV)
                                        (Need (leI (↑(posR (d, id) L L.length) : Int) (↑L.length : Int))
                                          (Need
                                            (beqV 64
                                              (Value.slice
                                                (some
                                                  { block := 2,
                                                    off := o2 + (↑(posR (d, id) L L.length) : Int).toNat * 2,
                                                    spot := some 3 : Addr })
                                                (L.length - (↑(posR (d, id) L L.length) : Int).toNat)
                                                (L.length - (↑(posR (d, id) L L.length) : Int).toNat))
                                              (Value.slice
                                                (some
                                                  { block := 2,
                                                    off := o2 + (↑(posR (d, id) L L.length) : Int).toNat * 2,
                                                    spot := some 3 : Addr })
                                                (L.length - (↑(posR (d, id) L L.length) : Int).toNat)
                                                (L.length - (↑(posR (d, id) L L.length) : Int).toNat)))
                                            (Need (leI (↑(posR (d, id) L L.length) : Int) (↑L.length : Int))
                                              (Need
                                                (beqV 64
                                                  (Value.slice
                                                    (some
                                                      { block := 2,
                                                        off := o2 + (↑(posR (d, id) L L.length) : Int).toNat * 2,
                                                        spot := some 3 : Addr })
                                                    (L.length - (↑(posR (d, id) L L.length) : Int).toNat)
                                                    (L.length - (↑(posR (d, id) L L.length) : Int).toNat))
                                                  (Value.slice
                                                    (some
                                                      { block := 2,
                                                        off := o2 + (↑(posR (d, id) L L.length) : Int).toNat * 2,
                                                        spot := some 3 : Addr })
                                                    (L.length - (↑(posR (d, id) L L.length) : Int).toNat)
                                                    (L.length - (↑(posR (d, id) L L.length) : Int).toNat)))
                                                (Need
                                                  (beqV 64 (Value.int IntKind.i64 (↑(posR (d, id) L L.length) : Int))
                                                    (Value.int IntKind.i64 (↑(posR (d, id) L L.length) : Int)))
                                                  (Need
                                                    (beqV 64 (Value.int IntKind.i64 (↑(posR (d, id) L L.length) : Int))
                                                      (Value.int IntKind.i64 (↑(posR (d, id) L L.length) : Int)))
                                                    (Need
                                                      (beqV 64
                                                        (Value.slice
                                                          (some { block := 2, off := o2, spot := some 1 : Addr })
                                                          L.length L.length)
                                                        (Value.slice
                                                          (some { block := 2, off := o2, spot := some 1 : Addr })
                                                          L.length L.length))
                                                      (Need
                                                        (beqV 64
                                                          (Value.slice
                                                            (some { block := 2, off := o2, spot := some 1 : Addr })
                                                            L.length L.length)
                                                          (Value.slice
                                                            (some { block := 2, off := o2, spot := some 1 : Addr })
                                                            L.length L.length))
                                                        (Need
                                                          (beqV 64
                                                            (Value.agg
                                                              #[Value.int IntKind.i64 id, Value.int IntKind.u64 d])
                                                            (Value.agg
                                                              #[Value.int IntKind.i64 id, Value.int IntKind.u64 d]))
                                                          (Need
                                                            (beqV 64 (Value.int IntKind.u64 d)
                                                              (Value.int IntKind.u64 d))
                                                            (Need
                                                              (beqV 64 (Value.int IntKind.i64 id)
                                                                (Value.int IntKind.i64 id))
                                                              (K undef
                                                                (hp
                                                                  [Blk.cells
                                                                      [Value.slice
                                                                          (some
                                                                            { block := 2, off := 0, spot := some 1 :
                                                                              Addr })
                                                                          ((↑(posR (d, id) L L.length) : Int).toNat -
                                                                                0 +
                                                                              1 +
                                                                            (L.length -
                                                                              (↑(posR (d, id) L L.length) : Int).toNat))
                                                                          ((↑(posR (d, id) L L.length) : Int).toNat -
                                                                                0 +
                                                                              1 +
                                                                            (L.length -
                                                                              (↑(posR (d, id) L L.length) :
                                                                                  Int).toNat))]
                                                                      1 true,
                                                                    Blk.dead,
                                                                    Blk.cells
                                                                      (List.take
                                                                          (((↑(posR (d, id) L L.length) : Int).toNat -
                                                                                0 +
                                                                              1) *
                                                                            2)
                                                                          (List.drop 0
                                                                            (List.take
                                                                                (((↑(posR (d, id) L L.length) :
                                                                                        Int).toNat -
                                                                                    0) *
                                                                                  2)
                                                                                (List.drop 0
                                                                                  (List.take
                                                                                    (((↑(posR (d, id) L L.length) :
                                                                                            Int).toNat -
                                                                                        0) *
                                                                                      2)
                                                                                    (List.drop (o2 + 0) c2))) ++
                                                                              [Value.int IntKind.i64 id,
                                                                                Value.int IntKind.u64 d])) ++
                                                                        List.take
                                                                          ((L.length -
                                                                              (↑(posR (d, id) L L.length) :
                                                                                  Int).toNat) *
                                                                            2)
                                                                          (List.drop
                                                                            (o2 +
                                                                              (↑(posR (d, id) L L.length) : Int).toNat *
                                                                                2)
                                                                            c2))
                                                                      2 true])))))))))))))))))))))))))) := by kernel_rfl

end Go.Proofs.Ytmgnlkefhmhkhaa

namespace Go.Proofs.Ytmgnlkefhmhkhaa
open Go.RowKit Go.Proofs.Ytmgnlkefhmhkhaa.AM
set_option maxRecDepth 100000
set_option maxHeartbeats 4000000
/-- a queue's list: it rises, each number once -/
structure IsQ (L : List Re) : Prop where
  up : UpE L
  ids : L.Pairwise (fun x y => x.2 ≠ y.2)
  len : L.length ≤ 1000000
theorem posR_half {e : Re} {L : List Re} (hup : UpE L) (hne : ∀ x ∈ L, x ≠ e) : ∀ n, n ≤ L.length → (∀ (k : Nat) x, n ≤ k → L[k]? = some x → cmpE e x < 0) → HalvesE L e (posR e L n) (posR e L n) := by
  have hsorted : ∀ (a b : Nat) x y, a < b → L[a]? = some x → L[b]? = some y → cmpE x y < 0 := fun a b x y hab ha hb => by
    obtain ⟨h1, h2⟩ := List.getElem?_eq_some_iff.1 ha
    obtain ⟨h3, h4⟩ := List.getElem?_eq_some_iff.1 hb
    have := List.pairwise_iff_getElem.1 hup a b h1 h3 hab
    rw [h2, h4] at this; exact this
  intro n
  induction n with
  | zero =>
    intro hn hh
    refine ⟨Nat.le_refl _, Nat.zero_le _, fun k x hk => absurd hk (Nat.not_lt_zero _), fun k x _ hx hlt => ?_⟩
    have := hh k x (Nat.zero_le _) hx
    rw [cmpE_lt] at this hlt; omega
  | succ n ih =>
    intro hn hh
    have hx : L[n]? = some L[n] := List.getElem?_eq_getElem (by omega)
    generalize L[n] = x at hx
    unfold posR
    rw [hx]
    simp only
    by_cases hc : cmpE e x < 0
    · rw [if_pos hc]
      refine ih (by omega) fun k y hk hy => ?_
      by_cases hkn : k = n
      · subst hkn; rw [hx] at hy; injection hy with hy; rw [← hy]; exact hc
      · exact hh k y (by omega) hy
    · rw [if_neg hc]
      have hxe : x ≠ e := hne x (List.mem_of_getElem? hx)
      have hlt : cmpE x e < 0 := by
        have h1 : ¬ cmpE e x = 0 := fun h => hxe (cmpE_eq.1 h).symm
        rw [cmpE_lt] at hc ⊢
        have h2 : ¬ (e.1 = x.1 ∧ e.2 = x.2) := fun ⟨a, b⟩ => hxe (Prod.ext a.symm b.symm)
        omega
      refine ⟨Nat.le_refl _, hn, fun k y hk hy => ?_, fun k y hk hy hcc => ?_⟩
      · by_cases hkn : k = n
        · subst hkn; rw [hx] at hy; injection hy with hy; rw [← hy]; exact hlt
        · have := hsorted k n y x (by omega) hy hx
          rw [cmpE_lt] at this hlt ⊢; omega
      · have := hh k y hk hy
        rw [cmpE_lt] at this hcc; omega
theorem posR_eq {e : Re} {L : List Re} (hup : UpE L) (hne : ∀ x ∈ L, x ≠ e) : posR e L L.length = posE e L := half_pos (posR_half hup hne L.length (Nat.le_refl _) fun k x hk hx => by have := (List.getElem?_eq_some_iff.1 hx).1; omega)
theorem drop_ids {o : Int} : ∀ {L : List Re}, L.Pairwise (fun x y => x.2 ≠ y.2) → ∀ x ∈ dropE o L, x.2 ≠ o := by
  intro L
  induction L with
  | nil => intro _ x hx; simp [dropE] at hx
  | cons y t ih =>
    intro h x hx
    rw [List.pairwise_cons] at h
    unfold dropE at hx
    split at hx
    · rename_i hy
      have := h.1 x hx
      rw [eqI_iff.1 hy] at this
      exact fun hh => this hh.symm
    · rename_i hy
      rcases List.mem_cons.1 hx with rfl | hx
      · exact fun hh => hy (eqI_iff.2 hh)
      · exact ih h.2 x hx
theorem isQ_drop {o : Int} {L : List Re} (h : IsQ L) : IsQ (dropE o L) := ⟨upE_drop h.up, List.Pairwise.sublist (dropE_sub o L) h.ids, Nat.le_trans (dropE_len o L) h.len⟩
theorem rput_pos {o d : Int} {L : List Re} (h : IsQ L) : posR (d, o) (dropE o L) (dropE o L).length = posE (d, o) (dropE o L) :=
  posR_eq (upE_drop h.up) fun x hx hh => drop_ids h.ids x hx (by rw [hh])
theorem isQ_put {o d : Int} {L : List Re} (h : IsQ L) (hl : L.length ≤ 999999) : IsQ (putE o d L) := by
  have hd := isQ_drop (o := o) h
  have hne := drop_ids (o := o) h.ids
  have hml := dropE_len o L
  have hH : HalvesE (dropE o L) (d, o) (posE (d, o) (dropE o L)) (posE (d, o) (dropE o L)) := by
    rw [← rput_pos h]
    exact posR_half hd.up (fun x hx hh => hne x hx (by rw [hh])) _ (Nat.le_refl _) fun k x hk hx => by have := (List.getElem?_eq_some_iff.1 hx).1; omega
  generalize hp : posE (d, o) (dropE o L) = p at hH
  unfold putE insL
  rw [hp]
  generalize dropE o L = M at hd hne hH hml
  have hlow : ∀ x ∈ M.take p, cmpE x (d, o) < 0 := fun x hx => by
    obtain ⟨i, hi⟩ := List.mem_iff_getElem?.1 hx
    rw [List.getElem?_take] at hi
    split at hi
    · rename_i hip; exact hH.low i _ hip hi
    · cases hi
  have hhigh : ∀ x ∈ M.drop p, cmpE (d, o) x < 0 := fun x hx => by
    obtain ⟨i, hi⟩ := List.mem_iff_getElem?.1 hx
    rw [List.getElem?_drop] at hi
    have := hH.high (p + i) x (by omega) hi
    have hn := hne x (List.mem_of_getElem? hi)
    rw [cmpE_lt] at this ⊢
    simp only at this ⊢
    omega
  have h1 : UpE (M.take p ++ M.drop p) := by rw [List.take_append_drop]; exact hd.up
  have h2 : (M.take p ++ M.drop p).Pairwise (fun x y => x.2 ≠ y.2) := by rw [List.take_append_drop]; exact hd.ids
  unfold UpE at h1
  rw [List.pairwise_append] at h1 h2
  refine ⟨?_, ?_, ?_⟩
  · unfold UpE
    rw [List.pairwise_append]
    refine ⟨h1.1, List.pairwise_cons.2 ⟨hhigh, h1.2.1⟩, fun a ha b hb => ?_⟩
    rcases List.mem_cons.1 hb with rfl | hb
    · exact hlow a ha
    · exact h1.2.2 a ha b hb
  · rw [List.pairwise_append]
    refine ⟨h2.1, List.pairwise_cons.2 ⟨fun b hb => (hne b (List.mem_of_mem_drop hb)).symm, h2.2.1⟩, fun a ha b hb => ?_⟩
    rcases List.mem_cons.1 hb with rfl | hb
    · exact hne a (List.mem_of_mem_take ha)
    · exact h2.2.2 a ha b hb
  · have := hd.len; simp; omega
theorem hR2_flat {o n m : Nat} {cs : List Value} (h : FlatL cs) : FlatD [0] (hp [.cells [.slice (some ⟨2,o,some 1⟩) n m] 1 true, .dead, .cells cs 2 true]) := FlatD.hp ⟨rfl, h, trivial⟩
theorem rput_loop (hmix : Try.prog.follows .mixedOrders = true) (id d : Int) (o : Nat) (cs : List Value) (L : List Re) (hB : DRow cs o L) (K : Post)
    (hK : K (.exit 0) (T1316 id d (posR (d, id) L L.length)) (hp (hR2 o L.length cs))) : ∀ n, n ≤ L.length → posR (d, id) L n = posR (d, id) L L.length →
    LSays Try.prog 2 (sub body1316 [0,0,0,1,1]) (T1316 id d n) (hp (hR2 o L.length cs)) K := by
  have hF := hR2_flat (o := o) (n := L.length) (m := L.length) hB.flat
  have hl := hB.short
  unfold hR2 at hK
  intro n
  induction n with
  | zero =>
    intro hn ha
    refine (sure1316 hmix).roundX F1316 noLoops [0] [] [0] [] [0,1,2,6] ?_
    rw [r1316z]
    rw [← ha] at hK
    exact ⟨hF, hK⟩
  | succ n ih =>
    intro hn ha
    have hx : L[n]? = some L[n] := List.getElem?_eq_getElem (by omega)
    generalize L[n] = x at hx
    refine (sure1316 hmix).roundX F1316 noLoops [0] [] [0] [] [0,1,2,6] ?_
    rw [r1316s, pv n (by omega)]
    simp only [Int.toNat_natCast, show (0 : Int) ≤ (n : Int) by omega, show (n : Int) < (L.length : Int) by omega, hB.get0 hx, hB.get1 hx, hF, Alt_iff, Need_iff, ltI_eq, leI_eq, eqI_eq, leN_eq, eqN_eq, decide_eq_true_eq, decide_eq_false_iff_not, decide_true, decide_false, true_and, and_true, Bool.true_eq_false, Bool.false_eq_true, false_implies, true_implies, implies_true, not_true_eq_false, not_false_eq_true, Bool.not_eq_true', Bool.not_eq_false', Nat.zero_add, Nat.add_zero, Nat.sub_zero, Nat.zero_mul, Nat.mul_one, Int.toNat_natCast, List.drop_zero, beqV_int, beqV_sl, beqV_str, beqV_bool, beqV_ptr, beqV_flt, beqV_agg, beqV_tuple, List.all_cons, List.all_nil, Bool.and_self, Bool.and_true, Bool.true_and, Nat.le_refl, Int.le_refl, Nat.zero_le, Option.getD_some, isStr, strV, isInt, intV, isBool, boolV, kindEq, at0, isJunk, Option.isSome_some, Option.isSome_none, if_true, if_false, Nat.add_sub_cancel_left, Nat.add_sub_cancel]
    have hp1 : posR (d, id) L (n + 1) = if cmpE (d, id) x < 0 then posR (d, id) L n else n + 1 := by rw [posR, hx]
    rw [hp1] at ha
    have hT : T1316 id d (n + 1) = tmps 80 [(0, p0), (1, .int .i64 id), (2, .int .u64 d), (6, .int .i64 ((n + 1 : Nat) : Int))] := rfl
    refine ⟨fun h => ?_, fun h => ⟨fun h2 => ⟨fun h3 => ?_, fun h3 => ?_⟩, fun h2 => ?_⟩⟩
    · exact ih (by omega) (by rw [if_pos (cmpE_lt.2 (.inl h))] at ha; exact ha)
    · exact ih (by omega) (by rw [if_pos (cmpE_lt.2 (.inr ⟨h2.symm, h3⟩))] at ha; exact ha)
    · rw [if_neg (fun hh => by rw [cmpE_lt] at hh; simp only at hh; omega)] at ha
      rw [← ha] at hK; exact hK
    · rw [if_neg (fun hh => by rw [cmpE_lt] at hh; simp only at hh; omega)] at ha
      rw [← ha] at hK; exact hK
theorem posR_le (e : Re) (L : List Re) : ∀ n, posR e L n ≤ n := by
  intro n
  induction n with
  | zero => exact Nat.le_refl _
  | succ n ih =>
    unfold posR
    split
    · split <;> omega
    · exact Nat.le_refl _
noncomputable def rPutC : CtrW where
  D := [0]
  W := [0, 1]
  E := [0]
  pre := fun args blks => match args, blks with
    | [.pointer (some ⟨0,0,none⟩), .int .i64 id, .int .u64 d], [.cells [.slice (some ⟨1,o,some 1⟩) m k] 1 true, .cells cs 2 true] => IsDC cs o m k ∧ ReOk (d, id) ∧ IsQ (desAt cs o m) ∧ Need (leN m 999999) True
    | _, _ => False
  val := fun args blks => undef
  out := fun args blks => match args, blks with
    | [.pointer (some ⟨0,0,none⟩), .int .i64 id, .int .u64 d], [.cells [.slice (some ⟨1,o,some 1⟩) m k] 1 true, .cells cs 2 true] => [.cells [.slice (some ⟨2,0,some 1⟩) (putE id d (desAt cs o m)).length (putE id d (desAt cs o m)).length] 1 true, .dead, .cells (deC (putE id d (desAt cs o m))) 2 true]
    | _, _ => []
theorem rPut_says (hmix : Try.prog.follows .mixedOrders = true) : rPutC.Holds Try.prog 23 := by
  intro args blks hf hp
  simp only [rPutC] at hp ⊢
  split at hp
  · rename_i id d o m k cs
    obtain ⟨⟨L, hB, rfl, rfl⟩, he, hQ, hl⟩ := hp
    have hI : IsDC cs o L.length L.length := .mk L hB rfl rfl
    rw [hB.at] at hQ ⊢
    simp only [Alt_iff, Need_iff, ltI_eq, leI_eq, eqI_eq, leN_eq, eqN_eq, decide_eq_true_eq, decide_eq_false_iff_not, decide_true, decide_false, true_and, and_true, Bool.true_eq_false, Bool.false_eq_true, false_implies, true_implies, implies_true, not_true_eq_false, not_false_eq_true, Bool.not_eq_true', Bool.not_eq_false'] at hl
    refine ⟨⟨trivial, trivial, trivial⟩, ⟨rfl, deC_flat _, trivial⟩, ?_⟩
    have hD := dRow (id := id) hB
    generalize hM : dropE id L = M at hD
    generalize ho2 : dOff id o L = o2 at hD
    generalize hc2 : dCs id cs L = c2 at hD
    have hL : Loops Try.prog body1316 2 (cutE [cut1316 id d o2 c2 M]) := Loops.noneE.moreE _ fun x K hQ => by
      obtain ⟨⟨h1, h2⟩, h3⟩ := hQ
      exact rput_loop hmix id d o2 c2 M hD K h3 x h1 h2
    refine (sure1316 hmix).funX F1316 body1316 [0] [] Try.func23 rfl (hL.gcX (at0 [0]) (at0 [])) ?_
    have hw := w1316 id d o o2 L.length cs c2 M
    unfold hR p0 at hw
    rw [hw, hB.at, hM, ho2, hc2]
    have hple := posR_le (d, id) M M.length
    have hpe : posR (d, id) M M.length = posE (d, id) M := by rw [← hM]; exact rput_pos hQ
    have hpu : putE id d L = insL (posE (d, id) M) (d, id) M := by unfold putE; rw [hM]
    rw [hpe] at hple ⊢
    generalize hpp : posE (d, id) M = p at hple hpu ⊢
    have hpl : (putE id d L).length = M.length + 1 := by rw [hpu]; exact insL_len _ _ _ hple
    have hsz := hD.size
    have hml := hD.short
    have e1 := hD.takeN p
    have e2 := hD.dropN p
    have l1 : (deC (M.take p)).length = p * 2 := by rw [pC_len, List.length_take, Nat.min_eq_left hple]
    have e3 : List.take (p * 2) (deC (M.take p)) = deC (M.take p) := List.take_of_length_le (by omega)
    have e4 : List.take ((p + 1) * 2) (deC (M.take p) ++ [Value.int .i64 id, .int .u64 d]) = deC (M.take p) ++ [Value.int .i64 id, .int .u64 d] := List.take_of_length_le (by rw [List.length_append, l1]; simp; omega)
    have l2 : (deC (M.take p) ++ [Value.int .i64 id, .int .u64 d]).length = (p + 1) * 2 := by rw [List.length_append, l1]; simp; omega
    have e5 : deC (M.take p) ++ [Value.int .i64 id, .int .u64 d] ++ deC (M.drop p) = deC (putE id d L) := by
      rw [hpu, List.append_assoc]
      show _ = pC deF deG (M.take p ++ (d, id) :: M.drop p)
      rw [pC_append]; rfl
    have hal : (deC (M.drop p)).all oneV = true := pC_one de_one de_oneG _
    have hF1 := hR2_flat (o := o2) (n := M.length) (m := M.length) hD.flat
    have hF2 := hR2_flat (o := 0) (n := M.length + 1) (m := M.length + 1) (deC_flat (putE id d L))
    refine ⟨⟨rfl, hB.flat, trivial⟩, hI, hF1, M.length, rfl, rfl, ⟨Nat.le_refl _, hpe.trans hpp⟩, ?_⟩
    simp only [Int.toNat_natCast, Nat.sub_zero, Nat.zero_add, List.drop_zero, e1, e2, e3, e4, e5, l1, l2, hal, show p + 1 + (M.length - p) = M.length + 1 by omega, hF2, hpl, show (p : Int) ≤ (M.length : Int) by omega, show o2 + p * 2 ≤ c2.length by omega, show p * 16 ≤ 1099511627776 by omega, show p ≤ 1099511627776 by omega, show (p + 1) * 16 ≤ 1099511627776 by omega, show p + 1 ≤ 1099511627776 by omega, show o2 + p * 2 + (M.length - p) * 2 ≤ c2.length by omega, show (M.length + 1) * 16 ≤ 1099511627776 by omega, show M.length + 1 ≤ 1099511627776 by omega, Alt_iff, Need_iff, ltI_eq, leI_eq, eqI_eq, leN_eq, eqN_eq, decide_eq_true_eq, decide_eq_false_iff_not, decide_true, decide_false, true_and, and_true, Bool.true_eq_false, Bool.false_eq_true, false_implies, true_implies, implies_true, not_true_eq_false, not_false_eq_true, Bool.not_eq_true', Bool.not_eq_false', Nat.zero_add, Nat.add_zero, Nat.sub_zero, Nat.zero_mul, Nat.mul_one, Int.toNat_natCast, List.drop_zero, beqV_int, beqV_sl, beqV_str, beqV_bool, beqV_ptr, beqV_flt, beqV_agg, beqV_tuple, List.all_cons, List.all_nil, Bool.and_self, Bool.and_true, Bool.true_and, Nat.le_refl, Int.le_refl, Nat.zero_le, Option.getD_some, isStr, strV, isInt, intV, isBool, boolV, kindEq, at0, isJunk, Option.isSome_some, Option.isSome_none, if_true, if_false, Nat.add_sub_cancel_left, Nat.add_sub_cancel]
    first | rfl | exact ⟨rfl, rfl⟩
  · exact hp.elim
end Go.Proofs.Ytmgnlkefhmhkhaa

namespace Go.Proofs.Ytmgnlkefhmhkhaa
open Go.RowKit Go.Proofs.Ytmgnlkefhmhkhaa.AM
set_option maxRecDepth 100000
set_option maxHeartbeats 4000000
structure RipeS (now : Int) (cs : List Value) (L0 : List Re) (oe : Nat) (o : Nat) (L : List Re) (F : List Int) : Prop where
  row : DRow cs o L
  out : F ++ ripeE now L = ripeE now L0
  rest : restE now L = restE now L0
  off : o + (ripeE now L).length * 2 = oe
  len : F.length + L.length = L0.length
theorem ripe_loop (hmix : Try.prog.follows .mixedOrders = true) (now : Int) (cs : List Value) (L0 : List Re) (oe : Nat) (hl : L0.length ≤ 1000000) (K : Post)
    (hK : K (.exit 0) (tmps 42 [(5, .slice (some ⟨2,0,some 1⟩) (ripeE now L0).length (ripeE now L0).length)]) (hp (hR oe (restE now L0).length cs ++ [.cells (iC (ripeE now L0)) 1 true]))) :
    ∀ (L : List Re) (o : Nat) (F : List Int), RipeS now cs L0 oe o L F →
    LSays Try.prog 2 (sub body1318 [0,0,0,1,1]) (T1318 now F.length) (hp (hR o L.length cs ++ [.cells (iC F) 1 true])) K := by
  unfold hR at hK
  intro L
  induction L with
  | nil =>
    intro o F hs
    have hF := hR3_flat (o := o) (n := 0) (m := 0) (e := 1) hs.row.flat (iC_flat F)
    refine (sure0 hmix).roundX F1318 noLoops [0] [.tmp 5 1, .cell 0 0 2] [0] [.tmp 5 1] [0,1,5] ?_
    rw [r1318]
    have ha : F = ripeE now L0 := by rw [← hs.out]; simp [ripeE]
    have hb : restE now L0 = [] := by rw [← hs.rest]; rfl
    have ho : o = oe := hs.off
    rw [← ha, hb, ← ho] at hK
    exact Alt_iff.2 ⟨fun h => (by cases h), fun _ => ⟨hF, hK⟩⟩
  | cons x t ih =>
    intro o F hs
    have hc := hs.len
    refine (sure0 hmix).roundX F1318 noLoops [0] [.tmp 5 1, .cell 0 0 2] [0] [.tmp 5 1] [0,1,5] ?_
    rw [r1318, iC_snoc]
    have hx : (x :: t)[0]? = some x := rfl
    have g0 : getO cs o = some (.int .i64 x.2) := hs.row.get0 hx
    have g1 : getO cs (o + 1) = some (.int .u64 x.1) := hs.row.get1 hx
    have e1 : (x :: t).length - 1 = t.length := rfl
    have hF1 := hR3_flat (o := o) (n := (x :: t).length) (m := (x :: t).length) (e := 1) hs.row.flat (iC_flat F)
    have hF2 := hR3_flat (o := o + 2) (n := t.length) (m := t.length) (e := 1) hs.row.flat (iC_flat (F ++ [x.2]))
    have hiF : F.length ≤ (iC F).length := Nat.le_of_eq (eC_len _ _).symm
    have hle : F.length + 1 ≤ 1000000 := by simp at hc; omega
    simp only [Nat.add_zero, g0, g1, e1, hF1, hF2, hiF, show ((0 : Int) < ((x :: t).length : Int)) by simp, show ((1 : Int) ≤ ((x :: t).length : Int)) by (rw [List.length_cons]; omega), show (F.length + 1) * 8 ≤ 1099511627776 by omega, show F.length + 1 ≤ 1099511627776 by omega, show intV (Value.int .u64 x.1) = x.1 from rfl, show intV (Value.int .i64 x.2) = x.2 from rfl, Alt_iff, Need_iff, ltI_eq, leI_eq, eqI_eq, leN_eq, eqN_eq, decide_eq_true_eq, decide_eq_false_iff_not, decide_true, decide_false, true_and, and_true, Bool.true_eq_false, Bool.false_eq_true, false_implies, true_implies, implies_true, not_true_eq_false, not_false_eq_true, Bool.not_eq_true', Bool.not_eq_false', Nat.zero_add, Nat.add_zero, Nat.sub_zero, Nat.zero_mul, Nat.mul_one, Int.toNat_natCast, List.drop_zero, beqV_int, beqV_sl, beqV_str, beqV_bool, beqV_ptr, beqV_flt, beqV_agg, beqV_tuple, List.all_cons, List.all_nil, Bool.and_self, Bool.and_true, Bool.true_and, Nat.le_refl, Int.le_refl, Nat.zero_le, Option.getD_some, isStr, strV, isInt, intV, isBool, boolV, kindEq, at0, isJunk, Option.isSome_some, Option.isSome_none, if_true, if_false, Nat.add_sub_cancel_left, Nat.add_sub_cancel]
    refine ⟨fun h => ?_, fun h => ?_⟩
    · have hq := hs.out
      have hr := hs.rest
      have hf := hs.off
      rw [ripeE, if_pos (leI_iff.2 h)] at hq hf
      rw [restE, if_pos (leI_iff.2 h)] at hr
      have hrow : DRow cs (o + 2) t := ⟨by rw [← List.drop_drop, hs.row.eq]; rfl, by have := hs.row.size; simp at this; omega, fun z hz => hs.row.ok z (List.mem_cons_of_mem _ hz), by have := hs.row.short; simp at this; omega, hs.row.flat⟩
      have := ih (o + 2) (F ++ [x.2]) ⟨hrow, by rw [List.append_assoc]; exact hq, hr, by simp at hf; omega, by simp at hc ⊢; omega⟩
      rw [List.length_append, List.length_singleton] at this
      exact this
    · have ha : F = ripeE now L0 := by rw [← hs.out, ripeE, if_neg (fun hh => h (leI_iff.1 hh)), List.append_nil]
      have hb : restE now L0 = x :: t := by rw [← hs.rest, restE, if_neg (fun hh => h (leI_iff.1 hh))]
      have ho : o = oe := by have := hs.off; rw [ripeE, if_neg (fun hh => h (leI_iff.1 hh))] at this; exact this
      rw [← ha, hb, ← ho] at hK
      exact hK
noncomputable def cut1318 (now : Int) (cs : List Value) (L0 : List Re) (oe : Nat) : CutE where
  β := List Re × Nat × List Int
  p := [0,0,1,1]
  t := fun x => T1318 now x.2.2.length
  h := fun x => hp (hR x.2.1 x.1.length cs ++ [.cells (iC x.2.2) 1 true])
  Q := fun x K => RipeS now cs L0 oe x.2.1 x.1 x.2.2 ∧ K (.exit 0) (tmps 42 [(5, .slice (some ⟨2,0,some 1⟩) (ripeE now L0).length (ripeE now L0).length)]) (hp (hR oe (restE now L0).length cs ++ [.cells (iC (ripeE now L0)) 1 true]))

theorem w1318 (now : Int) (o n oe : Nat) (cs : List Value) (L0 : List Re) (K : Value → Heap → Prop) :
  funX Try.prog S0 (gcLKX (at0 [0]) (at0 [.tmp 5 1]) 2 (cutE [cut1318 now cs L0 oe])) F1318 body1318 Try.f25 [0] [.tmp 0 1] [p0, .int .u64 now] (hp (hR o n cs)) K = (
FlatD [0]
    (hp
      [Blk.cells [Value.slice (some { block := 1, off := o, spot := some 1 : Addr }) n n] 1 true, Blk.cells cs 2 true,
        Blk.cells [] 1 true]) ∧
  ∃ (b : List Re × Nat × List Int),
    tmps 42
          [(0, Value.pointer (some { block := 0, off := 0 : Addr })), (1, Value.int IntKind.u64 now),
            (5, Value.slice (some { block := 2, off := 0, spot := some 1 : Addr }) 0 0)] =
        tmps 42
          [(0, Value.pointer (some { block := 0, off := 0 : Addr })), (1, Value.int IntKind.u64 now),
            (5, Value.slice (some { block := 2, off := 0, spot := some 1 : Addr }) b.snd.snd.length b.snd.snd.length)] ∧
      hp
            [Blk.cells [Value.slice (some { block := 1, off := o, spot := some 1 : Addr }) n n] 1 true,
              Blk.cells cs 2 true, Blk.cells [] 1 true] =
          hp
            [Blk.cells
                [Value.slice (some { block := 1, off := b.snd.fst, spot := some 1 : Addr }) b.fst.length b.fst.length] 1
                true,
              Blk.cells cs 2 true, Blk.cells (iC b.snd.snd) 1 true] ∧
        RipeS now cs L0 oe b.snd.fst b.fst b.snd.snd ∧
          K
            (Value.slice (some { block := 2, off := 0, spot := some 1 : Addr }) (ripeE now L0).length
              (ripeE now L0).length)
            (hp
              [Blk.cells
                  [Value.slice (some { block := 1, off := oe, spot := some 1 : Addr }) (restE now L0).length
                      (restE now L0).length]
                  1 true,
                Blk.cells cs 2 true, Blk.cells (iC (ripeE now L0)) 1 true])) := by kernel_rfl

noncomputable def rRipeC : CtrW where
  D := [0]
  W := [0]
  E := [0]
  pre := fun args blks => match args, blks with
    | [.pointer (some ⟨0,0,none⟩), .int .u64 _], [.cells [.slice (some ⟨1,o,some 1⟩) m k] 1 true, .cells cs 2 true] => IsDC cs o m k
    | _, _ => False
  val := fun args blks => match args, blks with
    | [.pointer (some ⟨0,0,none⟩), .int .u64 d], [.cells [.slice (some ⟨1,o,some 1⟩) m k] 1 true, .cells cs 2 true] => .slice (some ⟨2,0,some 1⟩) (ripeE d (desAt cs o m)).length (ripeE d (desAt cs o m)).length
    | _, _ => undef
  out := fun args blks => match args, blks with
    | [.pointer (some ⟨0,0,none⟩), .int .u64 d], [.cells [.slice (some ⟨1,o,some 1⟩) m k] 1 true, .cells cs 2 true] => [.cells [.slice (some ⟨1,o + (ripeE d (desAt cs o m)).length * 2,some 1⟩) (restE d (desAt cs o m)).length (restE d (desAt cs o m)).length] 1 true, .cells cs 2 true, .cells (iC (ripeE d (desAt cs o m))) 1 true]
    | _, _ => []
theorem restE_drop (now : Int) : ∀ L : List Re, restE now L = L.drop (ripeE now L).length := by
  intro L
  induction L with
  | nil => rfl
  | cons x t ih => unfold restE ripeE; split; · rw [ih]; rfl
                   · rfl
theorem rest_row {now : Int} {cs : List Value} {o : Nat} {L : List Re} (h : DRow cs o L) : DRow cs (o + (ripeE now L).length * 2) (restE now L) := by
  have hl := ripeE_len now L
  have hs := h.size
  exact ⟨by rw [← List.drop_drop, h.eq, pC_drop, restE_drop], by omega, fun x hx => h.ok x (restE_mem hx), by have := h.short; omega, h.flat⟩
theorem isQ_rest {now : Int} {L : List Re} (h : IsQ L) : IsQ (restE now L) := by
  rw [restE_drop]
  exact ⟨List.Pairwise.sublist (List.drop_sublist _ _) h.up, List.Pairwise.sublist (List.drop_sublist _ _) h.ids, by have := h.len; rw [List.length_drop]; omega⟩
theorem rRipe_says (hmix : Try.prog.follows .mixedOrders = true) : rRipeC.Holds Try.prog 25 := by
  intro args blks hf hp
  simp only [rRipeC] at hp ⊢
  split at hp
  · rename_i d o m k cs
    obtain ⟨L, hB, rfl, rfl⟩ := hp
    rw [hB.at]
    refine ⟨⟨trivial, rfl, trivial⟩, ⟨rfl, iC_flat _, trivial⟩, ?_⟩
    have hL : Loops Try.prog body1318 2 (cutE [cut1318 d cs L (o + (ripeE d L).length * 2)]) := Loops.noneE.moreE _ fun x K hQ => by
      obtain ⟨h1, h5⟩ := hQ
      exact ripe_loop hmix d cs L _ hB.short K h5 x.1 x.2.1 x.2.2 h1
    refine (sure0 hmix).funX F1318 body1318 [0] [.tmp 0 1] Try.func25 rfl (hL.gcX (at0 [0]) (at0 [.tmp 5 1])) ?_
    have hw := w1318 d o L.length (o + (ripeE d L).length * 2) cs L
    unfold hR p0 at hw
    rw [hw]
    refine ⟨hR3_flat hB.flat (iC_flat []), (L, o, []), rfl, rfl, ⟨hB, rfl, rfl, rfl, by simp⟩, ?_⟩
    exact ⟨hR3_flat hB.flat (iC_flat _), rfl, rfl, rfl⟩
  · exact hp.elim
end Go.Proofs.Ytmgnlkefhmhkhaa

namespace Go.Proofs.Ytmgnlkefhmhkhaa
open Go.RowKit Go.Proofs.Ytmgnlkefhmhkhaa.AM
set_option maxRecDepth 100000
set_option maxHeartbeats 4000000
noncomputable def body1306 : Code := (Try.f13.body).getD .skip
def F1306 : List Nat → Option (List Nat) := fun p => match p with
  | [1] => some [0, 1, 5]
  | [1, 0, 1] => some [0, 1, 5, 9]
  | [1, 0, 1, 0, 1] => some [0, 1, 5, 9, 19]
  | [1, 0, 1, 0, 1, 0, 1] => some [1, 5]
  | [1, 1, 1, 0, 1, 0, 1] => some [0, 1, 5, 33]
  | [1, 0, 1, 1, 1, 0, 1, 0, 1] => some [6]
  | [1, 1, 1, 1, 1, 0, 1, 0, 1] => some [6]
  | [1, 1] => some []
  | [1, 1, 1] => some [6]
  | _ => none
/-- all calls of a law -/
noncomputable def SL : Book := addI Try.prog [(14, Try.f14, body1307), (26, Try.f26, body1319), (9, Try.f9, body1303), (10, Try.f10, body1304), (7, Try.f7, body1301)] (bookW [(8, qPutC), (18, qDropC), (12, qDueC), (15, rAtC), (23, rPutC), (24, rDropC), (25, rRipeC), (32, idxEC)] (bookOf [(11, sameC)]))
theorem sureL (hm : Try.prog.follows .mixedOrders = true) : Sure Try.prog SL := Sure.addI ⟨hm, plain, bookW_ok (bookOf_ok (l := [(11, sameC)]) ⟨same_says hm, trivial⟩) (l := [(8, qPutC), (18, qDropC), (12, qDueC), (15, rAtC), (23, rPutC), (24, rDropC), (25, rRipeC), (32, idxEC)]) ⟨qPut_says hm, qDrop_says hm, qDue_says hm, rAt_says hm, rPut_says hm, rDrop_says hm, rRipe_says hm, idxE_says hm, trivial⟩⟩ (l := [(14, Try.f14, body1307), (26, Try.f26, body1319), (9, Try.f9, body1303), (10, Try.f10, body1304), (7, Try.f7, body1301)]) ⟨⟨Try.func14, rfl⟩, ⟨Try.func26, rfl⟩, ⟨Try.func9, rfl⟩, ⟨Try.func10, rfl⟩, ⟨Try.func7, rfl⟩, trivial⟩
noncomputable def hS (n : Nat) (cs : List Value) (o m : Nat) (ds : List Value) : List Blk := [.cells [.slice (some ⟨2,0,some 1⟩) n n] 1 true, .cells [.slice (some ⟨3,o,some 1⟩) m m] 1 true, .cells cs 2 true, .cells ds 2 true]
noncomputable def p1 (n : Nat) : Value := .pointer (some ⟨n,0,none⟩)

theorem w1306 (k id d : Int) (n : Nat) (cs : List Value) (o m : Nat) (ds : List Value) (K : Value → Heap → Prop) :
  funX Try.prog SL noLoop F1306 body1306 Try.f13 [0, 1] [] [p1 0, p1 1, .agg #[.int .u8 k, .int .i64 id, .int .u64 d]] (hp (hS n cs o m ds)) K = (
Alt (eqI ((intV (Value.int IntKind.u8 k)).tmod 3) 0)
  ((nojL [Value.slice (some { block := 1, off := 0, spot := some 1 : Addr }) n n] = true ∧ FlatL cs ∧ True) ∧
    (IsRC cs n n ∧
        IsUpE (resAt cs n) ∧
          ReOk (intV (Value.int IntKind.u64 d), intV (Value.int IntKind.i64 id)) ∧ Need (leN n 999999) True) ∧
      (nojL [Value.slice (some { block := 1, off := o, spot := some 1 : Addr }) m m] = true ∧ FlatL ds ∧ True) ∧
        (IsDC ds o m m ∧
            ReOk (intV (Value.int IntKind.u64 d), intV (Value.int IntKind.i64 id)) ∧
              IsQ (desAt ds o m) ∧ Need (leN m 999999) True) ∧
          K (Value.bool true)
            (hp
              [Blk.cells
                  [Value.slice (some { block := 4, off := 0, spot := some 1 : Addr })
                      (putE (intV (Value.int IntKind.i64 id)) (intV (Value.int IntKind.u64 d)) (resAt cs n)).length
                      (putE (intV (Value.int IntKind.i64 id)) (intV (Value.int IntKind.u64 d)) (resAt cs n)).length]
                  1 true,
                Blk.cells
                  [Value.slice (some { block := 5, off := 0, spot := some 1 : Addr })
                      (putE (intV (Value.int IntKind.i64 id)) (intV (Value.int IntKind.u64 d)) (desAt ds o m)).length
                      (putE (intV (Value.int IntKind.i64 id)) (intV (Value.int IntKind.u64 d)) (desAt ds o m)).length]
                  1 true,
                Blk.dead, Blk.dead,
                Blk.cells (reC (putE (intV (Value.int IntKind.i64 id)) (intV (Value.int IntKind.u64 d)) (resAt cs n))) 2
                  true,
                Blk.cells (deC (putE (intV (Value.int IntKind.i64 id)) (intV (Value.int IntKind.u64 d)) (desAt ds o m)))
                  2 true]))
  (Alt (eqI ((intV (Value.int IntKind.u8 k)).tmod 3) 1)
    ((nojL [Value.slice (some { block := 1, off := 0, spot := some 1 : Addr }) n n] = true ∧ FlatL cs ∧ True) ∧
      IsRC cs n n ∧
        (nojL [Value.slice (some { block := 1, off := o, spot := some 1 : Addr }) m m] = true ∧ FlatL ds ∧ True) ∧
          IsDC ds o m m ∧
            Need
              (beqV 64 (Value.int IntKind.i64 (intV (Value.int IntKind.i64 id)))
                (Value.int IntKind.i64 (intV (Value.int IntKind.i64 id))))
              (K
                (Value.bool
                  (hasE (intV (Value.int IntKind.i64 id)) (resAt cs n) ==
                    hasE (intV (Value.int IntKind.i64 id)) (desAt ds o m)))
                (hp
                  [Blk.cells
                      [Value.slice (some { block := 2, off := 0, spot := some 1 : Addr })
                          (dropE (intV (Value.int IntKind.i64 id)) (resAt cs n)).length
                          (dropE (intV (Value.int IntKind.i64 id)) (resAt cs n)).length]
                      1 true,
                    Blk.cells
                      [Value.slice
                          (some
                            { block := 4, off := dOff (intV (Value.int IntKind.i64 id)) o (desAt ds o m),
                              spot := some 1 : Addr })
                          (dropE (intV (Value.int IntKind.i64 id)) (desAt ds o m)).length
                          (dropE (intV (Value.int IntKind.i64 id)) (desAt ds o m)).length]
                      1 true,
                    Blk.cells (reC (dropE (intV (Value.int IntKind.i64 id)) (resAt cs n))) 2 true, Blk.dead,
                    Blk.cells (dCs (intV (Value.int IntKind.i64 id)) ds (desAt ds o m)) 2 true])))
    ((nojL [Value.slice (some { block := 1, off := 0, spot := some 1 : Addr }) n n] = true ∧ FlatL cs ∧ True) ∧
      IsRC cs n n ∧
        (nojL [Value.slice (some { block := 1, off := o, spot := some 1 : Addr }) m m] = true ∧ FlatL ds ∧ True) ∧
          IsDC ds o m m ∧
            (FlatL (iC (ripeE (intV (Value.int IntKind.u64 d)) (resAt cs n))) ∧
                FlatL (iC (ripeE (intV (Value.int IntKind.u64 d)) (desAt ds o m))) ∧ True) ∧
              (IsE (iE IntKind.i64) (ZP IntKind.i64) (iC (ripeE (intV (Value.int IntKind.u64 d)) (resAt cs n))) 0
                    (ripeE (intV (Value.int IntKind.u64 d)) (resAt cs n)).length
                    (ripeE (intV (Value.int IntKind.u64 d)) (resAt cs n)).length ∧
                  IsE (iE IntKind.i64) (ZP IntKind.i64) (iC (ripeE (intV (Value.int IntKind.u64 d)) (desAt ds o m))) 0
                    (ripeE (intV (Value.int IntKind.u64 d)) (desAt ds o m)).length
                    (ripeE (intV (Value.int IntKind.u64 d)) (desAt ds o m)).length) ∧
                Need
                  (beqV 64 (Value.int IntKind.u64 (intV (Value.int IntKind.u64 d)))
                    (Value.int IntKind.u64 (intV (Value.int IntKind.u64 d))))
                  (K
                    (Value.bool
                      (sameI
                        (intsAt (iC (ripeE (intV (Value.int IntKind.u64 d)) (resAt cs n))) 0
                          (ripeE (intV (Value.int IntKind.u64 d)) (resAt cs n)).length)
                        (intsAt (iC (ripeE (intV (Value.int IntKind.u64 d)) (desAt ds o m))) 0
                          (ripeE (intV (Value.int IntKind.u64 d)) (desAt ds o m)).length)))
                    (hp
                      [Blk.cells
                          [Value.slice (some { block := 2, off := 0, spot := some 1 : Addr })
                              (restE (intV (Value.int IntKind.u64 d)) (resAt cs n)).length
                              (restE (intV (Value.int IntKind.u64 d)) (resAt cs n)).length]
                          1 true,
                        Blk.cells
                          [Value.slice
                              (some
                                { block := 3,
                                  off := o + (ripeE (intV (Value.int IntKind.u64 d)) (desAt ds o m)).length * 2,
                                  spot := some 1 : Addr })
                              (restE (intV (Value.int IntKind.u64 d)) (desAt ds o m)).length
                              (restE (intV (Value.int IntKind.u64 d)) (desAt ds o m)).length]
                          1 true,
                        Blk.cells (reC (restE (intV (Value.int IntKind.u64 d)) (resAt cs n))) 2 true,
                        Blk.cells ds 2 true]))))) := by kernel_rfl

end Go.Proofs.Ytmgnlkefhmhkhaa

namespace Go.Proofs.Ytmgnlkefhmhkhaa
open Go.RowKit Go.Proofs.Ytmgnlkefhmhkhaa.AM
set_option maxRecDepth 100000
set_option maxHeartbeats 4000000
noncomputable def body1328 : Code := (Try.f3.body).getD .skip
def F1328 : List Nat → Option (List Nat) := fun p => match p with
  | [1] => some []
  | [1, 1] => some [1]
  | [1, 0, 1, 1] => some [1, 7]
  | [1, 0, 1, 0, 1, 1] => some [0]
  | [1, 1, 1] => some [1000000, 1]
  | [1, 1, 1, 1] => some [1]
  | [1, 1, 1, 1, 1] => some [1]
  | [1, 1, 1, 1, 1, 1] => some [1]
  | [1, 1, 1, 1, 1, 1, 1] => some [1, 2, 3, 4]
  | [1, 1, 1, 1, 1, 1, 1, 1] => some [0]
  | _ => none
noncomputable def T1328 : List Value := tmps 45 [(1, p1 0)]
noncomputable def cut1328 : CutE where
  β := Nat
  p := [1,1,1]
  t := fun _ => T1328
  h := fun _ => hp (hQ 0 [])
  Q := fun _ K => K .ret (tmps 45 [(0, .bool true)]) (hp [])

theorem r1328 (K : Post) :
  roundX Try.prog SL noLoop F1328 body1328 0 [] [] [] [] [] [1,1,1] T1328 (hp (hQ 0 [])) K = (
(true = true ∧ FlatL [] ∧ True) ∧
  (IsRC [] 0 0 ∧ IsUpE (resAt [] 0) ∧ ReOk (9, 1) ∧ True) ∧
    (true = true ∧ FlatL [Value.int IntKind.u64 9, Value.int IntKind.i64 1] ∧ True) ∧
      (IsRC [Value.int IntKind.u64 9, Value.int IntKind.i64 1] 1 1 ∧
          IsUpE (resAt [Value.int IntKind.u64 9, Value.int IntKind.i64 1] 1) ∧ ReOk (4, 2) ∧ True) ∧
        (true = true ∧
            FlatL [Value.int IntKind.u64 4, Value.int IntKind.i64 2, Value.int IntKind.u64 9, Value.int IntKind.i64 1] ∧
              True) ∧
          (IsRC [Value.int IntKind.u64 4, Value.int IntKind.i64 2, Value.int IntKind.u64 9, Value.int IntKind.i64 1] 2
                2 ∧
              IsUpE
                  (resAt
                    [Value.int IntKind.u64 4, Value.int IntKind.i64 2, Value.int IntKind.u64 9, Value.int IntKind.i64 1]
                    2) ∧
                ReOk (4, 1) ∧ True) ∧
            (true = true ∧
                FlatL
                    [Value.int IntKind.u64 4, Value.int IntKind.i64 1, Value.int IntKind.u64 4,
                      Value.int IntKind.i64 2] ∧
                  True) ∧
              IsRC [Value.int IntKind.u64 4, Value.int IntKind.i64 1, Value.int IntKind.u64 4, Value.int IntKind.i64 2]
                  2 2 ∧
                (FlatL [Value.int IntKind.i64 1, Value.int IntKind.i64 2] ∧
                    FlatL [Value.int IntKind.i64 1, Value.int IntKind.i64 2] ∧ True) ∧
                  (IsE (iE IntKind.i64) (ZP IntKind.i64) [Value.int IntKind.i64 1, Value.int IntKind.i64 2] 0 2 2 ∧
                      IsE (iE IntKind.i64) (ZP IntKind.i64) [Value.int IntKind.i64 1, Value.int IntKind.i64 2] 0 2 2) ∧
                    K AE.ret (tmps 45 [(0, Value.bool true)]) (hp [])) := by kernel_rfl

theorem w1328 (K : Value → Heap → Prop) :
  funX Try.prog SL (gcLKX (at0 [0]) (at0 [.cell 1 0 2]) 0 (cutE [cut1328])) F1328 body1328 Try.f3 [] [] [] (hp []) K = (
FlatD [0]
    (hp
      [Blk.cells [Value.slice (some { block := 1, off := 0, spot := some 1 : Addr }) 0 0] 1 true,
        Blk.cells [] 2 true]) ∧
  ∃ (b : Nat),
    tmps 45 [(1, Value.pointer (some { block := 0, off := 0 : Addr }))] =
        tmps 45 [(1, Value.pointer (some { block := 0, off := 0 : Addr }))] ∧
      hp
            [Blk.cells [Value.slice (some { block := 1, off := 0, spot := some 1 : Addr }) 0 0] 1 true,
              Blk.cells [] 2 true] =
          hp
            [Blk.cells [Value.slice (some { block := 1, off := 0, spot := some 1 : Addr }) 0 0] 1 true,
              Blk.cells [] 2 true] ∧
        K (Value.bool true) (hp [])) := by kernel_rfl

def okB (L : List Re) : Bool := L.all fun x => decide (0 ≤ x.1) && decide (x.1 < 18446744073709551616) && decide (-9223372036854775808 ≤ x.2) && decide (x.2 < 9223372036854775808)
theorem ok_lit {L : List Re} (h : okB L = true) : ∀ x ∈ L, ReOk x := fun x hx => by
  have := List.all_eq_true.1 h x hx
  simp only [Bool.and_eq_true, decide_eq_true_eq] at this
  exact ⟨ZP.u64.2 ⟨this.1.1.1, this.1.1.2⟩, ZP.i64.2 ⟨this.1.2, this.2⟩⟩
theorem rc_lit {cs : List Value} {m k : Nat} (L : List Re) (hc : cs = reC L) (hm : m = L.length) (hk : k = L.length) (h : okB L = true) (hl : L.length ≤ 1000000) : IsRC cs m k := .mk L hc hm hk (ok_lit h) hl
theorem up_lit {cs : List Value} {m : Nat} (L : List Re) (hc : resAt cs m = L) (h : ((List.range L.length).all fun i => (List.range L.length).all fun j => !decide (i < j) || decide (cmpE (L.getD i (0, 0)) (L.getD j (0, 0)) < 0)) = true) (hl : L.length ≤ 1000000) : IsUpE (resAt cs m) := by
  rw [hc]
  refine ⟨List.pairwise_iff_getElem.2 fun i j hi hj hij => ?_, hl⟩
  have := List.all_eq_true.1 (List.all_eq_true.1 h i (List.mem_range.2 hi)) j (List.mem_range.2 hj)
  simp only [hij, decide_true, Bool.not_true, Bool.false_or, decide_eq_true_eq, List.getD_eq_getElem?_getD, List.getElem?_eq_getElem hi, List.getElem?_eq_getElem hj, Option.getD_some] at this
  exact this
theorem ie_lit {cs : List Value} {m k : Nat} (L : List Int) (hc : cs = iC L) (hm : m = L.length) (hk : k = L.length) (h : ∀ x ∈ L, ZP .i64 x) (hl : L.length ≤ 1000000) : IsE (iE .i64) (ZP .i64) cs 0 m k := by
  subst hc hm hk
  exact IsE.own flat_i h (by omega)
theorem runs_says (hmix : Try.prog.follows .mixedOrders = true) : trueC.Holds Try.prog 3 := by
  refine trueC_of ?_
  have hL : Loops Try.prog body1328 0 (cutE [cut1328]) := Loops.noneE.moreE _ fun x K hq => by
    show Says Try.prog 0 (sub body1328 [1,1,1]) T1328 (AM.hp (hQ 0 [])) K
    refine (sureL hmix).cutN F1328 noLoops [] [] [] [] [] ?_
    rw [r1328]
    have z12 : ∀ x ∈ ([1, 2] : List Int), ZP .i64 x := fun x hx => by simp at hx; rcases hx with rfl | rfl <;> exact ZP.i64.2 ⟨by decide, by decide⟩
    have hfl : ∀ L : List Re, FlatL (reC L) := reC_flat
    refine ⟨⟨rfl, hfl [], trivial⟩, ⟨rc_lit [] rfl rfl rfl rfl (by decide), up_lit [] rfl rfl (by decide), ok_lit (L := [(9, 1)]) rfl _ (by simp), trivial⟩, ⟨rfl, hfl [(9, 1)], trivial⟩, ⟨rc_lit [(9, 1)] rfl rfl rfl rfl (by decide), up_lit [(9, 1)] rfl rfl (by decide), ok_lit (L := [(4, 2)]) rfl _ (by simp), trivial⟩, ⟨rfl, hfl [(4, 2), (9, 1)], trivial⟩,
      ⟨rc_lit [(4, 2), (9, 1)] rfl rfl rfl rfl (by decide), up_lit [(4, 2), (9, 1)] rfl rfl (by decide), ok_lit (L := [(4, 1)]) rfl _ (by simp), trivial⟩, ⟨rfl, hfl [(4, 1), (4, 2)], trivial⟩, rc_lit [(4, 1), (4, 2)] rfl rfl rfl rfl (by decide), ⟨iC_flat [1, 2], iC_flat [1, 2], trivial⟩, ⟨ie_lit [1, 2] rfl rfl rfl z12 (by decide), ie_lit [1, 2] rfl rfl rfl z12 (by decide)⟩, ?_⟩
    exact ⟨FlatD.hp trivial, hq⟩
  refine (sureL hmix).funX F1328 body1328 [] [] Try.func3 rfl (hL.gcX (at0 [0]) (at0 [.cell 1 0 2])) ?_
  rw [w1328]
  exact ⟨hQ_flat (reC_flat []), 0, rfl, rfl, FlatD.hp trivial, rfl, rfl, rfl⟩
end Go.Proofs.Ytmgnlkefhmhkhaa

namespace Go.Proofs.Ytmgnlkefhmhkhaa
open Go.RowKit Go.Proofs.Ytmgnlkefhmhkhaa.AM
set_option maxRecDepth 100000
set_option maxHeartbeats 4000000
noncomputable def body1310 : Code := (Try.f17.body).getD .skip
def F1310 : List Nat → Option (List Nat) := fun p => match p with
  | [1] => some [0, 1, 2]
  | [1, 1] => some [0, 1, 2, 7]
  | [1, 0, 1, 1] => some [0, 1, 2, 7, 8]
  | [1, 0, 0, 0, 1, 0, 1, 1] => some [0, 1, 2, 7, 8, 12]
  | [1, 1, 0, 0, 0, 1, 0, 1, 1] => some [7]
  | [1, 0, 0, 1, 0, 1, 1] => some [0, 1, 2, 7, 8]
  | [1, 0, 0, 1, 0, 0, 1, 0, 1, 1] => some [0, 1, 2, 7, 8, 20]
  | [1, 1, 0, 0, 1, 0, 1, 1] => some [0, 1, 2, 7, 8]
  | [1, 1, 1] => some [7]
  | [1, 1, 1, 1] => some [6]
  | _ => none
/-- all calls of a law, its own run among them -/
noncomputable def SM : Book := addI Try.prog [(13, Try.f13, body1306), (14, Try.f14, body1307), (26, Try.f26, body1319), (9, Try.f9, body1303), (10, Try.f10, body1304), (7, Try.f7, body1301)] (bookW [(8, qPutC), (18, qDropC), (12, qDueC), (15, rAtC), (23, rPutC), (24, rDropC), (25, rRipeC), (32, idxEC)] (bookOf [(11, sameC), (3, trueC), (16, hasC)]))
theorem sureM (hm : Try.prog.follows .mixedOrders = true) : Sure Try.prog SM := Sure.addI ⟨hm, plain, bookW_ok (bookOf_ok (l := [(11, sameC), (3, trueC), (16, hasC)]) ⟨same_says hm, runs_says hm, has_says hm, trivial⟩) (l := [(8, qPutC), (18, qDropC), (12, qDueC), (15, rAtC), (23, rPutC), (24, rDropC), (25, rRipeC), (32, idxEC)]) ⟨qPut_says hm, qDrop_says hm, qDue_says hm, rAt_says hm, rPut_says hm, rDrop_says hm, rRipe_says hm, idxE_says hm, trivial⟩⟩ (l := [(13, Try.f13, body1306), (14, Try.f14, body1307), (26, Try.f26, body1319), (9, Try.f9, body1303), (10, Try.f10, body1304), (7, Try.f7, body1301)]) ⟨⟨Try.func13, rfl⟩, ⟨Try.func14, rfl⟩, ⟨Try.func26, rfl⟩, ⟨Try.func9, rfl⟩, ⟨Try.func10, rfl⟩, ⟨Try.func7, rfl⟩, trivial⟩
theorem rcs {L : List Re} (h : ∀ x ∈ L, ReOk x) (hl : L.length ≤ 1000000) : IsRC (reC L) L.length L.length := .mk L rfl rfl rfl h hl
theorem irs {L : List Re} (h : ∀ x ∈ L, ReOk x) : IsR (reC L) L.length L.length := .mk L rfl (Nat.le_refl _) (reC_row h)
theorem qfl (L : List Re) : FlatD [0] (hp [.cells [.slice (some ⟨1,0,some 1⟩) L.length L.length] 1 true, .cells (reC L) 2 true]) := hQ_flat (reC_flat L)
theorem isQ_nil : IsQ ([] : List Re) := ⟨List.Pairwise.nil, List.Pairwise.nil, by decide⟩
end Go.Proofs.Ytmgnlkefhmhkhaa
