/- Proved: what functions of the program come to, by their conditions over the abstract machine. Conditions: those that each theorem states. -/
import Derived.Test.YtkigkmjmbegmhaaAm5
import Derived.Test.YtkigkmjmbegmhaaProg
import Derived.WalkKit
import Derived.ProofKit
import Derived.Laws.BitsLemmas
import Derived.Shelf.Sort.Plain
import Derived.Shelf.Slices.In.SortNone
import Derived.Shelf.Slices.CompactI
import Derived.Lib.RowBridge
set_option linter.unusedVariables false
set_option linter.unusedSimpArgs false
namespace Go.Proofs.Ytkigkmjmbegmhaa
open Go.RowKit Go.Proofs.Ytkigkmjmbegmhaa.AM
set_option maxRecDepth 100000
set_option maxHeartbeats 4000000
noncomputable def S0 : Book := fun _ => none
theorem named : (Try.prog.funcs.toList.all fun fn => !(fn.name == "runtime.NumGoroutine")) = true := by decide +kernel
theorem plain : Plain Try.prog := fun f fn hf _ hn => by
  have h1 := List.all_eq_true.1 named fn (by simpa using Array.mem_of_getElem? hf)
  rw [hn] at h1
  exact absurd h1 (by decide)
theorem sums0 : SumsOk Try.prog S0.sums := fun f s hs => by cases hs
theorem sure0 (hmix : Try.prog.follows .mixedOrders = true) : Sure Try.prog S0 := ⟨hmix, plain, sums0⟩
noncomputable def body201 : Code := (Try.f3.body).getD .skip
def F201 : List Nat → Option (List Nat) := fun p => match p with
  | [1] => some []
  | [1, 1] => some [0]
  | _ => none
noncomputable def body207 : Code := (Try.f9.body).getD .skip
def F207 : List Nat → Option (List Nat) := fun p => match p with
  | [1] => some [0, 1]
  | [1, 0, 1] => some [0, 1, 10]
  | [1, 0, 1, 0, 1] => some [4]
  | [1, 1] => some [0, 1]
  | [1, 0, 1, 1] => some [0, 1, 5]
  | [1, 0, 0, 0, 1, 0, 1, 1] => some [0, 1, 5, 14]
  | [1, 1, 0, 0, 0, 1, 0, 1, 1] => some []
  | [1, 0, 0, 1, 0, 1, 1] => some [0, 1, 5]
  | [1, 0, 0, 1, 0, 0, 1, 0, 1, 1] => some [0, 1, 5, 25]
  | [1, 0, 1, 0, 0, 1, 0, 0, 1, 0, 1, 1] => some [4]
  | [1, 1, 0, 0, 1, 0, 1, 1] => some [0, 1, 5]
  | [1, 1, 1] => some []
  | [1, 1, 1, 1] => some [4]
  | _ => none
noncomputable def body209 : Code := (Try.f11.body).getD .skip
def F209 : List Nat → Option (List Nat) := fun p => match p with
  | [1] => some [0]
  | [1, 0, 1] => some [0, 3]
  | [1, 0, 0, 0, 1, 0, 1] => some [0, 3, 7]
  | [1, 1, 0, 0, 0, 1, 0, 1] => some []
  | [1, 0, 0, 1, 0, 1] => some [0, 3]
  | [1, 0, 0, 1, 0, 0, 1, 0, 1] => some [0, 3, 19]
  | [1, 0, 1, 0, 0, 1, 0, 0, 1, 0, 1] => some [2]
  | [1, 1, 0, 0, 1, 0, 1] => some [0, 3]
  | [1, 1] => some []
  | [1, 1, 1] => some [2]
  | _ => none
noncomputable def body210 : Code := (Try.f12.body).getD .skip
def F210 : List Nat → Option (List Nat) := fun p => match p with
  | [1] => some [0, 1]
  | [1, 1] => some [4]
  | _ => none
noncomputable def body213 : Code := (Try.f15.body).getD .skip
def F213 : List Nat → Option (List Nat) := fun p => match p with
  | [1] => some [0, 1]
  | [1, 0, 1] => some [0, 1, 5]
  | [1, 0, 0, 0, 1, 0, 1] => some [0, 1, 5, 9]
  | [1, 1, 0, 0, 0, 1, 0, 1] => some []
  | [1, 0, 0, 1, 0, 1] => some [0, 1, 5]
  | [1, 0, 0, 1, 0, 0, 1, 0, 1] => some [0, 1, 5, 17]
  | [1, 0, 1, 0, 0, 1, 0, 0, 1, 0, 1] => some [4]
  | [1, 1, 0, 0, 1, 0, 1] => some [0, 1, 5]
  | [1, 1] => some []
  | [1, 1, 1] => some [4]
  | _ => none
noncomputable def body221 : Code := (Try.f23.body).getD .skip
def F221 : List Nat → Option (List Nat) := fun p => match p with
  | [1] => some [0, 1]
  | [1, 1] => some [4]
  | _ => none
noncomputable def body229 : Code := (Try.f31.body).getD .skip
def F229 : List Nat → Option (List Nat) := fun p => match p with
  | [1] => some [0, 1]
  | [1, 0, 1] => some [0, 1, 7, 8]
  | [1, 0, 0, 1, 0, 1] => some [0, 1, 7, 8, 9]
  | [1, 0, 1, 0, 0, 1, 0, 1] => some []
  | [1, 1, 0, 0, 1, 0, 1] => some [0, 1, 7, 8]
  | [1, 0, 0, 1, 1, 0, 0, 1, 0, 1] => some [0, 1, 5, 7, 8]
  | [1, 1, 0, 0, 1, 1, 0, 0, 1, 0, 1] => some [0, 1, 5, 7, 8, 16]
  | [1, 0, 1, 1, 0, 0, 1, 1, 0, 0, 1, 0, 1] => some [4]
  | [1, 1, 1, 0, 0, 1, 0, 1] => some [0, 1, 7, 8]
  | [1, 1] => some []
  | [1, 1, 1] => some [4]
  | _ => none
noncomputable def trueC : Ctr where
  pre := fun args blks => match args, blks with
    | [], [] => True
    | _, _ => False
  val := fun _ _ => .bool true
  new := fun _ _ => []
theorem trueC_of {f : FuncId} (hs : FunSays Try.prog f [] (hp []) fun v h' => v = .bool true ∧ h' = hp []) : trueC.Holds Try.prog f := by
  intro args blks hf hp
  refine ⟨trivial, ?_⟩
  simp only [trueC] at hp ⊢
  split at hp
  · exact hs
  · exact hp.elim
theorem runs_run : isTrueR (acall Try.prog (fun _ => none) 300 3 [] Heap.empty) = true := by decide +kernel
theorem runs_holds (hmix : Try.prog.follows .mixedOrders = true) : trueC.Holds Try.prog 3 := trueC_of (FunSays.of_run hmix plain Try.func3 rfl runs_run)
/-! ### rows of numbers -/
abbrev ISl (cs : List Value) (o : Nat) (l : List Int) : Prop := ESl (iE .i64) (ZP .i64) cs o l
abbrev IsI (cs : List Value) (o len cap : Nat) : Prop := IsE (iE .i64) (ZP .i64) cs o len cap
noncomputable def intsAt (cs : List Value) (o len : Nat) : List Int := elAt intV cs o len
theorem intsAt_eq {cs : List Value} {o : Nat} {l : List Int} (h : ISl cs o l) : intsAt cs o l.length = l := ESl.elAt h fun _ => rfl
def hasL (n : Int) : List Int → Bool
  | [] => false
  | x :: t => if eqI x n then true else hasL n t
theorem hasL_iff {n : Int} : ∀ {l : List Int}, hasL n l = true ↔ n ∈ l := by
  intro l
  induction l with
  | nil => simp [hasL]
  | cons x t ih =>
    unfold hasL
    by_cases h : eqI x n = true
    · rw [if_pos h]; simp [eqI_iff.1 h]
    · rw [if_neg h, ih]
      have : ¬ n = x := fun hh => h (eqI_iff.2 hh.symm)
      simp [this]
def idxL (n : Int) : Nat → List Int → Int
  | _, [] => -1
  | i, x :: t => if eqI x n then (i : Int) else idxL n (i + 1) t
theorem idxL_has (n : Int) : ∀ (l : List Int) (i : Nat), (idxL n i l = -1 ∧ hasL n l = false) ∨ (0 ≤ idxL n i l ∧ hasL n l = true) := by
  intro l
  induction l with
  | nil => intro i; exact .inl ⟨rfl, rfl⟩
  | cons x t ih =>
    intro i
    unfold idxL hasL
    by_cases h : eqI x n = true
    · rw [if_pos h, if_pos h]; exact .inr ⟨by omega, rfl⟩
    · rw [if_neg h, if_neg h]; exact ih (i + 1)
def allI : List Int → List Int → Bool
  | [], _ => true
  | x :: a, y :: b => eqI x y && allI a b
  | _, [] => false
def sameI (a b : List Int) : Bool := decide (a.length = b.length) && allI a b
theorem allI_iff : ∀ {a b : List Int}, a.length = b.length → (allI a b = true ↔ a = b) := by
  intro a
  induction a with
  | nil => intro b h; cases b with
    | nil => simp [allI]
    | cons => simp at h
  | cons x a ih =>
    intro b h
    cases b with
    | nil => simp at h
    | cons y b => simp only [allI, Bool.and_eq_true, ih (by simpa using h), eqI_iff, List.cons.injEq]
theorem sameI_iff {a b : List Int} : sameI a b = true ↔ a = b := by
  unfold sameI
  rw [Bool.and_eq_true, decide_eq_true_iff]
  exact ⟨fun ⟨h1, h2⟩ => (allI_iff h1).1 h2, fun h => by subst h; exact ⟨rfl, (allI_iff rfl).2 rfl⟩⟩
/-- rising behind what stands ahead -/
def upF : Option Int → List Int → Bool
  | _, [] => true
  | none, x :: t => upF (some x) t
  | some p, x :: t => if leI x p then false else upF (some x) t
def upI (l : List Int) : Bool := upF none l
def prevI (l : List Int) (i : Nat) : Option Int := if i = 0 then none else l[i - 1]?
theorem upF_iff : ∀ (l : List Int) (p : Option Int), upF p l = true ↔ l.Pairwise (fun x y => x < y) ∧ ∀ q, p = some q → ∀ x ∈ l, q < x := by
  intro l
  induction l with
  | nil => intro p; cases p <;> simp [upF]
  | cons x t ih =>
    intro p
    cases p with
    | none =>
      rw [upF, ih, List.pairwise_cons]
      exact ⟨fun ⟨h1, h2⟩ => ⟨⟨h2 x rfl, h1⟩, fun q hq => by cases hq⟩, fun ⟨⟨h1, h2⟩, _⟩ => ⟨h2, fun q hq => by injection hq with hq; subst hq; exact h1⟩⟩
    | some p =>
      rw [upF]
      by_cases h : leI x p = true
      · rw [if_pos h]
        have h := leI_iff.1 h
        refine ⟨fun hh => (by cases hh), fun ⟨_, h2⟩ => ?_⟩
        have := h2 p rfl x List.mem_cons_self
        omega
      · rw [if_neg h, ih, List.pairwise_cons]
        have h : p < x := by
          by_cases q : x ≤ p
          · exact absurd (leI_iff.2 q) h
          · omega
        refine ⟨fun ⟨h1, h2⟩ => ⟨⟨h2 x rfl, h1⟩, fun q hq y hy => ?_⟩, fun ⟨⟨h1, h2⟩, _⟩ => ⟨h2, fun q hq => by injection hq with hq; subst hq; exact h1⟩⟩
        injection hq with hq; subst hq
        rcases List.mem_cons.1 hy with rfl | hy
        · exact h
        · have := h2 x rfl y hy; omega
theorem upI_iff {l : List Int} : upI l = true ↔ l.Pairwise (fun x y => x < y) := by
  unfold upI; rw [upF_iff]; exact ⟨fun h => h.1, fun h => ⟨h, fun q hq => by cases hq⟩⟩
/-! ### contracts: of one row, of two -/
noncomputable def rowQ (ok : List Value → Prop) (g : List Int → List Value → Value) : Ctr where
  pre := fun args blks => match args, blks with
    | .slice (some ⟨0, o, _⟩) len cap :: xs, [.cells cs 1 _] => IsI cs o len cap ∧ ok xs
    | _, _ => False
  val := fun args blks => match args, blks with
    | .slice (some ⟨0, o, _⟩) len _ :: xs, [.cells cs 1 _] => g (intsAt cs o len) xs
    | _, _ => undef
  new := fun _ _ => []
theorem rowQ_of {ok : List Value → Prop} {g : List Int → List Value → Value} {f : FuncId}
    (h : ∀ (l : List Int) (cs : List Value) (own : Bool) (o : Nat) (sp : Option Nat) (cap : Nat) (xs : List Value), l.length ≤ cap → ISl cs o l → ok xs →
      FunSays Try.prog f (.slice (some ⟨0,o,sp⟩) l.length cap :: xs) (hp [.cells cs 1 own]) fun v h' => v = g l xs ∧ h' = hp [.cells cs 1 own]) : (rowQ ok g).Holds Try.prog f := by
  intro args blks hf hp
  refine ⟨trivial, ?_⟩
  simp only [rowQ] at hp ⊢
  split at hp
  · rename_i o sp len cap xs cs own
    obtain ⟨⟨l, rfl, hc, hB⟩, hk⟩ := hp
    simp only [intsAt_eq hB]
    exact h l cs own o sp cap xs hc hB hk
  · exact hp.elim
inductive IsN : List Value → Prop
  | mk (n : Int) (h : ZP .i64 n) : IsN [.int .i64 n]
inductive IsO : List Value → Prop
  | mk : IsO []
noncomputable def hasG (l : List Int) (xs : List Value) : Value := match xs with
  | [.int .i64 n] => .bool (hasL n l)
  | _ => undef
noncomputable def hasC : Ctr := rowQ IsN hasG
noncomputable def idxG (l : List Int) (xs : List Value) : Value := match xs with
  | [.int .i64 n] => .int .i64 (idxL n 0 l)
  | _ => undef
noncomputable def idxC : Ctr := rowQ IsN idxG
noncomputable def isC : Ctr := rowQ IsO fun l _ => .bool (upI l)
noncomputable def T213 (o : Nat) (sp : Option Nat) (len cap i : Nat) (n : Int) : List Value := tmps 18 [(0, .slice (some ⟨0,o,sp⟩) len cap), (1, .int .i64 n), (5, .int .i64 i)]
noncomputable def T209 (o : Nat) (sp : Option Nat) (len cap i : Nat) : List Value := tmps 20 [(0, .slice (some ⟨0,o,sp⟩) len cap), (3, .int .i64 i)]
noncomputable def T229 (o : Nat) (sp : Option Nat) (len cap i : Nat) (n : Int) : List Value := tmps 19 [(0, .slice (some ⟨0,o,sp⟩) len cap), (1, .int .i64 n), (7, .int .i64 len), (8, .int .i64 i)]
noncomputable def T207 (a b : Value) (i : Nat) : List Value := tmps 26 [(0, a), (1, b), (5, .int .i64 i)]

theorem r213 (cs : List Value) (own : Bool) (o : Nat) (sp : Option Nat) (len cap i : Nat) (n : Int) (K : Post) :
  roundX Try.prog S0 noLoop F213 body213 1 [] [] [] [] [0,1,5] [0,0,1,0,1] (T213 o sp len cap i n) (hp [.cells cs 1 own]) K = (
Alt (ltI (↑i : Int) (↑len : Int))
  (Need (ltI (↑i : Int) (↑len : Int))
    (Need (isInt IntKind.i64 ((getO cs (o + (↑i : Int).toNat * 1)).getD undef))
      (Alt (eqI (intV ((getO cs (o + (↑i : Int).toNat * 1)).getD undef)) n)
        (K AE.ret (tmps 18 [(4, Value.bool true)]) (hp [Blk.cells cs 1 own]))
        (K AE.normal
          (tmps 18
            [(0, Value.slice (some { block := 0, off := o, spot := sp : Addr }) len cap), (1, Value.int IntKind.i64 n),
              (5, Value.int IntKind.i64 (wr IntKind.i64 ((↑i : Int) + 1)))])
          (hp [Blk.cells cs 1 own])))))
  (K (AE.exit 0) (tmps 18 []) (hp [Blk.cells cs 1 own]))) := by kernel_rfl

theorem r209 (cs : List Value) (own : Bool) (o : Nat) (sp : Option Nat) (len cap i : Nat) (K : Post) :
  roundX Try.prog S0 noLoop F209 body209 1 [] [] [] [] [0,3] [0,0,1,0,1] (T209 o sp len cap i) (hp [.cells cs 1 own]) K = (
Alt (ltI (↑i : Int) (↑len : Int))
  (Need (ltI (↑i : Int) (↑len : Int))
    (Need (isInt IntKind.i64 ((getO cs (o + (↑i : Int).toNat * 1)).getD undef))
      (Need (leI 0 (wr IntKind.i64 ((↑i : Int) - 1)))
        (Need (ltI (wr IntKind.i64 ((↑i : Int) - 1)) (↑len : Int))
          (Need (isInt IntKind.i64 ((getO cs (o + (wr IntKind.i64 ((↑i : Int) - 1)).toNat * 1)).getD undef))
            (Alt
              (leI (intV ((getO cs (o + (↑i : Int).toNat * 1)).getD undef))
                (intV ((getO cs (o + (wr IntKind.i64 ((↑i : Int) - 1)).toNat * 1)).getD undef)))
              (K AE.ret (tmps 20 [(2, Value.bool false)]) (hp [Blk.cells cs 1 own]))
              (K AE.normal
                (tmps 20
                  [(0, Value.slice (some { block := 0, off := o, spot := sp : Addr }) len cap),
                    (3, Value.int IntKind.i64 (wr IntKind.i64 ((↑i : Int) + 1)))])
                (hp [Blk.cells cs 1 own]))))))))
  (K (AE.exit 0) (tmps 20 []) (hp [Blk.cells cs 1 own]))) := by kernel_rfl

theorem r229 (cs : List Value) (own : Bool) (o : Nat) (sp : Option Nat) (len cap i : Nat) (n : Int) (K : Post) :
  roundX Try.prog S0 noLoop F229 body229 1 [] [] [] [] [0,1,7,8] [0,0,1,0,1] (T229 o sp len cap i n) (hp [.cells cs 1 own]) K = (
Alt (ltI (↑i : Int) (↑len : Int))
  (Need (ltI (↑i : Int) (↑len : Int))
    (Need (isInt IntKind.i64 ((getO cs (o + (↑i : Int).toNat * 1)).getD undef))
      (Alt (eqI n (intV ((getO cs (o + (↑i : Int).toNat * 1)).getD undef)))
        (K AE.ret (tmps 19 [(4, Value.int IntKind.i64 (↑i : Int))]) (hp [Blk.cells cs 1 own]))
        (K AE.normal
          (tmps 19
            [(0, Value.slice (some { block := 0, off := o, spot := sp : Addr }) len cap), (1, Value.int IntKind.i64 n),
              (7, Value.int IntKind.i64 (↑len : Int)), (8, Value.int IntKind.i64 (wr IntKind.i64 ((↑i : Int) + 1)))])
          (hp [Blk.cells cs 1 own])))))
  (K (AE.exit 0) (tmps 19 []) (hp [Blk.cells cs 1 own]))) := by kernel_rfl

theorem r207 (ca cb : List Value) (own own2 : Bool) (o o2 : Nat) (sp s2 : Option Nat) (len cap len2 cap2 i : Nat) (K : Post) :
  roundX Try.prog S0 noLoop F207 body207 2 [] [] [] [] [0,1,5] [0,0,1,0,1,1] (T207 (.slice (some ⟨0,o,sp⟩) len cap) (.slice (some ⟨1,o2,s2⟩) len2 cap2) i) (hp [.cells ca 1 own, .cells cb 1 own2]) K = (
Alt (ltI (↑i : Int) (↑len : Int))
  (Need (ltI (↑i : Int) (↑len : Int))
    (Need (isInt IntKind.i64 ((getO ca (o + (↑i : Int).toNat * 1)).getD undef))
      (Need (ltI (↑i : Int) (↑len2 : Int))
        (Need (isInt IntKind.i64 ((getO cb (o2 + (↑i : Int).toNat * 1)).getD undef))
          (Alt
            (!eqI (intV ((getO ca (o + (↑i : Int).toNat * 1)).getD undef))
                (intV ((getO cb (o2 + (↑i : Int).toNat * 1)).getD undef)))
            (K AE.ret (tmps 26 [(4, Value.bool false)]) (hp [Blk.cells ca 1 own, Blk.cells cb 1 own2]))
            (K AE.normal
              (tmps 26
                [(0, Value.slice (some { block := 0, off := o, spot := sp : Addr }) len cap),
                  (1, Value.slice (some { block := 1, off := o2, spot := s2 : Addr }) len2 cap2),
                  (5, Value.int IntKind.i64 (wr IntKind.i64 ((↑i : Int) + 1)))])
              (hp [Blk.cells ca 1 own, Blk.cells cb 1 own2])))))))
  (K (AE.exit 0) (tmps 26 []) (hp [Blk.cells ca 1 own, Blk.cells cb 1 own2]))) := by kernel_rfl

end Go.Proofs.Ytkigkmjmbegmhaa

namespace Go.Proofs.Ytkigkmjmbegmhaa
open Go.Shelf
def lays189_ren : Go.Shelf.Ren := ⟨fun | 189 => 25 | 125 => 33 | 257 => 32 | 128 => 45 | 129 => 46 | 294 => 36 | 295 => 37 | 296 => 38 | 297 => 39 | 298 => 40 | 299 => 41 | 216 => 42 | 300 => 43 | 301 => 44 | 328 => 48 | 329 => 49 | 330 => 50 | 331 => 51 | 332 => 52 | 215 => 53 | 343 => 54 | n => n, fun | 28 => 23 | 3 => 3 | 46 => 40 | 0 => 0 | 51 => 51 | 53 => 53 | 4 => 4 | 183 => 43 | 182 => 42 | 131 => 48 | 5 => 5 | 9 => 9 | 218 => 55 | 222 => 59 | 228 => 61 | 229 => 62 | n => n, fun | n => n⟩
theorem lays189 : Go.Proofs.Lays.n189 Try.prog lays189_ren := {
  mixed := by kernel_rfl
  f125 := Try.func33.trans (congrArg some (by kernel_rfl))
  f128 := Try.func45.trans (congrArg some (by kernel_rfl))
  f129 := Try.func46.trans (congrArg some (by kernel_rfl))
  f189 := Try.func25.trans (congrArg some (by kernel_rfl))
  f215 := Try.func53.trans (congrArg some (by kernel_rfl))
  f216 := Try.func42.trans (congrArg some (by kernel_rfl))
  f257 := Try.func32.trans (congrArg some (by kernel_rfl))
  f294 := Try.func36.trans (congrArg some (by kernel_rfl))
  f295 := Try.func37.trans (congrArg some (by kernel_rfl))
  f296 := Try.func38.trans (congrArg some (by kernel_rfl))
  f297 := Try.func39.trans (congrArg some (by kernel_rfl))
  f298 := Try.func40.trans (congrArg some (by kernel_rfl))
  f299 := Try.func41.trans (congrArg some (by kernel_rfl))
  f300 := Try.func43.trans (congrArg some (by kernel_rfl))
  f301 := Try.func44.trans (congrArg some (by kernel_rfl))
  f328 := Try.func48.trans (congrArg some (by kernel_rfl))
  f329 := Try.func49.trans (congrArg some (by kernel_rfl))
  f330 := Try.func50.trans (congrArg some (by kernel_rfl))
  f331 := Try.func51.trans (congrArg some (by kernel_rfl))
  f332 := Try.func52.trans (congrArg some (by kernel_rfl))
  f343 := Try.func54.trans (congrArg some (by kernel_rfl))
  t0 := Try.underlying0
  a0 := Try.isAgg0
  z0 := Try.sizeOf0
  v0 := Try.zeroValue0
  t3 := Try.underlying3
  a3 := Try.isAgg3
  z3 := Try.sizeOf3
  v3 := Try.zeroValue3
  t4 := Try.underlying4
  a4 := Try.isAgg4
  z4 := Try.sizeOf4
  v4 := Try.zeroValue4
  t5 := Try.underlying5
  a5 := Try.isAgg5
  z5 := Try.sizeOf5
  v5 := Try.zeroValue5
  t9 := Try.underlying9
  a9 := Try.isAgg9
  z9 := Try.sizeOf9
  v9 := Try.zeroValue9
  t28 := Try.underlying23
  a28 := Try.isAgg23
  z28 := Try.sizeOf23
  v28 := Try.zeroValue23
  t46 := Try.underlying40
  a46 := Try.isAgg40
  z46 := Try.sizeOf40
  v46 := Try.zeroValue40
  t51 := Try.underlying51
  a51 := Try.isAgg51
  z51 := Try.sizeOf51
  v51 := Try.zeroValue51
  t53 := Try.underlying53
  a53 := Try.isAgg53
  z53 := Try.sizeOf53
  v53 := Try.zeroValue53
  t131 := Try.underlying48
  a131 := Try.isAgg48
  z131 := Try.sizeOf48
  v131 := Try.zeroValue48
  t182 := Try.underlying42
  a182 := Try.isAgg42
  z182 := Try.sizeOf42
  v182 := Try.zeroValue42
  t183 := Try.underlying43
  a183 := Try.isAgg43
  z183 := Try.sizeOf43
  v183 := Try.zeroValue43
  t218 := Try.underlying55
  a218 := Try.isAgg55
  z218 := Try.sizeOf55
  v218 := Try.zeroValue55
  t222 := Try.underlying59
  a222 := Try.isAgg59
  z222 := Try.sizeOf59
  v222 := Try.zeroValue59
  t228 := Try.underlying61
  a228 := Try.isAgg61
  z228 := Try.sizeOf61
  v228 := Try.zeroValue61
  t229 := Try.underlying62
  a229 := Try.isAgg62
  z229 := Try.sizeOf62
  v229 := Try.zeroValue62 }
open Go.Sort Go.RowKit in
theorem slices_Sort_int (blk off cap : Nat) (zs : List Int) (w : World) (hH : Holds (Value.int .i64) w blk off zs.toArray) (hblk : blk < w.heap.size) (hsz : zs.length < 4611686018427387904) :
    Calls Try.prog 25 #[.slice (some ⟨blk, off, none⟩) zs.length cap] w fun e w' =>
      e = .returned (.tuple #[]) ∧ ∃ n os, w' = grow (putRow (Value.int .i64) (Sort.ahead w n) blk off (zs.mergeSort fun x y => decide (x ≤ y)).toArray) os := Any.slices_Sort_int lays189 blk off cap zs w hH hblk hsz
def laysNm220_ren : Go.Shelf.Ren := ⟨fun | 20 => 26 | n => n, fun | 22 => 23 | 3 => 3 | 4 => 4 | 0 => 0 | n => n, fun | n => n⟩
theorem laysNm220 : Go.Proofs.Lays2.n20 Try.prog laysNm220_ren := {
  mixed := by kernel_rfl
  f20 := Try.func26.trans (congrArg some (by kernel_rfl))
  t0 := Try.underlying0
  a0 := Try.isAgg0
  z0 := Try.sizeOf0
  v0 := Try.zeroValue0
  t3 := Try.underlying3
  a3 := Try.isAgg3
  z3 := Try.sizeOf3
  v3 := Try.zeroValue3
  t4 := Try.underlying4
  a4 := Try.isAgg4
  z4 := Try.sizeOf4
  v4 := Try.zeroValue4
  t22 := Try.underlying23
  a22 := Try.isAgg23
  z22 := Try.sizeOf23
  v22 := Try.zeroValue23
  i3 := by kernel_rfl }
open Go.RowKit Go.Lib Go.Sort in
theorem slices_Compact_int (blk off cap : Nat) (zs : List Int) (w : World) (hH : Holds (Value.int .i64) w blk off zs.toArray) (hsz : zs.length ≤ 9223372036854775807) (hcap : zs.length ≤ cap) :
    Calls Try.prog 26 #[.slice (some ⟨blk, off, none⟩) zs.length cap] w fun e w' => e = .returned (.slice (some ⟨blk, off, none⟩) (Lib.compact zs).length cap) ∧ ∃ q, w' = putRow (Value.int .i64) (Sort.ahead w q) blk off (Lib.compact zs ++ List.replicate (zs.length - (Lib.compact zs).length) 0).toArray := Any.slices_Compact_int laysNm220 blk off cap zs w hH hsz hcap
open Go.RowKit Go.Lib Go.Sort in
theorem slices_Compact_int_empty (a : Option Addr) (cap : Nat) (w : World) :
    Calls Try.prog 26 #[.slice a 0 cap] w fun e w' => e = .returned (.slice a 0 cap) ∧ w' = w := Any.slices_Compact_int_empty laysNm220 a cap w
open Go.RowKit Go.Sort in
theorem slices_Sort_int_none (p : Option Addr) (cap : Nat) (w : World) :
    Calls Try.prog 25 #[.slice p 0 cap] w fun e w' => e = .returned (.tuple #[]) ∧ w' = w := Any.slices_Sort_int_none lays189 p cap w
end Go.Proofs.Ytkigkmjmbegmhaa

namespace Go.Proofs.Ytkigkmjmbegmhaa
open Go.RowKit Go.Proofs.Ytkigkmjmbegmhaa.AM
set_option maxRecDepth 100000
set_option maxHeartbeats 4000000

theorem w213 (cs : List Value) (own : Bool) (o : Nat) (sp : Option Nat) (len cap : Nat) (n : Int) (ok : Bool) (K : Value → Heap → Prop) :
  funX Try.prog S0 (gcLKX (at0 []) (at0 []) 1 (cutLK [⟨[0,1,0,1], T213 o sp len cap 0 n, hp [.cells cs 1 own], fun K => Alt ok (K .ret (tmps 18 [(4, .bool true)]) (hp [.cells cs 1 own])) (K (.exit 0) (tmps 18 []) (hp [.cells cs 1 own]))⟩])) F213 body213 Try.f15 [] [] [.slice (some ⟨0,o,sp⟩) len cap, .int .i64 n] (hp [.cells cs 1 own]) K = (
FlatD [] (hp [Blk.cells cs 1 own]) ∧
  tmps 18
        [(0, Value.slice (some { block := 0, off := o, spot := sp : Addr }) len cap), (1, Value.int IntKind.i64 n),
          (5, Value.int IntKind.i64 0)] =
      tmps 18
        [(0, Value.slice (some { block := 0, off := o, spot := sp : Addr }) len cap), (1, Value.int IntKind.i64 n),
          (5, Value.int IntKind.i64 0)] ∧
    hp [Blk.cells cs 1 own] = hp [Blk.cells cs 1 own] ∧
      Alt ok (K (Value.bool true) (hp [Blk.cells cs 1 own])) (K (Value.bool false) (hp [Blk.cells cs 1 own]))) := by kernel_rfl

theorem w209 (cs : List Value) (own : Bool) (o : Nat) (sp : Option Nat) (len cap : Nat) (ok : Bool) (K : Value → Heap → Prop) :
  funX Try.prog S0 (gcLKX (at0 []) (at0 []) 1 (cutLK [⟨[0,1,0,1], T209 o sp len cap 1, hp [.cells cs 1 own], fun K => Alt ok (K (.exit 0) (tmps 20 []) (hp [.cells cs 1 own])) (K .ret (tmps 20 [(2, .bool false)]) (hp [.cells cs 1 own]))⟩])) F209 body209 Try.f11 [] [] [.slice (some ⟨0,o,sp⟩) len cap] (hp [.cells cs 1 own]) K = (
FlatD [] (hp [Blk.cells cs 1 own]) ∧
  tmps 20 [(0, Value.slice (some { block := 0, off := o, spot := sp : Addr }) len cap), (3, Value.int IntKind.i64 1)] =
      tmps 20
        [(0, Value.slice (some { block := 0, off := o, spot := sp : Addr }) len cap), (3, Value.int IntKind.i64 1)] ∧
    hp [Blk.cells cs 1 own] = hp [Blk.cells cs 1 own] ∧
      Alt ok (K (Value.bool true) (hp [Blk.cells cs 1 own])) (K (Value.bool false) (hp [Blk.cells cs 1 own]))) := by kernel_rfl

theorem w229 (cs : List Value) (own : Bool) (o : Nat) (sp : Option Nat) (len cap : Nat) (n r : Int) (ok : Bool) (K : Value → Heap → Prop) :
  funX Try.prog S0 (gcLKX (at0 []) (at0 []) 1 (cutLK [⟨[0,1,0,1], T229 o sp len cap 0 n, hp [.cells cs 1 own], fun K => Alt ok (K .ret (tmps 19 [(4, .int .i64 r)]) (hp [.cells cs 1 own])) (K (.exit 0) (tmps 19 []) (hp [.cells cs 1 own]))⟩])) F229 body229 Try.f31 [] [] [.slice (some ⟨0,o,sp⟩) len cap, .int .i64 n] (hp [.cells cs 1 own]) K = (
FlatD [] (hp [Blk.cells cs 1 own]) ∧
  tmps 19
        [(0, Value.slice (some { block := 0, off := o, spot := sp : Addr }) len cap), (1, Value.int IntKind.i64 n),
          (7, Value.int IntKind.i64 (↑len : Int)), (8, Value.int IntKind.i64 0)] =
      tmps 19
        [(0, Value.slice (some { block := 0, off := o, spot := sp : Addr }) len cap), (1, Value.int IntKind.i64 n),
          (7, Value.int IntKind.i64 (↑len : Int)), (8, Value.int IntKind.i64 0)] ∧
    hp [Blk.cells cs 1 own] = hp [Blk.cells cs 1 own] ∧
      Alt ok (K (Value.int IntKind.i64 r) (hp [Blk.cells cs 1 own]))
        (K (Value.int IntKind.i64 (-1)) (hp [Blk.cells cs 1 own]))) := by kernel_rfl

theorem w207 (ca cb : List Value) (own own2 : Bool) (o o2 : Nat) (sp s2 : Option Nat) (len cap len2 cap2 : Nat) (ok : Bool) (K : Value → Heap → Prop) :
  funX Try.prog S0 (gcLKX (at0 []) (at0 []) 2 (cutLK [⟨[0,1,0,1,1], T207 (.slice (some ⟨0,o,sp⟩) len cap) (.slice (some ⟨1,o2,s2⟩) len2 cap2) 0, hp [.cells ca 1 own, .cells cb 1 own2], fun K => Alt ok (K (.exit 0) (tmps 26 []) (hp [.cells ca 1 own, .cells cb 1 own2])) (K .ret (tmps 26 [(4, .bool false)]) (hp [.cells ca 1 own, .cells cb 1 own2]))⟩])) F207 body207 Try.f9 [] [] [.slice (some ⟨0,o,sp⟩) len cap, .slice (some ⟨1,o2,s2⟩) len2 cap2] (hp [.cells ca 1 own, .cells cb 1 own2]) K = (
Alt (!eqI (↑len : Int) (↑len2 : Int)) (K (Value.bool false) (hp [Blk.cells ca 1 own, Blk.cells cb 1 own2]))
  (FlatD [] (hp [Blk.cells ca 1 own, Blk.cells cb 1 own2]) ∧
    tmps 26
          [(0, Value.slice (some { block := 0, off := o, spot := sp : Addr }) len cap),
            (1, Value.slice (some { block := 1, off := o2, spot := s2 : Addr }) len2 cap2),
            (5, Value.int IntKind.i64 0)] =
        tmps 26
          [(0, Value.slice (some { block := 0, off := o, spot := sp : Addr }) len cap),
            (1, Value.slice (some { block := 1, off := o2, spot := s2 : Addr }) len2 cap2),
            (5, Value.int IntKind.i64 0)] ∧
      hp [Blk.cells ca 1 own, Blk.cells cb 1 own2] = hp [Blk.cells ca 1 own, Blk.cells cb 1 own2] ∧
        Alt ok (K (Value.bool true) (hp [Blk.cells ca 1 own, Blk.cells cb 1 own2]))
          (K (Value.bool false) (hp [Blk.cells ca 1 own, Blk.cells cb 1 own2])))) := by kernel_rfl

theorem w207e (ca cb : List Value) (own own2 : Bool) (o o2 : Nat) (sp s2 : Option Nat) (len cap len2 cap2 : Nat) (K : Value → Heap → Prop) :
  funX Try.prog S0 noLoop F207 body207 Try.f9 [] [] [.slice (some ⟨0,o,sp⟩) len cap, .slice (some ⟨1,o2,s2⟩) len2 cap2] (hp [.cells ca 1 own, .cells cb 1 own2]) K = (
Need (!eqI (↑len : Int) (↑len2 : Int)) (K (Value.bool false) (hp [Blk.cells ca 1 own, Blk.cells cb 1 own2]))) := by kernel_rfl

theorem hf1 {cs : List Value} {own : Bool} (h : FlatL cs) : FlatD [] (hp [.cells cs 1 own]) := FlatD.hp ⟨h, trivial⟩
theorem has_loop (hmix : Try.prog.follows .mixedOrders = true) (l : List Int) (cs : List Value) (own : Bool) (o : Nat) (sp : Option Nat) (cap : Nat) (n : Int) (hB : ISl cs o l) (K : Post) : ∀ (t : List Int) (i : Nat), l.drop i = t → i ≤ l.length →
    Alt (hasL n t) (K .ret (tmps 18 [(4, .bool true)]) (hp [.cells cs 1 own])) (K (.exit 0) (tmps 18 []) (hp [.cells cs 1 own])) →
    LSays Try.prog 1 (sub body213 [0,0,1,0,1]) (T213 o sp l.length cap i n) (hp [.cells cs 1 own]) K := by
  have hsh := hB.short
  intro t
  induction t with
  | nil =>
    intro i ht hi hK
    have hge : ¬ ((i : Int) < (l.length : Int)) := by have := List.drop_eq_nil_iff.1 ht; omega
    refine (sure0 hmix).roundX F213 noLoops [] [] [] [] [0,1,5] ?_
    rw [r213]
    simp only [hge, hf1 hB.flat, Alt_iff, Need_iff, ltI_eq, leI_eq, eqI_eq, leN_eq, eqN_eq, decide_eq_true_eq, decide_eq_false_iff_not, decide_true, decide_false, true_and, and_true, Bool.true_eq_false, Bool.false_eq_true, false_implies, true_implies, implies_true, not_true_eq_false, not_false_eq_true, Bool.not_eq_true', Bool.not_eq_false', Nat.zero_add, Nat.add_zero, Nat.sub_zero, Nat.zero_mul, Nat.mul_one, Int.toNat_natCast, List.drop_zero, beqV_int, beqV_sl, beqV_str, beqV_bool, beqV_ptr, beqV_flt, beqV_agg, beqV_tuple, List.all_cons, List.all_nil, Bool.and_self, Bool.and_true, Bool.true_and, Nat.le_refl, Int.le_refl, Nat.zero_le, Option.getD_some, isStr, strV, isInt, intV, isBool, boolV, kindEq, at0, isJunk, Option.isSome_some, Option.isSome_none, if_true, if_false, Nat.add_sub_cancel_left, Nat.add_sub_cancel]; exact hK
  | cons x t ih =>
    intro i ht hi hK
    obtain ⟨hlt, hx, hd⟩ := cons_of_drop ht
    refine (sure0 hmix).roundX F213 noLoops [] [] [] [] [0,1,5] ?_
    rw [r213]
    simp only [show (i : Int) < (l.length : Int) by omega, hB.cell i x hx, hf1 hB.flat, nx i (by omega), Alt_iff, Need_iff, ltI_eq, leI_eq, eqI_eq, leN_eq, eqN_eq, decide_eq_true_eq, decide_eq_false_iff_not, decide_true, decide_false, true_and, and_true, Bool.true_eq_false, Bool.false_eq_true, false_implies, true_implies, implies_true, not_true_eq_false, not_false_eq_true, Bool.not_eq_true', Bool.not_eq_false', Nat.zero_add, Nat.add_zero, Nat.sub_zero, Nat.zero_mul, Nat.mul_one, Int.toNat_natCast, List.drop_zero, beqV_int, beqV_sl, beqV_str, beqV_bool, beqV_ptr, beqV_flt, beqV_agg, beqV_tuple, List.all_cons, List.all_nil, Bool.and_self, Bool.and_true, Bool.true_and, Nat.le_refl, Int.le_refl, Nat.zero_le, Option.getD_some, isStr, strV, isInt, intV, isBool, boolV, kindEq, at0, isJunk, Option.isSome_some, Option.isSome_none, if_true, if_false, Nat.add_sub_cancel_left, Nat.add_sub_cancel]
    rw [hasL] at hK
    refine ⟨fun h => ?_, fun h => ?_⟩
    · rw [if_pos (eqI_iff.2 h)] at hK; exact hK
    · rw [if_neg (fun hh => h (eqI_iff.1 hh))] at hK; exact ih (i + 1) hd (by omega) hK
theorem has_says (hmix : Try.prog.follows .mixedOrders = true) : hasC.Holds Try.prog 15 := by
  refine rowQ_of fun l cs own o sp cap xs hc hB hk => ?_
  obtain ⟨n, hn⟩ := hk
  have hL : Loops Try.prog body213 1 (cutLK [⟨[0,1,0,1], T213 o sp l.length cap 0 n, AM.hp [.cells cs 1 own], fun K => Alt (hasL n l) (K .ret (tmps 18 [(4, .bool true)]) (AM.hp [.cells cs 1 own])) (K (.exit 0) (tmps 18 []) (AM.hp [.cells cs 1 own]))⟩]) := Loops.none.more _ fun K hK => by
    show LSays Try.prog _ (sub body213 [0,0,1,0,1]) _ _ _
    exact has_loop hmix l cs own o sp cap n hB K l 0 rfl (by omega) hK
  refine (sure0 hmix).funX F213 body213 [] [] Try.func15 rfl (hL.gcX (at0 []) (at0 [])) ?_
  rw [w213]
  unfold hasG
  cases hq : hasL n l with
  | true => simp only [hq, hf1 hB.flat, Alt_iff, Need_iff, ltI_eq, leI_eq, eqI_eq, leN_eq, eqN_eq, decide_eq_true_eq, decide_eq_false_iff_not, decide_true, decide_false, true_and, and_true, Bool.true_eq_false, Bool.false_eq_true, false_implies, true_implies, implies_true, not_true_eq_false, not_false_eq_true, Bool.not_eq_true', Bool.not_eq_false', Nat.zero_add, Nat.add_zero, Nat.sub_zero, Nat.zero_mul, Nat.mul_one, Int.toNat_natCast, List.drop_zero, beqV_int, beqV_sl, beqV_str, beqV_bool, beqV_ptr, beqV_flt, beqV_agg, beqV_tuple, List.all_cons, List.all_nil, Bool.and_self, Bool.and_true, Bool.true_and, Nat.le_refl, Int.le_refl, Nat.zero_le, Option.getD_some, isStr, strV, isInt, intV, isBool, boolV, kindEq, at0, isJunk, Option.isSome_some, Option.isSome_none, if_true, if_false, Nat.add_sub_cancel_left, Nat.add_sub_cancel]
  | false => simp only [hq, hf1 hB.flat, Alt_iff, Need_iff, ltI_eq, leI_eq, eqI_eq, leN_eq, eqN_eq, decide_eq_true_eq, decide_eq_false_iff_not, decide_true, decide_false, true_and, and_true, Bool.true_eq_false, Bool.false_eq_true, false_implies, true_implies, implies_true, not_true_eq_false, not_false_eq_true, Bool.not_eq_true', Bool.not_eq_false', Nat.zero_add, Nat.add_zero, Nat.sub_zero, Nat.zero_mul, Nat.mul_one, Int.toNat_natCast, List.drop_zero, beqV_int, beqV_sl, beqV_str, beqV_bool, beqV_ptr, beqV_flt, beqV_agg, beqV_tuple, List.all_cons, List.all_nil, Bool.and_self, Bool.and_true, Bool.true_and, Nat.le_refl, Int.le_refl, Nat.zero_le, Option.getD_some, isStr, strV, isInt, intV, isBool, boolV, kindEq, at0, isJunk, Option.isSome_some, Option.isSome_none, if_true, if_false, Nat.add_sub_cancel_left, Nat.add_sub_cancel]
theorem is_loop (hmix : Try.prog.follows .mixedOrders = true) (l : List Int) (cs : List Value) (own : Bool) (o : Nat) (sp : Option Nat) (cap : Nat) (hB : ISl cs o l) (K : Post) : ∀ (t : List Int) (i : Nat), l.drop i = t → 0 < i →
    Alt (upF (prevI l i) t) (K (.exit 0) (tmps 20 []) (hp [.cells cs 1 own])) (K .ret (tmps 20 [(2, .bool false)]) (hp [.cells cs 1 own])) →
    LSays Try.prog 1 (sub body209 [0,0,1,0,1]) (T209 o sp l.length cap i) (hp [.cells cs 1 own]) K := by
  have hsh := hB.short
  intro t
  induction t with
  | nil =>
    intro i ht hi hK
    have hge : ¬ ((i : Int) < (l.length : Int)) := by have := List.drop_eq_nil_iff.1 ht; omega
    refine (sure0 hmix).roundX F209 noLoops [] [] [] [] [0,3] ?_
    rw [r209]
    rw [show upF (prevI l i) [] = true by cases prevI l i <;> rfl] at hK
    simp only [hge, hf1 hB.flat, Alt_iff, Need_iff, ltI_eq, leI_eq, eqI_eq, leN_eq, eqN_eq, decide_eq_true_eq, decide_eq_false_iff_not, decide_true, decide_false, true_and, and_true, Bool.true_eq_false, Bool.false_eq_true, false_implies, true_implies, implies_true, not_true_eq_false, not_false_eq_true, Bool.not_eq_true', Bool.not_eq_false', Nat.zero_add, Nat.add_zero, Nat.sub_zero, Nat.zero_mul, Nat.mul_one, Int.toNat_natCast, List.drop_zero, beqV_int, beqV_sl, beqV_str, beqV_bool, beqV_ptr, beqV_flt, beqV_agg, beqV_tuple, List.all_cons, List.all_nil, Bool.and_self, Bool.and_true, Bool.true_and, Nat.le_refl, Int.le_refl, Nat.zero_le, Option.getD_some, isStr, strV, isInt, intV, isBool, boolV, kindEq, at0, isJunk, Option.isSome_some, Option.isSome_none, if_true, if_false, Nat.add_sub_cancel_left, Nat.add_sub_cancel]; exact hK
  | cons x t ih =>
    intro i ht hi hK
    obtain ⟨hlt, hx, hd⟩ := cons_of_drop ht
    refine (sure0 hmix).roundX F209 noLoops [] [] [] [] [0,3] ?_
    rw [r209]
    obtain ⟨j, rfl⟩ : ∃ j, i = j + 1 := ⟨i - 1, by omega⟩
    have hy : l[j]? = some l[j] := List.getElem?_eq_getElem (by omega)
    have hp0 : prevI l (j + 1) = some l[j] := by unfold prevI; rw [if_neg (by omega), Nat.add_sub_cancel, hy]
    have hp1 : prevI l (j + 1 + 1) = some x := by unfold prevI; rw [if_neg (by omega), Nat.add_sub_cancel, hx]
    simp only [show ((j + 1 : Nat) : Int) < (l.length : Int) by omega, show (j : Int) < (l.length : Int) by omega, show (0 : Int) ≤ (j : Int) by omega, hB.cell (j + 1) x hx, hB.cell j _ hy, hf1 hB.flat, nx (j + 1) (by omega), pv j (by omega), Alt_iff, Need_iff, ltI_eq, leI_eq, eqI_eq, leN_eq, eqN_eq, decide_eq_true_eq, decide_eq_false_iff_not, decide_true, decide_false, true_and, and_true, Bool.true_eq_false, Bool.false_eq_true, false_implies, true_implies, implies_true, not_true_eq_false, not_false_eq_true, Bool.not_eq_true', Bool.not_eq_false', Nat.zero_add, Nat.add_zero, Nat.sub_zero, Nat.zero_mul, Nat.mul_one, Int.toNat_natCast, List.drop_zero, beqV_int, beqV_sl, beqV_str, beqV_bool, beqV_ptr, beqV_flt, beqV_agg, beqV_tuple, List.all_cons, List.all_nil, Bool.and_self, Bool.and_true, Bool.true_and, Nat.le_refl, Int.le_refl, Nat.zero_le, Option.getD_some, isStr, strV, isInt, intV, isBool, boolV, kindEq, at0, isJunk, Option.isSome_some, Option.isSome_none, if_true, if_false, Nat.add_sub_cancel_left, Nat.add_sub_cancel]
    rw [hp0, upF] at hK
    refine ⟨fun h => ?_, fun h => ?_⟩
    · rw [if_pos (leI_iff.2 h)] at hK; exact hK
    · rw [if_neg (fun hh => h (leI_iff.1 hh)), ← hp1] at hK; exact ih (j + 1 + 1) hd (by omega) hK
theorem is_says (hmix : Try.prog.follows .mixedOrders = true) : isC.Holds Try.prog 11 := by
  refine rowQ_of fun l cs own o sp cap xs hc hB hk => ?_
  obtain ⟨⟩ := hk
  have hL : Loops Try.prog body209 1 (cutLK [⟨[0,1,0,1], T209 o sp l.length cap 1, AM.hp [.cells cs 1 own], fun K => Alt (upI l) (K (.exit 0) (tmps 20 []) (AM.hp [.cells cs 1 own])) (K .ret (tmps 20 [(2, .bool false)]) (AM.hp [.cells cs 1 own]))⟩]) := Loops.none.more _ fun K hK => by
    show LSays Try.prog _ (sub body209 [0,0,1,0,1]) _ _ _
    refine is_loop hmix l cs own o sp cap hB K (l.drop 1) 1 rfl (by omega) ?_
    have : upF (prevI l 1) (l.drop 1) = upI l := by
      unfold upI
      cases l with
      | nil => rfl
      | cons x t => rfl
    rw [this]; exact hK
  refine (sure0 hmix).funX F209 body209 [] [] Try.func11 rfl (hL.gcX (at0 []) (at0 [])) ?_
  rw [w209]
  cases hq : upI l with
  | true => simp only [hf1 hB.flat, Alt_iff, Need_iff, ltI_eq, leI_eq, eqI_eq, leN_eq, eqN_eq, decide_eq_true_eq, decide_eq_false_iff_not, decide_true, decide_false, true_and, and_true, Bool.true_eq_false, Bool.false_eq_true, false_implies, true_implies, implies_true, not_true_eq_false, not_false_eq_true, Bool.not_eq_true', Bool.not_eq_false', Nat.zero_add, Nat.add_zero, Nat.sub_zero, Nat.zero_mul, Nat.mul_one, Int.toNat_natCast, List.drop_zero, beqV_int, beqV_sl, beqV_str, beqV_bool, beqV_ptr, beqV_flt, beqV_agg, beqV_tuple, List.all_cons, List.all_nil, Bool.and_self, Bool.and_true, Bool.true_and, Nat.le_refl, Int.le_refl, Nat.zero_le, Option.getD_some, isStr, strV, isInt, intV, isBool, boolV, kindEq, at0, isJunk, Option.isSome_some, Option.isSome_none, if_true, if_false, Nat.add_sub_cancel_left, Nat.add_sub_cancel]
  | false => simp only [hf1 hB.flat, Alt_iff, Need_iff, ltI_eq, leI_eq, eqI_eq, leN_eq, eqN_eq, decide_eq_true_eq, decide_eq_false_iff_not, decide_true, decide_false, true_and, and_true, Bool.true_eq_false, Bool.false_eq_true, false_implies, true_implies, implies_true, not_true_eq_false, not_false_eq_true, Bool.not_eq_true', Bool.not_eq_false', Nat.zero_add, Nat.add_zero, Nat.sub_zero, Nat.zero_mul, Nat.mul_one, Int.toNat_natCast, List.drop_zero, beqV_int, beqV_sl, beqV_str, beqV_bool, beqV_ptr, beqV_flt, beqV_agg, beqV_tuple, List.all_cons, List.all_nil, Bool.and_self, Bool.and_true, Bool.true_and, Nat.le_refl, Int.le_refl, Nat.zero_le, Option.getD_some, isStr, strV, isInt, intV, isBool, boolV, kindEq, at0, isJunk, Option.isSome_some, Option.isSome_none, if_true, if_false, Nat.add_sub_cancel_left, Nat.add_sub_cancel]
theorem idx_loop (hmix : Try.prog.follows .mixedOrders = true) (l : List Int) (cs : List Value) (own : Bool) (o : Nat) (sp : Option Nat) (cap : Nat) (n : Int) (hB : ISl cs o l) (K : Post) : ∀ (t : List Int) (i : Nat), l.drop i = t → i ≤ l.length →
    Alt (hasL n t) (K .ret (tmps 19 [(4, .int .i64 (idxL n i t))]) (hp [.cells cs 1 own])) (K (.exit 0) (tmps 19 []) (hp [.cells cs 1 own])) →
    LSays Try.prog 1 (sub body229 [0,0,1,0,1]) (T229 o sp l.length cap i n) (hp [.cells cs 1 own]) K := by
  have hsh := hB.short
  intro t
  induction t with
  | nil =>
    intro i ht hi hK
    have hge : ¬ ((i : Int) < (l.length : Int)) := by have := List.drop_eq_nil_iff.1 ht; omega
    refine (sure0 hmix).roundX F229 noLoops [] [] [] [] [0,1,7,8] ?_
    rw [r229]
    simp only [hge, hf1 hB.flat, Alt_iff, Need_iff, ltI_eq, leI_eq, eqI_eq, leN_eq, eqN_eq, decide_eq_true_eq, decide_eq_false_iff_not, decide_true, decide_false, true_and, and_true, Bool.true_eq_false, Bool.false_eq_true, false_implies, true_implies, implies_true, not_true_eq_false, not_false_eq_true, Bool.not_eq_true', Bool.not_eq_false', Nat.zero_add, Nat.add_zero, Nat.sub_zero, Nat.zero_mul, Nat.mul_one, Int.toNat_natCast, List.drop_zero, beqV_int, beqV_sl, beqV_str, beqV_bool, beqV_ptr, beqV_flt, beqV_agg, beqV_tuple, List.all_cons, List.all_nil, Bool.and_self, Bool.and_true, Bool.true_and, Nat.le_refl, Int.le_refl, Nat.zero_le, Option.getD_some, isStr, strV, isInt, intV, isBool, boolV, kindEq, at0, isJunk, Option.isSome_some, Option.isSome_none, if_true, if_false, Nat.add_sub_cancel_left, Nat.add_sub_cancel]; exact hK
  | cons x t ih =>
    intro i ht hi hK
    obtain ⟨hlt, hx, hd⟩ := cons_of_drop ht
    refine (sure0 hmix).roundX F229 noLoops [] [] [] [] [0,1,7,8] ?_
    rw [r229]
    simp only [show (i : Int) < (l.length : Int) by omega, hB.cell i x hx, hf1 hB.flat, nx i (by omega), Alt_iff, Need_iff, ltI_eq, leI_eq, eqI_eq, leN_eq, eqN_eq, decide_eq_true_eq, decide_eq_false_iff_not, decide_true, decide_false, true_and, and_true, Bool.true_eq_false, Bool.false_eq_true, false_implies, true_implies, implies_true, not_true_eq_false, not_false_eq_true, Bool.not_eq_true', Bool.not_eq_false', Nat.zero_add, Nat.add_zero, Nat.sub_zero, Nat.zero_mul, Nat.mul_one, Int.toNat_natCast, List.drop_zero, beqV_int, beqV_sl, beqV_str, beqV_bool, beqV_ptr, beqV_flt, beqV_agg, beqV_tuple, List.all_cons, List.all_nil, Bool.and_self, Bool.and_true, Bool.true_and, Nat.le_refl, Int.le_refl, Nat.zero_le, Option.getD_some, isStr, strV, isInt, intV, isBool, boolV, kindEq, at0, isJunk, Option.isSome_some, Option.isSome_none, if_true, if_false, Nat.add_sub_cancel_left, Nat.add_sub_cancel]
    rw [hasL, idxL] at hK
    refine ⟨fun h => ?_, fun h => ?_⟩
    · rw [if_pos (eqI_iff.2 h.symm), if_pos (eqI_iff.2 h.symm)] at hK; exact hK
    · rw [if_neg (fun hh => h (eqI_iff.1 hh).symm), if_neg (fun hh => h (eqI_iff.1 hh).symm)] at hK; exact ih (i + 1) hd (by omega) hK
theorem idx_says (hmix : Try.prog.follows .mixedOrders = true) : idxC.Holds Try.prog 31 := by
  refine rowQ_of fun l cs own o sp cap xs hc hB hk => ?_
  obtain ⟨n, hn⟩ := hk
  have hL : Loops Try.prog body229 1 (cutLK [⟨[0,1,0,1], T229 o sp l.length cap 0 n, AM.hp [.cells cs 1 own], fun K => Alt (hasL n l) (K .ret (tmps 19 [(4, .int .i64 (idxL n 0 l))]) (AM.hp [.cells cs 1 own])) (K (.exit 0) (tmps 19 []) (AM.hp [.cells cs 1 own]))⟩]) := Loops.none.more _ fun K hK => by
    show LSays Try.prog _ (sub body229 [0,0,1,0,1]) _ _ _
    exact idx_loop hmix l cs own o sp cap n hB K l 0 rfl (by omega) hK
  refine (sure0 hmix).funX F229 body229 [] [] Try.func31 rfl (hL.gcX (at0 []) (at0 [])) ?_
  rw [w229]
  unfold idxG
  rcases idxL_has n l 0 with ⟨h1, h2⟩ | ⟨h1, h2⟩
  · rw [h2]; simp only [h1, hf1 hB.flat, Alt_iff, Need_iff, ltI_eq, leI_eq, eqI_eq, leN_eq, eqN_eq, decide_eq_true_eq, decide_eq_false_iff_not, decide_true, decide_false, true_and, and_true, Bool.true_eq_false, Bool.false_eq_true, false_implies, true_implies, implies_true, not_true_eq_false, not_false_eq_true, Bool.not_eq_true', Bool.not_eq_false', Nat.zero_add, Nat.add_zero, Nat.sub_zero, Nat.zero_mul, Nat.mul_one, Int.toNat_natCast, List.drop_zero, beqV_int, beqV_sl, beqV_str, beqV_bool, beqV_ptr, beqV_flt, beqV_agg, beqV_tuple, List.all_cons, List.all_nil, Bool.and_self, Bool.and_true, Bool.true_and, Nat.le_refl, Int.le_refl, Nat.zero_le, Option.getD_some, isStr, strV, isInt, intV, isBool, boolV, kindEq, at0, isJunk, Option.isSome_some, Option.isSome_none, if_true, if_false, Nat.add_sub_cancel_left, Nat.add_sub_cancel]
  · rw [h2]; simp only [hf1 hB.flat, Alt_iff, Need_iff, ltI_eq, leI_eq, eqI_eq, leN_eq, eqN_eq, decide_eq_true_eq, decide_eq_false_iff_not, decide_true, decide_false, true_and, and_true, Bool.true_eq_false, Bool.false_eq_true, false_implies, true_implies, implies_true, not_true_eq_false, not_false_eq_true, Bool.not_eq_true', Bool.not_eq_false', Nat.zero_add, Nat.add_zero, Nat.sub_zero, Nat.zero_mul, Nat.mul_one, Int.toNat_natCast, List.drop_zero, beqV_int, beqV_sl, beqV_str, beqV_bool, beqV_ptr, beqV_flt, beqV_agg, beqV_tuple, List.all_cons, List.all_nil, Bool.and_self, Bool.and_true, Bool.true_and, Nat.le_refl, Int.le_refl, Nat.zero_le, Option.getD_some, isStr, strV, isInt, intV, isBool, boolV, kindEq, at0, isJunk, Option.isSome_some, Option.isSome_none, if_true, if_false, Nat.add_sub_cancel_left, Nat.add_sub_cancel]
noncomputable def S90 : Book := bookOf [(31, idxC)]
theorem sure90 (hmix : Try.prog.follows .mixedOrders = true) : Sure Try.prog S90 := ⟨hmix, plain, bookOf_ok (l := [(31, idxC)]) ⟨idx_says hmix, trivial⟩⟩

theorem w221 (cs : List Value) (own : Bool) (o : Nat) (sp : Option Nat) (len cap : Nat) (n : Int) (K : Value → Heap → Prop) :
  funX Try.prog S90 noLoop F221 body221 Try.f23 [] [] [.slice (some ⟨0,o,sp⟩) len cap, .int .i64 n] (hp [.cells cs 1 own]) K = (
(FlatL cs ∧ True) ∧
  (IsE (iE IntKind.i64) (ZP IntKind.i64) cs o len cap ∧ IsN [Value.int IntKind.i64 n]) ∧
    K (Value.bool (leI 0 (idxL n 0 (intsAt cs o len)))) (hp [Blk.cells cs 1 own])) := by kernel_rfl

theorem contains_says (hmix : Try.prog.follows .mixedOrders = true) : hasC.Holds Try.prog 23 := by
  refine rowQ_of fun l cs own o sp cap xs hc hB hk => ?_
  obtain ⟨n, hn⟩ := hk
  refine (sure90 hmix).funX F221 body221 [] [] Try.func23 rfl noLoops ?_
  rw [w221]
  unfold hasG
  have hI : IsI cs o l.length cap := .mk l rfl hc hB
  have he : leI 0 (idxL n 0 l) = hasL n l := by
    rcases idxL_has n l 0 with ⟨h1, h2⟩ | ⟨h1, h2⟩
    · rw [h1, h2]; rfl
    · rw [h2, leI_iff.2 h1]
  rw [intsAt_eq hB, he]
  exact ⟨⟨hB.flat, trivial⟩, ⟨hI, ⟨n, hn⟩⟩, hf1 hB.flat, rfl, rfl, rfl⟩
noncomputable def S91 : Book := bookOf [(23, hasC)]
theorem sure91 (hmix : Try.prog.follows .mixedOrders = true) : Sure Try.prog S91 := ⟨hmix, plain, bookOf_ok (l := [(23, hasC)]) ⟨contains_says hmix, trivial⟩⟩

theorem w210 (cs : List Value) (own : Bool) (o : Nat) (sp : Option Nat) (len cap : Nat) (n : Int) (K : Value → Heap → Prop) :
  funX Try.prog S91 noLoop F210 body210 Try.f12 [] [] [.slice (some ⟨0,o,sp⟩) len cap, .int .i64 n] (hp [.cells cs 1 own]) K = (
(FlatL cs ∧ True) ∧
  (IsE (iE IntKind.i64) (ZP IntKind.i64) cs o len cap ∧ IsN [Value.int IntKind.i64 n]) ∧
    K (Value.bool (hasL n (intsAt cs o len))) (hp [Blk.cells cs 1 own])) := by kernel_rfl

theorem rhas_says (hmix : Try.prog.follows .mixedOrders = true) : hasC.Holds Try.prog 12 := by
  refine rowQ_of fun l cs own o sp cap xs hc hB hk => ?_
  obtain ⟨n, hn⟩ := hk
  refine (sure91 hmix).funX F210 body210 [] [] Try.func12 rfl noLoops ?_
  rw [w210]
  simp only [hasG, intsAt_eq hB, hB.flat, hf1 hB.flat, Alt_iff, Need_iff, ltI_eq, leI_eq, eqI_eq, leN_eq, eqN_eq, decide_eq_true_eq, decide_eq_false_iff_not, decide_true, decide_false, true_and, and_true, Bool.true_eq_false, Bool.false_eq_true, false_implies, true_implies, implies_true, not_true_eq_false, not_false_eq_true, Bool.not_eq_true', Bool.not_eq_false', Nat.zero_add, Nat.add_zero, Nat.sub_zero, Nat.zero_mul, Nat.mul_one, Int.toNat_natCast, List.drop_zero, beqV_int, beqV_sl, beqV_str, beqV_bool, beqV_ptr, beqV_flt, beqV_agg, beqV_tuple, List.all_cons, List.all_nil, Bool.and_self, Bool.and_true, Bool.true_and, Nat.le_refl, Int.le_refl, Nat.zero_le, Option.getD_some, isStr, strV, isInt, intV, isBool, boolV, kindEq, at0, isJunk, Option.isSome_some, Option.isSome_none, if_true, if_false, Nat.add_sub_cancel_left, Nat.add_sub_cancel]
  and_intros <;> first | exact .mk l rfl hc hB | exact ⟨n, hn⟩ | rfl
theorem same_loop (hmix : Try.prog.follows .mixedOrders = true) (a b : List Int) (ca cb : List Value) (own own2 : Bool) (o o2 : Nat) (sp s2 : Option Nat) (cap cap2 : Nat) (hA : ISl ca o a) (hB : ISl cb o2 b) (hlen : a.length = b.length) (K : Post) : ∀ (t u : List Int) (i : Nat), a.drop i = t → b.drop i = u → i ≤ a.length →
    Alt (allI t u) (K (.exit 0) (tmps 26 []) (hp [.cells ca 1 own, .cells cb 1 own2])) (K .ret (tmps 26 [(4, .bool false)]) (hp [.cells ca 1 own, .cells cb 1 own2])) →
    LSays Try.prog 2 (sub body207 [0,0,1,0,1,1]) (T207 (.slice (some ⟨0,o,sp⟩) a.length cap) (.slice (some ⟨1,o2,s2⟩) b.length cap2) i) (hp [.cells ca 1 own, .cells cb 1 own2]) K := by
  have hF : FlatD [] (hp [.cells ca 1 own, .cells cb 1 own2]) := FlatD.hp ⟨hA.flat, hB.flat, trivial⟩
  have hsh := hA.short
  intro t
  induction t with
  | nil =>
    intro u i ht hu hi hK
    have hge : ¬ ((i : Int) < (a.length : Int)) := by have := List.drop_eq_nil_iff.1 ht; omega
    refine (sure0 hmix).roundX F207 noLoops [] [] [] [] [0,1,5] ?_
    rw [r207]
    simp only [hge, hF, Alt_iff, Need_iff, ltI_eq, leI_eq, eqI_eq, leN_eq, eqN_eq, decide_eq_true_eq, decide_eq_false_iff_not, decide_true, decide_false, true_and, and_true, Bool.true_eq_false, Bool.false_eq_true, false_implies, true_implies, implies_true, not_true_eq_false, not_false_eq_true, Bool.not_eq_true', Bool.not_eq_false', Nat.zero_add, Nat.add_zero, Nat.sub_zero, Nat.zero_mul, Nat.mul_one, Int.toNat_natCast, List.drop_zero, beqV_int, beqV_sl, beqV_str, beqV_bool, beqV_ptr, beqV_flt, beqV_agg, beqV_tuple, List.all_cons, List.all_nil, Bool.and_self, Bool.and_true, Bool.true_and, Nat.le_refl, Int.le_refl, Nat.zero_le, Option.getD_some, isStr, strV, isInt, intV, isBool, boolV, kindEq, at0, isJunk, Option.isSome_some, Option.isSome_none, if_true, if_false, Nat.add_sub_cancel_left, Nat.add_sub_cancel]; exact hK
  | cons x t ih =>
    intro u i ht hu hi hK
    obtain ⟨hlt, hx, hd⟩ := cons_of_drop ht
    cases u with
    | nil => have := List.drop_eq_nil_iff.1 hu; omega
    | cons y u =>
      obtain ⟨hlt2, hy, hd2⟩ := cons_of_drop hu
      refine (sure0 hmix).roundX F207 noLoops [] [] [] [] [0,1,5] ?_
      rw [r207]
      simp only [show (i : Int) < (a.length : Int) by omega, show (i : Int) < (b.length : Int) by omega, hA.cell i x hx, hB.cell i y hy, hF, nx i (by omega), Alt_iff, Need_iff, ltI_eq, leI_eq, eqI_eq, leN_eq, eqN_eq, decide_eq_true_eq, decide_eq_false_iff_not, decide_true, decide_false, true_and, and_true, Bool.true_eq_false, Bool.false_eq_true, false_implies, true_implies, implies_true, not_true_eq_false, not_false_eq_true, Bool.not_eq_true', Bool.not_eq_false', Nat.zero_add, Nat.add_zero, Nat.sub_zero, Nat.zero_mul, Nat.mul_one, Int.toNat_natCast, List.drop_zero, beqV_int, beqV_sl, beqV_str, beqV_bool, beqV_ptr, beqV_flt, beqV_agg, beqV_tuple, List.all_cons, List.all_nil, Bool.and_self, Bool.and_true, Bool.true_and, Nat.le_refl, Int.le_refl, Nat.zero_le, Option.getD_some, isStr, strV, isInt, intV, isBool, boolV, kindEq, at0, isJunk, Option.isSome_some, Option.isSome_none, if_true, if_false, Nat.add_sub_cancel_left, Nat.add_sub_cancel]
      rw [allI] at hK
      refine ⟨fun h => ?_, fun h => ?_⟩
      · rw [show eqI x y = false from Bool.eq_false_iff.2 (fun hh => h (eqI_iff.1 hh))] at hK; exact hK
      · rw [show eqI x y = true from eqI_iff.2 h] at hK
        exact ih u (i + 1) hd hd2 (by omega) hK
noncomputable def sameC : Ctr where
  pre := fun args blks => match args, blks with
    | [.slice (some ⟨0, o, _⟩) len cap, .slice (some ⟨1, o2, _⟩) len2 cap2], [.cells ca 1 _, .cells cb 1 _] => IsI ca o len cap ∧ IsI cb o2 len2 cap2
    | _, _ => False
  val := fun args blks => match args, blks with
    | [.slice (some ⟨0, o, _⟩) len _, .slice (some ⟨1, o2, _⟩) len2 _], [.cells ca 1 _, .cells cb 1 _] => .bool (sameI (intsAt ca o len) (intsAt cb o2 len2))
    | _, _ => undef
  new := fun _ _ => []
theorem same_says (hmix : Try.prog.follows .mixedOrders = true) : sameC.Holds Try.prog 9 := by
  intro args blks hf hp
  refine ⟨trivial, ?_⟩
  simp only [sameC] at hp ⊢
  split at hp
  · rename_i o sp len cap o2 s2 len2 cap2 ca own cb own2
    obtain ⟨⟨a, rfl, hc, hA⟩, ⟨b, rfl, hc2, hB⟩⟩ := hp
    simp only [intsAt_eq hA, intsAt_eq hB, List.append_nil]
    have hF : FlatD [] (AM.hp [.cells ca 1 own, .cells cb 1 own2]) := FlatD.hp ⟨hA.flat, hB.flat, trivial⟩
    unfold sameI
    by_cases hlen : a.length = b.length
    · have hL : Loops Try.prog body207 2 (cutLK [⟨[0,1,0,1,1], T207 (.slice (some ⟨0,o,sp⟩) a.length cap) (.slice (some ⟨1,o2,s2⟩) b.length cap2) 0, AM.hp [.cells ca 1 own, .cells cb 1 own2], fun K => Alt (allI a b) (K (.exit 0) (tmps 26 []) (AM.hp [.cells ca 1 own, .cells cb 1 own2])) (K .ret (tmps 26 [(4, .bool false)]) (AM.hp [.cells ca 1 own, .cells cb 1 own2]))⟩]) := Loops.none.more _ fun K hK => by
        show LSays Try.prog _ (sub body207 [0,0,1,0,1,1]) _ _ _
        exact same_loop hmix a b ca cb own own2 o o2 sp s2 cap cap2 hA hB hlen K a b 0 rfl rfl (by omega) hK
      refine (sure0 hmix).funX F207 body207 [] [] Try.func9 rfl (hL.gcX (at0 []) (at0 [])) ?_
      rw [w207]
      have he : ((a.length : Nat) : Int) = (b.length : Int) := by rw [hlen]
      cases hq : allI a b with
      | true => simp only [he, hF, hlen, Bool.not_true, Alt_iff, Need_iff, ltI_eq, leI_eq, eqI_eq, leN_eq, eqN_eq, decide_eq_true_eq, decide_eq_false_iff_not, decide_true, decide_false, true_and, and_true, Bool.true_eq_false, Bool.false_eq_true, false_implies, true_implies, implies_true, not_true_eq_false, not_false_eq_true, Bool.not_eq_true', Bool.not_eq_false', Nat.zero_add, Nat.add_zero, Nat.sub_zero, Nat.zero_mul, Nat.mul_one, Int.toNat_natCast, List.drop_zero, beqV_int, beqV_sl, beqV_str, beqV_bool, beqV_ptr, beqV_flt, beqV_agg, beqV_tuple, List.all_cons, List.all_nil, Bool.and_self, Bool.and_true, Bool.true_and, Nat.le_refl, Int.le_refl, Nat.zero_le, Option.getD_some, isStr, strV, isInt, intV, isBool, boolV, kindEq, at0, isJunk, Option.isSome_some, Option.isSome_none, if_true, if_false, Nat.add_sub_cancel_left, Nat.add_sub_cancel]
      | false => simp only [he, hF, hlen, Bool.not_true, Bool.and_false, Alt_iff, Need_iff, ltI_eq, leI_eq, eqI_eq, leN_eq, eqN_eq, decide_eq_true_eq, decide_eq_false_iff_not, decide_true, decide_false, true_and, and_true, Bool.true_eq_false, Bool.false_eq_true, false_implies, true_implies, implies_true, not_true_eq_false, not_false_eq_true, Bool.not_eq_true', Bool.not_eq_false', Nat.zero_add, Nat.add_zero, Nat.sub_zero, Nat.zero_mul, Nat.mul_one, Int.toNat_natCast, List.drop_zero, beqV_int, beqV_sl, beqV_str, beqV_bool, beqV_ptr, beqV_flt, beqV_agg, beqV_tuple, List.all_cons, List.all_nil, Bool.and_self, Bool.and_true, Bool.true_and, Nat.le_refl, Int.le_refl, Nat.zero_le, Option.getD_some, isStr, strV, isInt, intV, isBool, boolV, kindEq, at0, isJunk, Option.isSome_some, Option.isSome_none, if_true, if_false, Nat.add_sub_cancel_left, Nat.add_sub_cancel]
    · refine (sure0 hmix).funX F207 body207 [] [] Try.func9 rfl noLoops ?_
      rw [w207e]
      have he : ¬ ((a.length : Nat) : Int) = (b.length : Int) := by omega
      simp only [he, hF, hlen, Bool.not_false, Bool.false_and, Alt_iff, Need_iff, ltI_eq, leI_eq, eqI_eq, leN_eq, eqN_eq, decide_eq_true_eq, decide_eq_false_iff_not, decide_true, decide_false, true_and, and_true, Bool.true_eq_false, Bool.false_eq_true, false_implies, true_implies, implies_true, not_true_eq_false, not_false_eq_true, Bool.not_eq_true', Bool.not_eq_false', Nat.zero_add, Nat.add_zero, Nat.sub_zero, Nat.zero_mul, Nat.mul_one, Int.toNat_natCast, List.drop_zero, beqV_int, beqV_sl, beqV_str, beqV_bool, beqV_ptr, beqV_flt, beqV_agg, beqV_tuple, List.all_cons, List.all_nil, Bool.and_self, Bool.and_true, Bool.true_and, Nat.le_refl, Int.le_refl, Nat.zero_le, Option.getD_some, isStr, strV, isInt, intV, isBool, boolV, kindEq, at0, isJunk, Option.isSome_some, Option.isSome_none, if_true, if_false, Nat.add_sub_cancel_left, Nat.add_sub_cancel]
  · exact hp.elim
end Go.Proofs.Ytkigkmjmbegmhaa

namespace Go.Proofs.Ytkigkmjmbegmhaa
open Go.RowKit Go.Proofs.Ytkigkmjmbegmhaa.AM
set_option maxRecDepth 100000
set_option maxHeartbeats 4000000
noncomputable def body222 : Code := (Try.f24.body).getD .skip
def F222 : List Nat → Option (List Nat) := fun p => match p with
  | [1] => some [0]
  | [1, 0, 1] => some [0, 4]
  | [1, 0, 1, 0, 1] => some [2]
  | [1, 1] => some [0]
  | [1, 1, 1] => some [2]
  | _ => none
noncomputable def body212 : Code := (Try.f14.body).getD .skip
def F212 : List Nat → Option (List Nat) := fun p => match p with
  | [1] => some [0]
  | [1, 1] => some [3]
  | [1, 1, 1] => some [3]
  | [1, 1, 1, 1] => some [2]
  | _ => none

theorem w222a (cs : List Value) (own : Bool) (o len cap : Nat) (K : Value → Heap → Prop) :
  funX Try.prog S0 noLoop F222 body222 Try.f24 [] [] [.slice (some ⟨0,o,some 7⟩) (len + 1) cap] (hp [.cells cs 1 own]) K = (
Need (leN (o + (len + 1) * 1) cs.length)
  (Need (leN ((0 + (len + 1)) * 8) 1099511627776)
    (Need (leN (0 + (len + 1)) 1099511627776)
      (K (Value.slice (some { block := 1, off := 0, spot := some 1 : Addr }) (0 + (len + 1)) (0 + (len + 1)))
        (hp [Blk.cells cs 1 own, Blk.cells ([] ++ List.take ((len + 1) * 1) (List.drop o cs)) 1 true]))))) := by kernel_rfl

theorem w222b (cs : List Value) (own : Bool) (o len cap : Nat) (K : Value → Heap → Prop) :
  funX Try.prog S0 noLoop F222 body222 Try.f24 [] [] [.slice (some ⟨0,o,some 8⟩) (len + 1) cap] (hp [.cells cs 1 own]) K = (
Need (leN (o + (len + 1) * 1) cs.length)
  (Need (leN ((0 + (len + 1)) * 8) 1099511627776)
    (Need (leN (0 + (len + 1)) 1099511627776)
      (K (Value.slice (some { block := 1, off := 0, spot := some 1 : Addr }) (0 + (len + 1)) (0 + (len + 1)))
        (hp [Blk.cells cs 1 own, Blk.cells ([] ++ List.take ((len + 1) * 1) (List.drop o cs)) 1 true]))))) := by kernel_rfl

theorem w222z (cs : List Value) (own : Bool) (o cap : Nat) (K : Value → Heap → Prop) :
  funX Try.prog S0 noLoop F222 body222 Try.f24 [] [.tmp 0 1] [.slice (some ⟨0,o,some 7⟩) 0 cap] (hp [.cells cs 1 own]) K = (
Need (leN (o + 0) cs.length)
  (K (Value.slice (some { block := 1, off := 0, spot := some 1 : Addr }) 0 0)
    (hp [Blk.cells cs 1 own, Blk.cells [] 1 true]))) := by kernel_rfl

theorem w222y (cs : List Value) (own : Bool) (o cap : Nat) (K : Value → Heap → Prop) :
  funX Try.prog S0 noLoop F222 body222 Try.f24 [] [.tmp 0 1] [.slice (some ⟨0,o,some 8⟩) 0 cap] (hp [.cells cs 1 own]) K = (
Need (leN (o + 0) cs.length)
  (K (Value.slice (some { block := 1, off := 0, spot := some 1 : Addr }) 0 0)
    (hp [Blk.cells cs 1 own, Blk.cells [] 1 true]))) := by kernel_rfl

theorem w222n (cs : List Value) (own : Bool) (K : Value → Heap → Prop) :
  funX Try.prog S0 noLoop F222 body222 Try.f24 [] [.tmp 0 1] [.slice none 0 0] (hp [.cells cs 1 own]) K = (
K (Value.slice (some { block := 1, off := 0, spot := some 1 : Addr }) 0 0)
  (hp [Blk.cells cs 1 own, Blk.cells [] 1 true])) := by kernel_rfl

noncomputable def cloneC : Ctr where
  pre := fun args blks => match args, blks with
    | [.slice (some ⟨0, o, _⟩) len cap], [.cells cs 1 _] => IsI cs o len cap ∧ Need (leN len 1000000000) (Need (leN o cs.length) True)
    | _, _ => False
  val := fun args blks => match args, blks with
    | [.slice (some ⟨0, _, _⟩) len _], [.cells _ 1 _] => .slice (some ⟨1,0,some 1⟩) len len
    | _, _ => undef
  new := fun args blks => match args, blks with
    | [.slice (some ⟨0, o, _⟩) len _], [.cells cs 1 _] => [.cells (eC (iE .i64) (intsAt cs o len)) 1 true]
    | _, _ => []
theorem wk_cases (sp : Option Nat) : wkS sp = some 7 ∨ wkS sp = some 8 := by unfold wkS; cases exS sp <;> simp
theorem clone_says (hmix : Try.prog.follows .mixedOrders = true) : cloneC.Holds Try.prog 24 := by
  intro args blks hf hp
  simp only [cloneC] at hp ⊢
  split at hp
  · rename_i o sp len cap cs own
    obtain ⟨⟨l, rfl, hc, hB⟩, hl⟩ := hp
    simp only [Alt_iff, Need_iff, ltI_eq, leI_eq, eqI_eq, leN_eq, eqN_eq, decide_eq_true_eq, decide_eq_false_iff_not, decide_true, decide_false, true_and, and_true, Bool.true_eq_false, Bool.false_eq_true, false_implies, true_implies, implies_true, not_true_eq_false, not_false_eq_true, Bool.not_eq_true', Bool.not_eq_false'] at hl
    simp only [intsAt_eq hB]
    refine ⟨⟨eC_flat flat_i _, trivial⟩, ?_⟩
    have hF : ∀ l2, FlatD [] (AM.hp [.cells cs 1 own, .cells (eC (iE .i64) l2) 1 true]) := fun l2 => FlatD.hp ⟨hB.flat, eC_flat flat_i _, trivial⟩
    obtain ⟨t1, t2⟩ := hB.take 0 l.length (by omega)
    rw [List.drop_zero, List.take_length, Nat.add_zero] at t1
    rw [Nat.add_zero] at t2
    have h0 : 0 < l.length → o + l.length ≤ cs.length := fun hp => by omega
    cases l with
    | nil =>
      refine FunSays.wk (fun _ _ => ?_) ?_
      · refine (sure0 hmix).funX F222 body222 [] [.tmp 0 1] Try.func24 rfl noLoops ?_
        rw [w222n]
        exact ⟨hF [], rfl, rfl, rfl⟩
      · have ho := hl.2
        rcases wk_cases sp with hq | hq <;> rw [hq]
        · refine (sure0 hmix).funX F222 body222 [] [.tmp 0 1] Try.func24 rfl noLoops ?_
          have := w222z cs own o cap
          simp only [List.length_nil]
          rw [this]
          simp only [ho, Alt_iff, Need_iff, ltI_eq, leI_eq, eqI_eq, leN_eq, eqN_eq, decide_eq_true_eq, decide_eq_false_iff_not, decide_true, decide_false, true_and, and_true, Bool.true_eq_false, Bool.false_eq_true, false_implies, true_implies, implies_true, not_true_eq_false, not_false_eq_true, Bool.not_eq_true', Bool.not_eq_false', Nat.zero_add, Nat.add_zero, Nat.sub_zero, Nat.zero_mul, Nat.mul_one, Int.toNat_natCast, List.drop_zero, beqV_int, beqV_sl, beqV_str, beqV_bool, beqV_ptr, beqV_flt, beqV_agg, beqV_tuple, List.all_cons, List.all_nil, Bool.and_self, Bool.and_true, Bool.true_and, Nat.le_refl, Int.le_refl, Nat.zero_le, Option.getD_some, isStr, strV, isInt, intV, isBool, boolV, kindEq, at0, isJunk, Option.isSome_some, Option.isSome_none, if_true, if_false, Nat.add_sub_cancel_left, Nat.add_sub_cancel]
          and_intros <;> first | exact hF [] | rfl
        · refine (sure0 hmix).funX F222 body222 [] [.tmp 0 1] Try.func24 rfl noLoops ?_
          have := w222y cs own o cap
          simp only [List.length_nil]
          rw [this]
          simp only [ho, Alt_iff, Need_iff, ltI_eq, leI_eq, eqI_eq, leN_eq, eqN_eq, decide_eq_true_eq, decide_eq_false_iff_not, decide_true, decide_false, true_and, and_true, Bool.true_eq_false, Bool.false_eq_true, false_implies, true_implies, implies_true, not_true_eq_false, not_false_eq_true, Bool.not_eq_true', Bool.not_eq_false', Nat.zero_add, Nat.add_zero, Nat.sub_zero, Nat.zero_mul, Nat.mul_one, Int.toNat_natCast, List.drop_zero, beqV_int, beqV_sl, beqV_str, beqV_bool, beqV_ptr, beqV_flt, beqV_agg, beqV_tuple, List.all_cons, List.all_nil, Bool.and_self, Bool.and_true, Bool.true_and, Nat.le_refl, Int.le_refl, Nat.zero_le, Option.getD_some, isStr, strV, isInt, intV, isBool, boolV, kindEq, at0, isJunk, Option.isSome_some, Option.isSome_none, if_true, if_false, Nat.add_sub_cancel_left, Nat.add_sub_cancel]
          and_intros <;> first | exact hF [] | rfl
    | cons x t =>
      refine FunSays.wk (fun hh => by cases hh) ?_
      simp only [List.length_cons] at *
      rcases wk_cases sp with hq | hq <;> rw [hq]
      · refine (sure0 hmix).funX F222 body222 [] [] Try.func24 rfl noLoops ?_
        rw [w222a]
        simp only [t1, Alt_iff, Need_iff, ltI_eq, leI_eq, eqI_eq, leN_eq, eqN_eq, decide_eq_true_eq, decide_eq_false_iff_not, decide_true, decide_false, true_and, and_true, Bool.true_eq_false, Bool.false_eq_true, false_implies, true_implies, implies_true, not_true_eq_false, not_false_eq_true, Bool.not_eq_true', Bool.not_eq_false', Nat.zero_add, Nat.add_zero, Nat.sub_zero, Nat.zero_mul, Nat.mul_one, Int.toNat_natCast, List.drop_zero, beqV_int, beqV_sl, beqV_str, beqV_bool, beqV_ptr, beqV_flt, beqV_agg, beqV_tuple, List.all_cons, List.all_nil, Bool.and_self, Bool.and_true, Bool.true_and, Nat.le_refl, Int.le_refl, Nat.zero_le, Option.getD_some, isStr, strV, isInt, intV, isBool, boolV, kindEq, at0, isJunk, Option.isSome_some, Option.isSome_none, if_true, if_false, Nat.add_sub_cancel_left, Nat.add_sub_cancel]
        and_intros <;> first | omega | exact hF _ | rfl
      · refine (sure0 hmix).funX F222 body222 [] [] Try.func24 rfl noLoops ?_
        rw [w222b]
        simp only [t1, Alt_iff, Need_iff, ltI_eq, leI_eq, eqI_eq, leN_eq, eqN_eq, decide_eq_true_eq, decide_eq_false_iff_not, decide_true, decide_false, true_and, and_true, Bool.true_eq_false, Bool.false_eq_true, false_implies, true_implies, implies_true, not_true_eq_false, not_false_eq_true, Bool.not_eq_true', Bool.not_eq_false', Nat.zero_add, Nat.add_zero, Nat.sub_zero, Nat.zero_mul, Nat.mul_one, Int.toNat_natCast, List.drop_zero, beqV_int, beqV_sl, beqV_str, beqV_bool, beqV_ptr, beqV_flt, beqV_agg, beqV_tuple, List.all_cons, List.all_nil, Bool.and_self, Bool.and_true, Bool.true_and, Nat.le_refl, Int.le_refl, Nat.zero_le, Option.getD_some, isStr, strV, isInt, intV, isBool, boolV, kindEq, at0, isJunk, Option.isSome_some, Option.isSome_none, if_true, if_false, Nat.add_sub_cancel_left, Nat.add_sub_cancel]
        and_intros <;> first | omega | exact hF _ | rfl
  · exact hp.elim
/-! ### sorted; each once -/
noncomputable def compI (cs : List Value) : List Value := eC (iE .i64) (Lib.compact (cs.map intV) ++ List.replicate (cs.length - (Lib.compact (cs.map intV)).length) 0)
noncomputable def compV (cs : List Value) (cap : Nat) : Value := .slice (some ⟨0,0,some 3⟩) (Lib.compact (cs.map intV)).length cap
noncomputable def sortV (_ : List Value) (_ : Nat) : Value := .tuple #[]
noncomputable def sortC : CtrW := rowCtr (iE .i64) sortI sortV
noncomputable def compC : CtrW := rowCtr (iE .i64) compI compV
theorem map_iE (zs : List Int) : (zs.map (iE .i64)).map intV = zs := by rw [List.map_map, show (intV ∘ iE .i64) = id from rfl, List.map_id]
theorem sort_says (hmix : Try.prog.follows .mixedOrders = true) : sortC.Holds Try.prog 25 := by
  refine rowCtr_holds (fun zs => zs.mergeSort fun x y => decide (x ≤ y)) (fun _ _ _ _ => .tuple #[]) Try.func25 rfl flat_i (fun zs => List.length_mergeSort _) (fun zs => sortI_map zs) (fun zs ρ l o' cap cc h1 h2 h3 h4 h5 => sort_V (enc := iE .i64) zs ρ l o' cap cc h1 h2 h3 h4 h5) (fun sp cap e q hx hq => ?_) fun blk off cap zs w h1 h2 h3 h4 => slices_Sort_int blk off cap zs w h1 h2 h3
  refine ⟨_, Try.func25, rfl, fun ρ w args' ht r ha => ?_⟩
  obtain ⟨y, ys, rfl, hy, hys⟩ := ha.of_cons
  obtain rfl := hys.of_nil
  have hz : ∃ p c, y = .slice p 0 c := by
    rcases hy.of_slice with ⟨_, _, _, a, rfl, _⟩ | ⟨cc, l, o', rfl, _⟩
    · exact ⟨_, _, rfl⟩
    · exact ⟨_, _, rfl⟩
  obtain ⟨p, c, rfl⟩ := hz
  refine (slices_Sort_int_none p c w).mono ?_
  rintro e' w' ⟨rfl, rfl⟩
  exact ⟨_, _, ρ, _, rfl, ⟨rfl, rfl⟩, ht, r, Frk.refl (Nat.le_refl _), .tuple #[] #[] rfl fun i x y hx => by simp at hx⟩
theorem comp_says (hmix : Try.prog.follows .mixedOrders = true) : compC.Holds Try.prog 26 := by
  refine rowCtr_holds (fun zs => Lib.compact zs ++ List.replicate (zs.length - (Lib.compact zs).length) 0) (fun zs blk off cap => .slice (some ⟨blk, off, none⟩) (Lib.compact zs).length cap) Try.func26 rfl flat_i (fun zs => by have := Lib.compact_length_le zs; simp; omega)
    (fun zs => by unfold compI; rw [map_iE, List.length_map]; rfl) (fun zs ρ l o' cap cc h1 h2 h3 h4 h5 => ?_) (fun sp cap e q hx hq => ?_) fun blk off cap zs w h1 h2 h3 h4 => (slices_Compact_int blk off cap zs w h1 (by omega) h4).mono ?_
  · unfold compV
    rw [map_iE]
    have := Lib.compact_length_le zs
    exact .sl _ _ _ _ _ cc l o' h1 (h2.imp (fun h => by omega) id) h3 (fun hh => by cases hh) (fun _ hw => by have := h4 hw; omega) (by omega)
  · refine ⟨_, Try.func26, rfl, fun ρ w args' ht r ha => ?_⟩
    obtain ⟨y, ys, rfl, hy, hys⟩ := ha.of_cons
    obtain rfl := hys.of_nil
    have hz : ∃ p c, y = .slice p 0 c ∧ VR ρ (compV [] cap) y := by
      rcases hy.of_slice with ⟨_, rfl, hm, a, rfl, _⟩ | ⟨cc, l, o', rfl, q1, q2, q3, q4, q5, q6⟩
      · exact ⟨_, _, rfl, .nl _ _ _ _ rfl (fun h => by cases h)⟩
      · exact ⟨_, _, rfl, .sl _ _ _ _ _ cc l o' q1 q2 q3 (fun hh => by cases hh) (fun _ => q5 hx) (Nat.zero_le _)⟩
    obtain ⟨p, c, rfl, hv⟩ := hz
    refine (slices_Compact_int_empty p c w).mono ?_
    rintro e' w' ⟨rfl, rfl⟩
    exact ⟨_, _, ρ, _, rfl, ⟨rfl, rfl⟩, ht, r, Frk.refl (Nat.le_refl _), hv⟩
  · rintro e' w' ⟨rfl, n, rfl⟩
    exact ⟨rfl, n, #[], by rw [Go.Sort.grow_empty]⟩
theorem sb9 : SumsOk Try.prog (bookOf []).sums := bookOf_ok trivial
noncomputable def S92 : Book := bookW [(25, sortC), (26, compC)] (bookOf [(24, cloneC)])
theorem sure92 (hmix : Try.prog.follows .mixedOrders = true) : Sure Try.prog S92 := ⟨hmix, plain, bookW_ok (l := [(25, sortC), (26, compC)]) (bookOf_ok (l := [(24, cloneC)]) ⟨clone_says hmix, trivial⟩) ⟨sort_says hmix, comp_says hmix, trivial⟩⟩

theorem w212 (cs : List Value) (own : Bool) (o : Nat) (sp : Option Nat) (len cap : Nat) (K : Value → Heap → Prop) :
  funX Try.prog S92 noLoop F212 body212 Try.f14 [] [] [.slice (some ⟨0,o,sp⟩) len cap] (hp [.cells cs 1 own]) K = (
(FlatL cs ∧ True) ∧
  (IsE (iE IntKind.i64) (ZP IntKind.i64) cs o len cap ∧ Need (leN len 1000000000) (Need (leN o cs.length) True)) ∧
    (FlatL (eC (iE IntKind.i64) (intsAt cs o len)) ∧ True) ∧
      RowPre (iE IntKind.i64) (some 1) len len (eC (iE IntKind.i64) (intsAt cs o len)) ∧
        (FlatL (rowC sortI len (eC (iE IntKind.i64) (intsAt cs o len))) ∧ True) ∧
          RowPre (iE IntKind.i64) (some 1) len len (rowC sortI len (eC (iE IntKind.i64) (intsAt cs o len))) ∧
            K
              (Value.slice (some { block := 1, off := 0, spot := some 3 : Addr })
                (Lib.compact
                    (List.map intV (List.take len (rowC sortI len (eC (iE IntKind.i64) (intsAt cs o len)))))).length
                len)
              (hp
                [Blk.cells cs 1 own,
                  Blk.cells (rowC compI len (rowC sortI len (eC (iE IntKind.i64) (intsAt cs o len)))) 1 true])) := by kernel_rfl

end Go.Proofs.Ytkigkmjmbegmhaa

namespace Go.Proofs.Ytkigkmjmbegmhaa
open Go.RowKit Go.Proofs.Ytkigkmjmbegmhaa.AM
set_option maxRecDepth 100000
set_option maxHeartbeats 4000000
noncomputable def body211 : Code := (Try.f13.body).getD .skip
def F211 : List Nat → Option (List Nat) := fun p => match p with
  | [1] => some [0]
  | [1, 1] => some [0, 3]
  | [1, 0, 1, 1] => some [0, 3, 4]
  | [1, 0, 0, 0, 1, 0, 1, 1] => some [0, 3, 4, 9]
  | [1, 1, 0, 0, 0, 1, 0, 1, 1] => some [3]
  | [1, 0, 0, 1, 0, 1, 1] => some [0, 3, 4]
  | [1, 0, 0, 1, 0, 0, 1, 0, 1, 1] => some [0, 3, 4, 5]
  | [1, 0, 0, 0, 0, 1, 0, 0, 1, 0, 0, 1, 0, 1, 1] => some [0, 3, 4, 5, 27]
  | [1, 1, 0, 0, 0, 0, 1, 0, 0, 1, 0, 0, 1, 0, 1, 1] => some [0, 3, 4, 5]
  | [1, 0, 0, 0, 1, 0, 0, 1, 0, 0, 1, 0, 1, 1] => some [0, 3, 4, 5]
  | [1, 1, 0, 0, 1, 0, 0, 1, 0, 1, 1] => some [0, 3, 4, 5]
  | [1, 0, 1, 1, 0, 0, 1, 0, 0, 1, 0, 1, 1] => some [0, 3, 4, 5, 43]
  | [0, 1, 0, 1, 1, 0, 0, 1, 0, 0, 1, 0, 1, 1] => some [0, 3, 4]
  | [1, 1, 1, 0, 0, 1, 0, 0, 1, 0, 1, 1] => some [0, 3, 4, 5]
  | [1, 1, 0, 0, 1, 0, 1, 1] => some [0, 3, 4]
  | [1, 1, 1] => some [3]
  | [1, 1, 1, 1] => some [2]
  | _ => none
/-- rising, each once -/
noncomputable def ddL (l : List Int) : List Int := Lib.compact (l.mergeSort fun x y => decide (x ≤ y))
noncomputable def mkC (l : List Int) : List Value := eC (iE .i64) (ddL l ++ List.replicate (l.length - (ddL l).length) 0)
theorem ddL_len (l : List Int) : (ddL l).length ≤ l.length := by
  have := Lib.compact_length_le (l.mergeSort fun x y => decide (x ≤ y))
  rw [List.length_mergeSort] at this; exact this
theorem row_sort (l : List Int) : rowC sortI l.length (eC (iE .i64) l) = eC (iE .i64) (l.mergeSort fun x y => decide (x ≤ y)) := by
  unfold rowC eC
  rw [List.take_of_length_le (by simp), List.drop_eq_nil_of_le (by simp), List.append_nil]; exact sortI_map l
theorem row_comp (l : List Int) : rowC compI l.length (eC (iE .i64) (l.mergeSort fun x y => decide (x ≤ y))) = mkC l := by
  have h : (eC (iE .i64) (l.mergeSort fun x y => decide (x ≤ y))).length = l.length := by rw [eC_len, List.length_mergeSort]
  unfold rowC compI mkC ddL
  rw [List.take_of_length_le (by omega), List.drop_eq_nil_of_le (by omega), List.append_nil, h]
  unfold eC
  rw [map_iE]
noncomputable def makeC : Ctr where
  pre := fun args blks => match args, blks with
    | [.slice (some ⟨0, o, _⟩) len cap], [.cells cs 1 _] => IsI cs o len cap ∧ Need (leN len 1000000000) (Need (leN o cs.length) True)
    | _, _ => False
  val := fun args blks => match args, blks with
    | [.slice (some ⟨0, o, _⟩) len _], [.cells cs 1 _] => .slice (some ⟨1,0,some 3⟩) (ddL (intsAt cs o len)).length len
    | _, _ => undef
  new := fun args blks => match args, blks with
    | [.slice (some ⟨0, o, _⟩) len _], [.cells cs 1 _] => [.cells (mkC (intsAt cs o len)) 1 true]
    | _, _ => []
theorem make_says (hmix : Try.prog.follows .mixedOrders = true) : makeC.Holds Try.prog 14 := by
  intro args blks hf hp
  simp only [makeC] at hp ⊢
  split at hp
  · rename_i o sp len cap cs own
    obtain ⟨⟨l, rfl, hc, hB⟩, hl⟩ := hp
    have hl' := hl
    simp only [Alt_iff, Need_iff, ltI_eq, leI_eq, eqI_eq, leN_eq, eqN_eq, decide_eq_true_eq, decide_eq_false_iff_not, decide_true, decide_false, true_and, and_true, Bool.true_eq_false, Bool.false_eq_true, false_implies, true_implies, implies_true, not_true_eq_false, not_false_eq_true, Bool.not_eq_true', Bool.not_eq_false'] at hl
    simp only [intsAt_eq hB]
    refine ⟨⟨eC_flat flat_i _, trivial⟩, ?_⟩
    refine (sure92 hmix).funX F212 body212 [] [] Try.func14 rfl noLoops ?_
    rw [w212, intsAt_eq hB, row_sort, row_comp]
    have ht : List.map intV (List.take l.length (eC (iE .i64) (l.mergeSort fun x y => decide (x ≤ y)))) = l.mergeSort fun x y => decide (x ≤ y) := by
      rw [List.take_of_length_le (by rw [eC_len, List.length_mergeSort]; exact Nat.le_refl _)]; unfold eC; exact map_iE _
    rw [ht]
    refine ⟨⟨hB.flat, trivial⟩, ⟨.mk l rfl hc hB, hl'⟩, ⟨eC_flat flat_i _, trivial⟩, .mk l [] (by rw [List.append_nil]; rfl) rfl (by omega) (Nat.le_refl _) rfl, ⟨eC_flat flat_i _, trivial⟩,
      .mk (l.mergeSort fun x y => decide (x ≤ y)) [] (by rw [List.append_nil]; rfl) (List.length_mergeSort _).symm (by rw [List.length_mergeSort]; omega) (by rw [List.length_mergeSort]; exact Nat.le_refl _) rfl,
      FlatD.hp ⟨hB.flat, eC_flat flat_i _, trivial⟩, rfl, rfl, rfl⟩
  · exact hp.elim
noncomputable def T211 (a : Value) (m i : Nat) : List Value := tmps 59 [(0, a), (3, .slice (some ⟨1,0,some 1⟩) m m), (4, .int .i64 i)]
noncomputable def T211i (a : Value) (m i n : Nat) : List Value := tmps 59 [(0, a), (3, .slice (some ⟨1,0,some 1⟩) m m), (4, .int .i64 i), (5, .int .i64 n)]

theorem r211i (cs c2 : List Value) (own : Bool) (o : Nat) (sp : Option Nat) (len cap m i n : Nat) (K : Post) :
  roundX Try.prog S0 noLoop F211 body211 1 [] [] [] [] [0,3,4,5] [0,0,0,1,0,0,1,0,0,1,0,1,1] (T211i (.slice (some ⟨0,o,sp⟩) len cap) m i n) (hp [.cells cs 1 own, .cells c2 1 true]) K = (
Alt (ltI 0 (↑n : Int))
  (Need (leI 0 (wr IntKind.i64 ((↑n : Int) - 1)))
    (Need (ltI (wr IntKind.i64 ((↑n : Int) - 1)) (↑m : Int))
      (Need (isInt IntKind.i64 ((getO c2 (0 + (wr IntKind.i64 ((↑n : Int) - 1)).toNat * 1)).getD undef))
        (Need (ltI (↑i : Int) (↑len : Int))
          (Need (isInt IntKind.i64 ((getO cs (o + (↑i : Int).toNat * 1)).getD undef))
            (Alt
              (ltI (intV ((getO cs (o + (↑i : Int).toNat * 1)).getD undef))
                (intV ((getO c2 (0 + (wr IntKind.i64 ((↑n : Int) - 1)).toNat * 1)).getD undef)))
              (K AE.normal
                (tmps 59
                  [(0, Value.slice (some { block := 0, off := o, spot := sp : Addr }) len cap),
                    (3, Value.slice (some { block := 1, off := 0, spot := some 1 : Addr }) m m),
                    (4, Value.int IntKind.i64 (↑i : Int)),
                    (5, Value.int IntKind.i64 (wr IntKind.i64 ((↑n : Int) - 1)))])
                (hp [Blk.cells cs 1 own, Blk.cells c2 1 true]))
              (K (AE.exit 2)
                (tmps 59
                  [(0, Value.slice (some { block := 0, off := o, spot := sp : Addr }) len cap),
                    (3, Value.slice (some { block := 1, off := 0, spot := some 1 : Addr }) m m),
                    (4, Value.int IntKind.i64 (↑i : Int)), (5, Value.int IntKind.i64 (↑n : Int))])
                (hp [Blk.cells cs 1 own, Blk.cells c2 1 true]))))))))
  (K (AE.exit 2)
    (tmps 59
      [(0, Value.slice (some { block := 0, off := o, spot := sp : Addr }) len cap),
        (3, Value.slice (some { block := 1, off := 0, spot := some 1 : Addr }) m m),
        (4, Value.int IntKind.i64 (↑i : Int)), (5, Value.int IntKind.i64 (↑n : Int))])
    (hp [Blk.cells cs 1 own, Blk.cells c2 1 true]))) := by kernel_rfl

noncomputable def c211i (cs c2 : List Value) (own : Bool) (o : Nat) (sp : Option Nat) (len cap m i n : Nat) : Cut := ⟨[0,0,1,0,0,1,0,0,1,0,1,1], T211i (.slice (some ⟨0,o,sp⟩) len cap) m i m, hp [.cells cs 1 own, .cells c2 1 true], fun K => K (.exit 2) (T211i (.slice (some ⟨0,o,sp⟩) len cap) m i n) (hp [.cells cs 1 own, .cells c2 1 true])⟩

theorem r211 (cs c2 : List Value) (own : Bool) (o : Nat) (sp : Option Nat) (len cap m i n : Nat) (K : Post) :
  roundX Try.prog S0 (gcLKX (at0 []) (at0 []) 1 (cutLK [c211i cs c2 own o sp len cap m i n])) F211 body211 1 [] [] [] [] [0,3,4] [0,0,1,0,1,1] (T211 (.slice (some ⟨0,o,sp⟩) len cap) m i) (hp [.cells cs 1 own, .cells c2 1 true]) K = (
Alt (ltI (↑i : Int) (↑len : Int))
  (FlatD [] (hp [Blk.cells cs 1 own, Blk.cells c2 1 true]) ∧
    tmps 59
          [(0, Value.slice (some { block := 0, off := o, spot := sp : Addr }) len cap),
            (3, Value.slice (some { block := 1, off := 0, spot := some 1 : Addr }) m m),
            (4, Value.int IntKind.i64 (↑i : Int)), (5, Value.int IntKind.i64 (↑m : Int))] =
        tmps 59
          [(0, Value.slice (some { block := 0, off := o, spot := sp : Addr }) len cap),
            (3, Value.slice (some { block := 1, off := 0, spot := some 1 : Addr }) m m),
            (4, Value.int IntKind.i64 (↑i : Int)), (5, Value.int IntKind.i64 (↑m : Int))] ∧
      hp [Blk.cells cs 1 own, Blk.cells c2 1 true] = hp [Blk.cells cs 1 own, Blk.cells c2 1 true] ∧
        Alt (ltI 0 (↑n : Int))
          (Need (leI 0 (wr IntKind.i64 ((↑n : Int) - 1)))
            (Need (ltI (wr IntKind.i64 ((↑n : Int) - 1)) (↑m : Int))
              (Need (isInt IntKind.i64 ((getO c2 (0 + (wr IntKind.i64 ((↑n : Int) - 1)).toNat * 1)).getD undef))
                (Need (ltI (↑i : Int) (↑len : Int))
                  (Need (isInt IntKind.i64 ((getO cs (o + (↑i : Int).toNat * 1)).getD undef))
                    (Alt
                      (eqI (intV ((getO c2 (0 + (wr IntKind.i64 ((↑n : Int) - 1)).toNat * 1)).getD undef))
                        (intV ((getO cs (o + (↑i : Int).toNat * 1)).getD undef)))
                      (K AE.normal
                        (tmps 59
                          [(0, Value.slice (some { block := 0, off := o, spot := sp : Addr }) len cap),
                            (3, Value.slice (some { block := 1, off := 0, spot := some 1 : Addr }) m m),
                            (4, Value.int IntKind.i64 (wr IntKind.i64 ((↑i : Int) + 1)))])
                        (hp [Blk.cells cs 1 own, Blk.cells c2 1 true]))
                      (Need (leI (↑n : Int) (↑m : Int))
                        (Need (leN (0 + ((↑n : Int).toNat - 0) * 1) c2.length)
                          (Need (leN (((↑n : Int).toNat - 0) * 8) 1099511627776)
                            (Need (leN ((↑n : Int).toNat - 0) 1099511627776)
                              (Need (ltI (↑i : Int) (↑len : Int))
                                (Need (isInt IntKind.i64 ((getO cs (o + (↑i : Int).toNat * 1)).getD undef))
                                  (Need
                                    (leN (0 + ((↑n : Int).toNat - 0) * 1)
                                      (List.take (((↑n : Int).toNat - 0) * 1) (List.drop 0 c2)).length)
                                    (Need (leN (((↑n : Int).toNat - 0 + 1) * 8) 1099511627776)
                                      (Need (leN ((↑n : Int).toNat - 0 + 1) 1099511627776)
                                        (Need (leI (↑n : Int) (↑m : Int))
                                          (Need (leN (0 + (↑n : Int).toNat * 1 + (m - (↑n : Int).toNat) * 1) c2.length)
                                            (Need
                                              (leN (0 + ((↑n : Int).toNat - 0 + 1) * 1)
                                                (List.take (((↑n : Int).toNat - 0) * 1)
                                                      (List.drop 0
                                                        (List.take (((↑n : Int).toNat - 0) * 1) (List.drop 0 c2))) ++
                                                    [Value.int IntKind.i64
                                                        (intV
                                                          ((getO cs (o + (↑i : Int).toNat * 1)).getD undef))]).length)
                                              (Need
                                                (leN (((↑n : Int).toNat - 0 + 1 + (m - (↑n : Int).toNat)) * 8)
                                                  1099511627776)
                                                (Need
                                                  (leN ((↑n : Int).toNat - 0 + 1 + (m - (↑n : Int).toNat))
                                                    1099511627776)
                                                  (Need
                                                    ((List.take ((m - (↑n : Int).toNat) * 1)
                                                          (List.drop (0 + (↑n : Int).toNat * 1) c2)).all
                                                      oneV)
                                                    (Need (leI (↑n : Int) (↑m : Int))
                                                      (Need
                                                        (beqV 64
                                                          (Value.slice
                                                            (some
                                                              { block := 1, off := 0 + (↑n : Int).toNat * 1,
                                                                spot := some 3 : Addr })
                                                            (m - (↑n : Int).toNat) (m - (↑n : Int).toNat))
                                                          (Value.slice
                                                            (some
                                                              { block := 1, off := 0 + (↑n : Int).toNat * 1,
                                                                spot := some 3 : Addr })
                                                            (m - (↑n : Int).toNat) (m - (↑n : Int).toNat)))
                                                        (Need (leI (↑n : Int) (↑m : Int))
                                                          (Need
                                                            (beqV 64
                                                              (Value.slice
                                                                (some
                                                                  { block := 1, off := 0 + (↑n : Int).toNat * 1,
                                                                    spot := some 3 : Addr })
                                                                (m - (↑n : Int).toNat) (m - (↑n : Int).toNat))
                                                              (Value.slice
                                                                (some
                                                                  { block := 1, off := 0 + (↑n : Int).toNat * 1,
                                                                    spot := some 3 : Addr })
                                                                (m - (↑n : Int).toNat) (m - (↑n : Int).toNat)))
                                                            (Need
                                                              (beqV 64 (Value.int IntKind.i64 (↑n : Int))
                                                                (Value.int IntKind.i64 (↑n : Int)))
                                                              (Need
                                                                (beqV 64 (Value.int IntKind.i64 (↑n : Int))
                                                                  (Value.int IntKind.i64 (↑n : Int)))
                                                                (Need
                                                                  (beqV 64
                                                                    (Value.slice
                                                                      (some
                                                                        { block := 1, off := 0, spot := some 1 : Addr })
                                                                      m m)
                                                                    (Value.slice
                                                                      (some
                                                                        { block := 1, off := 0, spot := some 1 : Addr })
                                                                      m m))
                                                                  (Need
                                                                    (beqV 64
                                                                      (Value.slice
                                                                        (some
                                                                          { block := 1, off := 0, spot := some 1 :
                                                                            Addr })
                                                                        m m)
                                                                      (Value.slice
                                                                        (some
                                                                          { block := 1, off := 0, spot := some 1 :
                                                                            Addr })
                                                                        m m))
                                                                    (Need
                                                                      (isInt IntKind.i64
                                                                        ((getO cs (o + (↑i : Int).toNat * 1)).getD
                                                                          undef))
                                                                      (Need
                                                                        (beqV 64
                                                                          (Value.int IntKind.i64
                                                                            (intV
                                                                              ((getO cs (o + (↑i : Int).toNat * 1)).getD
                                                                                undef)))
                                                                          (Value.int IntKind.i64
                                                                            (intV
                                                                              ((getO cs (o + (↑i : Int).toNat * 1)).getD
                                                                                undef))))
                                                                        (Need (ltI (↑i : Int) (↑len : Int))
                                                                          (Need
                                                                            (beqV 64
                                                                              (Value.pointer
                                                                                (some
                                                                                  { block := 0,
                                                                                    off := o + (↑i : Int).toNat * 1 :
                                                                                    Addr }))
                                                                              (Value.pointer
                                                                                (some
                                                                                  { block := 0,
                                                                                    off := o + (↑i : Int).toNat * 1 :
                                                                                    Addr })))
                                                                            (Need
                                                                              (beqV 64
                                                                                (Value.int IntKind.i64 (↑i : Int))
                                                                                (Value.int IntKind.i64 (↑i : Int)))
                                                                              (Need
                                                                                (beqV 64
                                                                                  (Value.slice
                                                                                    (some
                                                                                      { block := 0, off := o,
                                                                                        spot := sp : Addr })
                                                                                    len cap)
                                                                                  (Value.slice
                                                                                    (some
                                                                                      { block := 0, off := o,
                                                                                        spot := sp : Addr })
                                                                                    len cap))
                                                                                (K AE.normal
                                                                                  (tmps 59
                                                                                    [(0,
                                                                                        Value.slice
                                                                                          (some
                                                                                            { block := 0, off := o,
                                                                                              spot := sp : Addr })
                                                                                          len cap),
                                                                                      (3,
                                                                                        Value.slice
                                                                                          (some
                                                                                            { block := 1, off := 0,
                                                                                              spot := some 1 : Addr })
                                                                                          ((↑n : Int).toNat - 0 + 1 +
                                                                                            (m - (↑n : Int).toNat))
                                                                                          ((↑n : Int).toNat - 0 + 1 +
                                                                                            (m - (↑n : Int).toNat))),
                                                                                      (4,
                                                                                        Value.int IntKind.i64
                                                                                          (wr IntKind.i64
                                                                                            ((↑i : Int) + 1)))])
                                                                                  (hp
                                                                                    [Blk.cells cs 1 own,
                                                                                      Blk.cells
                                                                                        (List.take
                                                                                            (((↑n : Int).toNat - 0 +
                                                                                                1) *
                                                                                              1)
                                                                                            (List.drop 0
                                                                                              (List.take
                                                                                                  (((↑n : Int).toNat -
                                                                                                      0) *
                                                                                                    1)
                                                                                                  (List.drop 0
                                                                                                    (List.take
                                                                                                      (((↑n :
                                                                                                              Int).toNat -
                                                                                                          0) *
                                                                                                        1)
                                                                                                      (List.drop 0
                                                                                                        c2))) ++
                                                                                                [Value.int IntKind.i64
                                                                                                    (intV
                                                                                                      ((getO cs
                                                                                                            (o +
                                                                                                              (↑i :
                                                                                                                    Int).toNat *
                                                                                                                1)).getD
                                                                                                        undef))])) ++
                                                                                          List.take
                                                                                            ((m - (↑n : Int).toNat) * 1)
                                                                                            (List.drop
                                                                                              (0 + (↑n : Int).toNat * 1)
                                                                                              c2))
                                                                                        1
                                                                                        true])))))))))))))))))))))))))))))))))))))
          (Need (leI (↑n : Int) (↑m : Int))
            (Need (leN (0 + ((↑n : Int).toNat - 0) * 1) c2.length)
              (Need (leN (((↑n : Int).toNat - 0) * 8) 1099511627776)
                (Need (leN ((↑n : Int).toNat - 0) 1099511627776)
                  (Need (ltI (↑i : Int) (↑len : Int))
                    (Need (isInt IntKind.i64 ((getO cs (o + (↑i : Int).toNat * 1)).getD undef))
                      (Need
                        (leN (0 + ((↑n : Int).toNat - 0) * 1)
                          (List.take (((↑n : Int).toNat - 0) * 1) (List.drop 0 c2)).length)
                        (Need (leN (((↑n : Int).toNat - 0 + 1) * 8) 1099511627776)
                          (Need (leN ((↑n : Int).toNat - 0 + 1) 1099511627776)
                            (Need (leI (↑n : Int) (↑m : Int))
                              (Need (leN (0 + (↑n : Int).toNat * 1 + (m - (↑n : Int).toNat) * 1) c2.length)
                                (Need
                                  (leN (0 + ((↑n : Int).toNat - 0 + 1) * 1)
                                    (List.take (((↑n : Int).toNat - 0) * 1)
                                          (List.drop 0 (List.take (((↑n : Int).toNat - 0) * 1) (List.drop 0 c2))) ++
                                        [Value.int IntKind.i64
                                            (intV ((getO cs (o + (↑i : Int).toNat * 1)).getD undef))]).length)
                                  (Need (leN (((↑n : Int).toNat - 0 + 1 + (m - (↑n : Int).toNat)) * 8) 1099511627776)
                                    (Need (leN ((↑n : Int).toNat - 0 + 1 + (m - (↑n : Int).toNat)) 1099511627776)
                                      (Need
                                        ((List.take ((m - (↑n : Int).toNat) * 1)
                                              (List.drop (0 + (↑n : Int).toNat * 1) c2)).all
                                          oneV)
                                        (Need (leI (↑n : Int) (↑m : Int))
                                          (Need
                                            (beqV 64
                                              (Value.slice
                                                (some
                                                  { block := 1, off := 0 + (↑n : Int).toNat * 1, spot := some 3 :
                                                    Addr })
                                                (m - (↑n : Int).toNat) (m - (↑n : Int).toNat))
                                              (Value.slice
                                                (some
                                                  { block := 1, off := 0 + (↑n : Int).toNat * 1, spot := some 3 :
                                                    Addr })
                                                (m - (↑n : Int).toNat) (m - (↑n : Int).toNat)))
                                            (Need (leI (↑n : Int) (↑m : Int))
                                              (Need
                                                (beqV 64
                                                  (Value.slice
                                                    (some
                                                      { block := 1, off := 0 + (↑n : Int).toNat * 1, spot := some 3 :
                                                        Addr })
                                                    (m - (↑n : Int).toNat) (m - (↑n : Int).toNat))
                                                  (Value.slice
                                                    (some
                                                      { block := 1, off := 0 + (↑n : Int).toNat * 1, spot := some 3 :
                                                        Addr })
                                                    (m - (↑n : Int).toNat) (m - (↑n : Int).toNat)))
                                                (Need
                                                  (beqV 64 (Value.int IntKind.i64 (↑n : Int))
                                                    (Value.int IntKind.i64 (↑n : Int)))
                                                  (Need
                                                    (beqV 64 (Value.int IntKind.i64 (↑n : Int))
                                                      (Value.int IntKind.i64 (↑n : Int)))
                                                    (Need
                                                      (beqV 64
                                                        (Value.slice
                                                          (some { block := 1, off := 0, spot := some 1 : Addr }) m m)
                                                        (Value.slice
                                                          (some { block := 1, off := 0, spot := some 1 : Addr }) m m))
                                                      (Need
                                                        (beqV 64
                                                          (Value.slice
                                                            (some { block := 1, off := 0, spot := some 1 : Addr }) m m)
                                                          (Value.slice
                                                            (some { block := 1, off := 0, spot := some 1 : Addr }) m m))
                                                        (Need
                                                          (isInt IntKind.i64
                                                            ((getO cs (o + (↑i : Int).toNat * 1)).getD undef))
                                                          (Need
                                                            (beqV 64
                                                              (Value.int IntKind.i64
                                                                (intV
                                                                  ((getO cs (o + (↑i : Int).toNat * 1)).getD undef)))
                                                              (Value.int IntKind.i64
                                                                (intV
                                                                  ((getO cs (o + (↑i : Int).toNat * 1)).getD undef))))
                                                            (Need (ltI (↑i : Int) (↑len : Int))
                                                              (Need
                                                                (beqV 64
                                                                  (Value.pointer
                                                                    (some
                                                                      { block := 0, off := o + (↑i : Int).toNat * 1 :
                                                                        Addr }))
                                                                  (Value.pointer
                                                                    (some
                                                                      { block := 0, off := o + (↑i : Int).toNat * 1 :
                                                                        Addr })))
                                                                (Need
                                                                  (beqV 64 (Value.int IntKind.i64 (↑i : Int))
                                                                    (Value.int IntKind.i64 (↑i : Int)))
                                                                  (Need
                                                                    (beqV 64
                                                                      (Value.slice
                                                                        (some
                                                                          { block := 0, off := o, spot := sp : Addr })
                                                                        len cap)
                                                                      (Value.slice
                                                                        (some
                                                                          { block := 0, off := o, spot := sp : Addr })
                                                                        len cap))
                                                                    (K AE.normal
                                                                      (tmps 59
                                                                        [(0,
                                                                            Value.slice
                                                                              (some
                                                                                { block := 0, off := o, spot := sp :
                                                                                  Addr })
                                                                              len cap),
                                                                          (3,
                                                                            Value.slice
                                                                              (some
                                                                                { block := 1, off := 0, spot := some 1 :
                                                                                  Addr })
                                                                              ((↑n : Int).toNat - 0 + 1 +
                                                                                (m - (↑n : Int).toNat))
                                                                              ((↑n : Int).toNat - 0 + 1 +
                                                                                (m - (↑n : Int).toNat))),
                                                                          (4,
                                                                            Value.int IntKind.i64
                                                                              (wr IntKind.i64 ((↑i : Int) + 1)))])
                                                                      (hp
                                                                        [Blk.cells cs 1 own,
                                                                          Blk.cells
                                                                            (List.take (((↑n : Int).toNat - 0 + 1) * 1)
                                                                                (List.drop 0
                                                                                  (List.take
                                                                                      (((↑n : Int).toNat - 0) * 1)
                                                                                      (List.drop 0
                                                                                        (List.take
                                                                                          (((↑n : Int).toNat - 0) * 1)
                                                                                          (List.drop 0 c2))) ++
                                                                                    [Value.int IntKind.i64
                                                                                        (intV
                                                                                          ((getO cs
                                                                                                (o +
                                                                                                  (↑i : Int).toNat *
                                                                                                    1)).getD
                                                                                            undef))])) ++
                                                                              List.take ((m - (↑n : Int).toNat) * 1)
                                                                                (List.drop (0 + (↑n : Int).toNat * 1)
                                                                                  c2))
                                                                            1 true]))))))))))))))))))))))))))))))))
  (K (AE.exit 0) (tmps 59 [(3, Value.slice (some { block := 1, off := 0, spot := some 1 : Addr }) m m)])
    (hp [Blk.cells cs 1 own, Blk.cells c2 1 true]))) := by kernel_rfl

theorem r211e (cs c2 : List Value) (own : Bool) (o : Nat) (sp : Option Nat) (len cap m i : Nat) (K : Post) :
  roundX Try.prog S0 noLoop F211 body211 1 [] [] [] [] [0,3,4] [0,0,1,0,1,1] (T211 (.slice (some ⟨0,o,sp⟩) len cap) m i) (hp [.cells cs 1 own, .cells c2 1 true]) K = (
Alt (ltI (↑i : Int) (↑len : Int)) False
  (K (AE.exit 0) (tmps 59 [(3, Value.slice (some { block := 1, off := 0, spot := some 1 : Addr }) m m)])
    (hp [Blk.cells cs 1 own, Blk.cells c2 1 true]))) := by kernel_rfl

theorem w211 (cs : List Value) (own : Bool) (o : Nat) (sp : Option Nat) (len cap : Nat) (c2 : List Value) (m : Nat) (K : Value → Heap → Prop) :
  funX Try.prog S0 (gcLKX (at0 []) (at0 [.tmp 3 1]) 1 (cutLK [⟨[0,1,0,1,1], T211 (.slice (some ⟨0,o,sp⟩) len cap) 0 0, hp [.cells cs 1 own, .cells [] 1 true], fun K => K (.exit 0) (tmps 59 [(3, .slice (some ⟨1,0,some 1⟩) m m)]) (hp [.cells cs 1 own, .cells c2 1 true])⟩])) F211 body211 Try.f13 [] [] [.slice (some ⟨0,o,sp⟩) len cap] (hp [.cells cs 1 own]) K = (
FlatD [] (hp [Blk.cells cs 1 own, Blk.cells [] 1 true]) ∧
  tmps 59
        [(0, Value.slice (some { block := 0, off := o, spot := sp : Addr }) len cap),
          (3, Value.slice (some { block := 1, off := 0, spot := some 1 : Addr }) 0 0), (4, Value.int IntKind.i64 0)] =
      tmps 59
        [(0, Value.slice (some { block := 0, off := o, spot := sp : Addr }) len cap),
          (3, Value.slice (some { block := 1, off := 0, spot := some 1 : Addr }) 0 0), (4, Value.int IntKind.i64 0)] ∧
    hp [Blk.cells cs 1 own, Blk.cells [] 1 true] = hp [Blk.cells cs 1 own, Blk.cells [] 1 true] ∧
      K (Value.slice (some { block := 1, off := 0, spot := some 1 : Addr }) m m)
        (hp [Blk.cells cs 1 own, Blk.cells c2 1 true])) := by kernel_rfl

end Go.Proofs.Ytkigkmjmbegmhaa

namespace Go.Proofs.Ytkigkmjmbegmhaa
open Go.RowKit Go.Proofs.Ytkigkmjmbegmhaa.AM
set_option maxRecDepth 100000
set_option maxHeartbeats 4000000
/-- the place of a number, looked for from the end on -/
def posI (x : Int) (L : List Int) : Nat → Nat
  | 0 => 0
  | n + 1 => if ltI x ((L[n]?).getD 0) then posI x L n else n + 1
theorem posI_le (x : Int) (L : List Int) : ∀ n, posI x L n ≤ n := by
  intro n
  induction n with
  | zero => exact Nat.le_refl _
  | succ n ih => unfold posI; split <;> omega
def insI (L : List Int) (x : Int) : List Int := if 0 < posI x L L.length ∧ L[posI x L L.length - 1]? = some x then L else L.take (posI x L L.length) ++ x :: L.drop (posI x L L.length)
def riseL (l : List Int) : List Int := l.foldl insI []
theorem insI_mem (L : List Int) (x y : Int) : y ∈ insI L x ↔ y = x ∨ y ∈ L := by
  unfold insI
  split
  · rename_i h
    have := List.mem_of_getElem? h.2
    exact ⟨.inr, fun hh => hh.elim (fun e => e ▸ this) id⟩
  · simp only [List.mem_append, List.mem_cons]
    have : y ∈ L ↔ y ∈ L.take (posI x L L.length) ∨ y ∈ L.drop (posI x L L.length) := by rw [← List.mem_append, List.take_append_drop]
    rw [this]
    constructor
    · rintro (h | h | h) <;> simp [h]
    · rintro (h | h | h) <;> simp [h]
theorem insI_len (L : List Int) (x : Int) : (insI L x).length ≤ L.length + 1 := by
  unfold insI
  have := posI_le x L L.length
  split
  · omega
  · simp; omega
theorem rise_mem : ∀ (l L : List Int) (y : Int), y ∈ l.foldl insI L ↔ y ∈ L ∨ y ∈ l := by
  intro l
  induction l with
  | nil => intro L y; simp
  | cons x l ih =>
    intro L y
    rw [List.foldl_cons, ih, insI_mem, List.mem_cons]
    constructor
    · rintro ((h | h) | h) <;> simp [h]
    · rintro (h | h | h) <;> simp [h]
theorem rise_len : ∀ (l L : List Int), (l.foldl insI L).length ≤ L.length + l.length := by
  intro l
  induction l with
  | nil => intro L; exact Nat.le_refl _
  | cons x l ih => intro L; rw [List.foldl_cons]; have := ih (insI L x); have := insI_len L x; simp; omega
abbrev Up (l : List Int) : Prop := l.Pairwise fun x y => x < y
theorem posI_facts (x : Int) (L : List Int) (hr : Up L) : ∀ n, n ≤ L.length → (∀ (j : Nat) y, j < posI x L n → L[j]? = some y → y ≤ x) ∧ (∀ (j : Nat) y, posI x L n ≤ j → j < n → L[j]? = some y → x < y) := by
  intro n
  induction n with
  | zero => intro _; exact ⟨fun j y h => by simp [posI] at h, fun j y _ h => by omega⟩
  | succ n ih =>
    intro hl
    obtain ⟨h1, h2⟩ := ih (by omega)
    have hx : L[n]? = some L[n] := List.getElem?_eq_getElem (by omega)
    unfold posI
    rw [hx]
    simp only [Option.getD_some]
    split
    · rename_i hlt
      have hlt := ltI_iff.1 hlt
      refine ⟨h1, fun j y ha hb hj => ?_⟩
      rcases Nat.lt_or_ge j n with q | q
      · exact h2 j y ha q hj
      · obtain rfl : j = n := by omega
        rw [hx] at hj; injection hj with hj; subst hj; exact hlt
    · rename_i hlt
      have hle : L[n] ≤ x := by
        by_cases q : x < L[n]
        · exact absurd (ltI_iff.2 q) hlt
        · omega
      refine ⟨fun j y ha hj => ?_, fun j y ha hb => by omega⟩
      rcases Nat.lt_or_ge j n with q | q
      · have := List.pairwise_iff_getElem.1 hr j n (by omega) (by omega) q
        rw [List.getElem?_eq_getElem (by omega)] at hj; injection hj with hj; omega
      · obtain rfl : j = n := by omega
        rw [hx] at hj; injection hj with hj; omega
theorem insI_up {L : List Int} {x : Int} (hr : Up L) : Up (insI L x) := by
  obtain ⟨h1, h2⟩ := posI_facts x L hr L.length (Nat.le_refl _)
  have hle := posI_le x L L.length
  unfold insI
  split
  · exact hr
  · rename_i hnot
    generalize posI x L L.length = n at *
    have hs := hr
    unfold Up at hs ⊢
    rw [← List.take_append_drop n L, List.pairwise_append] at hs
    have hA : ∀ y ∈ L.take n, y < x := fun y hy => by
      obtain ⟨j, hj⟩ := List.mem_iff_getElem?.1 hy
      rw [List.getElem?_take] at hj
      split at hj
      · rename_i hjn
        have hyx := h1 j y hjn hj
        rcases Int.lt_or_eq_of_le hyx with q | q
        · exact q
        · subst q
          exfalso
          have hlast : j = n - 1 := by
            rcases Nat.lt_or_ge j (n - 1) with q | q
            · have hy1 : L[n - 1]? = some L[n - 1] := List.getElem?_eq_getElem (by omega)
              have := h1 (n - 1) _ (by omega) hy1
              have := List.pairwise_iff_getElem.1 hr j (n - 1) (by omega) (by omega) q
              rw [List.getElem?_eq_getElem (by omega)] at hj; injection hj with hj; omega
            · omega
          subst hlast
          exact hnot ⟨by omega, hj⟩
      · cases hj
    have hB : ∀ y ∈ L.drop n, x < y := fun y hy => by
      obtain ⟨j, hj⟩ := List.mem_iff_getElem?.1 hy
      rw [List.getElem?_drop] at hj
      exact h2 (n + j) y (by omega) (List.getElem?_eq_some_iff.1 hj).1 hj
    rw [List.pairwise_append, List.pairwise_cons]
    refine ⟨hs.1, ⟨hB, hs.2.1⟩, fun a ha b hb => ?_⟩
    rcases List.mem_cons.1 hb with rfl | hb
    · exact hA a ha
    · have := hA a ha; have := hB b hb; omega
theorem rise_up : ∀ (l L : List Int), Up L → Up (l.foldl insI L) := by
  intro l
  induction l with
  | nil => intro L h; exact h
  | cons x l ih => intro L h; rw [List.foldl_cons]; exact ih _ (insI_up h)
theorem riseL_up (l : List Int) : Up (riseL l) := rise_up l [] List.Pairwise.nil
theorem riseL_mem {l : List Int} {y : Int} : y ∈ riseL l ↔ y ∈ l := by unfold riseL; rw [rise_mem]; simp
theorem riseL_len (l : List Int) : (riseL l).length ≤ l.length := by have := rise_len l []; simpa [riseL] using this
/-- rising rows of the same numbers are the same -/
theorem up_ext : ∀ {a b : List Int}, Up a → Up b → (∀ y, y ∈ a ↔ y ∈ b) → a = b := by
  intro a
  induction a with
  | nil =>
    intro b _ _ h
    cases b with
    | nil => rfl
    | cons y b => exact absurd ((h y).2 List.mem_cons_self) (by simp)
  | cons x a ih =>
    intro b ha hb h
    cases b with
    | nil => exact absurd ((h x).1 List.mem_cons_self) (by simp)
    | cons y b =>
      unfold Up at ha hb
      rw [List.pairwise_cons] at ha hb
      have hxy : x = y := by
        have h1 := (h x).1 List.mem_cons_self
        have h2 := (h y).2 List.mem_cons_self
        rcases List.mem_cons.1 h1 with e | h1
        · exact e
        · rcases List.mem_cons.1 h2 with e | h2
          · exact e.symm
          · have := hb.1 x h1; have := ha.1 y h2; omega
      subst hxy
      congr 1
      refine ih ha.2 hb.2 fun z => ⟨fun hz => ?_, fun hz => ?_⟩
      · rcases List.mem_cons.1 ((h z).1 (List.mem_cons_of_mem _ hz)) with e | e
        · subst e; have := ha.1 z hz; omega
        · exact e
      · rcases List.mem_cons.1 ((h z).2 (List.mem_cons_of_mem _ hz)) with e | e
        · subst e; have := hb.1 z hz; omega
        · exact e
theorem up_iff_rise {l : List Int} : Up l ↔ l = riseL l := ⟨fun h => up_ext h (riseL_up l) fun y => riseL_mem.symm, fun h => h ▸ riseL_up l⟩
/-- what is kept of a sorted row -/
theorem compact_mem {l : List Int} {y : Int} : y ∈ Lib.compact l ↔ y ∈ l := by
  unfold Lib.compact Lib.compactUpTo
  simp only [List.mem_map, List.mem_filter, List.mem_range]
  constructor
  · rintro ⟨j, ⟨hj, _⟩, rfl⟩
    have : l.toArray[j]! = l[j] := by simp [hj]
    rw [this]; exact List.getElem_mem _
  · intro hy
    have hex : ∃ j, ∃ h : j < l.length, l[j] = y := by
      obtain ⟨j, h, e⟩ := List.getElem_of_mem hy
      exact ⟨j, h, e⟩
    obtain ⟨j, hj, hmin⟩ : ∃ j, (∃ h : j < l.length, l[j] = y) ∧ ∀ k, k < j → ¬ ∃ h : k < l.length, l[k] = y := by
      obtain ⟨j, hj⟩ := hex
      induction j using Nat.strongRecOn with
      | _ j ih =>
        by_cases q : ∃ k, k < j ∧ ∃ h : k < l.length, l[k] = y
        · obtain ⟨k, hk, hk2⟩ := q; exact ih k hk hk2
        · exact ⟨j, hj, fun k hk hh => q ⟨k, hk, hh⟩⟩
    obtain ⟨hl, e⟩ := hj
    refine ⟨j, ⟨hl, ?_⟩, by simp [hl, e]⟩
    unfold Lib.keeps
    rw [decide_eq_true_iff]
    by_cases h0 : j = 0
    · exact .inl h0
    · right
      intro hh
      have h1 : l.toArray[j]! = l[j] := by simp [hl]
      have h2 : l.toArray[j - 1]! = l[j - 1] := by simp [show j - 1 < l.length by omega]
      rw [h1, h2] at hh
      exact hmin (j - 1) (by omega) ⟨by omega, by rw [← hh, e]⟩
theorem compact_up {l : List Int} (hs : l.Pairwise fun x y => x ≤ y) : Up (Lib.compact l) := by
  unfold Lib.compact Lib.compactUpTo Up
  rw [List.pairwise_map]
  have hr : (List.range l.length).Pairwise (fun i j => i < j) := List.pairwise_lt_range
  refine List.Pairwise.imp_of_mem ?_ (hr.filter _)
  intro i j hi hj hij
  simp only [List.mem_filter, List.mem_range] at hi hj
  obtain ⟨hj1, hj2⟩ := hj
  unfold Lib.keeps at hj2
  rw [decide_eq_true_iff] at hj2
  have hne := hj2.resolve_left (by omega)
  have h1 : l.toArray[j]! = l[j] := by simp [hj1]
  have h2 : l.toArray[j - 1]! = l[j - 1] := by simp [show j - 1 < l.length by omega]
  have h3 : l.toArray[i]! = l[i] := by simp [hi.1]
  rw [h1, h2] at hne
  rw [h1, h3]
  have a := List.pairwise_iff_getElem.1 hs (j - 1) j (by omega) (by omega) (by omega)
  rcases Nat.lt_or_ge i (j - 1) with q | q
  · have b := List.pairwise_iff_getElem.1 hs i (j - 1) (by omega) (by omega) q
    omega
  · obtain rfl : i = j - 1 := by omega
    omega
theorem sort_pw (l : List Int) : (l.mergeSort fun x y => decide (x ≤ y)).Pairwise fun x y => x ≤ y := by
  have := List.pairwise_mergeSort (le := fun x y : Int => decide (x ≤ y)) (fun a b c h1 h2 => by simp at *; omega) (fun a b => by simp; omega) l
  exact this.imp fun h => by simpa using h
theorem ddL_up (l : List Int) : Up (ddL l) := compact_up (sort_pw l)
theorem ddL_mem {l : List Int} {y : Int} : y ∈ ddL l ↔ y ∈ l := by unfold ddL; rw [compact_mem, List.mem_mergeSort]
theorem dd_rise (l : List Int) : ddL l = riseL l := up_ext (ddL_up l) (riseL_up l) fun y => by rw [ddL_mem, riseL_mem]
end Go.Proofs.Ytkigkmjmbegmhaa

namespace Go.Proofs.Ytkigkmjmbegmhaa
open Go.RowKit Go.Proofs.Ytkigkmjmbegmhaa.AM
set_option maxRecDepth 100000
set_option maxHeartbeats 4000000
theorem rise_inner (hmix : Try.prog.follows .mixedOrders = true) (l L : List Int) (cs : List Value) (own : Bool) (o : Nat) (sp : Option Nat) (cap i : Nat) (x : Int) (hx : l[i]? = some x) (hB : ISl cs o l) (hL : L.length ≤ 1000000) (K : Post) : ∀ n : Nat, n ≤ L.length →
    K (.exit 2) (T211i (.slice (some ⟨0,o,sp⟩) l.length cap) L.length i (posI x L n)) (hp [.cells cs 1 own, .cells (eC (iE .i64) L) 1 true]) →
    LSays Try.prog 1 (sub body211 [0,0,0,1,0,0,1,0,0,1,0,1,1]) (T211i (.slice (some ⟨0,o,sp⟩) l.length cap) L.length i n) (hp [.cells cs 1 own, .cells (eC (iE .i64) L) 1 true]) K := by
  have hF : FlatD [] (hp [.cells cs 1 own, .cells (eC (iE .i64) L) 1 true]) := FlatD.hp ⟨hB.flat, eC_flat flat_i L, trivial⟩
  have hg1 := hB.cell i x hx
  have hlt : (i : Int) < (l.length : Int) := by have := (List.getElem?_eq_some_iff.1 hx).1; omega
  intro n
  induction n with
  | zero =>
    intro hn hK
    refine (sure0 hmix).roundX F211 noLoops [] [] [] [] [0,3,4,5] ?_
    rw [r211i]
    simp only [show ¬ ((0 : Int) < ((0 : Nat) : Int)) by omega, Alt_iff, Need_iff, ltI_eq, leI_eq, eqI_eq, leN_eq, eqN_eq, decide_eq_true_eq, decide_eq_false_iff_not, decide_true, decide_false, true_and, and_true, Bool.true_eq_false, Bool.false_eq_true, false_implies, true_implies, implies_true, not_true_eq_false, not_false_eq_true, Bool.not_eq_true', Bool.not_eq_false']
    exact ⟨hF, hK⟩
  | succ n ih =>
    intro hn hK
    have hy : L[n]? = some L[n] := List.getElem?_eq_getElem (by omega)
    have h1 := eC_get (iE .i64) L hy
    refine (sure0 hmix).roundX F211 noLoops [] [] [] [] [0,3,4,5] ?_
    rw [r211i]
    unfold posI at hK
    rw [hy] at hK
    simp only [Option.getD_some] at hK
    simp only [show (0 : Int) < ((n + 1 : Nat) : Int) by omega, hlt, show (0 : Int) ≤ (n : Int) by omega, show (n : Int) < (L.length : Int) by omega, pv n (by omega), hg1, h1, hF, Alt_iff, Need_iff, ltI_eq, leI_eq, eqI_eq, leN_eq, eqN_eq, decide_eq_true_eq, decide_eq_false_iff_not, decide_true, decide_false, true_and, and_true, Bool.true_eq_false, Bool.false_eq_true, false_implies, true_implies, implies_true, not_true_eq_false, not_false_eq_true, Bool.not_eq_true', Bool.not_eq_false', Nat.zero_add, Nat.add_zero, Nat.sub_zero, Nat.zero_mul, Nat.mul_one, Int.toNat_natCast, List.drop_zero, beqV_int, beqV_sl, beqV_str, beqV_bool, beqV_ptr, beqV_flt, beqV_agg, beqV_tuple, List.all_cons, List.all_nil, Bool.and_self, Bool.and_true, Bool.true_and, Nat.le_refl, Int.le_refl, Nat.zero_le, Option.getD_some, isStr, strV, isInt, intV, isBool, boolV, kindEq, at0, isJunk, Option.isSome_some, Option.isSome_none, if_true, if_false, Nat.add_sub_cancel_left, Nat.add_sub_cancel]
    refine ⟨fun h => ?_, fun h => ?_⟩
    · rw [if_pos (ltI_iff.2 h)] at hK
      exact ih (by omega) hK
    · rw [if_neg (fun hh => h (ltI_iff.1 hh))] at hK
      exact hK
theorem rise_outer (hmix : Try.prog.follows .mixedOrders = true) (l : List Int) (cs : List Value) (own : Bool) (o : Nat) (sp : Option Nat) (cap : Nat) (hB : ISl cs o l) (hl : l.length ≤ 1000000) (K : Post) : ∀ (t : List Int) (i : Nat) (L : List Int), l.drop i = t → i ≤ l.length → L.length + t.length ≤ 1000000 →
    K (.exit 0) (tmps 59 [(3, .slice (some ⟨1,0,some 1⟩) (t.foldl insI L).length (t.foldl insI L).length)]) (hp [.cells cs 1 own, .cells (eC (iE .i64) (t.foldl insI L)) 1 true]) →
    LSays Try.prog 1 (sub body211 [0,0,1,0,1,1]) (T211 (.slice (some ⟨0,o,sp⟩) l.length cap) L.length i) (hp [.cells cs 1 own, .cells (eC (iE .i64) L) 1 true]) K := by
  intro t
  induction t with
  | nil =>
    intro i L ht hi hL hK
    have hF : FlatD [] (hp [.cells cs 1 own, .cells (eC (iE .i64) L) 1 true]) := FlatD.hp ⟨hB.flat, eC_flat flat_i L, trivial⟩
    have hge : ¬ ((i : Int) < (l.length : Int)) := by have := List.drop_eq_nil_iff.1 ht; omega
    refine (sure0 hmix).roundX F211 noLoops [] [] [] [] [0,3,4] ?_
    rw [r211e]
    simp only [hge, hF, Alt_iff, Need_iff, ltI_eq, leI_eq, eqI_eq, leN_eq, eqN_eq, decide_eq_true_eq, decide_eq_false_iff_not, decide_true, decide_false, true_and, and_true, Bool.true_eq_false, Bool.false_eq_true, false_implies, true_implies, implies_true, not_true_eq_false, not_false_eq_true, Bool.not_eq_true', Bool.not_eq_false', Nat.zero_add, Nat.add_zero, Nat.sub_zero, Nat.zero_mul, Nat.mul_one, Int.toNat_natCast, List.drop_zero, beqV_int, beqV_sl, beqV_str, beqV_bool, beqV_ptr, beqV_flt, beqV_agg, beqV_tuple, List.all_cons, List.all_nil, Bool.and_self, Bool.and_true, Bool.true_and, Nat.le_refl, Int.le_refl, Nat.zero_le, Option.getD_some, isStr, strV, isInt, intV, isBool, boolV, kindEq, at0, isJunk, Option.isSome_some, Option.isSome_none, if_true, if_false, Nat.add_sub_cancel_left, Nat.add_sub_cancel]
    exact hK
  | cons x t ih =>
    intro i L ht hi hL hK
    obtain ⟨hlt, hx, hd⟩ := cons_of_drop ht
    have hl2 : (i : Int) < (l.length : Int) := by omega
    have hg1 := hB.cell i x hx
    have hF : FlatD [] (hp [.cells cs 1 own, .cells (eC (iE .i64) L) 1 true]) := FlatD.hp ⟨hB.flat, eC_flat flat_i L, trivial⟩
    have hF2 : ∀ L2, FlatD [] (hp [.cells cs 1 own, .cells (eC (iE .i64) L2) 1 true]) := fun L2 => FlatD.hp ⟨hB.flat, eC_flat flat_i _, trivial⟩
    have hle := posI_le x L L.length
    simp only [List.length_cons] at hL
    have hLi : Loops Try.prog body211 1 (cutLK [c211i cs (eC (iE .i64) L) own o sp l.length cap L.length i (posI x L L.length)]) := Loops.none.more _ fun K hK => rise_inner hmix l L cs own o sp cap i x hx hB (by omega) K L.length (Nat.le_refl _) hK
    refine (sure0 hmix).roundX F211 (hLi.gcX (at0 []) (at0 [])) [] [] [] [] [0,3,4] ?_
    rw [r211]
    rw [List.foldl_cons] at hK
    have hins := insI_len L x
    have next := ih (i + 1) (insI L x) hd (by omega) (by omega) hK
    have hdef : insI L x = if 0 < posI x L L.length ∧ L[posI x L L.length - 1]? = some x then L else L.take (posI x L L.length) ++ x :: L.drop (posI x L L.length) := rfl
    generalize posI x L L.length = n at *
    have hcell : 0 < n → getO (eC (iE .i64) L) (n - 1) = some (iE .i64 (L[n - 1]?.getD 0)) := fun hn => by
      have hy : L[n - 1]? = some L[n - 1] := List.getElem?_eq_getElem (by omega)
      rw [eC_get (iE .i64) L hy, hy]; rfl
    have hone : ∀ L2 : List Int, (eC (iE .i64) L2).all oneV = true := fun L2 => eC_one one_i L2
    have hrow : (eC (iE .i64) (L.take n) ++ [Value.int .i64 x]) ++ eC (iE .i64) (L.drop n) = eC (iE .i64) (L.take n ++ x :: L.drop n) := by
      rw [eC_append, eC_cons]; simp
    have hins1 : 0 < n ∧ L[n - 1]? = some x → insI L x = L := fun h => by rw [hdef, if_pos h]
    have hins2 : ¬ (0 < n ∧ L[n - 1]? = some x) → insI L x = L.take n ++ x :: L.drop n ∧ (insI L x).length = n + 1 + (L.length - n) := fun h => by
      rw [hdef, if_neg h]; exact ⟨rfl, by simp; omega⟩
    have k1 : n ≤ (eC (iE .i64) L).length := by rw [eC_len]; exact hle
    have k2 : (eC (iE .i64) (L.take n)).length = n := by rw [eC_len, List.length_take]; omega
    have k3 : (eC (iE .i64) L).length = L.length := eC_len _ _
    have k4 : n + (L.length - n) = L.length := by omega
    have hlen3 : L.length - n = (L.drop n).length := by simp
    have done : ¬ (0 < n ∧ L[n - 1]? = some x) → LSays Try.prog 1 (sub body211 [0,0,1,0,1,1]) (T211 (.slice (some ⟨0,o,sp⟩) l.length cap) (n + 1 + (L.length - n)) (i + 1)) (hp [.cells cs 1 own, .cells (eC (iE .i64) (L.take n ++ x :: L.drop n)) 1 true]) K := fun h => by
      obtain ⟨e1, e2⟩ := hins2 h
      rw [e2, e1] at next; exact next
    have t1 : List.take n (eC (iE .i64) L) = eC (iE .i64) (L.take n) := eC_take _ _ _
    have t2 : List.drop n (eC (iE .i64) L) = eC (iE .i64) (L.drop n) := eC_drop _ _ _
    have t3 : List.take (L.length - n) (eC (iE .i64) (L.drop n)) = eC (iE .i64) (L.drop n) := List.take_of_length_le (by rw [eC_len]; simp)
    have t4 : List.take n (eC (iE .i64) (L.take n)) = eC (iE .i64) (L.take n) := List.take_of_length_le (by omega)
    have t5 : List.take (n + 1) (eC (iE .i64) (L.take n) ++ [Value.int .i64 x]) = eC (iE .i64) (L.take n) ++ [Value.int .i64 x] := List.take_of_length_le (by simp; omega)
    rcases Nat.eq_zero_or_pos n with h0 | hn
    · subst h0
      simp only [hl2, hF, hg1, nx i (by omega), show ¬ ((0 : Int) < ((0 : Nat) : Int)) by omega, show ((0 : Nat) : Int) ≤ (L.length : Int) by omega, t1, t2, t3, t4, t5, hone, hrow, Alt_iff, Need_iff, ltI_eq, leI_eq, eqI_eq, leN_eq, eqN_eq, decide_eq_true_eq, decide_eq_false_iff_not, decide_true, decide_false, true_and, and_true, Bool.true_eq_false, Bool.false_eq_true, false_implies, true_implies, implies_true, not_true_eq_false, not_false_eq_true, Bool.not_eq_true', Bool.not_eq_false', Nat.zero_add, Nat.add_zero, Nat.sub_zero, Nat.zero_mul, Nat.mul_one, Int.toNat_natCast, List.drop_zero, beqV_int, beqV_sl, beqV_str, beqV_bool, beqV_ptr, beqV_flt, beqV_agg, beqV_tuple, List.all_cons, List.all_nil, Bool.and_self, Bool.and_true, Bool.true_and, Nat.le_refl, Int.le_refl, Nat.zero_le, Option.getD_some, isStr, strV, isInt, intV, isBool, boolV, kindEq, at0, isJunk, Option.isSome_some, Option.isSome_none, if_true, if_false, Nat.add_sub_cancel_left, Nat.add_sub_cancel]
      have d0 := done (fun h => by omega)
      have e0 : eC (iE .i64) (List.take 0 L) ++ [Value.int .i64 x] ++ List.take L.length (eC (iE .i64) L) = eC (iE .i64) (List.take 0 L ++ x :: List.drop 0 L) := by
        rw [List.take_of_length_le (Nat.le_of_eq k3)]; rfl
      rw [Nat.zero_add, Nat.sub_zero] at d0
      rw [e0]
      and_intros <;> first | exact d0 | exact hF2 _ | (rw [List.take_of_length_le (Nat.le_of_eq k3)]; exact hone _) | (simp only [List.length_append, List.length_singleton]; omega) | omega
    · obtain ⟨p, rfl⟩ : ∃ p, n = p + 1 := ⟨n - 1, by omega⟩
      simp only [Nat.add_sub_cancel] at hcell
      simp only [hl2, hF, hg1, nx i (by omega), pv p (by omega), hcell (by omega), show (0 : Int) < ((p + 1 : Nat) : Int) by omega, show (0 : Int) ≤ (p : Int) by omega, show (p : Int) < (L.length : Int) by omega, show ((p + 1 : Nat) : Int) ≤ (L.length : Int) by omega, t1, t2, t3, t4, t5, hone, hrow, Alt_iff, Need_iff, ltI_eq, leI_eq, eqI_eq, leN_eq, eqN_eq, decide_eq_true_eq, decide_eq_false_iff_not, decide_true, decide_false, true_and, and_true, Bool.true_eq_false, Bool.false_eq_true, false_implies, true_implies, implies_true, not_true_eq_false, not_false_eq_true, Bool.not_eq_true', Bool.not_eq_false', Nat.zero_add, Nat.add_zero, Nat.sub_zero, Nat.zero_mul, Nat.mul_one, Int.toNat_natCast, List.drop_zero, beqV_int, beqV_sl, beqV_str, beqV_bool, beqV_ptr, beqV_flt, beqV_agg, beqV_tuple, List.all_cons, List.all_nil, Bool.and_self, Bool.and_true, Bool.true_and, Nat.le_refl, Int.le_refl, Nat.zero_le, Option.getD_some, isStr, strV, isInt, intV, isBool, boolV, kindEq, at0, isJunk, Option.isSome_some, Option.isSome_none, if_true, if_false, Nat.add_sub_cancel_left, Nat.add_sub_cancel]
      have hgd : L[p]?.getD 0 = x ↔ (0 < p + 1 ∧ L[p + 1 - 1]? = some x) := by
        have hy : L[p]? = some L[p] := List.getElem?_eq_getElem (by omega)
        rw [Nat.add_sub_cancel, hy]; simp
      refine ⟨fun h => ?_, fun h => ?_⟩
      · have := hins1 (hgd.1 h); rw [this] at next; exact next
      · have d1 := done (fun hh => h (hgd.2 hh))
        and_intros <;> first | exact d1 | exact hF2 _ | (simp only [List.length_append, List.length_singleton]; omega) | omega
noncomputable def riseC : Ctr where
  pre := fun args blks => match args, blks with
    | [.slice (some ⟨0, o, _⟩) len cap], [.cells cs 1 _] => IsI cs o len cap ∧ Need (leN len 1000000) True
    | _, _ => False
  val := fun args blks => match args, blks with
    | [.slice (some ⟨0, o, _⟩) len _], [.cells cs 1 _] => .slice (some ⟨1,0,some 1⟩) (riseL (intsAt cs o len)).length (riseL (intsAt cs o len)).length
    | _, _ => undef
  new := fun args blks => match args, blks with
    | [.slice (some ⟨0, o, _⟩) len _], [.cells cs 1 _] => [.cells (eC (iE .i64) (riseL (intsAt cs o len))) 1 true]
    | _, _ => []
theorem rise_says (hmix : Try.prog.follows .mixedOrders = true) : riseC.Holds Try.prog 13 := by
  intro args blks hf hp
  simp only [riseC] at hp ⊢
  split at hp
  · rename_i o sp len cap cs own
    obtain ⟨⟨l, rfl, hc, hB⟩, hl⟩ := hp
    simp only [Alt_iff, Need_iff, ltI_eq, leI_eq, eqI_eq, leN_eq, eqN_eq, decide_eq_true_eq, decide_eq_false_iff_not, decide_true, decide_false, true_and, and_true, Bool.true_eq_false, Bool.false_eq_true, false_implies, true_implies, implies_true, not_true_eq_false, not_false_eq_true, Bool.not_eq_true', Bool.not_eq_false'] at hl
    simp only [intsAt_eq hB]
    refine ⟨⟨eC_flat flat_i _, trivial⟩, ?_⟩
    have hF : ∀ L, FlatD [] (AM.hp [.cells cs 1 own, .cells (eC (iE .i64) L) 1 true]) := fun L => FlatD.hp ⟨hB.flat, eC_flat flat_i L, trivial⟩
    have hL : Loops Try.prog body211 1 (cutLK [⟨[0,1,0,1,1], T211 (.slice (some ⟨0,o,sp⟩) l.length cap) 0 0, AM.hp [.cells cs 1 own, .cells [] 1 true], fun K => K (.exit 0) (tmps 59 [(3, .slice (some ⟨1,0,some 1⟩) (riseL l).length (riseL l).length)]) (AM.hp [.cells cs 1 own, .cells (eC (iE .i64) (riseL l)) 1 true])⟩]) := Loops.none.more _ fun K hK => by
      show LSays Try.prog _ (sub body211 [0,0,1,0,1,1]) _ _ _
      exact rise_outer hmix l cs own o sp cap hB hl K l 0 [] rfl (by omega) (by simpa using hl) hK
    refine (sure0 hmix).funX F211 body211 [] [] Try.func13 rfl (hL.gcX (at0 []) (at0 [.tmp 3 1])) ?_
    rw [w211]
    exact ⟨hF [], rfl, rfl, hF _, rfl, rfl, rfl⟩
  · exact hp.elim
/-! ### the law -/
noncomputable def body202 : Code := (Try.f4.body).getD .skip
def F202 : List Nat → Option (List Nat) := fun p => match p with
  | [1] => some [0, 1]
  | [1, 0, 1] => some [0, 1, 8]
  | [1, 0, 1, 0, 1] => some [4]
  | [1, 1] => some [0, 1]
  | [1, 1, 1] => some [0, 1, 5]
  | [1, 1, 1, 1] => some [4]
  | _ => none
noncomputable def S93 : Book := bookOf [(3, trueC), (9, sameC), (11, isC), (12, hasC), (13, riseC), (14, makeC), (15, hasC)]
theorem sure93 (hmix : Try.prog.follows .mixedOrders = true) : Sure Try.prog S93 := ⟨hmix, plain, bookOf_ok (l := [(3, trueC), (9, sameC), (11, isC), (12, hasC), (13, riseC), (14, makeC), (15, hasC)]) ⟨runs_holds hmix, same_says hmix, is_says hmix, rhas_says hmix, rise_says hmix, make_says hmix, has_says hmix, trivial⟩⟩

theorem w202 (cs : List Value) (o : Nat) (sp : Option Nat) (len cap : Nat) (n : Int) (K : Value → Heap → Prop) :
  funX Try.prog S93 noLoop F202 body202 Try.f4 [] [] [.slice (some ⟨0,o,sp⟩) len cap, .int .i64 n] (hp [.cells cs 1 false]) K = (
Alt (ltI 100 (↑len : Int)) (True ∧ True ∧ K (Value.bool true) (hp [Blk.cells cs 1 false]))
  ((FlatL cs ∧ True) ∧
    (IsE (iE IntKind.i64) (ZP IntKind.i64) cs o len cap ∧ Need (leN len 1000000) True) ∧
      (FlatL cs ∧ True) ∧
        (IsE (iE IntKind.i64) (ZP IntKind.i64) cs o len cap ∧ Need (leN len 1000000000) (Need (leN o cs.length) True)) ∧
          (FlatL (mkC (intsAt cs o len)) ∧ FlatL (eC (iE IntKind.i64) (riseL (intsAt cs o len))) ∧ True) ∧
            (IsE (iE IntKind.i64) (ZP IntKind.i64) (mkC (intsAt cs o len)) 0 (ddL (intsAt cs o len)).length len ∧
                IsE (iE IntKind.i64) (ZP IntKind.i64) (eC (iE IntKind.i64) (riseL (intsAt cs o len))) 0
                  (riseL (intsAt cs o len)).length (riseL (intsAt cs o len)).length) ∧
              Alt
                (sameI (intsAt (mkC (intsAt cs o len)) 0 (ddL (intsAt cs o len)).length)
                  (intsAt (eC (iE IntKind.i64) (riseL (intsAt cs o len))) 0 (riseL (intsAt cs o len)).length))
                ((FlatL cs ∧ True) ∧
                  (IsE (iE IntKind.i64) (ZP IntKind.i64) cs o len cap ∧ IsO []) ∧
                    (FlatL cs ∧ FlatL (eC (iE IntKind.i64) (riseL (intsAt cs o len))) ∧ True) ∧
                      (IsE (iE IntKind.i64) (ZP IntKind.i64) cs o len cap ∧
                          IsE (iE IntKind.i64) (ZP IntKind.i64) (eC (iE IntKind.i64) (riseL (intsAt cs o len))) 0
                            (riseL (intsAt cs o len)).length (riseL (intsAt cs o len)).length) ∧
                        Alt
                          (upI (intsAt cs o len) ==
                            sameI (intsAt cs o len)
                              (intsAt (eC (iE IntKind.i64) (riseL (intsAt cs o len))) 0
                                (riseL (intsAt cs o len)).length))
                          ((FlatL cs ∧ True) ∧
                            (IsE (iE IntKind.i64) (ZP IntKind.i64) cs o len cap ∧ IsN [Value.int IntKind.i64 n]) ∧
                              (FlatL cs ∧ True) ∧
                                (IsE (iE IntKind.i64) (ZP IntKind.i64) cs o len cap ∧ IsN [Value.int IntKind.i64 n]) ∧
                                  Alt (hasL n (intsAt cs o len) == hasL n (intsAt cs o len))
                                    (True ∧ True ∧ K (Value.bool true) (hp [Blk.cells cs 1 false]))
                                    (K (Value.bool false) (hp [Blk.cells cs 1 false])))
                          (K (Value.bool false) (hp [Blk.cells cs 1 false])))
                (K (Value.bool false) (hp [Blk.cells cs 1 false])))) := by kernel_rfl

theorem mkC_is {l : List Int} (hz : ∀ x ∈ l, ZP .i64 x) (hl : l.length ≤ 1000000) : ISl (mkC l) 0 (ddL l) ∧ IsI (mkC l) 0 (ddL l).length l.length ∧ FlatL (mkC l) := by
  have hle := ddL_len l
  have hb : ISl (mkC l) 0 (ddL l) := ⟨fun j c hj => by
    rw [Nat.zero_add]; exact eC_get _ _ (by rw [List.getElem?_append_left (List.getElem?_eq_some_iff.1 hj).1]; exact hj), fun x hx => hz x (ddL_mem.1 hx), by omega, eC_flat flat_i _⟩
  exact ⟨hb, .mk _ rfl hle hb, eC_flat flat_i _⟩
theorem rise_is {l : List Int} (hz : ∀ x ∈ l, ZP .i64 x) (hl : l.length ≤ 1000000) : ISl (eC (iE .i64) (riseL l)) 0 (riseL l) ∧ IsI (eC (iE .i64) (riseL l)) 0 (riseL l).length (riseL l).length := by
  have hle := riseL_len l
  have hb : ISl (eC (iE .i64) (riseL l)) 0 (riseL l) := ESl.own flat_i (fun x hx => hz x (riseL_mem.1 hx)) (by omega)
  exact ⟨hb, .mk _ rfl (Nat.le_refl _) hb⟩
theorem law202 (hmix : Try.prog.follows .mixedOrders = true) (cs : List Value) (o : Nat) (sp : Option Nat) (cap : Nat) (n : Int) (l : List Int) (hc : l.length ≤ cap) (hB : ISl cs o l) (ho : o ≤ cs.length) (hn : ZP .i64 n) :
    FunSays Try.prog 4 [.slice (some ⟨0,o,sp⟩) l.length cap, .int .i64 n] (hp [.cells cs 1 false]) fun v _ => v = .bool true := by
  refine (sure93 hmix).funX F202 body202 [] [] Try.func4 rfl noLoops ?_
  rw [w202]
  have hF := hf1 (own := false) hB.flat
  by_cases hw : (100 : Int) < (l.length : Int)
  · rw [Alt_iff]
    exact ⟨fun _ => ⟨trivial, trivial, hF, rfl, rfl⟩, fun h => by rw [ltI_iff.2 hw] at h; cases h⟩
  · rw [Alt_iff]
    refine ⟨fun h => absurd (ltI_iff.1 h) hw, fun _ => ?_⟩
    obtain ⟨m1, m2, m3⟩ := mkC_is hB.ok (by omega)
    obtain ⟨r1, r2⟩ := rise_is hB.ok (by omega)
    have hI : IsI cs o l.length cap := .mk l rfl hc hB
    have he : sameI (ddL l) (riseL l) = true := sameI_iff.2 (dd_rise l)
    have hu : (upI l == sameI l (riseL l)) = true := by
      have : upI l = true ↔ sameI l (riseL l) = true := by rw [upI_iff, sameI_iff]; exact up_iff_rise
      cases h1 : upI l <;> cases h2 : sameI l (riseL l) <;> simp_all
    simp only [intsAt_eq hB, intsAt_eq m1, intsAt_eq r1, he, hu, beq_self_eq_true, Alt_iff, Need_iff, ltI_eq, leI_eq, eqI_eq, leN_eq, eqN_eq, decide_eq_true_eq, decide_eq_false_iff_not, decide_true, decide_false, true_and, and_true, Bool.true_eq_false, Bool.false_eq_true, false_implies, true_implies, implies_true, not_true_eq_false, not_false_eq_true, Bool.not_eq_true', Bool.not_eq_false']
    and_intros <;> first | exact hB.flat | exact m3 | exact hI | exact m2 | exact r2 | exact eC_flat flat_i _ | exact .mk | exact .mk n hn | omega | exact hF | rfl
end Go.Proofs.Ytkigkmjmbegmhaa

namespace Go.Proofs.Ytkigkmjmbegmhaa
open Go.RowKit Go.Proofs.Ytkigkmjmbegmhaa.AM
set_option maxRecDepth 100000
set_option maxHeartbeats 4000000
noncomputable def body208 : Code := (Try.f10.body).getD .skip
def F208 : List Nat → Option (List Nat) := fun p => match p with
  | [1] => some [0, 1]
  | [1, 1] => some [4]
  | _ => none
noncomputable def body220 : Code := (Try.f22.body).getD .skip
def F220 : List Nat → Option (List Nat) := fun p => match p with
  | [1] => some [0]
  | [1, 1] => some [0, 3]
  | [1, 0, 1, 1] => some [0, 3, 9, 10, 11]
  | [1, 0, 0, 1, 0, 1, 1] => some [0, 3, 9, 10, 11, 12]
  | [1, 0, 1, 0, 0, 1, 0, 1, 1] => some [0, 3]
  | [1, 1, 0, 0, 1, 0, 1, 1] => some [0, 3, 9, 10, 11]
  | [1, 0, 0, 1, 1, 0, 0, 1, 0, 1, 1] => some [0, 3, 5, 9, 10, 11]
  | [1, 1, 0, 0, 1, 1, 0, 0, 1, 0, 1, 1] => some [0, 3, 9, 10, 11]
  | [1, 1, 1, 0, 0, 1, 1, 0, 0, 1, 0, 1, 1] => some [0, 3, 9, 10, 11, 20]
  | [1, 1, 1, 0, 0, 1, 0, 1, 1] => some [0, 3, 9, 10, 11]
  | [1, 1, 1] => some [0, 3]
  | [1, 1, 1, 1] => some [0, 6]
  | [1, 0, 1, 1, 1, 1] => some [6, 25, 26, 27]
  | [1, 0, 0, 1, 0, 1, 1, 1, 1] => some [6, 25, 26, 27, 28]
  | [1, 0, 1, 0, 0, 1, 0, 1, 1, 1, 1] => some [6]
  | [1, 1, 0, 0, 1, 0, 1, 1, 1, 1] => some [6, 25, 26, 27]
  | [1, 0, 0, 1, 1, 0, 0, 1, 0, 1, 1, 1, 1] => some [6, 8, 25, 26, 27]
  | [1, 1, 1, 0, 0, 1, 0, 1, 1, 1, 1] => some [6, 25, 26, 27]
  | [1, 1, 1, 1, 1] => some [6]
  | [1, 1, 1, 1, 1, 1] => some [2]
  | _ => none
noncomputable def body228 : Code := (Try.f30.body).getD .skip
def F228 : List Nat → Option (List Nat) := fun p => match p with
  | [1] => some [0, 1]
  | [1, 0, 1] => some [0, 1, 6]
  | [1, 1] => some [0, 1]
  | [1, 0, 1, 1] => some [0, 1]
  | [1, 1, 0, 1, 1] => some [0, 1, 16]
  | [1, 1, 1] => some [0]
  | [1, 1, 1, 1] => some [4]
  | _ => none

theorem w228 (n : Int) (K : Value → Heap → Prop) :
  funX Try.prog S0 noLoop F228 body228 Try.f30 [] [] [.slice none 0 0, .int .i64 n] (hp []) K = (
Alt (ltI n 0) False
  (Alt (ltI 0 (wr IntKind.i64 (n - 0)))
    (Need (leI 0 (wr IntKind.i64 (n - 0)))
      (Need (leI (wr IntKind.i64 (n - 0)) 1099511627776)
        (Need (leI (wr IntKind.i64 (n - 0) * 8) 1099511627776)
          (Need (leN ((wr IntKind.i64 (n - 0)).toNat * 8) 1099511627776)
            (Need (leN (wr IntKind.i64 (n - 0)).toNat 1099511627776)
              (K
                (Value.slice (some { block := 0, off := 0, spot := some 3 : Addr }) 0
                  ((wr IntKind.i64 (n - 0)).toNat - 0))
                (hp [Blk.cells (repl (wr IntKind.i64 (n - 0)).toNat [Value.int IntKind.i64 0]) 1 true])))))))
    (K (Value.slice none 0 0) (hp [])))) := by kernel_rfl

noncomputable def growZC : Ctr where
  pre := fun args blks => match args, blks with
    | [.slice none 0 0, .int .i64 n], [] => Need (eqI n 0) True
    | _, _ => False
  val := fun _ _ => .slice none 0 0
  new := fun _ _ => []
noncomputable def growPC : Ctr where
  pre := fun args blks => match args, blks with
    | [.slice none 0 0, .int .i64 n], [] => Need (leI 1 n) (Need (leI n 1000000) True)
    | _, _ => False
  val := fun args blks => match args, blks with
    | [_, .int .i64 n], [] => .slice (some ⟨0,0,some 3⟩) 0 n.toNat
    | _, _ => undef
  new := fun args blks => match args, blks with
    | [_, .int .i64 n], [] => [.cells (eC (iE .i64) (List.replicate n.toNat 0)) 1 true]
    | _, _ => []
noncomputable def hC (o1 o2 : Nat) (s1 s2 : Option Nat) (l1 c1 l2 c2 : Nat) (ca cb : List Value) (w1 w2 : Bool) : List Blk := [.cells [.slice (some ⟨1,o1,s1⟩) l1 c1, .slice (some ⟨2,o2,s2⟩) l2 c2] 1 true, .cells ca 1 w1, .cells cb 1 w2]
noncomputable def hC3 (o1 o2 : Nat) (s1 s2 : Option Nat) (l1 c1 l2 c2 : Nat) (ca cb : List Value) (w1 w2 : Bool) (c3 : List Value) : List Blk := [.cells [.slice (some ⟨1,o1,s1⟩) l1 c1, .slice (some ⟨2,o2,s2⟩) l2 c2] 1 true, .cells ca 1 w1, .cells cb 1 w2, .cells c3 1 true]
noncomputable def T220a (sp : Option Nat) (z i : Int) : List Value := tmps 36 [(0, .slice (some ⟨0,0,sp⟩) 2 2), (3, .int .i64 z), (9, .slice (some ⟨0,0,sp⟩) 2 2), (10, .int .i64 2), (11, .int .i64 i)]
noncomputable def T220b (sp : Option Nat) (q : Value) (i : Int) : List Value := tmps 36 [(6, q), (25, .slice (some ⟨0,0,sp⟩) 2 2), (26, .int .i64 2), (27, .int .i64 i)]

theorem r220a0 (sp : Option Nat) (z : Int) (o1 o2 : Nat) (s1 s2 : Option Nat) (l1 c1 l2 c2 : Nat) (ca cb : List Value) (w1 w2 : Bool) (K : Post) :
  roundX Try.prog S0 noLoop F220 body220 3 [0] [] [0] [] [0,3,9,10,11] [0,0,1,0,1,1] (T220a sp z 0) (hp (hC o1 o2 s1 s2 l1 c1 l2 c2 ca cb w1 w2)) K = (
Alt (ltI (wr IntKind.i64 (z + (↑l1 : Int))) 0) False
  (K AE.normal
    (tmps 36
      [(0, Value.slice (some { block := 0, off := 0, spot := sp : Addr }) 2 2),
        (3, Value.int IntKind.i64 (wr IntKind.i64 (z + (↑l1 : Int)))),
        (9, Value.slice (some { block := 0, off := 0, spot := sp : Addr }) 2 2), (10, Value.int IntKind.i64 2),
        (11, Value.int IntKind.i64 1)])
    (hp
      [Blk.cells
          [Value.slice (some { block := 1, off := o1, spot := s1 : Addr }) l1 c1,
            Value.slice (some { block := 2, off := o2, spot := s2 : Addr }) l2 c2]
          1 true,
        Blk.cells ca 1 w1, Blk.cells cb 1 w2]))) := by kernel_rfl

theorem r220a1 (sp : Option Nat) (z : Int) (o1 o2 : Nat) (s1 s2 : Option Nat) (l1 c1 l2 c2 : Nat) (ca cb : List Value) (w1 w2 : Bool) (K : Post) :
  roundX Try.prog S0 noLoop F220 body220 3 [0] [] [0] [] [0,3,9,10,11] [0,0,1,0,1,1] (T220a sp z 1) (hp (hC o1 o2 s1 s2 l1 c1 l2 c2 ca cb w1 w2)) K = (
Alt (ltI (wr IntKind.i64 (z + (↑l2 : Int))) 0) False
  (K AE.normal
    (tmps 36
      [(0, Value.slice (some { block := 0, off := 0, spot := sp : Addr }) 2 2),
        (3, Value.int IntKind.i64 (wr IntKind.i64 (z + (↑l2 : Int)))),
        (9, Value.slice (some { block := 0, off := 0, spot := sp : Addr }) 2 2), (10, Value.int IntKind.i64 2),
        (11, Value.int IntKind.i64 2)])
    (hp
      [Blk.cells
          [Value.slice (some { block := 1, off := o1, spot := s1 : Addr }) l1 c1,
            Value.slice (some { block := 2, off := o2, spot := s2 : Addr }) l2 c2]
          1 true,
        Blk.cells ca 1 w1, Blk.cells cb 1 w2]))) := by kernel_rfl

theorem r220a2 (sp : Option Nat) (z : Int) (o1 o2 : Nat) (s1 s2 : Option Nat) (l1 c1 l2 c2 : Nat) (ca cb : List Value) (w1 w2 : Bool) (K : Post) :
  roundX Try.prog S0 noLoop F220 body220 3 [0] [] [0] [] [0,3,9,10,11] [0,0,1,0,1,1] (T220a sp z 2) (hp (hC o1 o2 s1 s2 l1 c1 l2 c2 ca cb w1 w2)) K = (
K (AE.exit 0)
  (tmps 36 [(0, Value.slice (some { block := 0, off := 0, spot := sp : Addr }) 2 2), (3, Value.int IntKind.i64 z)])
  (hp
    [Blk.cells
        [Value.slice (some { block := 1, off := o1, spot := s1 : Addr }) l1 c1,
          Value.slice (some { block := 2, off := o2, spot := s2 : Addr }) l2 c2]
        1 true,
      Blk.cells ca 1 w1, Blk.cells cb 1 w2])) := by kernel_rfl

theorem r220b0 (sp : Option Nat) (m n : Nat) (o1 o2 : Nat) (s1 s2 : Option Nat) (l1 c1 l2 c2 : Nat) (ca cb : List Value) (w1 w2 : Bool) (c3 : List Value) (K : Post) :
  roundX Try.prog S0 noLoop F220 body220 3 [0] [] [0] [] [6,25,26,27] [0,0,1,0,1,1,1,1] (T220b sp (.slice (some ⟨3,0,some 3⟩) m n) 0) (hp (hC3 o1 o2 s1 s2 l1 c1 l2 c2 ca cb w1 w2 c3)) K = (
Need (leN (o1 + l1 * 1) ca.length)
  (Need (leN (0 + m * 1) c3.length)
    (Alt (leN (m + l1) n)
      (Alt (eqN l1 0)
        (K AE.normal
          (tmps 36
            [(6, Value.slice (some { block := 3, off := 0, spot := some 3 : Addr }) m n),
              (25, Value.slice (some { block := 0, off := 0, spot := sp : Addr }) 2 2), (26, Value.int IntKind.i64 2),
              (27, Value.int IntKind.i64 1)])
          (hp
            [Blk.cells
                [Value.slice (some { block := 1, off := o1, spot := s1 : Addr }) l1 c1,
                  Value.slice (some { block := 2, off := o2, spot := s2 : Addr }) l2 c2]
                1 true,
              Blk.cells ca 1 w1, Blk.cells cb 1 w2, Blk.cells c3 1 true]))
        (Need (leN (0 + m * 1 + (List.take (l1 * 1) (List.drop o1 ca)).length) c3.length)
          (Need ((List.take (l1 * 1) (List.drop o1 ca)).all oneV)
            (K AE.normal
              (tmps 36
                [(6, Value.slice (some { block := 3, off := 0, spot := some 3 : Addr }) (m + l1) n),
                  (25, Value.slice (some { block := 0, off := 0, spot := sp : Addr }) 2 2),
                  (26, Value.int IntKind.i64 2), (27, Value.int IntKind.i64 1)])
              (hp
                [Blk.cells
                    [Value.slice (some { block := 1, off := o1, spot := s1 : Addr }) l1 c1,
                      Value.slice (some { block := 2, off := o2, spot := s2 : Addr }) l2 c2]
                    1 true,
                  Blk.cells ca 1 w1, Blk.cells cb 1 w2,
                  Blk.cells (setAll c3 (0 + m * 1) (List.take (l1 * 1) (List.drop o1 ca))) 1 true])))))
      (Need (leN ((m + l1) * 8) 1099511627776)
        (Need (leN (m + l1) 1099511627776)
          (Need ((List.take (l1 * 1) (List.drop o1 ca)).all oneV)
            (K AE.normal
              (tmps 36
                [(6, Value.slice (some { block := 3, off := 0, spot := some 1 : Addr }) (m + l1) (m + l1)),
                  (25, Value.slice (some { block := 0, off := 0, spot := sp : Addr }) 2 2),
                  (26, Value.int IntKind.i64 2), (27, Value.int IntKind.i64 1)])
              (hp
                [Blk.cells
                    [Value.slice (some { block := 1, off := o1, spot := s1 : Addr }) l1 c1,
                      Value.slice (some { block := 2, off := o2, spot := s2 : Addr }) l2 c2]
                    1 true,
                  Blk.cells ca 1 w1, Blk.cells cb 1 w2,
                  Blk.cells (List.take (m * 1) (List.drop 0 c3) ++ List.take (l1 * 1) (List.drop o1 ca)) 1 true])))))))) := by kernel_rfl

theorem r220b1 (sp : Option Nat) (m n : Nat) (o1 o2 : Nat) (s1 s2 : Option Nat) (l1 c1 l2 c2 : Nat) (ca cb : List Value) (w1 w2 : Bool) (c3 : List Value) (K : Post) :
  roundX Try.prog S0 noLoop F220 body220 3 [0] [] [0] [] [6,25,26,27] [0,0,1,0,1,1,1,1] (T220b sp (.slice (some ⟨3,0,some 3⟩) m n) 1) (hp (hC3 o1 o2 s1 s2 l1 c1 l2 c2 ca cb w1 w2 c3)) K = (
Need (leN (o2 + l2 * 1) cb.length)
  (Need (leN (0 + m * 1) c3.length)
    (Alt (leN (m + l2) n)
      (Alt (eqN l2 0)
        (K AE.normal
          (tmps 36
            [(6, Value.slice (some { block := 3, off := 0, spot := some 3 : Addr }) m n),
              (25, Value.slice (some { block := 0, off := 0, spot := sp : Addr }) 2 2), (26, Value.int IntKind.i64 2),
              (27, Value.int IntKind.i64 2)])
          (hp
            [Blk.cells
                [Value.slice (some { block := 1, off := o1, spot := s1 : Addr }) l1 c1,
                  Value.slice (some { block := 2, off := o2, spot := s2 : Addr }) l2 c2]
                1 true,
              Blk.cells ca 1 w1, Blk.cells cb 1 w2, Blk.cells c3 1 true]))
        (Need (leN (0 + m * 1 + (List.take (l2 * 1) (List.drop o2 cb)).length) c3.length)
          (Need ((List.take (l2 * 1) (List.drop o2 cb)).all oneV)
            (K AE.normal
              (tmps 36
                [(6, Value.slice (some { block := 3, off := 0, spot := some 3 : Addr }) (m + l2) n),
                  (25, Value.slice (some { block := 0, off := 0, spot := sp : Addr }) 2 2),
                  (26, Value.int IntKind.i64 2), (27, Value.int IntKind.i64 2)])
              (hp
                [Blk.cells
                    [Value.slice (some { block := 1, off := o1, spot := s1 : Addr }) l1 c1,
                      Value.slice (some { block := 2, off := o2, spot := s2 : Addr }) l2 c2]
                    1 true,
                  Blk.cells ca 1 w1, Blk.cells cb 1 w2,
                  Blk.cells (setAll c3 (0 + m * 1) (List.take (l2 * 1) (List.drop o2 cb))) 1 true])))))
      (Need (leN ((m + l2) * 8) 1099511627776)
        (Need (leN (m + l2) 1099511627776)
          (Need ((List.take (l2 * 1) (List.drop o2 cb)).all oneV)
            (K AE.normal
              (tmps 36
                [(6, Value.slice (some { block := 3, off := 0, spot := some 1 : Addr }) (m + l2) (m + l2)),
                  (25, Value.slice (some { block := 0, off := 0, spot := sp : Addr }) 2 2),
                  (26, Value.int IntKind.i64 2), (27, Value.int IntKind.i64 2)])
              (hp
                [Blk.cells
                    [Value.slice (some { block := 1, off := o1, spot := s1 : Addr }) l1 c1,
                      Value.slice (some { block := 2, off := o2, spot := s2 : Addr }) l2 c2]
                    1 true,
                  Blk.cells ca 1 w1, Blk.cells cb 1 w2,
                  Blk.cells (List.take (m * 1) (List.drop 0 c3) ++ List.take (l2 * 1) (List.drop o2 cb)) 1 true])))))))) := by kernel_rfl

theorem r220b2 (sp : Option Nat) (m n : Nat) (o1 o2 : Nat) (s1 s2 : Option Nat) (l1 c1 l2 c2 : Nat) (ca cb : List Value) (w1 w2 : Bool) (c3 : List Value) (K : Post) :
  roundX Try.prog S0 noLoop F220 body220 3 [0] [] [0] [] [6,25,26,27] [0,0,1,0,1,1,1,1] (T220b sp (.slice (some ⟨3,0,some 3⟩) m n) 2) (hp (hC3 o1 o2 s1 s2 l1 c1 l2 c2 ca cb w1 w2 c3)) K = (
K (AE.exit 2) (tmps 36 [(6, Value.slice (some { block := 3, off := 0, spot := some 3 : Addr }) m n)])
  (hp
    [Blk.cells
        [Value.slice (some { block := 1, off := o1, spot := s1 : Addr }) l1 c1,
          Value.slice (some { block := 2, off := o2, spot := s2 : Addr }) l2 c2]
        1 true,
      Blk.cells ca 1 w1, Blk.cells cb 1 w2, Blk.cells c3 1 true])) := by kernel_rfl

theorem r220z0 (sp : Option Nat) (o1 o2 : Nat) (s1 s2 : Option Nat) (c1 c2 : Nat) (ca cb : List Value) (w1 w2 : Bool) (K : Post) :
  roundX Try.prog S0 noLoop F220 body220 3 [0] [] [0] [] [6,25,26,27] [0,0,1,0,1,1,1,1] (T220b sp (.slice (some ⟨3,0,some 1⟩) 0 0) 0) (hp (hC3 o1 o2 s1 s2 0 c1 0 c2 ca cb w1 w2 [])) K = (
Need (leN (o1 + 0) ca.length)
  (K AE.normal
    (tmps 36
      [(6, Value.slice (some { block := 3, off := 0, spot := some 1 : Addr }) 0 0),
        (25, Value.slice (some { block := 0, off := 0, spot := sp : Addr }) 2 2), (26, Value.int IntKind.i64 2),
        (27, Value.int IntKind.i64 1)])
    (hp
      [Blk.cells
          [Value.slice (some { block := 1, off := o1, spot := s1 : Addr }) 0 c1,
            Value.slice (some { block := 2, off := o2, spot := s2 : Addr }) 0 c2]
          1 true,
        Blk.cells ca 1 w1, Blk.cells cb 1 w2, Blk.cells [] 1 true]))) := by kernel_rfl

theorem r220z1 (sp : Option Nat) (o1 o2 : Nat) (s1 s2 : Option Nat) (c1 c2 : Nat) (ca cb : List Value) (w1 w2 : Bool) (K : Post) :
  roundX Try.prog S0 noLoop F220 body220 3 [0] [] [0] [] [6,25,26,27] [0,0,1,0,1,1,1,1] (T220b sp (.slice (some ⟨3,0,some 1⟩) 0 0) 1) (hp (hC3 o1 o2 s1 s2 0 c1 0 c2 ca cb w1 w2 [])) K = (
Need (leN (o2 + 0) cb.length)
  (K AE.normal
    (tmps 36
      [(6, Value.slice (some { block := 3, off := 0, spot := some 1 : Addr }) 0 0),
        (25, Value.slice (some { block := 0, off := 0, spot := sp : Addr }) 2 2), (26, Value.int IntKind.i64 2),
        (27, Value.int IntKind.i64 2)])
    (hp
      [Blk.cells
          [Value.slice (some { block := 1, off := o1, spot := s1 : Addr }) 0 c1,
            Value.slice (some { block := 2, off := o2, spot := s2 : Addr }) 0 c2]
          1 true,
        Blk.cells ca 1 w1, Blk.cells cb 1 w2, Blk.cells [] 1 true]))) := by kernel_rfl

theorem r220z2 (sp : Option Nat) (o1 o2 : Nat) (s1 s2 : Option Nat) (c1 c2 : Nat) (ca cb : List Value) (w1 w2 : Bool) (K : Post) :
  roundX Try.prog S0 noLoop F220 body220 3 [0] [] [0] [] [6,25,26,27] [0,0,1,0,1,1,1,1] (T220b sp (.slice (some ⟨3,0,some 1⟩) 0 0) 2) (hp (hC3 o1 o2 s1 s2 0 c1 0 c2 ca cb w1 w2 [])) K = (
K (AE.exit 2) (tmps 36 [(6, Value.slice (some { block := 3, off := 0, spot := some 1 : Addr }) 0 0)])
  (hp
    [Blk.cells
        [Value.slice (some { block := 1, off := o1, spot := s1 : Addr }) 0 c1,
          Value.slice (some { block := 2, off := o2, spot := s2 : Addr }) 0 c2]
        1 true,
      Blk.cells ca 1 w1, Blk.cells cb 1 w2, Blk.cells [] 1 true])) := by kernel_rfl

theorem repl_one (n : Nat) (v : Value) : repl n [v] = List.replicate n v := by
  unfold repl
  induction n with
  | zero => rfl
  | succ n ih => rw [List.replicate_succ, List.flatten_cons, ih, List.replicate_succ]; rfl
theorem growZ_says (hmix : Try.prog.follows .mixedOrders = true) : growZC.Holds Try.prog 30 := by
  intro args blks hf hp
  simp only [growZC] at hp ⊢
  split at hp
  · rename_i n
    simp only [Alt_iff, Need_iff, ltI_eq, leI_eq, eqI_eq, leN_eq, eqN_eq, decide_eq_true_eq, decide_eq_false_iff_not, decide_true, decide_false, true_and, and_true, Bool.true_eq_false, Bool.false_eq_true, false_implies, true_implies, implies_true, not_true_eq_false, not_false_eq_true, Bool.not_eq_true', Bool.not_eq_false'] at hp
    subst hp
    refine ⟨trivial, ?_⟩
    refine (sure0 hmix).funX F228 body228 [] [] Try.func30 rfl noLoops ?_
    rw [w228]
    simp only [Int.sub_zero, show wr .i64 0 = 0 from rfl, Int.lt_irrefl, Alt_iff, Need_iff, ltI_eq, leI_eq, eqI_eq, leN_eq, eqN_eq, decide_eq_true_eq, decide_eq_false_iff_not, decide_true, decide_false, true_and, and_true, Bool.true_eq_false, Bool.false_eq_true, false_implies, true_implies, implies_true, not_true_eq_false, not_false_eq_true, Bool.not_eq_true', Bool.not_eq_false', Nat.zero_add, Nat.add_zero, Nat.sub_zero, Nat.zero_mul, Nat.mul_one, Int.toNat_natCast, List.drop_zero, beqV_int, beqV_sl, beqV_str, beqV_bool, beqV_ptr, beqV_flt, beqV_agg, beqV_tuple, List.all_cons, List.all_nil, Bool.and_self, Bool.and_true, Bool.true_and, Nat.le_refl, Int.le_refl, Nat.zero_le, Option.getD_some, isStr, strV, isInt, intV, isBool, boolV, kindEq, at0, isJunk, Option.isSome_some, Option.isSome_none, if_true, if_false, Nat.add_sub_cancel_left, Nat.add_sub_cancel]
    exact ⟨FlatD.hp (l := []) trivial, rfl⟩
  · exact hp.elim
theorem growP_says (hmix : Try.prog.follows .mixedOrders = true) : growPC.Holds Try.prog 30 := by
  intro args blks hf hp
  simp only [growPC] at hp ⊢
  split at hp
  · rename_i n
    simp only [Alt_iff, Need_iff, ltI_eq, leI_eq, eqI_eq, leN_eq, eqN_eq, decide_eq_true_eq, decide_eq_false_iff_not, decide_true, decide_false, true_and, and_true, Bool.true_eq_false, Bool.false_eq_true, false_implies, true_implies, implies_true, not_true_eq_false, not_false_eq_true, Bool.not_eq_true', Bool.not_eq_false'] at hp
    refine ⟨⟨eC_flat flat_i _, trivial⟩, ?_⟩
    refine (sure0 hmix).funX F228 body228 [] [] Try.func30 rfl noLoops ?_
    rw [w228]
    have hF : FlatD [] (AM.hp [.cells (eC (iE .i64) (List.replicate n.toNat 0)) 1 true]) := FlatD.hp ⟨eC_flat flat_i _, trivial⟩
    have he : List.replicate n.toNat (Value.int .i64 0) = eC (iE .i64) (List.replicate n.toNat 0) := by unfold eC; rw [List.map_replicate]
    simp only [Int.sub_zero, wr_i64 n (by omega) (by omega), show ¬ n < 0 by omega, show 0 < n by omega, repl_one, he, hF, Alt_iff, Need_iff, ltI_eq, leI_eq, eqI_eq, leN_eq, eqN_eq, decide_eq_true_eq, decide_eq_false_iff_not, decide_true, decide_false, true_and, and_true, Bool.true_eq_false, Bool.false_eq_true, false_implies, true_implies, implies_true, not_true_eq_false, not_false_eq_true, Bool.not_eq_true', Bool.not_eq_false', Nat.zero_add, Nat.add_zero, Nat.sub_zero, Nat.zero_mul, Nat.mul_one, Int.toNat_natCast, List.drop_zero, beqV_int, beqV_sl, beqV_str, beqV_bool, beqV_ptr, beqV_flt, beqV_agg, beqV_tuple, List.all_cons, List.all_nil, Bool.and_self, Bool.and_true, Bool.true_and, Nat.le_refl, Int.le_refl, Nat.zero_le, Option.getD_some, isStr, strV, isInt, intV, isBool, boolV, kindEq, at0, isJunk, Option.isSome_some, Option.isSome_none, if_true, if_false, Nat.add_sub_cancel_left, Nat.add_sub_cancel]
    and_intros <;> first | omega | rfl
  · exact hp.elim
/-- cells written behind what is there -/
theorem setAll_app (vs pre : List Value) (k : Nat) (r : List Value) (hk : pre.length = k) (hr : vs.length ≤ r.length) : setAll (pre ++ r) k vs = pre ++ vs ++ r.drop vs.length := by
  subst hk
  refine List.ext_getElem? fun j => ?_
  rw [setAll_get _ _ _ _ (by simp; omega)]
  by_cases h1 : j < pre.length
  · rw [if_pos h1, List.append_assoc, List.getElem?_append_left h1, List.getElem?_append_left h1]
  · rw [if_neg h1, List.append_assoc]
    by_cases h2 : j < pre.length + vs.length
    · rw [if_pos h2, List.getElem?_append_right (by omega), List.getElem?_append_left (by omega)]
    · rw [if_neg h2, List.getElem?_append_right (l₁ := pre) (l₂ := r) (by omega), List.getElem?_append_right (l₁ := pre) (by omega), List.getElem?_append_right (by omega), List.getElem?_drop]
      congr 1
      omega
theorem hC3_flat {o1 o2 : Nat} {s1 s2 : Option Nat} {l1 c1 l2 c2 : Nat} {ca cb : List Value} {w1 w2 : Bool} {c3 : List Value} (ha : FlatL ca) (hb : FlatL cb) (h3 : FlatL c3) : FlatD [0] (hp (hC3 o1 o2 s1 s2 l1 c1 l2 c2 ca cb w1 w2 c3)) := FlatD.hp ⟨rfl, ha, hb, h3, trivial⟩
theorem hC_flat {o1 o2 : Nat} {s1 s2 : Option Nat} {l1 c1 l2 c2 : Nat} {ca cb : List Value} {w1 w2 : Bool} (ha : FlatL ca) (hb : FlatL cb) : FlatD [0] (hp (hC o1 o2 s1 s2 l1 c1 l2 c2 ca cb w1 w2)) := FlatD.hp ⟨rfl, ha, hb, trivial⟩
section
variable {sp s1 s2 : Option Nat} {o1 o2 c1 c2 : Nat} {ca cb : List Value} {w1 w2 : Bool}
theorem cat_sizes (hmix : Try.prog.follows .mixedOrders = true) (a b : List Int) (hA : ISl ca o1 a) (hB : ISl cb o2 b) (hl1 : a.length ≤ 1000) (hl2 : b.length ≤ 1000) (K : Post)
    (hK : K (.exit 0) (tmps 36 [(0, .slice (some ⟨0,0,sp⟩) 2 2), (3, .int .i64 ((a.length + b.length : Nat) : Int))]) (hp (hC o1 o2 s1 s2 a.length c1 b.length c2 ca cb w1 w2))) :
    LSays Try.prog 3 (sub body220 [0,0,1,0,1,1]) (T220a sp 0 0) (hp (hC o1 o2 s1 s2 a.length c1 b.length c2 ca cb w1 w2)) K := by
  have hF : FlatD [0] (hp (hC o1 o2 s1 s2 a.length c1 b.length c2 ca cb w1 w2)) := hC_flat hA.flat hB.flat
  refine (sure0 hmix).roundX F220 noLoops [0] [] [0] [] [0,3,9,10,11] ?_
  rw [r220a0]
  simp only [Int.zero_add, wr_i64 (a.length : Int) (by omega) (by omega), show ¬ (a.length : Int) < 0 by omega, Alt_iff, Need_iff, ltI_eq, leI_eq, eqI_eq, leN_eq, eqN_eq, decide_eq_true_eq, decide_eq_false_iff_not, decide_true, decide_false, true_and, and_true, Bool.true_eq_false, Bool.false_eq_true, false_implies, true_implies, implies_true, not_true_eq_false, not_false_eq_true, Bool.not_eq_true', Bool.not_eq_false', Nat.zero_add, Nat.add_zero, Nat.sub_zero, Nat.zero_mul, Nat.mul_one, Int.toNat_natCast, List.drop_zero, beqV_int, beqV_sl, beqV_str, beqV_bool, beqV_ptr, beqV_flt, beqV_agg, beqV_tuple, List.all_cons, List.all_nil, Bool.and_self, Bool.and_true, Bool.true_and, Nat.le_refl, Int.le_refl, Nat.zero_le, Option.getD_some, isStr, strV, isInt, intV, isBool, boolV, kindEq, at0, isJunk, Option.isSome_some, Option.isSome_none, if_true, if_false, Nat.add_sub_cancel_left, Nat.add_sub_cancel]
  refine ⟨hF, ?_⟩
  show LSays Try.prog 3 _ (T220a sp a.length 1) (hp (hC o1 o2 s1 s2 a.length c1 b.length c2 ca cb w1 w2)) K
  refine (sure0 hmix).roundX F220 noLoops [0] [] [0] [] [0,3,9,10,11] ?_
  rw [r220a1]
  simp only [wr_i64 ((a.length : Int) + (b.length : Int)) (by omega) (by omega), show ¬ (a.length : Int) + (b.length : Int) < 0 by omega, Alt_iff, Need_iff, ltI_eq, leI_eq, eqI_eq, leN_eq, eqN_eq, decide_eq_true_eq, decide_eq_false_iff_not, decide_true, decide_false, true_and, and_true, Bool.true_eq_false, Bool.false_eq_true, false_implies, true_implies, implies_true, not_true_eq_false, not_false_eq_true, Bool.not_eq_true', Bool.not_eq_false', Nat.zero_add, Nat.add_zero, Nat.sub_zero, Nat.zero_mul, Nat.mul_one, Int.toNat_natCast, List.drop_zero, beqV_int, beqV_sl, beqV_str, beqV_bool, beqV_ptr, beqV_flt, beqV_agg, beqV_tuple, List.all_cons, List.all_nil, Bool.and_self, Bool.and_true, Bool.true_and, Nat.le_refl, Int.le_refl, Nat.zero_le, Option.getD_some, isStr, strV, isInt, intV, isBool, boolV, kindEq, at0, isJunk, Option.isSome_some, Option.isSome_none, if_true, if_false, Nat.add_sub_cancel_left, Nat.add_sub_cancel]
  refine ⟨hF, ?_⟩
  show LSays Try.prog 3 _ (T220a sp ((a.length : Int) + (b.length : Int)) 2) (hp (hC o1 o2 s1 s2 a.length c1 b.length c2 ca cb w1 w2)) K
  refine (sure0 hmix).roundX F220 noLoops [0] [] [0] [] [0,3,9,10,11] ?_
  rw [r220a2]
  rw [show ((a.length : Int) + (b.length : Int)) = ((a.length + b.length : Nat) : Int) by omega]
  exact ⟨hF, hK⟩
theorem cat_put (hmix : Try.prog.follows .mixedOrders = true) (a b : List Int) (hA : ISl ca o1 a) (hB : ISl cb o2 b) (hl1 : a.length ≤ 1000) (hl2 : b.length ≤ 1000) (ho1 : o1 ≤ ca.length) (ho2 : o2 ≤ cb.length) (K : Post)
    (hK : K (.exit 2) (tmps 36 [(6, .slice (some ⟨3,0,some 3⟩) (a.length + b.length) (a.length + b.length))]) (hp (hC3 o1 o2 s1 s2 a.length c1 b.length c2 ca cb w1 w2 (eC (iE .i64) (a ++ b))))) :
    LSays Try.prog 3 (sub body220 [0,0,1,0,1,1,1,1]) (T220b sp (.slice (some ⟨3,0,some 3⟩) 0 (a.length + b.length)) 0) (hp (hC3 o1 o2 s1 s2 a.length c1 b.length c2 ca cb w1 w2 (eC (iE .i64) (List.replicate (a.length + b.length) 0)))) K := by
  have hF : ∀ l, FlatD [0] (hp (hC3 o1 o2 s1 s2 a.length c1 b.length c2 ca cb w1 w2 (eC (iE .i64) l))) := fun l => hC3_flat hA.flat hB.flat (eC_flat flat_i _)
  obtain ⟨ta, tb⟩ := hA.take 0 a.length (by omega)
  obtain ⟨ua, ub⟩ := hB.take 0 b.length (by omega)
  rw [List.drop_zero, List.take_length, Nat.add_zero] at ta ua
  rw [Nat.add_zero] at tb ub
  have last : ∀ c3, c3 = eC (iE .i64) (a ++ b) → LSays Try.prog 3 (sub body220 [0,0,1,0,1,1,1,1]) (T220b sp (.slice (some ⟨3,0,some 3⟩) (a.length + b.length) (a.length + b.length)) 2) (hp (hC3 o1 o2 s1 s2 a.length c1 b.length c2 ca cb w1 w2 c3)) K := by
    rintro _ rfl
    refine (sure0 hmix).roundX F220 noLoops [0] [] [0] [] [6,25,26,27] ?_
    rw [r220b2]
    exact ⟨hF _, hK⟩
  have mid : ∀ c3, c3 = eC (iE .i64) (a ++ List.replicate b.length 0) → LSays Try.prog 3 (sub body220 [0,0,1,0,1,1,1,1]) (T220b sp (.slice (some ⟨3,0,some 3⟩) a.length (a.length + b.length)) 1) (hp (hC3 o1 o2 s1 s2 a.length c1 b.length c2 ca cb w1 w2 c3)) K := by
    rintro _ rfl
    refine (sure0 hmix).roundX F220 noLoops [0] [] [0] [] [6,25,26,27] ?_
    rw [r220b1]
    have hc : (eC (iE .i64) (a ++ List.replicate b.length 0)).length = a.length + b.length := by rw [eC_len]; simp
    have hset : setAll (eC (iE .i64) (a ++ List.replicate b.length 0)) a.length (eC (iE .i64) b) = eC (iE .i64) (a ++ b) := by
      rw [eC_append, setAll_app _ _ _ _ (eC_len _ _) (by rw [eC_len, eC_len]; simp), List.drop_eq_nil_of_le (by rw [eC_len, eC_len]; simp), List.append_nil, eC_append]
    simp only [hc, ua, hset, eC_len, eC_one one_i, show o2 + b.length ≤ cb.length by omega, show a.length ≤ a.length + b.length by omega, hF, Alt_iff, Need_iff, ltI_eq, leI_eq, eqI_eq, leN_eq, eqN_eq, decide_eq_true_eq, decide_eq_false_iff_not, decide_true, decide_false, true_and, and_true, Bool.true_eq_false, Bool.false_eq_true, false_implies, true_implies, implies_true, not_true_eq_false, not_false_eq_true, Bool.not_eq_true', Bool.not_eq_false', Nat.zero_add, Nat.add_zero, Nat.sub_zero, Nat.zero_mul, Nat.mul_one, Int.toNat_natCast, List.drop_zero, beqV_int, beqV_sl, beqV_str, beqV_bool, beqV_ptr, beqV_flt, beqV_agg, beqV_tuple, List.all_cons, List.all_nil, Bool.and_self, Bool.and_true, Bool.true_and, Nat.le_refl, Int.le_refl, Nat.zero_le, Option.getD_some, isStr, strV, isInt, intV, isBool, boolV, kindEq, at0, isJunk, Option.isSome_some, Option.isSome_none, if_true, if_false, Nat.add_sub_cancel_left, Nat.add_sub_cancel]
    refine ⟨fun h => ⟨hF _, ?_⟩, fun h => ⟨hF _, last _ rfl⟩⟩
    have hb0 : b = [] := List.length_eq_zero_iff.1 h
    have := last (eC (iE .i64) (a ++ List.replicate b.length 0)) (by rw [hb0]; rfl)
    rw [h, Nat.add_zero] at this
    simp only [h, Nat.add_zero] at this ⊢
    exact this
  refine (sure0 hmix).roundX F220 noLoops [0] [] [0] [] [6,25,26,27] ?_
  rw [r220b0]
  have hc : (eC (iE .i64) (List.replicate (a.length + b.length) 0)).length = a.length + b.length := by rw [eC_len]; simp
  have hset : setAll (eC (iE .i64) (List.replicate (a.length + b.length) 0)) 0 (eC (iE .i64) a) = eC (iE .i64) (a ++ List.replicate b.length 0) := by
    have := setAll_app (eC (iE .i64) a) [] 0 (eC (iE .i64) (List.replicate (a.length + b.length) 0)) rfl (by rw [eC_len, eC_len]; simp)
    rw [List.nil_append, List.nil_append] at this
    rw [this, eC_drop, eC_len, List.drop_replicate, Nat.add_sub_cancel_left, eC_append]
  simp only [hc, ta, hset, eC_len, eC_one one_i, show o1 + a.length ≤ ca.length by omega, show a.length ≤ a.length + b.length by omega, hF, Alt_iff, Need_iff, ltI_eq, leI_eq, eqI_eq, leN_eq, eqN_eq, decide_eq_true_eq, decide_eq_false_iff_not, decide_true, decide_false, true_and, and_true, Bool.true_eq_false, Bool.false_eq_true, false_implies, true_implies, implies_true, not_true_eq_false, not_false_eq_true, Bool.not_eq_true', Bool.not_eq_false', Nat.zero_add, Nat.add_zero, Nat.sub_zero, Nat.zero_mul, Nat.mul_one, Int.toNat_natCast, List.drop_zero, beqV_int, beqV_sl, beqV_str, beqV_bool, beqV_ptr, beqV_flt, beqV_agg, beqV_tuple, List.all_cons, List.all_nil, Bool.and_self, Bool.and_true, Bool.true_and, Nat.le_refl, Int.le_refl, Nat.zero_le, Option.getD_some, isStr, strV, isInt, intV, isBool, boolV, kindEq, at0, isJunk, Option.isSome_some, Option.isSome_none, if_true, if_false, Nat.add_sub_cancel_left, Nat.add_sub_cancel]
  refine ⟨fun h => ⟨hF _, ?_⟩, fun h => ⟨hF _, mid _ rfl⟩⟩
  have ha0 : a = [] := List.length_eq_zero_iff.1 h
  have := mid (eC (iE .i64) (List.replicate (a.length + b.length) 0)) (by rw [h, ha0, Nat.zero_add]; rfl)
  simp only [h, Nat.zero_add] at this ⊢
  exact this
theorem cat_nil (hmix : Try.prog.follows .mixedOrders = true) (hA : FlatL ca) (hB : FlatL cb) (ho1 : o1 ≤ ca.length) (ho2 : o2 ≤ cb.length) (K : Post)
    (hK : K (.exit 2) (tmps 36 [(6, .slice (some ⟨3,0,some 1⟩) 0 0)]) (hp (hC3 o1 o2 s1 s2 0 c1 0 c2 ca cb w1 w2 []))) :
    LSays Try.prog 3 (sub body220 [0,0,1,0,1,1,1,1]) (T220b sp (.slice (some ⟨3,0,some 1⟩) 0 0) 0) (hp (hC3 o1 o2 s1 s2 0 c1 0 c2 ca cb w1 w2 [])) K := by
  have hF : FlatD [0] (hp (hC3 o1 o2 s1 s2 0 c1 0 c2 ca cb w1 w2 [])) := hC3_flat hA hB ⟨fun x hx => by cases hx⟩
  refine (sure0 hmix).roundX F220 noLoops [0] [] [0] [] [6,25,26,27] ?_
  rw [r220z0]
  simp only [ho1, Alt_iff, Need_iff, ltI_eq, leI_eq, eqI_eq, leN_eq, eqN_eq, decide_eq_true_eq, decide_eq_false_iff_not, decide_true, decide_false, true_and, and_true, Bool.true_eq_false, Bool.false_eq_true, false_implies, true_implies, implies_true, not_true_eq_false, not_false_eq_true, Bool.not_eq_true', Bool.not_eq_false', Nat.zero_add, Nat.add_zero, Nat.sub_zero, Nat.zero_mul, Nat.mul_one, Int.toNat_natCast, List.drop_zero, beqV_int, beqV_sl, beqV_str, beqV_bool, beqV_ptr, beqV_flt, beqV_agg, beqV_tuple, List.all_cons, List.all_nil, Bool.and_self, Bool.and_true, Bool.true_and, Nat.le_refl, Int.le_refl, Nat.zero_le, Option.getD_some, isStr, strV, isInt, intV, isBool, boolV, kindEq, at0, isJunk, Option.isSome_some, Option.isSome_none, if_true, if_false, Nat.add_sub_cancel_left, Nat.add_sub_cancel]
  refine ⟨hF, ?_⟩
  show LSays Try.prog 3 _ (T220b sp (.slice (some ⟨3,0,some 1⟩) 0 0) 1) (hp (hC3 o1 o2 s1 s2 0 c1 0 c2 ca cb w1 w2 [])) K
  refine (sure0 hmix).roundX F220 noLoops [0] [] [0] [] [6,25,26,27] ?_
  rw [r220z1]
  simp only [ho2, Alt_iff, Need_iff, ltI_eq, leI_eq, eqI_eq, leN_eq, eqN_eq, decide_eq_true_eq, decide_eq_false_iff_not, decide_true, decide_false, true_and, and_true, Bool.true_eq_false, Bool.false_eq_true, false_implies, true_implies, implies_true, not_true_eq_false, not_false_eq_true, Bool.not_eq_true', Bool.not_eq_false', Nat.zero_add, Nat.add_zero, Nat.sub_zero, Nat.zero_mul, Nat.mul_one, Int.toNat_natCast, List.drop_zero, beqV_int, beqV_sl, beqV_str, beqV_bool, beqV_ptr, beqV_flt, beqV_agg, beqV_tuple, List.all_cons, List.all_nil, Bool.and_self, Bool.and_true, Bool.true_and, Nat.le_refl, Int.le_refl, Nat.zero_le, Option.getD_some, isStr, strV, isInt, intV, isBool, boolV, kindEq, at0, isJunk, Option.isSome_some, Option.isSome_none, if_true, if_false, Nat.add_sub_cancel_left, Nat.add_sub_cancel]
  refine ⟨hF, ?_⟩
  show LSays Try.prog 3 _ (T220b sp (.slice (some ⟨3,0,some 1⟩) 0 0) 2) (hp (hC3 o1 o2 s1 s2 0 c1 0 c2 ca cb w1 w2 [])) K
  refine (sure0 hmix).roundX F220 noLoops [0] [] [0] [] [6,25,26,27] ?_
  rw [r220z2]
  exact ⟨hF, hK⟩
end
noncomputable def S94z : Book := bookOf [(30, growZC)]
noncomputable def S94p : Book := bookOf [(30, growPC)]
theorem sure94z (hmix : Try.prog.follows .mixedOrders = true) : Sure Try.prog S94z := ⟨hmix, plain, bookOf_ok (l := [(30, growZC)]) ⟨growZ_says hmix, trivial⟩⟩
theorem sure94p (hmix : Try.prog.follows .mixedOrders = true) : Sure Try.prog S94p := ⟨hmix, plain, bookOf_ok (l := [(30, growPC)]) ⟨growP_says hmix, trivial⟩⟩

theorem w220p (sp : Option Nat) (n : Nat) (o1 o2 : Nat) (s1 s2 : Option Nat) (l1 c1 l2 c2 : Nat) (ca cb : List Value) (w1 w2 : Bool) (c3 : List Value) (K : Value → Heap → Prop) :
  funX Try.prog S94p (gcLKX (at0 [0]) (at0 []) 3 (cutLK [⟨[0,1,0,1,1], T220a sp 0 0, hp (hC o1 o2 s1 s2 l1 c1 l2 c2 ca cb w1 w2), fun K => K (.exit 0) (tmps 36 [(0, .slice (some ⟨0,0,sp⟩) 2 2), (3, .int .i64 (n : Int))]) (hp (hC o1 o2 s1 s2 l1 c1 l2 c2 ca cb w1 w2))⟩, ⟨[0,1,0,1,1,1,1], T220b sp (.slice (some ⟨3,0,some 3⟩) 0 n) 0, hp (hC3 o1 o2 s1 s2 l1 c1 l2 c2 ca cb w1 w2 (eC (iE .i64) (List.replicate n 0))), fun K => K (.exit 2) (tmps 36 [(6, .slice (some ⟨3,0,some 3⟩) n n)]) (hp (hC3 o1 o2 s1 s2 l1 c1 l2 c2 ca cb w1 w2 c3))⟩])) F220 body220 Try.f22 [0] [.tmp 0 1] [.slice (some ⟨0,0,sp⟩) 2 2] (hp (hC o1 o2 s1 s2 l1 c1 l2 c2 ca cb w1 w2)) K = (
FlatD [0]
    (hp
      [Blk.cells
          [Value.slice (some { block := 1, off := o1, spot := s1 : Addr }) l1 c1,
            Value.slice (some { block := 2, off := o2, spot := s2 : Addr }) l2 c2]
          1 true,
        Blk.cells ca 1 w1, Blk.cells cb 1 w2]) ∧
  tmps 36
        [(0, Value.slice (some { block := 0, off := 0, spot := sp : Addr }) 2 2), (3, Value.int IntKind.i64 0),
          (9, Value.slice (some { block := 0, off := 0, spot := sp : Addr }) 2 2), (10, Value.int IntKind.i64 2),
          (11, Value.int IntKind.i64 0)] =
      tmps 36
        [(0, Value.slice (some { block := 0, off := 0, spot := sp : Addr }) 2 2), (3, Value.int IntKind.i64 0),
          (9, Value.slice (some { block := 0, off := 0, spot := sp : Addr }) 2 2), (10, Value.int IntKind.i64 2),
          (11, Value.int IntKind.i64 0)] ∧
    hp
          [Blk.cells
              [Value.slice (some { block := 1, off := o1, spot := s1 : Addr }) l1 c1,
                Value.slice (some { block := 2, off := o2, spot := s2 : Addr }) l2 c2]
              1 true,
            Blk.cells ca 1 w1, Blk.cells cb 1 w2] =
        hp
          [Blk.cells
              [Value.slice (some { block := 1, off := o1, spot := s1 : Addr }) l1 c1,
                Value.slice (some { block := 2, off := o2, spot := s2 : Addr }) l2 c2]
              1 true,
            Blk.cells ca 1 w1, Blk.cells cb 1 w2] ∧
      True ∧
        Need (leI 1 (↑n : Int)) (Need (leI (↑n : Int) 1000000) True) ∧
          FlatD [0]
              (hp
                [Blk.cells
                    [Value.slice (some { block := 1, off := o1, spot := s1 : Addr }) l1 c1,
                      Value.slice (some { block := 2, off := o2, spot := s2 : Addr }) l2 c2]
                    1 true,
                  Blk.cells ca 1 w1, Blk.cells cb 1 w2,
                  Blk.cells (eC (iE IntKind.i64) (List.replicate (↑n : Int).toNat 0)) 1 true]) ∧
            tmps 36
                  [(6, Value.slice (some { block := 3, off := 0, spot := some 3 : Addr }) 0 (↑n : Int).toNat),
                    (25, Value.slice (some { block := 0, off := 0, spot := sp : Addr }) 2 2),
                    (26, Value.int IntKind.i64 2), (27, Value.int IntKind.i64 0)] =
                tmps 36
                  [(6, Value.slice (some { block := 3, off := 0, spot := some 3 : Addr }) 0 n),
                    (25, Value.slice (some { block := 0, off := 0, spot := sp : Addr }) 2 2),
                    (26, Value.int IntKind.i64 2), (27, Value.int IntKind.i64 0)] ∧
              hp
                    [Blk.cells
                        [Value.slice (some { block := 1, off := o1, spot := s1 : Addr }) l1 c1,
                          Value.slice (some { block := 2, off := o2, spot := s2 : Addr }) l2 c2]
                        1 true,
                      Blk.cells ca 1 w1, Blk.cells cb 1 w2,
                      Blk.cells (eC (iE IntKind.i64) (List.replicate (↑n : Int).toNat 0)) 1 true] =
                  hp
                    [Blk.cells
                        [Value.slice (some { block := 1, off := o1, spot := s1 : Addr }) l1 c1,
                          Value.slice (some { block := 2, off := o2, spot := s2 : Addr }) l2 c2]
                        1 true,
                      Blk.cells ca 1 w1, Blk.cells cb 1 w2,
                      Blk.cells (eC (iE IntKind.i64) (List.replicate n 0)) 1 true] ∧
                K (Value.slice (some { block := 3, off := 0, spot := some 1 : Addr }) n n)
                  (hp
                    [Blk.cells
                        [Value.slice (some { block := 1, off := o1, spot := s1 : Addr }) l1 c1,
                          Value.slice (some { block := 2, off := o2, spot := s2 : Addr }) l2 c2]
                        1 true,
                      Blk.cells ca 1 w1, Blk.cells cb 1 w2, Blk.cells c3 1 true])) := by kernel_rfl

theorem w220z (sp : Option Nat) (o1 o2 : Nat) (s1 s2 : Option Nat) (c1 c2 : Nat) (ca cb : List Value) (w1 w2 : Bool) (K : Value → Heap → Prop) :
  funX Try.prog S94z (gcLKX (at0 [0]) (fun p => cond (eqN p.length 7) [.tmp 6 1] []) 3 (cutLK [⟨[0,1,0,1,1], T220a sp 0 0, hp (hC o1 o2 s1 s2 0 c1 0 c2 ca cb w1 w2), fun K => K (.exit 0) (tmps 36 [(0, .slice (some ⟨0,0,sp⟩) 2 2), (3, .int .i64 0)]) (hp (hC o1 o2 s1 s2 0 c1 0 c2 ca cb w1 w2))⟩, ⟨[0,1,0,1,1,1,1], T220b sp (.slice (some ⟨3,0,some 1⟩) 0 0) 0, hp (hC3 o1 o2 s1 s2 0 c1 0 c2 ca cb w1 w2 []), fun K => K (.exit 2) (tmps 36 [(6, .slice (some ⟨3,0,some 1⟩) 0 0)]) (hp (hC3 o1 o2 s1 s2 0 c1 0 c2 ca cb w1 w2 []))⟩])) F220 body220 Try.f22 [0] [] [.slice (some ⟨0,0,sp⟩) 2 2] (hp (hC o1 o2 s1 s2 0 c1 0 c2 ca cb w1 w2)) K = (
FlatD [0]
    (hp
      [Blk.cells
          [Value.slice (some { block := 1, off := o1, spot := s1 : Addr }) 0 c1,
            Value.slice (some { block := 2, off := o2, spot := s2 : Addr }) 0 c2]
          1 true,
        Blk.cells ca 1 w1, Blk.cells cb 1 w2]) ∧
  tmps 36
        [(0, Value.slice (some { block := 0, off := 0, spot := sp : Addr }) 2 2), (3, Value.int IntKind.i64 0),
          (9, Value.slice (some { block := 0, off := 0, spot := sp : Addr }) 2 2), (10, Value.int IntKind.i64 2),
          (11, Value.int IntKind.i64 0)] =
      tmps 36
        [(0, Value.slice (some { block := 0, off := 0, spot := sp : Addr }) 2 2), (3, Value.int IntKind.i64 0),
          (9, Value.slice (some { block := 0, off := 0, spot := sp : Addr }) 2 2), (10, Value.int IntKind.i64 2),
          (11, Value.int IntKind.i64 0)] ∧
    hp
          [Blk.cells
              [Value.slice (some { block := 1, off := o1, spot := s1 : Addr }) 0 c1,
                Value.slice (some { block := 2, off := o2, spot := s2 : Addr }) 0 c2]
              1 true,
            Blk.cells ca 1 w1, Blk.cells cb 1 w2] =
        hp
          [Blk.cells
              [Value.slice (some { block := 1, off := o1, spot := s1 : Addr }) 0 c1,
                Value.slice (some { block := 2, off := o2, spot := s2 : Addr }) 0 c2]
              1 true,
            Blk.cells ca 1 w1, Blk.cells cb 1 w2] ∧
      True ∧
        True ∧
          FlatD [0]
              (hp
                [Blk.cells
                    [Value.slice (some { block := 1, off := o1, spot := s1 : Addr }) 0 c1,
                      Value.slice (some { block := 2, off := o2, spot := s2 : Addr }) 0 c2]
                    1 true,
                  Blk.cells ca 1 w1, Blk.cells cb 1 w2, Blk.cells [] 1 true]) ∧
            tmps 36
                  [(6, Value.slice (some { block := 3, off := 0, spot := some 1 : Addr }) 0 0),
                    (25, Value.slice (some { block := 0, off := 0, spot := sp : Addr }) 2 2),
                    (26, Value.int IntKind.i64 2), (27, Value.int IntKind.i64 0)] =
                tmps 36
                  [(6, Value.slice (some { block := 3, off := 0, spot := some 1 : Addr }) 0 0),
                    (25, Value.slice (some { block := 0, off := 0, spot := sp : Addr }) 2 2),
                    (26, Value.int IntKind.i64 2), (27, Value.int IntKind.i64 0)] ∧
              hp
                    [Blk.cells
                        [Value.slice (some { block := 1, off := o1, spot := s1 : Addr }) 0 c1,
                          Value.slice (some { block := 2, off := o2, spot := s2 : Addr }) 0 c2]
                        1 true,
                      Blk.cells ca 1 w1, Blk.cells cb 1 w2, Blk.cells [] 1 true] =
                  hp
                    [Blk.cells
                        [Value.slice (some { block := 1, off := o1, spot := s1 : Addr }) 0 c1,
                          Value.slice (some { block := 2, off := o2, spot := s2 : Addr }) 0 c2]
                        1 true,
                      Blk.cells ca 1 w1, Blk.cells cb 1 w2, Blk.cells [] 1 true] ∧
                K (Value.slice (some { block := 3, off := 0, spot := some 1 : Addr }) 0 0)
                  (hp
                    [Blk.cells
                        [Value.slice (some { block := 1, off := o1, spot := s1 : Addr }) 0 c1,
                          Value.slice (some { block := 2, off := o2, spot := s2 : Addr }) 0 c2]
                        1 true,
                      Blk.cells ca 1 w1, Blk.cells cb 1 w2, Blk.cells [] 1 true])) := by kernel_rfl

noncomputable def catC : CtrW where
  D := [0]
  W := []
  E := []
  pre := fun args blks => match args, blks with
    | [.slice (some ⟨0, 0, _⟩) 2 2], [.cells [.slice (some ⟨1,o1,_⟩) l1 c1, .slice (some ⟨2,o2,_⟩) l2 c2] 1 true, .cells ca 1 _, .cells cb 1 _] => IsI ca o1 l1 c1 ∧ IsI cb o2 l2 c2 ∧ Need (leN l1 1000) (Need (leN l2 1000) (Need (leN o1 ca.length) (Need (leN o2 cb.length) True)))
    | _, _ => False
  val := fun args blks => match args, blks with
    | [.slice (some ⟨0, 0, _⟩) 2 2], [.cells [.slice (some ⟨1,_,_⟩) l1 _, .slice (some ⟨2,_,_⟩) l2 _] 1 true, .cells _ 1 _, .cells _ 1 _] => .slice (some ⟨3,0,some 1⟩) (l1 + l2) (l1 + l2)
    | _, _ => undef
  out := fun args blks => match args, blks with
    | [.slice (some ⟨0, 0, _⟩) 2 2], [.cells [.slice (some ⟨1,o1,s1⟩) l1 c1, .slice (some ⟨2,o2,s2⟩) l2 c2] 1 true, .cells ca 1 w1, .cells cb 1 w2] => hC3 o1 o2 s1 s2 l1 c1 l2 c2 ca cb w1 w2 (eC (iE .i64) (intsAt ca o1 l1 ++ intsAt cb o2 l2))
    | _, b => b
theorem cat_says (hmix : Try.prog.follows .mixedOrders = true) : catC.Holds Try.prog 22 := by
  intro args blks hf hp
  simp only [catC] at hp ⊢
  split at hp
  · rename_i sp o1 s1 l1 c1 o2 s2 l2 c2 ca w1 cb w2
    obtain ⟨⟨a, rfl, hc1, hA⟩, ⟨b, rfl, hc2, hB⟩, hk⟩ := hp
    simp only [Alt_iff, Need_iff, ltI_eq, leI_eq, eqI_eq, leN_eq, eqN_eq, decide_eq_true_eq, decide_eq_false_iff_not, decide_true, decide_false, true_and, and_true, Bool.true_eq_false, Bool.false_eq_true, false_implies, true_implies, implies_true, not_true_eq_false, not_false_eq_true, Bool.not_eq_true', Bool.not_eq_false'] at hk
    obtain ⟨k1, k2, k3, k4⟩ := hk
    simp only [intsAt_eq hA, intsAt_eq hB]
    refine ⟨⟨rfl, rfl, rfl, trivial⟩, ⟨eC_flat flat_i _, trivial⟩, ?_⟩
    have hF : FlatD [0] (AM.hp (hC o1 o2 s1 s2 a.length c1 b.length c2 ca cb w1 w2)) := hC_flat hA.flat hB.flat
    have hF3 : ∀ l, FlatD [0] (AM.hp (hC3 o1 o2 s1 s2 a.length c1 b.length c2 ca cb w1 w2 (eC (iE .i64) l))) := fun l => hC3_flat hA.flat hB.flat (eC_flat flat_i _)
    by_cases h0 : a.length + b.length = 0
    · have ha0 : a = [] := List.length_eq_zero_iff.1 (by omega)
      have hb0 : b = [] := List.length_eq_zero_iff.1 (by omega)
      subst ha0 hb0
      have hL : Loops Try.prog body220 3 (cutLK [⟨[0,1,0,1,1], T220a sp 0 0, AM.hp (hC o1 o2 s1 s2 0 c1 0 c2 ca cb w1 w2), fun K => K (.exit 0) (tmps 36 [(0, .slice (some ⟨0,0,sp⟩) 2 2), (3, .int .i64 0)]) (AM.hp (hC o1 o2 s1 s2 0 c1 0 c2 ca cb w1 w2))⟩, ⟨[0,1,0,1,1,1,1], T220b sp (.slice (some ⟨3,0,some 1⟩) 0 0) 0, AM.hp (hC3 o1 o2 s1 s2 0 c1 0 c2 ca cb w1 w2 []), fun K => K (.exit 2) (tmps 36 [(6, .slice (some ⟨3,0,some 1⟩) 0 0)]) (AM.hp (hC3 o1 o2 s1 s2 0 c1 0 c2 ca cb w1 w2 []))⟩]) :=
        (Loops.none.more _ fun K hK => by
          show LSays Try.prog _ (sub body220 [0,0,1,0,1,1,1,1]) _ _ _
          exact cat_nil hmix hA.flat hB.flat k3 k4 K hK).more _ fun K hK => by
            show LSays Try.prog _ (sub body220 [0,0,1,0,1,1]) _ _ _
            exact cat_sizes hmix [] [] hA hB (by simp) (by simp) K hK
      refine (sure94z hmix).funX F220 body220 [0] [] Try.func22 rfl (hL.gcX (at0 [0]) (fun p => cond (eqN p.length 7) [.tmp 6 1] [])) ?_
      have := w220z sp o1 o2 s1 s2 c1 c2 ca cb w1 w2
      unfold hC hC3 at *
      simp only [List.length_nil]
      rw [this]
      exact ⟨hF, rfl, rfl, trivial, trivial, hF3 [], rfl, rfl, hF3 [], rfl, rfl, rfl⟩
    · have hL : Loops Try.prog body220 3 (cutLK [⟨[0,1,0,1,1], T220a sp 0 0, AM.hp (hC o1 o2 s1 s2 a.length c1 b.length c2 ca cb w1 w2), fun K => K (.exit 0) (tmps 36 [(0, .slice (some ⟨0,0,sp⟩) 2 2), (3, .int .i64 ((a.length + b.length : Nat) : Int))]) (AM.hp (hC o1 o2 s1 s2 a.length c1 b.length c2 ca cb w1 w2))⟩, ⟨[0,1,0,1,1,1,1], T220b sp (.slice (some ⟨3,0,some 3⟩) 0 (a.length + b.length)) 0, AM.hp (hC3 o1 o2 s1 s2 a.length c1 b.length c2 ca cb w1 w2 (eC (iE .i64) (List.replicate (a.length + b.length) 0))), fun K => K (.exit 2) (tmps 36 [(6, .slice (some ⟨3,0,some 3⟩) (a.length + b.length) (a.length + b.length))]) (AM.hp (hC3 o1 o2 s1 s2 a.length c1 b.length c2 ca cb w1 w2 (eC (iE .i64) (a ++ b))))⟩]) :=
        (Loops.none.more _ fun K hK => by
          show LSays Try.prog _ (sub body220 [0,0,1,0,1,1,1,1]) _ _ _
          exact cat_put hmix a b hA hB k1 k2 k3 k4 K hK).more _ fun K hK => by
            show LSays Try.prog _ (sub body220 [0,0,1,0,1,1]) _ _ _
            exact cat_sizes hmix a b hA hB k1 k2 K hK
      refine (sure94p hmix).funX F220 body220 [0] [.tmp 0 1] Try.func22 rfl (hL.gcX (at0 [0]) (at0 [])) ?_
      have := w220p sp (a.length + b.length) o1 o2 s1 s2 a.length c1 b.length c2 ca cb w1 w2 (eC (iE .i64) (a ++ b))
      unfold hC hC3 at *
      rw [this]
      simp only [Int.toNat_natCast, Alt_iff, Need_iff, ltI_eq, leI_eq, eqI_eq, leN_eq, eqN_eq, decide_eq_true_eq, decide_eq_false_iff_not, decide_true, decide_false, true_and, and_true, Bool.true_eq_false, Bool.false_eq_true, false_implies, true_implies, implies_true, not_true_eq_false, not_false_eq_true, Bool.not_eq_true', Bool.not_eq_false']
      and_intros <;> first | exact hF | exact hF3 _ | rfl | omega
  · exact hp.elim
noncomputable def S95 : Book := bookW [(22, catC)] (bookOf [(14, makeC)])
theorem sure95 (hmix : Try.prog.follows .mixedOrders = true) : Sure Try.prog S95 := ⟨hmix, plain, bookW_ok (l := [(22, catC)]) (bookOf_ok (l := [(14, makeC)]) ⟨make_says hmix, trivial⟩) ⟨cat_says hmix, trivial⟩⟩

theorem w208 (ca cb : List Value) (w1 w2 : Bool) (o1 o2 : Nat) (s1 s2 : Option Nat) (l1 c1 l2 c2 : Nat) (K : Value → Heap → Prop) :
  funX Try.prog S95 noLoop F208 body208 Try.f10 [] [] [.slice (some ⟨0,o1,s1⟩) l1 c1, .slice (some ⟨1,o2,s2⟩) l2 c2] (hp [.cells ca 1 w1, .cells cb 1 w2]) K = (
(nojL
        [Value.slice (some { block := 1, off := o1, spot := s1 : Addr }) l1 c1,
          Value.slice (some { block := 2, off := o2, spot := s2 : Addr }) l2 c2] =
      true ∧
    FlatL ca ∧ FlatL cb ∧ True) ∧
  (IsE (iE IntKind.i64) (ZP IntKind.i64) ca o1 l1 c1 ∧
      IsE (iE IntKind.i64) (ZP IntKind.i64) cb o2 l2 c2 ∧
        Need (leN l1 1000) (Need (leN l2 1000) (Need (leN o1 ca.length) (Need (leN o2 cb.length) True)))) ∧
    (FlatL (eC (iE IntKind.i64) (intsAt ca o1 l1 ++ intsAt cb o2 l2)) ∧ True) ∧
      (IsE (iE IntKind.i64) (ZP IntKind.i64) (eC (iE IntKind.i64) (intsAt ca o1 l1 ++ intsAt cb o2 l2)) 0 (l1 + l2)
            (l1 + l2) ∧
          Need (leN (l1 + l2) 1000000000) True) ∧
        K
          (Value.slice (some { block := 2, off := 0, spot := some 3 : Addr })
            (ddL (intsAt (eC (iE IntKind.i64) (intsAt ca o1 l1 ++ intsAt cb o2 l2)) 0 (l1 + l2))).length (l1 + l2))
          (hp
            [Blk.cells ca 1 w1, Blk.cells cb 1 w2,
              Blk.cells (mkC (intsAt (eC (iE IntKind.i64) (intsAt ca o1 l1 ++ intsAt cb o2 l2)) 0 (l1 + l2))) 1 true])) := by kernel_rfl

noncomputable def orC : Ctr where
  pre := fun args blks => match args, blks with
    | [.slice (some ⟨0, o1, _⟩) l1 c1, .slice (some ⟨1, o2, _⟩) l2 c2], [.cells ca 1 _, .cells cb 1 _] => IsI ca o1 l1 c1 ∧ IsI cb o2 l2 c2 ∧ Need (leN l1 1000) (Need (leN l2 1000) (Need (leN o1 ca.length) (Need (leN o2 cb.length) True)))
    | _, _ => False
  val := fun args blks => match args, blks with
    | [.slice (some ⟨0, o1, _⟩) l1 _, .slice (some ⟨1, o2, _⟩) l2 _], [.cells ca 1 _, .cells cb 1 _] => .slice (some ⟨2,0,some 3⟩) (ddL (intsAt ca o1 l1 ++ intsAt cb o2 l2)).length (l1 + l2)
    | _, _ => undef
  new := fun args blks => match args, blks with
    | [.slice (some ⟨0, o1, _⟩) l1 _, .slice (some ⟨1, o2, _⟩) l2 _], [.cells ca 1 _, .cells cb 1 _] => [.cells (mkC (intsAt ca o1 l1 ++ intsAt cb o2 l2)) 1 true]
    | _, _ => []
theorem own_is {l : List Int} (hz : ∀ x ∈ l, ZP .i64 x) (hl : l.length ≤ 1000000) : ISl (eC (iE .i64) l) 0 l ∧ IsI (eC (iE .i64) l) 0 l.length l.length := by
  have hb : ISl (eC (iE .i64) l) 0 l := ESl.own flat_i hz (by omega)
  exact ⟨hb, .mk _ rfl (Nat.le_refl _) hb⟩
theorem or_says (hmix : Try.prog.follows .mixedOrders = true) : orC.Holds Try.prog 10 := by
  intro args blks hf hp
  simp only [orC] at hp ⊢
  split at hp
  · rename_i o1 s1 l1 c1 o2 s2 l2 c2 ca w1 cb w2
    obtain ⟨⟨a, rfl, hc1, hA⟩, ⟨b, rfl, hc2, hB⟩, hk⟩ := hp
    have hk' := hk
    simp only [Alt_iff, Need_iff, ltI_eq, leI_eq, eqI_eq, leN_eq, eqN_eq, decide_eq_true_eq, decide_eq_false_iff_not, decide_true, decide_false, true_and, and_true, Bool.true_eq_false, Bool.false_eq_true, false_implies, true_implies, implies_true, not_true_eq_false, not_false_eq_true, Bool.not_eq_true', Bool.not_eq_false'] at hk
    obtain ⟨k1, k2, k3, k4⟩ := hk
    simp only [intsAt_eq hA, intsAt_eq hB]
    refine ⟨⟨eC_flat flat_i _, trivial⟩, ?_⟩
    have hz : ∀ x ∈ a ++ b, ZP .i64 x := fun x hx => (List.mem_append.1 hx).elim (hA.ok x) (hB.ok x)
    obtain ⟨m1, m2⟩ := own_is hz (by simp; omega)
    rw [List.length_append] at m2
    have m3 := intsAt_eq m1
    rw [List.length_append] at m3
    refine (sure95 hmix).funX F208 body208 [] [] Try.func10 rfl noLoops ?_
    rw [w208]
    simp only [intsAt_eq hA, intsAt_eq hB, m3]
    refine ⟨⟨by rfl, hA.flat, hB.flat, trivial⟩, ⟨.mk a rfl hc1 hA, .mk b rfl hc2 hB, hk'⟩, ⟨eC_flat flat_i _, trivial⟩, ⟨m2, Need_iff.2 ⟨leN_iff.2 (by omega), trivial⟩⟩, ?_⟩
    and_intros <;> first | exact FlatD.hp ⟨hA.flat, hB.flat, eC_flat flat_i _, trivial⟩ | rfl | trivial
  · exact hp.elim
end Go.Proofs.Ytkigkmjmbegmhaa
