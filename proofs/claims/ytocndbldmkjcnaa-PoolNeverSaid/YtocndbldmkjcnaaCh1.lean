/- Proved: what functions of the program come to, by their conditions over the abstract machine. Conditions: those that each theorem states. -/
import Derived.Test.YtocndbldmkjcnaaAm5
import Derived.Test.YtocndbldmkjcnaaProg
import Derived.WalkKit
import Derived.ProofKit
import Derived.Laws.BitsLemmas
import Derived.Shelf.Sort.Plain
import Derived.Shelf.Slices.In.SortNone
import Derived.Shelf.Slices.CompactI
import Derived.Lib.RowBridge
set_option linter.unusedVariables false
set_option linter.unusedSimpArgs false
namespace Go.Proofs.Ytocndbldmkjcnaa
open Go.RowKit Go.Proofs.Ytocndbldmkjcnaa.AM
set_option maxRecDepth 100000
set_option maxHeartbeats 4000000
noncomputable def S0 : Book := fun _ => none
theorem named : (Try.prog.funcs.toList.all fun fn => !(fn.name == "runtime.NumGoroutine")) = true := by decide +kernel
theorem plain : Plain Try.prog := fun f fn hf _ hn => by
  have h1 := List.all_eq_true.1 named fn (by simpa using Array.mem_of_getElem? hf)
  rw [hn] at h1
  exact absurd h1 (by decide)
theorem sums0 : SumsOk Try.prog S0.sums := fun f s hs => by cases hs
theorem sure0 (hmix : Try.prog.follows .mixedOrders = true) : Sure Try.prog S0 := ⟨hmix, plain, sums0⟩
noncomputable def body207 : Code := (Try.f13.body).getD .skip
def F207 : List Nat → Option (List Nat) := fun p => match p with
  | [1] => some [0, 1]
  | [1, 0, 1] => some [0, 1, 10]
  | [1, 0, 1, 0, 1] => some [4]
  | [1, 1] => some [0, 1]
  | [1, 0, 1, 1] => some [0, 1, 5]
  | [1, 0, 0, 0, 1, 0, 1, 1] => some [0, 1, 5, 14]
  | [1, 1, 0, 0, 0, 1, 0, 1, 1] => some []
  | [1, 0, 0, 1, 0, 1, 1] => some [0, 1, 5]
  | [1, 0, 0, 1, 0, 0, 1, 0, 1, 1] => some [0, 1, 5, 25]
  | [1, 0, 1, 0, 0, 1, 0, 0, 1, 0, 1, 1] => some [4]
  | [1, 1, 0, 0, 1, 0, 1, 1] => some [0, 1, 5]
  | [1, 1, 1] => some []
  | [1, 1, 1, 1] => some [4]
  | _ => none
noncomputable def body209 : Code := (Try.f17.body).getD .skip
def F209 : List Nat → Option (List Nat) := fun p => match p with
  | [1] => some [0]
  | [1, 0, 1] => some [0, 3]
  | [1, 0, 0, 0, 1, 0, 1] => some [0, 3, 7]
  | [1, 1, 0, 0, 0, 1, 0, 1] => some []
  | [1, 0, 0, 1, 0, 1] => some [0, 3]
  | [1, 0, 0, 1, 0, 0, 1, 0, 1] => some [0, 3, 19]
  | [1, 0, 1, 0, 0, 1, 0, 0, 1, 0, 1] => some [2]
  | [1, 1, 0, 0, 1, 0, 1] => some [0, 3]
  | [1, 1] => some []
  | [1, 1, 1] => some [2]
  | _ => none
noncomputable def body210 : Code := (Try.f16.body).getD .skip
def F210 : List Nat → Option (List Nat) := fun p => match p with
  | [1] => some [0, 1]
  | [1, 1] => some [4]
  | _ => none
noncomputable def body213 : Code := (Try.f11.body).getD .skip
def F213 : List Nat → Option (List Nat) := fun p => match p with
  | [1] => some [0, 1]
  | [1, 0, 1] => some [0, 1, 5]
  | [1, 0, 0, 0, 1, 0, 1] => some [0, 1, 5, 9]
  | [1, 1, 0, 0, 0, 1, 0, 1] => some []
  | [1, 0, 0, 1, 0, 1] => some [0, 1, 5]
  | [1, 0, 0, 1, 0, 0, 1, 0, 1] => some [0, 1, 5, 17]
  | [1, 0, 1, 0, 0, 1, 0, 0, 1, 0, 1] => some [4]
  | [1, 1, 0, 0, 1, 0, 1] => some [0, 1, 5]
  | [1, 1] => some []
  | [1, 1, 1] => some [4]
  | _ => none
noncomputable def body221 : Code := (Try.f22.body).getD .skip
def F221 : List Nat → Option (List Nat) := fun p => match p with
  | [1] => some [0, 1]
  | [1, 1] => some [4]
  | _ => none
noncomputable def body229 : Code := (Try.f27.body).getD .skip
def F229 : List Nat → Option (List Nat) := fun p => match p with
  | [1] => some [0, 1]
  | [1, 0, 1] => some [0, 1, 7, 8]
  | [1, 0, 0, 1, 0, 1] => some [0, 1, 7, 8, 9]
  | [1, 0, 1, 0, 0, 1, 0, 1] => some []
  | [1, 1, 0, 0, 1, 0, 1] => some [0, 1, 7, 8]
  | [1, 0, 0, 1, 1, 0, 0, 1, 0, 1] => some [0, 1, 5, 7, 8]
  | [1, 1, 0, 0, 1, 1, 0, 0, 1, 0, 1] => some [0, 1, 5, 7, 8, 16]
  | [1, 0, 1, 1, 0, 0, 1, 1, 0, 0, 1, 0, 1] => some [4]
  | [1, 1, 1, 0, 0, 1, 0, 1] => some [0, 1, 7, 8]
  | [1, 1] => some []
  | [1, 1, 1] => some [4]
  | _ => none
noncomputable def trueC : Ctr where
  pre := fun args blks => match args, blks with
    | [], [] => True
    | _, _ => False
  val := fun _ _ => .bool true
  new := fun _ _ => []
theorem trueC_of {f : FuncId} (hs : FunSays Try.prog f [] (hp []) fun v h' => v = .bool true ∧ h' = hp []) : trueC.Holds Try.prog f := by
  intro args blks hf hp
  refine ⟨trivial, ?_⟩
  simp only [trueC] at hp ⊢
  split at hp
  · exact hs
  · exact hp.elim
/-! ### rows of numbers -/
abbrev ISl (cs : List Value) (o : Nat) (l : List Int) : Prop := ESl (iE .i64) (ZP .i64) cs o l
abbrev IsI (cs : List Value) (o len cap : Nat) : Prop := IsE (iE .i64) (ZP .i64) cs o len cap
noncomputable def intsAt (cs : List Value) (o len : Nat) : List Int := elAt intV cs o len
theorem intsAt_eq {cs : List Value} {o : Nat} {l : List Int} (h : ISl cs o l) : intsAt cs o l.length = l := ESl.elAt h fun _ => rfl
def hasL (n : Int) : List Int → Bool
  | [] => false
  | x :: t => if eqI x n then true else hasL n t
theorem hasL_iff {n : Int} : ∀ {l : List Int}, hasL n l = true ↔ n ∈ l := by
  intro l
  induction l with
  | nil => simp [hasL]
  | cons x t ih =>
    unfold hasL
    by_cases h : eqI x n = true
    · rw [if_pos h]; simp [eqI_iff.1 h]
    · rw [if_neg h, ih]
      have : ¬ n = x := fun hh => h (eqI_iff.2 hh.symm)
      simp [this]
def idxL (n : Int) : Nat → List Int → Int
  | _, [] => -1
  | i, x :: t => if eqI x n then (i : Int) else idxL n (i + 1) t
theorem idxL_has (n : Int) : ∀ (l : List Int) (i : Nat), (idxL n i l = -1 ∧ hasL n l = false) ∨ (0 ≤ idxL n i l ∧ hasL n l = true) := by
  intro l
  induction l with
  | nil => intro i; exact .inl ⟨rfl, rfl⟩
  | cons x t ih =>
    intro i
    unfold idxL hasL
    by_cases h : eqI x n = true
    · rw [if_pos h, if_pos h]; exact .inr ⟨by omega, rfl⟩
    · rw [if_neg h, if_neg h]; exact ih (i + 1)
def allI : List Int → List Int → Bool
  | [], _ => true
  | x :: a, y :: b => eqI x y && allI a b
  | _, [] => false
def sameI (a b : List Int) : Bool := decide (a.length = b.length) && allI a b
theorem allI_iff : ∀ {a b : List Int}, a.length = b.length → (allI a b = true ↔ a = b) := by
  intro a
  induction a with
  | nil => intro b h; cases b with
    | nil => simp [allI]
    | cons => simp at h
  | cons x a ih =>
    intro b h
    cases b with
    | nil => simp at h
    | cons y b => simp only [allI, Bool.and_eq_true, ih (by simpa using h), eqI_iff, List.cons.injEq]
theorem sameI_iff {a b : List Int} : sameI a b = true ↔ a = b := by
  unfold sameI
  rw [Bool.and_eq_true, decide_eq_true_iff]
  exact ⟨fun ⟨h1, h2⟩ => (allI_iff h1).1 h2, fun h => by subst h; exact ⟨rfl, (allI_iff rfl).2 rfl⟩⟩
/-- rising behind what stands ahead -/
def upF : Option Int → List Int → Bool
  | _, [] => true
  | none, x :: t => upF (some x) t
  | some p, x :: t => if leI x p then false else upF (some x) t
def upI (l : List Int) : Bool := upF none l
def prevI (l : List Int) (i : Nat) : Option Int := if i = 0 then none else l[i - 1]?
theorem upF_iff : ∀ (l : List Int) (p : Option Int), upF p l = true ↔ l.Pairwise (fun x y => x < y) ∧ ∀ q, p = some q → ∀ x ∈ l, q < x := by
  intro l
  induction l with
  | nil => intro p; cases p <;> simp [upF]
  | cons x t ih =>
    intro p
    cases p with
    | none =>
      rw [upF, ih, List.pairwise_cons]
      exact ⟨fun ⟨h1, h2⟩ => ⟨⟨h2 x rfl, h1⟩, fun q hq => by cases hq⟩, fun ⟨⟨h1, h2⟩, _⟩ => ⟨h2, fun q hq => by injection hq with hq; subst hq; exact h1⟩⟩
    | some p =>
      rw [upF]
      by_cases h : leI x p = true
      · rw [if_pos h]
        have h := leI_iff.1 h
        refine ⟨fun hh => (by cases hh), fun ⟨_, h2⟩ => ?_⟩
        have := h2 p rfl x List.mem_cons_self
        omega
      · rw [if_neg h, ih, List.pairwise_cons]
        have h : p < x := by
          by_cases q : x ≤ p
          · exact absurd (leI_iff.2 q) h
          · omega
        refine ⟨fun ⟨h1, h2⟩ => ⟨⟨h2 x rfl, h1⟩, fun q hq y hy => ?_⟩, fun ⟨⟨h1, h2⟩, _⟩ => ⟨h2, fun q hq => by injection hq with hq; subst hq; exact h1⟩⟩
        injection hq with hq; subst hq
        rcases List.mem_cons.1 hy with rfl | hy
        · exact h
        · have := h2 x rfl y hy; omega
theorem upI_iff {l : List Int} : upI l = true ↔ l.Pairwise (fun x y => x < y) := by
  unfold upI; rw [upF_iff]; exact ⟨fun h => h.1, fun h => ⟨h, fun q hq => by cases hq⟩⟩
/-! ### contracts: of one row, of two -/
noncomputable def rowQ (ok : List Value → Prop) (g : List Int → List Value → Value) : Ctr where
  pre := fun args blks => match args, blks with
    | .slice (some ⟨0, o, _⟩) len cap :: xs, [.cells cs 1 _] => IsI cs o len cap ∧ ok xs
    | _, _ => False
  val := fun args blks => match args, blks with
    | .slice (some ⟨0, o, _⟩) len _ :: xs, [.cells cs 1 _] => g (intsAt cs o len) xs
    | _, _ => undef
  new := fun _ _ => []
theorem rowQ_of {ok : List Value → Prop} {g : List Int → List Value → Value} {f : FuncId}
    (h : ∀ (l : List Int) (cs : List Value) (own : Bool) (o : Nat) (sp : Option Nat) (cap : Nat) (xs : List Value), l.length ≤ cap → ISl cs o l → ok xs →
      FunSays Try.prog f (.slice (some ⟨0,o,sp⟩) l.length cap :: xs) (hp [.cells cs 1 own]) fun v h' => v = g l xs ∧ h' = hp [.cells cs 1 own]) : (rowQ ok g).Holds Try.prog f := by
  intro args blks hf hp
  refine ⟨trivial, ?_⟩
  simp only [rowQ] at hp ⊢
  split at hp
  · rename_i o sp len cap xs cs own
    obtain ⟨⟨l, rfl, hc, hB⟩, hk⟩ := hp
    simp only [intsAt_eq hB]
    exact h l cs own o sp cap xs hc hB hk
  · exact hp.elim
inductive IsN : List Value → Prop
  | mk (n : Int) (h : ZP .i64 n) : IsN [.int .i64 n]
inductive IsO : List Value → Prop
  | mk : IsO []
noncomputable def hasG (l : List Int) (xs : List Value) : Value := match xs with
  | [.int .i64 n] => .bool (hasL n l)
  | _ => undef
noncomputable def hasC : Ctr := rowQ IsN hasG
noncomputable def idxG (l : List Int) (xs : List Value) : Value := match xs with
  | [.int .i64 n] => .int .i64 (idxL n 0 l)
  | _ => undef
noncomputable def idxC : Ctr := rowQ IsN idxG
noncomputable def isC : Ctr := rowQ IsO fun l _ => .bool (upI l)
noncomputable def T213 (o : Nat) (sp : Option Nat) (len cap i : Nat) (n : Int) : List Value := tmps 18 [(0, .slice (some ⟨0,o,sp⟩) len cap), (1, .int .i64 n), (5, .int .i64 i)]
noncomputable def T209 (o : Nat) (sp : Option Nat) (len cap i : Nat) : List Value := tmps 20 [(0, .slice (some ⟨0,o,sp⟩) len cap), (3, .int .i64 i)]
noncomputable def T229 (o : Nat) (sp : Option Nat) (len cap i : Nat) (n : Int) : List Value := tmps 19 [(0, .slice (some ⟨0,o,sp⟩) len cap), (1, .int .i64 n), (7, .int .i64 len), (8, .int .i64 i)]
noncomputable def T207 (a b : Value) (i : Nat) : List Value := tmps 26 [(0, a), (1, b), (5, .int .i64 i)]

theorem r213 (cs : List Value) (own : Bool) (o : Nat) (sp : Option Nat) (len cap i : Nat) (n : Int) (K : Post) :
  roundX Try.prog S0 noLoop F213 body213 1 [] [] [] [] [0,1,5] [0,0,1,0,1] (T213 o sp len cap i n) (hp [.cells cs 1 own]) K = (
Alt (ltI (↑i : Int) (↑len : Int))
  (Need (ltI (↑i : Int) (↑len : Int))
    (Need (isInt IntKind.i64 ((getO cs (o + (↑i : Int).toNat * 1)).getD undef))
      (Alt (eqI (intV ((getO cs (o + (↑i : Int).toNat * 1)).getD undef)) n)
        (K AE.ret (tmps 18 [(4, Value.bool true)]) (hp [Blk.cells cs 1 own]))
        (K AE.normal
          (tmps 18
            [(0, Value.slice (some { block := 0, off := o, spot := sp : Addr }) len cap), (1, Value.int IntKind.i64 n),
              (5, Value.int IntKind.i64 (wr IntKind.i64 ((↑i : Int) + 1)))])
          (hp [Blk.cells cs 1 own])))))
  (K (AE.exit 0) (tmps 18 []) (hp [Blk.cells cs 1 own]))) := by kernel_rfl

theorem r209 (cs : List Value) (own : Bool) (o : Nat) (sp : Option Nat) (len cap i : Nat) (K : Post) :
  roundX Try.prog S0 noLoop F209 body209 1 [] [] [] [] [0,3] [0,0,1,0,1] (T209 o sp len cap i) (hp [.cells cs 1 own]) K = (
Alt (ltI (↑i : Int) (↑len : Int))
  (Need (ltI (↑i : Int) (↑len : Int))
    (Need (isInt IntKind.i64 ((getO cs (o + (↑i : Int).toNat * 1)).getD undef))
      (Need (leI 0 (wr IntKind.i64 ((↑i : Int) - 1)))
        (Need (ltI (wr IntKind.i64 ((↑i : Int) - 1)) (↑len : Int))
          (Need (isInt IntKind.i64 ((getO cs (o + (wr IntKind.i64 ((↑i : Int) - 1)).toNat * 1)).getD undef))
            (Alt
              (leI (intV ((getO cs (o + (↑i : Int).toNat * 1)).getD undef))
                (intV ((getO cs (o + (wr IntKind.i64 ((↑i : Int) - 1)).toNat * 1)).getD undef)))
              (K AE.ret (tmps 20 [(2, Value.bool false)]) (hp [Blk.cells cs 1 own]))
              (K AE.normal
                (tmps 20
                  [(0, Value.slice (some { block := 0, off := o, spot := sp : Addr }) len cap),
                    (3, Value.int IntKind.i64 (wr IntKind.i64 ((↑i : Int) + 1)))])
                (hp [Blk.cells cs 1 own]))))))))
  (K (AE.exit 0) (tmps 20 []) (hp [Blk.cells cs 1 own]))) := by kernel_rfl

theorem r229 (cs : List Value) (own : Bool) (o : Nat) (sp : Option Nat) (len cap i : Nat) (n : Int) (K : Post) :
  roundX Try.prog S0 noLoop F229 body229 1 [] [] [] [] [0,1,7,8] [0,0,1,0,1] (T229 o sp len cap i n) (hp [.cells cs 1 own]) K = (
Alt (ltI (↑i : Int) (↑len : Int))
  (Need (ltI (↑i : Int) (↑len : Int))
    (Need (isInt IntKind.i64 ((getO cs (o + (↑i : Int).toNat * 1)).getD undef))
      (Alt (eqI n (intV ((getO cs (o + (↑i : Int).toNat * 1)).getD undef)))
        (K AE.ret (tmps 19 [(4, Value.int IntKind.i64 (↑i : Int))]) (hp [Blk.cells cs 1 own]))
        (K AE.normal
          (tmps 19
            [(0, Value.slice (some { block := 0, off := o, spot := sp : Addr }) len cap), (1, Value.int IntKind.i64 n),
              (7, Value.int IntKind.i64 (↑len : Int)), (8, Value.int IntKind.i64 (wr IntKind.i64 ((↑i : Int) + 1)))])
          (hp [Blk.cells cs 1 own])))))
  (K (AE.exit 0) (tmps 19 []) (hp [Blk.cells cs 1 own]))) := by kernel_rfl

theorem r207 (ca cb : List Value) (own own2 : Bool) (o o2 : Nat) (sp s2 : Option Nat) (len cap len2 cap2 i : Nat) (K : Post) :
  roundX Try.prog S0 noLoop F207 body207 2 [] [] [] [] [0,1,5] [0,0,1,0,1,1] (T207 (.slice (some ⟨0,o,sp⟩) len cap) (.slice (some ⟨1,o2,s2⟩) len2 cap2) i) (hp [.cells ca 1 own, .cells cb 1 own2]) K = (
Alt (ltI (↑i : Int) (↑len : Int))
  (Need (ltI (↑i : Int) (↑len : Int))
    (Need (isInt IntKind.i64 ((getO ca (o + (↑i : Int).toNat * 1)).getD undef))
      (Need (ltI (↑i : Int) (↑len2 : Int))
        (Need (isInt IntKind.i64 ((getO cb (o2 + (↑i : Int).toNat * 1)).getD undef))
          (Alt
            (!eqI (intV ((getO ca (o + (↑i : Int).toNat * 1)).getD undef))
                (intV ((getO cb (o2 + (↑i : Int).toNat * 1)).getD undef)))
            (K AE.ret (tmps 26 [(4, Value.bool false)]) (hp [Blk.cells ca 1 own, Blk.cells cb 1 own2]))
            (K AE.normal
              (tmps 26
                [(0, Value.slice (some { block := 0, off := o, spot := sp : Addr }) len cap),
                  (1, Value.slice (some { block := 1, off := o2, spot := s2 : Addr }) len2 cap2),
                  (5, Value.int IntKind.i64 (wr IntKind.i64 ((↑i : Int) + 1)))])
              (hp [Blk.cells ca 1 own, Blk.cells cb 1 own2])))))))
  (K (AE.exit 0) (tmps 26 []) (hp [Blk.cells ca 1 own, Blk.cells cb 1 own2]))) := by kernel_rfl

end Go.Proofs.Ytocndbldmkjcnaa

namespace Go.Proofs.Ytocndbldmkjcnaa
open Go.Shelf
def lays189_ren : Go.Shelf.Ren := ⟨fun | 189 => 35 | 125 => 38 | 257 => 37 | 128 => 47 | 129 => 48 | 294 => 39 | 295 => 40 | 296 => 41 | 297 => 42 | 298 => 43 | 299 => 44 | 216 => 25 | 300 => 45 | 301 => 46 | 328 => 49 | 329 => 50 | 330 => 51 | 331 => 52 | 332 => 53 | 215 => 30 | 343 => 54 | n => n, fun | 28 => 30 | 3 => 3 | 46 => 47 | 0 => 0 | 51 => 63 | 53 => 65 | 4 => 4 | 183 => 57 | 182 => 56 | 131 => 24 | 5 => 5 | 9 => 9 | 218 => 66 | 222 => 70 | 228 => 72 | 229 => 73 | n => n, fun | n => n⟩
theorem lays189 : Go.Proofs.Lays.n189 Try.prog lays189_ren := {
  mixed := by kernel_rfl
  f125 := Try.func38.trans (congrArg some (by kernel_rfl))
  f128 := Try.func47.trans (congrArg some (by kernel_rfl))
  f129 := Try.func48.trans (congrArg some (by kernel_rfl))
  f189 := Try.func35.trans (congrArg some (by kernel_rfl))
  f215 := Try.func30.trans (congrArg some (by kernel_rfl))
  f216 := Try.func25.trans (congrArg some (by kernel_rfl))
  f257 := Try.func37.trans (congrArg some (by kernel_rfl))
  f294 := Try.func39.trans (congrArg some (by kernel_rfl))
  f295 := Try.func40.trans (congrArg some (by kernel_rfl))
  f296 := Try.func41.trans (congrArg some (by kernel_rfl))
  f297 := Try.func42.trans (congrArg some (by kernel_rfl))
  f298 := Try.func43.trans (congrArg some (by kernel_rfl))
  f299 := Try.func44.trans (congrArg some (by kernel_rfl))
  f300 := Try.func45.trans (congrArg some (by kernel_rfl))
  f301 := Try.func46.trans (congrArg some (by kernel_rfl))
  f328 := Try.func49.trans (congrArg some (by kernel_rfl))
  f329 := Try.func50.trans (congrArg some (by kernel_rfl))
  f330 := Try.func51.trans (congrArg some (by kernel_rfl))
  f331 := Try.func52.trans (congrArg some (by kernel_rfl))
  f332 := Try.func53.trans (congrArg some (by kernel_rfl))
  f343 := Try.func54.trans (congrArg some (by kernel_rfl))
  t0 := Try.underlying0
  a0 := Try.isAgg0
  z0 := Try.sizeOf0
  v0 := Try.zeroValue0
  t3 := Try.underlying3
  a3 := Try.isAgg3
  z3 := Try.sizeOf3
  v3 := Try.zeroValue3
  t4 := Try.underlying4
  a4 := Try.isAgg4
  z4 := Try.sizeOf4
  v4 := Try.zeroValue4
  t5 := Try.underlying5
  a5 := Try.isAgg5
  z5 := Try.sizeOf5
  v5 := Try.zeroValue5
  t9 := Try.underlying9
  a9 := Try.isAgg9
  z9 := Try.sizeOf9
  v9 := Try.zeroValue9
  t28 := Try.underlying30
  a28 := Try.isAgg30
  z28 := Try.sizeOf30
  v28 := Try.zeroValue30
  t46 := Try.underlying47
  a46 := Try.isAgg47
  z46 := Try.sizeOf47
  v46 := Try.zeroValue47
  t51 := Try.underlying63
  a51 := Try.isAgg63
  z51 := Try.sizeOf63
  v51 := Try.zeroValue63
  t53 := Try.underlying65
  a53 := Try.isAgg65
  z53 := Try.sizeOf65
  v53 := Try.zeroValue65
  t131 := Try.underlying24
  a131 := Try.isAgg24
  z131 := Try.sizeOf24
  v131 := Try.zeroValue24
  t182 := Try.underlying56
  a182 := Try.isAgg56
  z182 := Try.sizeOf56
  v182 := Try.zeroValue56
  t183 := Try.underlying57
  a183 := Try.isAgg57
  z183 := Try.sizeOf57
  v183 := Try.zeroValue57
  t218 := Try.underlying66
  a218 := Try.isAgg66
  z218 := Try.sizeOf66
  v218 := Try.zeroValue66
  t222 := Try.underlying70
  a222 := Try.isAgg70
  z222 := Try.sizeOf70
  v222 := Try.zeroValue70
  t228 := Try.underlying72
  a228 := Try.isAgg72
  z228 := Try.sizeOf72
  v228 := Try.zeroValue72
  t229 := Try.underlying73
  a229 := Try.isAgg73
  z229 := Try.sizeOf73
  v229 := Try.zeroValue73 }
open Go.Sort Go.RowKit in
theorem slices_Sort_int (blk off cap : Nat) (zs : List Int) (w : World) (hH : Holds (Value.int .i64) w blk off zs.toArray) (hblk : blk < w.heap.size) (hsz : zs.length < 4611686018427387904) :
    Calls Try.prog 35 #[.slice (some ⟨blk, off, none⟩) zs.length cap] w fun e w' =>
      e = .returned (.tuple #[]) ∧ ∃ n os, w' = grow (putRow (Value.int .i64) (Sort.ahead w n) blk off (zs.mergeSort fun x y => decide (x ≤ y)).toArray) os := Any.slices_Sort_int lays189 blk off cap zs w hH hblk hsz
def laysNm220_ren : Go.Shelf.Ren := ⟨fun | 20 => 36 | n => n, fun | 22 => 30 | 3 => 3 | 4 => 4 | 0 => 0 | n => n, fun | n => n⟩
theorem laysNm220 : Go.Proofs.Lays2.n20 Try.prog laysNm220_ren := {
  mixed := by kernel_rfl
  f20 := Try.func36.trans (congrArg some (by kernel_rfl))
  t0 := Try.underlying0
  a0 := Try.isAgg0
  z0 := Try.sizeOf0
  v0 := Try.zeroValue0
  t3 := Try.underlying3
  a3 := Try.isAgg3
  z3 := Try.sizeOf3
  v3 := Try.zeroValue3
  t4 := Try.underlying4
  a4 := Try.isAgg4
  z4 := Try.sizeOf4
  v4 := Try.zeroValue4
  t22 := Try.underlying30
  a22 := Try.isAgg30
  z22 := Try.sizeOf30
  v22 := Try.zeroValue30
  i3 := by kernel_rfl }
open Go.RowKit Go.Lib Go.Sort in
theorem slices_Compact_int (blk off cap : Nat) (zs : List Int) (w : World) (hH : Holds (Value.int .i64) w blk off zs.toArray) (hsz : zs.length ≤ 9223372036854775807) (hcap : zs.length ≤ cap) :
    Calls Try.prog 36 #[.slice (some ⟨blk, off, none⟩) zs.length cap] w fun e w' => e = .returned (.slice (some ⟨blk, off, none⟩) (Lib.compact zs).length cap) ∧ ∃ q, w' = putRow (Value.int .i64) (Sort.ahead w q) blk off (Lib.compact zs ++ List.replicate (zs.length - (Lib.compact zs).length) 0).toArray := Any.slices_Compact_int laysNm220 blk off cap zs w hH hsz hcap
open Go.RowKit Go.Lib Go.Sort in
theorem slices_Compact_int_empty (a : Option Addr) (cap : Nat) (w : World) :
    Calls Try.prog 36 #[.slice a 0 cap] w fun e w' => e = .returned (.slice a 0 cap) ∧ w' = w := Any.slices_Compact_int_empty laysNm220 a cap w
open Go.RowKit Go.Sort in
theorem slices_Sort_int_none (p : Option Addr) (cap : Nat) (w : World) :
    Calls Try.prog 35 #[.slice p 0 cap] w fun e w' => e = .returned (.tuple #[]) ∧ w' = w := Any.slices_Sort_int_none lays189 p cap w
end Go.Proofs.Ytocndbldmkjcnaa

namespace Go.Proofs.Ytocndbldmkjcnaa
open Go.RowKit Go.Proofs.Ytocndbldmkjcnaa.AM
set_option maxRecDepth 100000
set_option maxHeartbeats 4000000

theorem w213 (cs : List Value) (own : Bool) (o : Nat) (sp : Option Nat) (len cap : Nat) (n : Int) (ok : Bool) (K : Value → Heap → Prop) :
  funX Try.prog S0 (gcLKX (at0 []) (at0 []) 1 (cutLK [⟨[0,1,0,1], T213 o sp len cap 0 n, hp [.cells cs 1 own], fun K => Alt ok (K .ret (tmps 18 [(4, .bool true)]) (hp [.cells cs 1 own])) (K (.exit 0) (tmps 18 []) (hp [.cells cs 1 own]))⟩])) F213 body213 Try.f11 [] [] [.slice (some ⟨0,o,sp⟩) len cap, .int .i64 n] (hp [.cells cs 1 own]) K = (
FlatD [] (hp [Blk.cells cs 1 own]) ∧
  tmps 18
        [(0, Value.slice (some { block := 0, off := o, spot := sp : Addr }) len cap), (1, Value.int IntKind.i64 n),
          (5, Value.int IntKind.i64 0)] =
      tmps 18
        [(0, Value.slice (some { block := 0, off := o, spot := sp : Addr }) len cap), (1, Value.int IntKind.i64 n),
          (5, Value.int IntKind.i64 0)] ∧
    hp [Blk.cells cs 1 own] = hp [Blk.cells cs 1 own] ∧
      Alt ok (K (Value.bool true) (hp [Blk.cells cs 1 own])) (K (Value.bool false) (hp [Blk.cells cs 1 own]))) := by kernel_rfl

theorem w209 (cs : List Value) (own : Bool) (o : Nat) (sp : Option Nat) (len cap : Nat) (ok : Bool) (K : Value → Heap → Prop) :
  funX Try.prog S0 (gcLKX (at0 []) (at0 []) 1 (cutLK [⟨[0,1,0,1], T209 o sp len cap 1, hp [.cells cs 1 own], fun K => Alt ok (K (.exit 0) (tmps 20 []) (hp [.cells cs 1 own])) (K .ret (tmps 20 [(2, .bool false)]) (hp [.cells cs 1 own]))⟩])) F209 body209 Try.f17 [] [] [.slice (some ⟨0,o,sp⟩) len cap] (hp [.cells cs 1 own]) K = (
FlatD [] (hp [Blk.cells cs 1 own]) ∧
  tmps 20 [(0, Value.slice (some { block := 0, off := o, spot := sp : Addr }) len cap), (3, Value.int IntKind.i64 1)] =
      tmps 20
        [(0, Value.slice (some { block := 0, off := o, spot := sp : Addr }) len cap), (3, Value.int IntKind.i64 1)] ∧
    hp [Blk.cells cs 1 own] = hp [Blk.cells cs 1 own] ∧
      Alt ok (K (Value.bool true) (hp [Blk.cells cs 1 own])) (K (Value.bool false) (hp [Blk.cells cs 1 own]))) := by kernel_rfl

theorem w229 (cs : List Value) (own : Bool) (o : Nat) (sp : Option Nat) (len cap : Nat) (n r : Int) (ok : Bool) (K : Value → Heap → Prop) :
  funX Try.prog S0 (gcLKX (at0 []) (at0 []) 1 (cutLK [⟨[0,1,0,1], T229 o sp len cap 0 n, hp [.cells cs 1 own], fun K => Alt ok (K .ret (tmps 19 [(4, .int .i64 r)]) (hp [.cells cs 1 own])) (K (.exit 0) (tmps 19 []) (hp [.cells cs 1 own]))⟩])) F229 body229 Try.f27 [] [] [.slice (some ⟨0,o,sp⟩) len cap, .int .i64 n] (hp [.cells cs 1 own]) K = (
FlatD [] (hp [Blk.cells cs 1 own]) ∧
  tmps 19
        [(0, Value.slice (some { block := 0, off := o, spot := sp : Addr }) len cap), (1, Value.int IntKind.i64 n),
          (7, Value.int IntKind.i64 (↑len : Int)), (8, Value.int IntKind.i64 0)] =
      tmps 19
        [(0, Value.slice (some { block := 0, off := o, spot := sp : Addr }) len cap), (1, Value.int IntKind.i64 n),
          (7, Value.int IntKind.i64 (↑len : Int)), (8, Value.int IntKind.i64 0)] ∧
    hp [Blk.cells cs 1 own] = hp [Blk.cells cs 1 own] ∧
      Alt ok (K (Value.int IntKind.i64 r) (hp [Blk.cells cs 1 own]))
        (K (Value.int IntKind.i64 (-1)) (hp [Blk.cells cs 1 own]))) := by kernel_rfl

theorem w207 (ca cb : List Value) (own own2 : Bool) (o o2 : Nat) (sp s2 : Option Nat) (len cap len2 cap2 : Nat) (ok : Bool) (K : Value → Heap → Prop) :
  funX Try.prog S0 (gcLKX (at0 []) (at0 []) 2 (cutLK [⟨[0,1,0,1,1], T207 (.slice (some ⟨0,o,sp⟩) len cap) (.slice (some ⟨1,o2,s2⟩) len2 cap2) 0, hp [.cells ca 1 own, .cells cb 1 own2], fun K => Alt ok (K (.exit 0) (tmps 26 []) (hp [.cells ca 1 own, .cells cb 1 own2])) (K .ret (tmps 26 [(4, .bool false)]) (hp [.cells ca 1 own, .cells cb 1 own2]))⟩])) F207 body207 Try.f13 [] [] [.slice (some ⟨0,o,sp⟩) len cap, .slice (some ⟨1,o2,s2⟩) len2 cap2] (hp [.cells ca 1 own, .cells cb 1 own2]) K = (
Alt (!eqI (↑len : Int) (↑len2 : Int)) (K (Value.bool false) (hp [Blk.cells ca 1 own, Blk.cells cb 1 own2]))
  (FlatD [] (hp [Blk.cells ca 1 own, Blk.cells cb 1 own2]) ∧
    tmps 26
          [(0, Value.slice (some { block := 0, off := o, spot := sp : Addr }) len cap),
            (1, Value.slice (some { block := 1, off := o2, spot := s2 : Addr }) len2 cap2),
            (5, Value.int IntKind.i64 0)] =
        tmps 26
          [(0, Value.slice (some { block := 0, off := o, spot := sp : Addr }) len cap),
            (1, Value.slice (some { block := 1, off := o2, spot := s2 : Addr }) len2 cap2),
            (5, Value.int IntKind.i64 0)] ∧
      hp [Blk.cells ca 1 own, Blk.cells cb 1 own2] = hp [Blk.cells ca 1 own, Blk.cells cb 1 own2] ∧
        Alt ok (K (Value.bool true) (hp [Blk.cells ca 1 own, Blk.cells cb 1 own2]))
          (K (Value.bool false) (hp [Blk.cells ca 1 own, Blk.cells cb 1 own2])))) := by kernel_rfl

theorem w207e (ca cb : List Value) (own own2 : Bool) (o o2 : Nat) (sp s2 : Option Nat) (len cap len2 cap2 : Nat) (K : Value → Heap → Prop) :
  funX Try.prog S0 noLoop F207 body207 Try.f13 [] [] [.slice (some ⟨0,o,sp⟩) len cap, .slice (some ⟨1,o2,s2⟩) len2 cap2] (hp [.cells ca 1 own, .cells cb 1 own2]) K = (
Need (!eqI (↑len : Int) (↑len2 : Int)) (K (Value.bool false) (hp [Blk.cells ca 1 own, Blk.cells cb 1 own2]))) := by kernel_rfl

theorem hf1 {cs : List Value} {own : Bool} (h : FlatL cs) : FlatD [] (hp [.cells cs 1 own]) := FlatD.hp ⟨h, trivial⟩
theorem has_loop (hmix : Try.prog.follows .mixedOrders = true) (l : List Int) (cs : List Value) (own : Bool) (o : Nat) (sp : Option Nat) (cap : Nat) (n : Int) (hB : ISl cs o l) (K : Post) : ∀ (t : List Int) (i : Nat), l.drop i = t → i ≤ l.length →
    Alt (hasL n t) (K .ret (tmps 18 [(4, .bool true)]) (hp [.cells cs 1 own])) (K (.exit 0) (tmps 18 []) (hp [.cells cs 1 own])) →
    LSays Try.prog 1 (sub body213 [0,0,1,0,1]) (T213 o sp l.length cap i n) (hp [.cells cs 1 own]) K := by
  have hsh := hB.short
  intro t
  induction t with
  | nil =>
    intro i ht hi hK
    have hge : ¬ ((i : Int) < (l.length : Int)) := by have := List.drop_eq_nil_iff.1 ht; omega
    refine (sure0 hmix).roundX F213 noLoops [] [] [] [] [0,1,5] ?_
    rw [r213]
    simp only [hge, hf1 hB.flat, Alt_iff, Need_iff, ltI_eq, leI_eq, eqI_eq, leN_eq, eqN_eq, decide_eq_true_eq, decide_eq_false_iff_not, decide_true, decide_false, true_and, and_true, Bool.true_eq_false, Bool.false_eq_true, false_implies, true_implies, implies_true, not_true_eq_false, not_false_eq_true, Bool.not_eq_true', Bool.not_eq_false', Nat.zero_add, Nat.add_zero, Nat.sub_zero, Nat.zero_mul, Nat.mul_one, Int.toNat_natCast, List.drop_zero, beqV_int, beqV_sl, beqV_str, beqV_bool, beqV_ptr, beqV_flt, beqV_agg, beqV_tuple, List.all_cons, List.all_nil, Bool.and_self, Bool.and_true, Bool.true_and, Nat.le_refl, Int.le_refl, Nat.zero_le, Option.getD_some, isStr, strV, isInt, intV, isBool, boolV, kindEq, at0, isJunk, Option.isSome_some, Option.isSome_none, if_true, if_false, Nat.add_sub_cancel_left, Nat.add_sub_cancel]; exact hK
  | cons x t ih =>
    intro i ht hi hK
    obtain ⟨hlt, hx, hd⟩ := cons_of_drop ht
    refine (sure0 hmix).roundX F213 noLoops [] [] [] [] [0,1,5] ?_
    rw [r213]
    simp only [show (i : Int) < (l.length : Int) by omega, hB.cell i x hx, hf1 hB.flat, nx i (by omega), Alt_iff, Need_iff, ltI_eq, leI_eq, eqI_eq, leN_eq, eqN_eq, decide_eq_true_eq, decide_eq_false_iff_not, decide_true, decide_false, true_and, and_true, Bool.true_eq_false, Bool.false_eq_true, false_implies, true_implies, implies_true, not_true_eq_false, not_false_eq_true, Bool.not_eq_true', Bool.not_eq_false', Nat.zero_add, Nat.add_zero, Nat.sub_zero, Nat.zero_mul, Nat.mul_one, Int.toNat_natCast, List.drop_zero, beqV_int, beqV_sl, beqV_str, beqV_bool, beqV_ptr, beqV_flt, beqV_agg, beqV_tuple, List.all_cons, List.all_nil, Bool.and_self, Bool.and_true, Bool.true_and, Nat.le_refl, Int.le_refl, Nat.zero_le, Option.getD_some, isStr, strV, isInt, intV, isBool, boolV, kindEq, at0, isJunk, Option.isSome_some, Option.isSome_none, if_true, if_false, Nat.add_sub_cancel_left, Nat.add_sub_cancel]
    rw [hasL] at hK
    refine ⟨fun h => ?_, fun h => ?_⟩
    · rw [if_pos (eqI_iff.2 h)] at hK; exact hK
    · rw [if_neg (fun hh => h (eqI_iff.1 hh))] at hK; exact ih (i + 1) hd (by omega) hK
theorem has_says (hmix : Try.prog.follows .mixedOrders = true) : hasC.Holds Try.prog 11 := by
  refine rowQ_of fun l cs own o sp cap xs hc hB hk => ?_
  obtain ⟨n, hn⟩ := hk
  have hL : Loops Try.prog body213 1 (cutLK [⟨[0,1,0,1], T213 o sp l.length cap 0 n, AM.hp [.cells cs 1 own], fun K => Alt (hasL n l) (K .ret (tmps 18 [(4, .bool true)]) (AM.hp [.cells cs 1 own])) (K (.exit 0) (tmps 18 []) (AM.hp [.cells cs 1 own]))⟩]) := Loops.none.more _ fun K hK => by
    show LSays Try.prog _ (sub body213 [0,0,1,0,1]) _ _ _
    exact has_loop hmix l cs own o sp cap n hB K l 0 rfl (by omega) hK
  refine (sure0 hmix).funX F213 body213 [] [] Try.func11 rfl (hL.gcX (at0 []) (at0 [])) ?_
  rw [w213]
  unfold hasG
  cases hq : hasL n l with
  | true => simp only [hq, hf1 hB.flat, Alt_iff, Need_iff, ltI_eq, leI_eq, eqI_eq, leN_eq, eqN_eq, decide_eq_true_eq, decide_eq_false_iff_not, decide_true, decide_false, true_and, and_true, Bool.true_eq_false, Bool.false_eq_true, false_implies, true_implies, implies_true, not_true_eq_false, not_false_eq_true, Bool.not_eq_true', Bool.not_eq_false', Nat.zero_add, Nat.add_zero, Nat.sub_zero, Nat.zero_mul, Nat.mul_one, Int.toNat_natCast, List.drop_zero, beqV_int, beqV_sl, beqV_str, beqV_bool, beqV_ptr, beqV_flt, beqV_agg, beqV_tuple, List.all_cons, List.all_nil, Bool.and_self, Bool.and_true, Bool.true_and, Nat.le_refl, Int.le_refl, Nat.zero_le, Option.getD_some, isStr, strV, isInt, intV, isBool, boolV, kindEq, at0, isJunk, Option.isSome_some, Option.isSome_none, if_true, if_false, Nat.add_sub_cancel_left, Nat.add_sub_cancel]
  | false => simp only [hq, hf1 hB.flat, Alt_iff, Need_iff, ltI_eq, leI_eq, eqI_eq, leN_eq, eqN_eq, decide_eq_true_eq, decide_eq_false_iff_not, decide_true, decide_false, true_and, and_true, Bool.true_eq_false, Bool.false_eq_true, false_implies, true_implies, implies_true, not_true_eq_false, not_false_eq_true, Bool.not_eq_true', Bool.not_eq_false', Nat.zero_add, Nat.add_zero, Nat.sub_zero, Nat.zero_mul, Nat.mul_one, Int.toNat_natCast, List.drop_zero, beqV_int, beqV_sl, beqV_str, beqV_bool, beqV_ptr, beqV_flt, beqV_agg, beqV_tuple, List.all_cons, List.all_nil, Bool.and_self, Bool.and_true, Bool.true_and, Nat.le_refl, Int.le_refl, Nat.zero_le, Option.getD_some, isStr, strV, isInt, intV, isBool, boolV, kindEq, at0, isJunk, Option.isSome_some, Option.isSome_none, if_true, if_false, Nat.add_sub_cancel_left, Nat.add_sub_cancel]
theorem is_loop (hmix : Try.prog.follows .mixedOrders = true) (l : List Int) (cs : List Value) (own : Bool) (o : Nat) (sp : Option Nat) (cap : Nat) (hB : ISl cs o l) (K : Post) : ∀ (t : List Int) (i : Nat), l.drop i = t → 0 < i →
    Alt (upF (prevI l i) t) (K (.exit 0) (tmps 20 []) (hp [.cells cs 1 own])) (K .ret (tmps 20 [(2, .bool false)]) (hp [.cells cs 1 own])) →
    LSays Try.prog 1 (sub body209 [0,0,1,0,1]) (T209 o sp l.length cap i) (hp [.cells cs 1 own]) K := by
  have hsh := hB.short
  intro t
  induction t with
  | nil =>
    intro i ht hi hK
    have hge : ¬ ((i : Int) < (l.length : Int)) := by have := List.drop_eq_nil_iff.1 ht; omega
    refine (sure0 hmix).roundX F209 noLoops [] [] [] [] [0,3] ?_
    rw [r209]
    rw [show upF (prevI l i) [] = true by cases prevI l i <;> rfl] at hK
    simp only [hge, hf1 hB.flat, Alt_iff, Need_iff, ltI_eq, leI_eq, eqI_eq, leN_eq, eqN_eq, decide_eq_true_eq, decide_eq_false_iff_not, decide_true, decide_false, true_and, and_true, Bool.true_eq_false, Bool.false_eq_true, false_implies, true_implies, implies_true, not_true_eq_false, not_false_eq_true, Bool.not_eq_true', Bool.not_eq_false', Nat.zero_add, Nat.add_zero, Nat.sub_zero, Nat.zero_mul, Nat.mul_one, Int.toNat_natCast, List.drop_zero, beqV_int, beqV_sl, beqV_str, beqV_bool, beqV_ptr, beqV_flt, beqV_agg, beqV_tuple, List.all_cons, List.all_nil, Bool.and_self, Bool.and_true, Bool.true_and, Nat.le_refl, Int.le_refl, Nat.zero_le, Option.getD_some, isStr, strV, isInt, intV, isBool, boolV, kindEq, at0, isJunk, Option.isSome_some, Option.isSome_none, if_true, if_false, Nat.add_sub_cancel_left, Nat.add_sub_cancel]; exact hK
  | cons x t ih =>
    intro i ht hi hK
    obtain ⟨hlt, hx, hd⟩ := cons_of_drop ht
    refine (sure0 hmix).roundX F209 noLoops [] [] [] [] [0,3] ?_
    rw [r209]
    obtain ⟨j, rfl⟩ : ∃ j, i = j + 1 := ⟨i - 1, by omega⟩
    have hy : l[j]? = some l[j] := List.getElem?_eq_getElem (by omega)
    have hp0 : prevI l (j + 1) = some l[j] := by unfold prevI; rw [if_neg (by omega), Nat.add_sub_cancel, hy]
    have hp1 : prevI l (j + 1 + 1) = some x := by unfold prevI; rw [if_neg (by omega), Nat.add_sub_cancel, hx]
    simp only [show ((j + 1 : Nat) : Int) < (l.length : Int) by omega, show (j : Int) < (l.length : Int) by omega, show (0 : Int) ≤ (j : Int) by omega, hB.cell (j + 1) x hx, hB.cell j _ hy, hf1 hB.flat, nx (j + 1) (by omega), pv j (by omega), Alt_iff, Need_iff, ltI_eq, leI_eq, eqI_eq, leN_eq, eqN_eq, decide_eq_true_eq, decide_eq_false_iff_not, decide_true, decide_false, true_and, and_true, Bool.true_eq_false, Bool.false_eq_true, false_implies, true_implies, implies_true, not_true_eq_false, not_false_eq_true, Bool.not_eq_true', Bool.not_eq_false', Nat.zero_add, Nat.add_zero, Nat.sub_zero, Nat.zero_mul, Nat.mul_one, Int.toNat_natCast, List.drop_zero, beqV_int, beqV_sl, beqV_str, beqV_bool, beqV_ptr, beqV_flt, beqV_agg, beqV_tuple, List.all_cons, List.all_nil, Bool.and_self, Bool.and_true, Bool.true_and, Nat.le_refl, Int.le_refl, Nat.zero_le, Option.getD_some, isStr, strV, isInt, intV, isBool, boolV, kindEq, at0, isJunk, Option.isSome_some, Option.isSome_none, if_true, if_false, Nat.add_sub_cancel_left, Nat.add_sub_cancel]
    rw [hp0, upF] at hK
    refine ⟨fun h => ?_, fun h => ?_⟩
    · rw [if_pos (leI_iff.2 h)] at hK; exact hK
    · rw [if_neg (fun hh => h (leI_iff.1 hh)), ← hp1] at hK; exact ih (j + 1 + 1) hd (by omega) hK
theorem is_says (hmix : Try.prog.follows .mixedOrders = true) : isC.Holds Try.prog 17 := by
  refine rowQ_of fun l cs own o sp cap xs hc hB hk => ?_
  obtain ⟨⟩ := hk
  have hL : Loops Try.prog body209 1 (cutLK [⟨[0,1,0,1], T209 o sp l.length cap 1, AM.hp [.cells cs 1 own], fun K => Alt (upI l) (K (.exit 0) (tmps 20 []) (AM.hp [.cells cs 1 own])) (K .ret (tmps 20 [(2, .bool false)]) (AM.hp [.cells cs 1 own]))⟩]) := Loops.none.more _ fun K hK => by
    show LSays Try.prog _ (sub body209 [0,0,1,0,1]) _ _ _
    refine is_loop hmix l cs own o sp cap hB K (l.drop 1) 1 rfl (by omega) ?_
    have : upF (prevI l 1) (l.drop 1) = upI l := by
      unfold upI
      cases l with
      | nil => rfl
      | cons x t => rfl
    rw [this]; exact hK
  refine (sure0 hmix).funX F209 body209 [] [] Try.func17 rfl (hL.gcX (at0 []) (at0 [])) ?_
  rw [w209]
  cases hq : upI l with
  | true => simp only [hf1 hB.flat, Alt_iff, Need_iff, ltI_eq, leI_eq, eqI_eq, leN_eq, eqN_eq, decide_eq_true_eq, decide_eq_false_iff_not, decide_true, decide_false, true_and, and_true, Bool.true_eq_false, Bool.false_eq_true, false_implies, true_implies, implies_true, not_true_eq_false, not_false_eq_true, Bool.not_eq_true', Bool.not_eq_false', Nat.zero_add, Nat.add_zero, Nat.sub_zero, Nat.zero_mul, Nat.mul_one, Int.toNat_natCast, List.drop_zero, beqV_int, beqV_sl, beqV_str, beqV_bool, beqV_ptr, beqV_flt, beqV_agg, beqV_tuple, List.all_cons, List.all_nil, Bool.and_self, Bool.and_true, Bool.true_and, Nat.le_refl, Int.le_refl, Nat.zero_le, Option.getD_some, isStr, strV, isInt, intV, isBool, boolV, kindEq, at0, isJunk, Option.isSome_some, Option.isSome_none, if_true, if_false, Nat.add_sub_cancel_left, Nat.add_sub_cancel]
  | false => simp only [hf1 hB.flat, Alt_iff, Need_iff, ltI_eq, leI_eq, eqI_eq, leN_eq, eqN_eq, decide_eq_true_eq, decide_eq_false_iff_not, decide_true, decide_false, true_and, and_true, Bool.true_eq_false, Bool.false_eq_true, false_implies, true_implies, implies_true, not_true_eq_false, not_false_eq_true, Bool.not_eq_true', Bool.not_eq_false', Nat.zero_add, Nat.add_zero, Nat.sub_zero, Nat.zero_mul, Nat.mul_one, Int.toNat_natCast, List.drop_zero, beqV_int, beqV_sl, beqV_str, beqV_bool, beqV_ptr, beqV_flt, beqV_agg, beqV_tuple, List.all_cons, List.all_nil, Bool.and_self, Bool.and_true, Bool.true_and, Nat.le_refl, Int.le_refl, Nat.zero_le, Option.getD_some, isStr, strV, isInt, intV, isBool, boolV, kindEq, at0, isJunk, Option.isSome_some, Option.isSome_none, if_true, if_false, Nat.add_sub_cancel_left, Nat.add_sub_cancel]
theorem idx_loop (hmix : Try.prog.follows .mixedOrders = true) (l : List Int) (cs : List Value) (own : Bool) (o : Nat) (sp : Option Nat) (cap : Nat) (n : Int) (hB : ISl cs o l) (K : Post) : ∀ (t : List Int) (i : Nat), l.drop i = t → i ≤ l.length →
    Alt (hasL n t) (K .ret (tmps 19 [(4, .int .i64 (idxL n i t))]) (hp [.cells cs 1 own])) (K (.exit 0) (tmps 19 []) (hp [.cells cs 1 own])) →
    LSays Try.prog 1 (sub body229 [0,0,1,0,1]) (T229 o sp l.length cap i n) (hp [.cells cs 1 own]) K := by
  have hsh := hB.short
  intro t
  induction t with
  | nil =>
    intro i ht hi hK
    have hge : ¬ ((i : Int) < (l.length : Int)) := by have := List.drop_eq_nil_iff.1 ht; omega
    refine (sure0 hmix).roundX F229 noLoops [] [] [] [] [0,1,7,8] ?_
    rw [r229]
    simp only [hge, hf1 hB.flat, Alt_iff, Need_iff, ltI_eq, leI_eq, eqI_eq, leN_eq, eqN_eq, decide_eq_true_eq, decide_eq_false_iff_not, decide_true, decide_false, true_and, and_true, Bool.true_eq_false, Bool.false_eq_true, false_implies, true_implies, implies_true, not_true_eq_false, not_false_eq_true, Bool.not_eq_true', Bool.not_eq_false', Nat.zero_add, Nat.add_zero, Nat.sub_zero, Nat.zero_mul, Nat.mul_one, Int.toNat_natCast, List.drop_zero, beqV_int, beqV_sl, beqV_str, beqV_bool, beqV_ptr, beqV_flt, beqV_agg, beqV_tuple, List.all_cons, List.all_nil, Bool.and_self, Bool.and_true, Bool.true_and, Nat.le_refl, Int.le_refl, Nat.zero_le, Option.getD_some, isStr, strV, isInt, intV, isBool, boolV, kindEq, at0, isJunk, Option.isSome_some, Option.isSome_none, if_true, if_false, Nat.add_sub_cancel_left, Nat.add_sub_cancel]; exact hK
  | cons x t ih =>
    intro i ht hi hK
    obtain ⟨hlt, hx, hd⟩ := cons_of_drop ht
    refine (sure0 hmix).roundX F229 noLoops [] [] [] [] [0,1,7,8] ?_
    rw [r229]
    simp only [show (i : Int) < (l.length : Int) by omega, hB.cell i x hx, hf1 hB.flat, nx i (by omega), Alt_iff, Need_iff, ltI_eq, leI_eq, eqI_eq, leN_eq, eqN_eq, decide_eq_true_eq, decide_eq_false_iff_not, decide_true, decide_false, true_and, and_true, Bool.true_eq_false, Bool.false_eq_true, false_implies, true_implies, implies_true, not_true_eq_false, not_false_eq_true, Bool.not_eq_true', Bool.not_eq_false', Nat.zero_add, Nat.add_zero, Nat.sub_zero, Nat.zero_mul, Nat.mul_one, Int.toNat_natCast, List.drop_zero, beqV_int, beqV_sl, beqV_str, beqV_bool, beqV_ptr, beqV_flt, beqV_agg, beqV_tuple, List.all_cons, List.all_nil, Bool.and_self, Bool.and_true, Bool.true_and, Nat.le_refl, Int.le_refl, Nat.zero_le, Option.getD_some, isStr, strV, isInt, intV, isBool, boolV, kindEq, at0, isJunk, Option.isSome_some, Option.isSome_none, if_true, if_false, Nat.add_sub_cancel_left, Nat.add_sub_cancel]
    rw [hasL, idxL] at hK
    refine ⟨fun h => ?_, fun h => ?_⟩
    · rw [if_pos (eqI_iff.2 h.symm), if_pos (eqI_iff.2 h.symm)] at hK; exact hK
    · rw [if_neg (fun hh => h (eqI_iff.1 hh).symm), if_neg (fun hh => h (eqI_iff.1 hh).symm)] at hK; exact ih (i + 1) hd (by omega) hK
theorem idx_says (hmix : Try.prog.follows .mixedOrders = true) : idxC.Holds Try.prog 27 := by
  refine rowQ_of fun l cs own o sp cap xs hc hB hk => ?_
  obtain ⟨n, hn⟩ := hk
  have hL : Loops Try.prog body229 1 (cutLK [⟨[0,1,0,1], T229 o sp l.length cap 0 n, AM.hp [.cells cs 1 own], fun K => Alt (hasL n l) (K .ret (tmps 19 [(4, .int .i64 (idxL n 0 l))]) (AM.hp [.cells cs 1 own])) (K (.exit 0) (tmps 19 []) (AM.hp [.cells cs 1 own]))⟩]) := Loops.none.more _ fun K hK => by
    show LSays Try.prog _ (sub body229 [0,0,1,0,1]) _ _ _
    exact idx_loop hmix l cs own o sp cap n hB K l 0 rfl (by omega) hK
  refine (sure0 hmix).funX F229 body229 [] [] Try.func27 rfl (hL.gcX (at0 []) (at0 [])) ?_
  rw [w229]
  unfold idxG
  rcases idxL_has n l 0 with ⟨h1, h2⟩ | ⟨h1, h2⟩
  · rw [h2]; simp only [h1, hf1 hB.flat, Alt_iff, Need_iff, ltI_eq, leI_eq, eqI_eq, leN_eq, eqN_eq, decide_eq_true_eq, decide_eq_false_iff_not, decide_true, decide_false, true_and, and_true, Bool.true_eq_false, Bool.false_eq_true, false_implies, true_implies, implies_true, not_true_eq_false, not_false_eq_true, Bool.not_eq_true', Bool.not_eq_false', Nat.zero_add, Nat.add_zero, Nat.sub_zero, Nat.zero_mul, Nat.mul_one, Int.toNat_natCast, List.drop_zero, beqV_int, beqV_sl, beqV_str, beqV_bool, beqV_ptr, beqV_flt, beqV_agg, beqV_tuple, List.all_cons, List.all_nil, Bool.and_self, Bool.and_true, Bool.true_and, Nat.le_refl, Int.le_refl, Nat.zero_le, Option.getD_some, isStr, strV, isInt, intV, isBool, boolV, kindEq, at0, isJunk, Option.isSome_some, Option.isSome_none, if_true, if_false, Nat.add_sub_cancel_left, Nat.add_sub_cancel]
  · rw [h2]; simp only [hf1 hB.flat, Alt_iff, Need_iff, ltI_eq, leI_eq, eqI_eq, leN_eq, eqN_eq, decide_eq_true_eq, decide_eq_false_iff_not, decide_true, decide_false, true_and, and_true, Bool.true_eq_false, Bool.false_eq_true, false_implies, true_implies, implies_true, not_true_eq_false, not_false_eq_true, Bool.not_eq_true', Bool.not_eq_false', Nat.zero_add, Nat.add_zero, Nat.sub_zero, Nat.zero_mul, Nat.mul_one, Int.toNat_natCast, List.drop_zero, beqV_int, beqV_sl, beqV_str, beqV_bool, beqV_ptr, beqV_flt, beqV_agg, beqV_tuple, List.all_cons, List.all_nil, Bool.and_self, Bool.and_true, Bool.true_and, Nat.le_refl, Int.le_refl, Nat.zero_le, Option.getD_some, isStr, strV, isInt, intV, isBool, boolV, kindEq, at0, isJunk, Option.isSome_some, Option.isSome_none, if_true, if_false, Nat.add_sub_cancel_left, Nat.add_sub_cancel]
noncomputable def S90 : Book := bookOf [(27, idxC)]
theorem sure90 (hmix : Try.prog.follows .mixedOrders = true) : Sure Try.prog S90 := ⟨hmix, plain, bookOf_ok (l := [(27, idxC)]) ⟨idx_says hmix, trivial⟩⟩

theorem w221 (cs : List Value) (own : Bool) (o : Nat) (sp : Option Nat) (len cap : Nat) (n : Int) (K : Value → Heap → Prop) :
  funX Try.prog S90 noLoop F221 body221 Try.f22 [] [] [.slice (some ⟨0,o,sp⟩) len cap, .int .i64 n] (hp [.cells cs 1 own]) K = (
(FlatL cs ∧ True) ∧
  (IsE (iE IntKind.i64) (ZP IntKind.i64) cs o len cap ∧ IsN [Value.int IntKind.i64 n]) ∧
    K (Value.bool (leI 0 (idxL n 0 (intsAt cs o len)))) (hp [Blk.cells cs 1 own])) := by kernel_rfl

theorem contains_says (hmix : Try.prog.follows .mixedOrders = true) : hasC.Holds Try.prog 22 := by
  refine rowQ_of fun l cs own o sp cap xs hc hB hk => ?_
  obtain ⟨n, hn⟩ := hk
  refine (sure90 hmix).funX F221 body221 [] [] Try.func22 rfl noLoops ?_
  rw [w221]
  unfold hasG
  have hI : IsI cs o l.length cap := .mk l rfl hc hB
  have he : leI 0 (idxL n 0 l) = hasL n l := by
    rcases idxL_has n l 0 with ⟨h1, h2⟩ | ⟨h1, h2⟩
    · rw [h1, h2]; rfl
    · rw [h2, leI_iff.2 h1]
  rw [intsAt_eq hB, he]
  exact ⟨⟨hB.flat, trivial⟩, ⟨hI, ⟨n, hn⟩⟩, hf1 hB.flat, rfl, rfl, rfl⟩
noncomputable def S91 : Book := bookOf [(22, hasC)]
theorem sure91 (hmix : Try.prog.follows .mixedOrders = true) : Sure Try.prog S91 := ⟨hmix, plain, bookOf_ok (l := [(22, hasC)]) ⟨contains_says hmix, trivial⟩⟩

theorem w210 (cs : List Value) (own : Bool) (o : Nat) (sp : Option Nat) (len cap : Nat) (n : Int) (K : Value → Heap → Prop) :
  funX Try.prog S91 noLoop F210 body210 Try.f16 [] [] [.slice (some ⟨0,o,sp⟩) len cap, .int .i64 n] (hp [.cells cs 1 own]) K = (
(FlatL cs ∧ True) ∧
  (IsE (iE IntKind.i64) (ZP IntKind.i64) cs o len cap ∧ IsN [Value.int IntKind.i64 n]) ∧
    K (Value.bool (hasL n (intsAt cs o len))) (hp [Blk.cells cs 1 own])) := by kernel_rfl

theorem rhas_says (hmix : Try.prog.follows .mixedOrders = true) : hasC.Holds Try.prog 16 := by
  refine rowQ_of fun l cs own o sp cap xs hc hB hk => ?_
  obtain ⟨n, hn⟩ := hk
  refine (sure91 hmix).funX F210 body210 [] [] Try.func16 rfl noLoops ?_
  rw [w210]
  simp only [hasG, intsAt_eq hB, hB.flat, hf1 hB.flat, Alt_iff, Need_iff, ltI_eq, leI_eq, eqI_eq, leN_eq, eqN_eq, decide_eq_true_eq, decide_eq_false_iff_not, decide_true, decide_false, true_and, and_true, Bool.true_eq_false, Bool.false_eq_true, false_implies, true_implies, implies_true, not_true_eq_false, not_false_eq_true, Bool.not_eq_true', Bool.not_eq_false', Nat.zero_add, Nat.add_zero, Nat.sub_zero, Nat.zero_mul, Nat.mul_one, Int.toNat_natCast, List.drop_zero, beqV_int, beqV_sl, beqV_str, beqV_bool, beqV_ptr, beqV_flt, beqV_agg, beqV_tuple, List.all_cons, List.all_nil, Bool.and_self, Bool.and_true, Bool.true_and, Nat.le_refl, Int.le_refl, Nat.zero_le, Option.getD_some, isStr, strV, isInt, intV, isBool, boolV, kindEq, at0, isJunk, Option.isSome_some, Option.isSome_none, if_true, if_false, Nat.add_sub_cancel_left, Nat.add_sub_cancel]
  and_intros <;> first | exact .mk l rfl hc hB | exact ⟨n, hn⟩ | rfl
theorem same_loop (hmix : Try.prog.follows .mixedOrders = true) (a b : List Int) (ca cb : List Value) (own own2 : Bool) (o o2 : Nat) (sp s2 : Option Nat) (cap cap2 : Nat) (hA : ISl ca o a) (hB : ISl cb o2 b) (hlen : a.length = b.length) (K : Post) : ∀ (t u : List Int) (i : Nat), a.drop i = t → b.drop i = u → i ≤ a.length →
    Alt (allI t u) (K (.exit 0) (tmps 26 []) (hp [.cells ca 1 own, .cells cb 1 own2])) (K .ret (tmps 26 [(4, .bool false)]) (hp [.cells ca 1 own, .cells cb 1 own2])) →
    LSays Try.prog 2 (sub body207 [0,0,1,0,1,1]) (T207 (.slice (some ⟨0,o,sp⟩) a.length cap) (.slice (some ⟨1,o2,s2⟩) b.length cap2) i) (hp [.cells ca 1 own, .cells cb 1 own2]) K := by
  have hF : FlatD [] (hp [.cells ca 1 own, .cells cb 1 own2]) := FlatD.hp ⟨hA.flat, hB.flat, trivial⟩
  have hsh := hA.short
  intro t
  induction t with
  | nil =>
    intro u i ht hu hi hK
    have hge : ¬ ((i : Int) < (a.length : Int)) := by have := List.drop_eq_nil_iff.1 ht; omega
    refine (sure0 hmix).roundX F207 noLoops [] [] [] [] [0,1,5] ?_
    rw [r207]
    simp only [hge, hF, Alt_iff, Need_iff, ltI_eq, leI_eq, eqI_eq, leN_eq, eqN_eq, decide_eq_true_eq, decide_eq_false_iff_not, decide_true, decide_false, true_and, and_true, Bool.true_eq_false, Bool.false_eq_true, false_implies, true_implies, implies_true, not_true_eq_false, not_false_eq_true, Bool.not_eq_true', Bool.not_eq_false', Nat.zero_add, Nat.add_zero, Nat.sub_zero, Nat.zero_mul, Nat.mul_one, Int.toNat_natCast, List.drop_zero, beqV_int, beqV_sl, beqV_str, beqV_bool, beqV_ptr, beqV_flt, beqV_agg, beqV_tuple, List.all_cons, List.all_nil, Bool.and_self, Bool.and_true, Bool.true_and, Nat.le_refl, Int.le_refl, Nat.zero_le, Option.getD_some, isStr, strV, isInt, intV, isBool, boolV, kindEq, at0, isJunk, Option.isSome_some, Option.isSome_none, if_true, if_false, Nat.add_sub_cancel_left, Nat.add_sub_cancel]; exact hK
  | cons x t ih =>
    intro u i ht hu hi hK
    obtain ⟨hlt, hx, hd⟩ := cons_of_drop ht
    cases u with
    | nil => have := List.drop_eq_nil_iff.1 hu; omega
    | cons y u =>
      obtain ⟨hlt2, hy, hd2⟩ := cons_of_drop hu
      refine (sure0 hmix).roundX F207 noLoops [] [] [] [] [0,1,5] ?_
      rw [r207]
      simp only [show (i : Int) < (a.length : Int) by omega, show (i : Int) < (b.length : Int) by omega, hA.cell i x hx, hB.cell i y hy, hF, nx i (by omega), Alt_iff, Need_iff, ltI_eq, leI_eq, eqI_eq, leN_eq, eqN_eq, decide_eq_true_eq, decide_eq_false_iff_not, decide_true, decide_false, true_and, and_true, Bool.true_eq_false, Bool.false_eq_true, false_implies, true_implies, implies_true, not_true_eq_false, not_false_eq_true, Bool.not_eq_true', Bool.not_eq_false', Nat.zero_add, Nat.add_zero, Nat.sub_zero, Nat.zero_mul, Nat.mul_one, Int.toNat_natCast, List.drop_zero, beqV_int, beqV_sl, beqV_str, beqV_bool, beqV_ptr, beqV_flt, beqV_agg, beqV_tuple, List.all_cons, List.all_nil, Bool.and_self, Bool.and_true, Bool.true_and, Nat.le_refl, Int.le_refl, Nat.zero_le, Option.getD_some, isStr, strV, isInt, intV, isBool, boolV, kindEq, at0, isJunk, Option.isSome_some, Option.isSome_none, if_true, if_false, Nat.add_sub_cancel_left, Nat.add_sub_cancel]
      rw [allI] at hK
      refine ⟨fun h => ?_, fun h => ?_⟩
      · rw [show eqI x y = false from Bool.eq_false_iff.2 (fun hh => h (eqI_iff.1 hh))] at hK; exact hK
      · rw [show eqI x y = true from eqI_iff.2 h] at hK
        exact ih u (i + 1) hd hd2 (by omega) hK
noncomputable def sameC : Ctr where
  pre := fun args blks => match args, blks with
    | [.slice (some ⟨0, o, _⟩) len cap, .slice (some ⟨1, o2, _⟩) len2 cap2], [.cells ca 1 _, .cells cb 1 _] => IsI ca o len cap ∧ IsI cb o2 len2 cap2
    | _, _ => False
  val := fun args blks => match args, blks with
    | [.slice (some ⟨0, o, _⟩) len _, .slice (some ⟨1, o2, _⟩) len2 _], [.cells ca 1 _, .cells cb 1 _] => .bool (sameI (intsAt ca o len) (intsAt cb o2 len2))
    | _, _ => undef
  new := fun _ _ => []
theorem same_says (hmix : Try.prog.follows .mixedOrders = true) : sameC.Holds Try.prog 13 := by
  intro args blks hf hp
  refine ⟨trivial, ?_⟩
  simp only [sameC] at hp ⊢
  split at hp
  · rename_i o sp len cap o2 s2 len2 cap2 ca own cb own2
    obtain ⟨⟨a, rfl, hc, hA⟩, ⟨b, rfl, hc2, hB⟩⟩ := hp
    simp only [intsAt_eq hA, intsAt_eq hB, List.append_nil]
    have hF : FlatD [] (AM.hp [.cells ca 1 own, .cells cb 1 own2]) := FlatD.hp ⟨hA.flat, hB.flat, trivial⟩
    unfold sameI
    by_cases hlen : a.length = b.length
    · have hL : Loops Try.prog body207 2 (cutLK [⟨[0,1,0,1,1], T207 (.slice (some ⟨0,o,sp⟩) a.length cap) (.slice (some ⟨1,o2,s2⟩) b.length cap2) 0, AM.hp [.cells ca 1 own, .cells cb 1 own2], fun K => Alt (allI a b) (K (.exit 0) (tmps 26 []) (AM.hp [.cells ca 1 own, .cells cb 1 own2])) (K .ret (tmps 26 [(4, .bool false)]) (AM.hp [.cells ca 1 own, .cells cb 1 own2]))⟩]) := Loops.none.more _ fun K hK => by
        show LSays Try.prog _ (sub body207 [0,0,1,0,1,1]) _ _ _
        exact same_loop hmix a b ca cb own own2 o o2 sp s2 cap cap2 hA hB hlen K a b 0 rfl rfl (by omega) hK
      refine (sure0 hmix).funX F207 body207 [] [] Try.func13 rfl (hL.gcX (at0 []) (at0 [])) ?_
      rw [w207]
      have he : ((a.length : Nat) : Int) = (b.length : Int) := by rw [hlen]
      cases hq : allI a b with
      | true => simp only [he, hF, hlen, Bool.not_true, Alt_iff, Need_iff, ltI_eq, leI_eq, eqI_eq, leN_eq, eqN_eq, decide_eq_true_eq, decide_eq_false_iff_not, decide_true, decide_false, true_and, and_true, Bool.true_eq_false, Bool.false_eq_true, false_implies, true_implies, implies_true, not_true_eq_false, not_false_eq_true, Bool.not_eq_true', Bool.not_eq_false', Nat.zero_add, Nat.add_zero, Nat.sub_zero, Nat.zero_mul, Nat.mul_one, Int.toNat_natCast, List.drop_zero, beqV_int, beqV_sl, beqV_str, beqV_bool, beqV_ptr, beqV_flt, beqV_agg, beqV_tuple, List.all_cons, List.all_nil, Bool.and_self, Bool.and_true, Bool.true_and, Nat.le_refl, Int.le_refl, Nat.zero_le, Option.getD_some, isStr, strV, isInt, intV, isBool, boolV, kindEq, at0, isJunk, Option.isSome_some, Option.isSome_none, if_true, if_false, Nat.add_sub_cancel_left, Nat.add_sub_cancel]
      | false => simp only [he, hF, hlen, Bool.not_true, Bool.and_false, Alt_iff, Need_iff, ltI_eq, leI_eq, eqI_eq, leN_eq, eqN_eq, decide_eq_true_eq, decide_eq_false_iff_not, decide_true, decide_false, true_and, and_true, Bool.true_eq_false, Bool.false_eq_true, false_implies, true_implies, implies_true, not_true_eq_false, not_false_eq_true, Bool.not_eq_true', Bool.not_eq_false', Nat.zero_add, Nat.add_zero, Nat.sub_zero, Nat.zero_mul, Nat.mul_one, Int.toNat_natCast, List.drop_zero, beqV_int, beqV_sl, beqV_str, beqV_bool, beqV_ptr, beqV_flt, beqV_agg, beqV_tuple, List.all_cons, List.all_nil, Bool.and_self, Bool.and_true, Bool.true_and, Nat.le_refl, Int.le_refl, Nat.zero_le, Option.getD_some, isStr, strV, isInt, intV, isBool, boolV, kindEq, at0, isJunk, Option.isSome_some, Option.isSome_none, if_true, if_false, Nat.add_sub_cancel_left, Nat.add_sub_cancel]
    · refine (sure0 hmix).funX F207 body207 [] [] Try.func13 rfl noLoops ?_
      rw [w207e]
      have he : ¬ ((a.length : Nat) : Int) = (b.length : Int) := by omega
      simp only [he, hF, hlen, Bool.not_false, Bool.false_and, Alt_iff, Need_iff, ltI_eq, leI_eq, eqI_eq, leN_eq, eqN_eq, decide_eq_true_eq, decide_eq_false_iff_not, decide_true, decide_false, true_and, and_true, Bool.true_eq_false, Bool.false_eq_true, false_implies, true_implies, implies_true, not_true_eq_false, not_false_eq_true, Bool.not_eq_true', Bool.not_eq_false', Nat.zero_add, Nat.add_zero, Nat.sub_zero, Nat.zero_mul, Nat.mul_one, Int.toNat_natCast, List.drop_zero, beqV_int, beqV_sl, beqV_str, beqV_bool, beqV_ptr, beqV_flt, beqV_agg, beqV_tuple, List.all_cons, List.all_nil, Bool.and_self, Bool.and_true, Bool.true_and, Nat.le_refl, Int.le_refl, Nat.zero_le, Option.getD_some, isStr, strV, isInt, intV, isBool, boolV, kindEq, at0, isJunk, Option.isSome_some, Option.isSome_none, if_true, if_false, Nat.add_sub_cancel_left, Nat.add_sub_cancel]
  · exact hp.elim
end Go.Proofs.Ytocndbldmkjcnaa

namespace Go.Proofs.Ytocndbldmkjcnaa
open Go.RowKit Go.Proofs.Ytocndbldmkjcnaa.AM
set_option maxRecDepth 100000
set_option maxHeartbeats 4000000
noncomputable def body222 : Code := (Try.f20.body).getD .skip
def F222 : List Nat → Option (List Nat) := fun p => match p with
  | [1] => some [0]
  | [1, 0, 1] => some [0, 4]
  | [1, 0, 1, 0, 1] => some [2]
  | [1, 1] => some [0]
  | [1, 1, 1] => some [2]
  | _ => none
noncomputable def body212 : Code := (Try.f32.body).getD .skip
def F212 : List Nat → Option (List Nat) := fun p => match p with
  | [1] => some [0]
  | [1, 1] => some [3]
  | [1, 1, 1] => some [3]
  | [1, 1, 1, 1] => some [2]
  | _ => none

theorem w222a (cs : List Value) (own : Bool) (o len cap : Nat) (K : Value → Heap → Prop) :
  funX Try.prog S0 noLoop F222 body222 Try.f20 [] [] [.slice (some ⟨0,o,some 7⟩) (len + 1) cap] (hp [.cells cs 1 own]) K = (
Need (leN (o + (len + 1) * 1) cs.length)
  (Need (leN ((0 + (len + 1)) * 8) 1099511627776)
    (Need (leN (0 + (len + 1)) 1099511627776)
      (K (Value.slice (some { block := 1, off := 0, spot := some 1 : Addr }) (0 + (len + 1)) (0 + (len + 1)))
        (hp [Blk.cells cs 1 own, Blk.cells ([] ++ List.take ((len + 1) * 1) (List.drop o cs)) 1 true]))))) := by kernel_rfl

theorem w222b (cs : List Value) (own : Bool) (o len cap : Nat) (K : Value → Heap → Prop) :
  funX Try.prog S0 noLoop F222 body222 Try.f20 [] [] [.slice (some ⟨0,o,some 8⟩) (len + 1) cap] (hp [.cells cs 1 own]) K = (
Need (leN (o + (len + 1) * 1) cs.length)
  (Need (leN ((0 + (len + 1)) * 8) 1099511627776)
    (Need (leN (0 + (len + 1)) 1099511627776)
      (K (Value.slice (some { block := 1, off := 0, spot := some 1 : Addr }) (0 + (len + 1)) (0 + (len + 1)))
        (hp [Blk.cells cs 1 own, Blk.cells ([] ++ List.take ((len + 1) * 1) (List.drop o cs)) 1 true]))))) := by kernel_rfl

theorem w222z (cs : List Value) (own : Bool) (o cap : Nat) (K : Value → Heap → Prop) :
  funX Try.prog S0 noLoop F222 body222 Try.f20 [] [.tmp 0 1] [.slice (some ⟨0,o,some 7⟩) 0 cap] (hp [.cells cs 1 own]) K = (
Need (leN (o + 0) cs.length)
  (K (Value.slice (some { block := 1, off := 0, spot := some 1 : Addr }) 0 0)
    (hp [Blk.cells cs 1 own, Blk.cells [] 1 true]))) := by kernel_rfl

theorem w222y (cs : List Value) (own : Bool) (o cap : Nat) (K : Value → Heap → Prop) :
  funX Try.prog S0 noLoop F222 body222 Try.f20 [] [.tmp 0 1] [.slice (some ⟨0,o,some 8⟩) 0 cap] (hp [.cells cs 1 own]) K = (
Need (leN (o + 0) cs.length)
  (K (Value.slice (some { block := 1, off := 0, spot := some 1 : Addr }) 0 0)
    (hp [Blk.cells cs 1 own, Blk.cells [] 1 true]))) := by kernel_rfl

theorem w222n (cs : List Value) (own : Bool) (K : Value → Heap → Prop) :
  funX Try.prog S0 noLoop F222 body222 Try.f20 [] [.tmp 0 1] [.slice none 0 0] (hp [.cells cs 1 own]) K = (
K (Value.slice (some { block := 1, off := 0, spot := some 1 : Addr }) 0 0)
  (hp [Blk.cells cs 1 own, Blk.cells [] 1 true])) := by kernel_rfl

noncomputable def cloneC : Ctr where
  pre := fun args blks => match args, blks with
    | [.slice (some ⟨0, o, _⟩) len cap], [.cells cs 1 _] => IsI cs o len cap ∧ Need (leN len 1000000000) (Need (leN o cs.length) True)
    | _, _ => False
  val := fun args blks => match args, blks with
    | [.slice (some ⟨0, _, _⟩) len _], [.cells _ 1 _] => .slice (some ⟨1,0,some 1⟩) len len
    | _, _ => undef
  new := fun args blks => match args, blks with
    | [.slice (some ⟨0, o, _⟩) len _], [.cells cs 1 _] => [.cells (eC (iE .i64) (intsAt cs o len)) 1 true]
    | _, _ => []
theorem wk_cases (sp : Option Nat) : wkS sp = some 7 ∨ wkS sp = some 8 := by unfold wkS; cases exS sp <;> simp
theorem clone_says (hmix : Try.prog.follows .mixedOrders = true) : cloneC.Holds Try.prog 20 := by
  intro args blks hf hp
  simp only [cloneC] at hp ⊢
  split at hp
  · rename_i o sp len cap cs own
    obtain ⟨⟨l, rfl, hc, hB⟩, hl⟩ := hp
    simp only [Alt_iff, Need_iff, ltI_eq, leI_eq, eqI_eq, leN_eq, eqN_eq, decide_eq_true_eq, decide_eq_false_iff_not, decide_true, decide_false, true_and, and_true, Bool.true_eq_false, Bool.false_eq_true, false_implies, true_implies, implies_true, not_true_eq_false, not_false_eq_true, Bool.not_eq_true', Bool.not_eq_false'] at hl
    simp only [intsAt_eq hB]
    refine ⟨⟨eC_flat flat_i _, trivial⟩, ?_⟩
    have hF : ∀ l2, FlatD [] (AM.hp [.cells cs 1 own, .cells (eC (iE .i64) l2) 1 true]) := fun l2 => FlatD.hp ⟨hB.flat, eC_flat flat_i _, trivial⟩
    obtain ⟨t1, t2⟩ := hB.take 0 l.length (by omega)
    rw [List.drop_zero, List.take_length, Nat.add_zero] at t1
    rw [Nat.add_zero] at t2
    have h0 : 0 < l.length → o + l.length ≤ cs.length := fun hp => by omega
    cases l with
    | nil =>
      refine FunSays.wk (fun _ _ => ?_) ?_
      · refine (sure0 hmix).funX F222 body222 [] [.tmp 0 1] Try.func20 rfl noLoops ?_
        rw [w222n]
        exact ⟨hF [], rfl, rfl, rfl⟩
      · have ho := hl.2
        rcases wk_cases sp with hq | hq <;> rw [hq]
        · refine (sure0 hmix).funX F222 body222 [] [.tmp 0 1] Try.func20 rfl noLoops ?_
          have := w222z cs own o cap
          simp only [List.length_nil]
          rw [this]
          simp only [ho, Alt_iff, Need_iff, ltI_eq, leI_eq, eqI_eq, leN_eq, eqN_eq, decide_eq_true_eq, decide_eq_false_iff_not, decide_true, decide_false, true_and, and_true, Bool.true_eq_false, Bool.false_eq_true, false_implies, true_implies, implies_true, not_true_eq_false, not_false_eq_true, Bool.not_eq_true', Bool.not_eq_false', Nat.zero_add, Nat.add_zero, Nat.sub_zero, Nat.zero_mul, Nat.mul_one, Int.toNat_natCast, List.drop_zero, beqV_int, beqV_sl, beqV_str, beqV_bool, beqV_ptr, beqV_flt, beqV_agg, beqV_tuple, List.all_cons, List.all_nil, Bool.and_self, Bool.and_true, Bool.true_and, Nat.le_refl, Int.le_refl, Nat.zero_le, Option.getD_some, isStr, strV, isInt, intV, isBool, boolV, kindEq, at0, isJunk, Option.isSome_some, Option.isSome_none, if_true, if_false, Nat.add_sub_cancel_left, Nat.add_sub_cancel]
          and_intros <;> first | exact hF [] | rfl
        · refine (sure0 hmix).funX F222 body222 [] [.tmp 0 1] Try.func20 rfl noLoops ?_
          have := w222y cs own o cap
          simp only [List.length_nil]
          rw [this]
          simp only [ho, Alt_iff, Need_iff, ltI_eq, leI_eq, eqI_eq, leN_eq, eqN_eq, decide_eq_true_eq, decide_eq_false_iff_not, decide_true, decide_false, true_and, and_true, Bool.true_eq_false, Bool.false_eq_true, false_implies, true_implies, implies_true, not_true_eq_false, not_false_eq_true, Bool.not_eq_true', Bool.not_eq_false', Nat.zero_add, Nat.add_zero, Nat.sub_zero, Nat.zero_mul, Nat.mul_one, Int.toNat_natCast, List.drop_zero, beqV_int, beqV_sl, beqV_str, beqV_bool, beqV_ptr, beqV_flt, beqV_agg, beqV_tuple, List.all_cons, List.all_nil, Bool.and_self, Bool.and_true, Bool.true_and, Nat.le_refl, Int.le_refl, Nat.zero_le, Option.getD_some, isStr, strV, isInt, intV, isBool, boolV, kindEq, at0, isJunk, Option.isSome_some, Option.isSome_none, if_true, if_false, Nat.add_sub_cancel_left, Nat.add_sub_cancel]
          and_intros <;> first | exact hF [] | rfl
    | cons x t =>
      refine FunSays.wk (fun hh => by cases hh) ?_
      simp only [List.length_cons] at *
      rcases wk_cases sp with hq | hq <;> rw [hq]
      · refine (sure0 hmix).funX F222 body222 [] [] Try.func20 rfl noLoops ?_
        rw [w222a]
        simp only [t1, Alt_iff, Need_iff, ltI_eq, leI_eq, eqI_eq, leN_eq, eqN_eq, decide_eq_true_eq, decide_eq_false_iff_not, decide_true, decide_false, true_and, and_true, Bool.true_eq_false, Bool.false_eq_true, false_implies, true_implies, implies_true, not_true_eq_false, not_false_eq_true, Bool.not_eq_true', Bool.not_eq_false', Nat.zero_add, Nat.add_zero, Nat.sub_zero, Nat.zero_mul, Nat.mul_one, Int.toNat_natCast, List.drop_zero, beqV_int, beqV_sl, beqV_str, beqV_bool, beqV_ptr, beqV_flt, beqV_agg, beqV_tuple, List.all_cons, List.all_nil, Bool.and_self, Bool.and_true, Bool.true_and, Nat.le_refl, Int.le_refl, Nat.zero_le, Option.getD_some, isStr, strV, isInt, intV, isBool, boolV, kindEq, at0, isJunk, Option.isSome_some, Option.isSome_none, if_true, if_false, Nat.add_sub_cancel_left, Nat.add_sub_cancel]
        and_intros <;> first | omega | exact hF _ | rfl
      · refine (sure0 hmix).funX F222 body222 [] [] Try.func20 rfl noLoops ?_
        rw [w222b]
        simp only [t1, Alt_iff, Need_iff, ltI_eq, leI_eq, eqI_eq, leN_eq, eqN_eq, decide_eq_true_eq, decide_eq_false_iff_not, decide_true, decide_false, true_and, and_true, Bool.true_eq_false, Bool.false_eq_true, false_implies, true_implies, implies_true, not_true_eq_false, not_false_eq_true, Bool.not_eq_true', Bool.not_eq_false', Nat.zero_add, Nat.add_zero, Nat.sub_zero, Nat.zero_mul, Nat.mul_one, Int.toNat_natCast, List.drop_zero, beqV_int, beqV_sl, beqV_str, beqV_bool, beqV_ptr, beqV_flt, beqV_agg, beqV_tuple, List.all_cons, List.all_nil, Bool.and_self, Bool.and_true, Bool.true_and, Nat.le_refl, Int.le_refl, Nat.zero_le, Option.getD_some, isStr, strV, isInt, intV, isBool, boolV, kindEq, at0, isJunk, Option.isSome_some, Option.isSome_none, if_true, if_false, Nat.add_sub_cancel_left, Nat.add_sub_cancel]
        and_intros <;> first | omega | exact hF _ | rfl
  · exact hp.elim
/-! ### sorted; each once -/
noncomputable def compI (cs : List Value) : List Value := eC (iE .i64) (Lib.compact (cs.map intV) ++ List.replicate (cs.length - (Lib.compact (cs.map intV)).length) 0)
noncomputable def compV (cs : List Value) (cap : Nat) : Value := .slice (some ⟨0,0,some 3⟩) (Lib.compact (cs.map intV)).length cap
noncomputable def sortV (_ : List Value) (_ : Nat) : Value := .tuple #[]
noncomputable def sortC : CtrW := rowCtr (iE .i64) sortI sortV
noncomputable def compC : CtrW := rowCtr (iE .i64) compI compV
theorem map_iE (zs : List Int) : (zs.map (iE .i64)).map intV = zs := by rw [List.map_map, show (intV ∘ iE .i64) = id from rfl, List.map_id]
theorem sort_says (hmix : Try.prog.follows .mixedOrders = true) : sortC.Holds Try.prog 35 := by
  refine rowCtr_holds (fun zs => zs.mergeSort fun x y => decide (x ≤ y)) (fun _ _ _ _ => .tuple #[]) Try.func35 rfl flat_i (fun zs => List.length_mergeSort _) (fun zs => sortI_map zs) (fun zs ρ l o' cap cc h1 h2 h3 h4 h5 => sort_V (enc := iE .i64) zs ρ l o' cap cc h1 h2 h3 h4 h5) (fun sp cap e q hx hq => ?_) fun blk off cap zs w h1 h2 h3 h4 => slices_Sort_int blk off cap zs w h1 h2 h3
  refine ⟨_, Try.func35, rfl, fun ρ w args' ht r ha => ?_⟩
  obtain ⟨y, ys, rfl, hy, hys⟩ := ha.of_cons
  obtain rfl := hys.of_nil
  have hz : ∃ p c, y = .slice p 0 c := by
    rcases hy.of_slice with ⟨_, _, _, a, rfl, _⟩ | ⟨cc, l, o', rfl, _⟩
    · exact ⟨_, _, rfl⟩
    · exact ⟨_, _, rfl⟩
  obtain ⟨p, c, rfl⟩ := hz
  refine (slices_Sort_int_none p c w).mono ?_
  rintro e' w' ⟨rfl, rfl⟩
  exact ⟨_, _, ρ, _, rfl, ⟨rfl, rfl⟩, ht, r, Frk.refl (Nat.le_refl _), .tuple #[] #[] rfl fun i x y hx => by simp at hx⟩
theorem comp_says (hmix : Try.prog.follows .mixedOrders = true) : compC.Holds Try.prog 36 := by
  refine rowCtr_holds (fun zs => Lib.compact zs ++ List.replicate (zs.length - (Lib.compact zs).length) 0) (fun zs blk off cap => .slice (some ⟨blk, off, none⟩) (Lib.compact zs).length cap) Try.func36 rfl flat_i (fun zs => by have := Lib.compact_length_le zs; simp; omega)
    (fun zs => by unfold compI; rw [map_iE, List.length_map]; rfl) (fun zs ρ l o' cap cc h1 h2 h3 h4 h5 => ?_) (fun sp cap e q hx hq => ?_) fun blk off cap zs w h1 h2 h3 h4 => (slices_Compact_int blk off cap zs w h1 (by omega) h4).mono ?_
  · unfold compV
    rw [map_iE]
    have := Lib.compact_length_le zs
    exact .sl _ _ _ _ _ cc l o' h1 (h2.imp (fun h => by omega) id) h3 (fun hh => by cases hh) (fun _ hw => by have := h4 hw; omega) (by omega)
  · refine ⟨_, Try.func36, rfl, fun ρ w args' ht r ha => ?_⟩
    obtain ⟨y, ys, rfl, hy, hys⟩ := ha.of_cons
    obtain rfl := hys.of_nil
    have hz : ∃ p c, y = .slice p 0 c ∧ VR ρ (compV [] cap) y := by
      rcases hy.of_slice with ⟨_, rfl, hm, a, rfl, _⟩ | ⟨cc, l, o', rfl, q1, q2, q3, q4, q5, q6⟩
      · exact ⟨_, _, rfl, .nl _ _ _ _ rfl (fun h => by cases h)⟩
      · exact ⟨_, _, rfl, .sl _ _ _ _ _ cc l o' q1 q2 q3 (fun hh => by cases hh) (fun _ => q5 hx) (Nat.zero_le _)⟩
    obtain ⟨p, c, rfl, hv⟩ := hz
    refine (slices_Compact_int_empty p c w).mono ?_
    rintro e' w' ⟨rfl, rfl⟩
    exact ⟨_, _, ρ, _, rfl, ⟨rfl, rfl⟩, ht, r, Frk.refl (Nat.le_refl _), hv⟩
  · rintro e' w' ⟨rfl, n, rfl⟩
    exact ⟨rfl, n, #[], by rw [Go.Sort.grow_empty]⟩
theorem sb9 : SumsOk Try.prog (bookOf []).sums := bookOf_ok trivial
noncomputable def S92 : Book := bookW [(35, sortC), (36, compC)] (bookOf [(20, cloneC)])
theorem sure92 (hmix : Try.prog.follows .mixedOrders = true) : Sure Try.prog S92 := ⟨hmix, plain, bookW_ok (l := [(35, sortC), (36, compC)]) (bookOf_ok (l := [(20, cloneC)]) ⟨clone_says hmix, trivial⟩) ⟨sort_says hmix, comp_says hmix, trivial⟩⟩

theorem w212 (cs : List Value) (own : Bool) (o : Nat) (sp : Option Nat) (len cap : Nat) (K : Value → Heap → Prop) :
  funX Try.prog S92 noLoop F212 body212 Try.f32 [] [] [.slice (some ⟨0,o,sp⟩) len cap] (hp [.cells cs 1 own]) K = (
(FlatL cs ∧ True) ∧
  (IsE (iE IntKind.i64) (ZP IntKind.i64) cs o len cap ∧ Need (leN len 1000000000) (Need (leN o cs.length) True)) ∧
    (FlatL (eC (iE IntKind.i64) (intsAt cs o len)) ∧ True) ∧
      RowPre (iE IntKind.i64) (some 1) len len (eC (iE IntKind.i64) (intsAt cs o len)) ∧
        (FlatL (rowC sortI len (eC (iE IntKind.i64) (intsAt cs o len))) ∧ True) ∧
          RowPre (iE IntKind.i64) (some 1) len len (rowC sortI len (eC (iE IntKind.i64) (intsAt cs o len))) ∧
            K
              (Value.slice (some { block := 1, off := 0, spot := some 3 : Addr })
                (Lib.compact
                    (List.map intV (List.take len (rowC sortI len (eC (iE IntKind.i64) (intsAt cs o len)))))).length
                len)
              (hp
                [Blk.cells cs 1 own,
                  Blk.cells (rowC compI len (rowC sortI len (eC (iE IntKind.i64) (intsAt cs o len)))) 1 true])) := by kernel_rfl

end Go.Proofs.Ytocndbldmkjcnaa

namespace Go.Proofs.Ytocndbldmkjcnaa
open Go.RowKit Go.Proofs.Ytocndbldmkjcnaa.AM
set_option maxRecDepth 100000
set_option maxHeartbeats 4000000
noncomputable def body211 : Code := (Try.f24.body).getD .skip
def F211 : List Nat → Option (List Nat) := fun p => match p with
  | [1] => some [0]
  | [1, 1] => some [0, 3]
  | [1, 0, 1, 1] => some [0, 3, 4]
  | [1, 0, 0, 0, 1, 0, 1, 1] => some [0, 3, 4, 9]
  | [1, 1, 0, 0, 0, 1, 0, 1, 1] => some [3]
  | [1, 0, 0, 1, 0, 1, 1] => some [0, 3, 4]
  | [1, 0, 0, 1, 0, 0, 1, 0, 1, 1] => some [0, 3, 4, 5]
  | [1, 0, 0, 0, 0, 1, 0, 0, 1, 0, 0, 1, 0, 1, 1] => some [0, 3, 4, 5, 27]
  | [1, 1, 0, 0, 0, 0, 1, 0, 0, 1, 0, 0, 1, 0, 1, 1] => some [0, 3, 4, 5]
  | [1, 0, 0, 0, 1, 0, 0, 1, 0, 0, 1, 0, 1, 1] => some [0, 3, 4, 5]
  | [1, 1, 0, 0, 1, 0, 0, 1, 0, 1, 1] => some [0, 3, 4, 5]
  | [1, 0, 1, 1, 0, 0, 1, 0, 0, 1, 0, 1, 1] => some [0, 3, 4, 5, 43]
  | [0, 1, 0, 1, 1, 0, 0, 1, 0, 0, 1, 0, 1, 1] => some [0, 3, 4]
  | [1, 1, 1, 0, 0, 1, 0, 0, 1, 0, 1, 1] => some [0, 3, 4, 5]
  | [1, 1, 0, 0, 1, 0, 1, 1] => some [0, 3, 4]
  | [1, 1, 1] => some [3]
  | [1, 1, 1, 1] => some [2]
  | _ => none
/-- rising, each once -/
noncomputable def ddL (l : List Int) : List Int := Lib.compact (l.mergeSort fun x y => decide (x ≤ y))
noncomputable def mkC (l : List Int) : List Value := eC (iE .i64) (ddL l ++ List.replicate (l.length - (ddL l).length) 0)
theorem ddL_len (l : List Int) : (ddL l).length ≤ l.length := by
  have := Lib.compact_length_le (l.mergeSort fun x y => decide (x ≤ y))
  rw [List.length_mergeSort] at this; exact this
theorem row_sort (l : List Int) : rowC sortI l.length (eC (iE .i64) l) = eC (iE .i64) (l.mergeSort fun x y => decide (x ≤ y)) := by
  unfold rowC eC
  rw [List.take_of_length_le (by simp), List.drop_eq_nil_of_le (by simp), List.append_nil]; exact sortI_map l
theorem row_comp (l : List Int) : rowC compI l.length (eC (iE .i64) (l.mergeSort fun x y => decide (x ≤ y))) = mkC l := by
  have h : (eC (iE .i64) (l.mergeSort fun x y => decide (x ≤ y))).length = l.length := by rw [eC_len, List.length_mergeSort]
  unfold rowC compI mkC ddL
  rw [List.take_of_length_le (by omega), List.drop_eq_nil_of_le (by omega), List.append_nil, h]
  unfold eC
  rw [map_iE]
noncomputable def makeC : Ctr where
  pre := fun args blks => match args, blks with
    | [.slice (some ⟨0, o, _⟩) len cap], [.cells cs 1 _] => IsI cs o len cap ∧ Need (leN len 1000000000) (Need (leN o cs.length) True)
    | _, _ => False
  val := fun args blks => match args, blks with
    | [.slice (some ⟨0, o, _⟩) len _], [.cells cs 1 _] => .slice (some ⟨1,0,some 3⟩) (ddL (intsAt cs o len)).length len
    | _, _ => undef
  new := fun args blks => match args, blks with
    | [.slice (some ⟨0, o, _⟩) len _], [.cells cs 1 _] => [.cells (mkC (intsAt cs o len)) 1 true]
    | _, _ => []
theorem make_says (hmix : Try.prog.follows .mixedOrders = true) : makeC.Holds Try.prog 32 := by
  intro args blks hf hp
  simp only [makeC] at hp ⊢
  split at hp
  · rename_i o sp len cap cs own
    obtain ⟨⟨l, rfl, hc, hB⟩, hl⟩ := hp
    have hl' := hl
    simp only [Alt_iff, Need_iff, ltI_eq, leI_eq, eqI_eq, leN_eq, eqN_eq, decide_eq_true_eq, decide_eq_false_iff_not, decide_true, decide_false, true_and, and_true, Bool.true_eq_false, Bool.false_eq_true, false_implies, true_implies, implies_true, not_true_eq_false, not_false_eq_true, Bool.not_eq_true', Bool.not_eq_false'] at hl
    simp only [intsAt_eq hB]
    refine ⟨⟨eC_flat flat_i _, trivial⟩, ?_⟩
    refine (sure92 hmix).funX F212 body212 [] [] Try.func32 rfl noLoops ?_
    rw [w212, intsAt_eq hB, row_sort, row_comp]
    have ht : List.map intV (List.take l.length (eC (iE .i64) (l.mergeSort fun x y => decide (x ≤ y)))) = l.mergeSort fun x y => decide (x ≤ y) := by
      rw [List.take_of_length_le (by rw [eC_len, List.length_mergeSort]; exact Nat.le_refl _)]; unfold eC; exact map_iE _
    rw [ht]
    refine ⟨⟨hB.flat, trivial⟩, ⟨.mk l rfl hc hB, hl'⟩, ⟨eC_flat flat_i _, trivial⟩, .mk l [] (by rw [List.append_nil]; rfl) rfl (by omega) (Nat.le_refl _) rfl, ⟨eC_flat flat_i _, trivial⟩,
      .mk (l.mergeSort fun x y => decide (x ≤ y)) [] (by rw [List.append_nil]; rfl) (List.length_mergeSort _).symm (by rw [List.length_mergeSort]; omega) (by rw [List.length_mergeSort]; exact Nat.le_refl _) rfl,
      FlatD.hp ⟨hB.flat, eC_flat flat_i _, trivial⟩, rfl, rfl, rfl⟩
  · exact hp.elim
noncomputable def T211 (a : Value) (m i : Nat) : List Value := tmps 59 [(0, a), (3, .slice (some ⟨1,0,some 1⟩) m m), (4, .int .i64 i)]
noncomputable def T211i (a : Value) (m i n : Nat) : List Value := tmps 59 [(0, a), (3, .slice (some ⟨1,0,some 1⟩) m m), (4, .int .i64 i), (5, .int .i64 n)]

theorem r211i (cs c2 : List Value) (own : Bool) (o : Nat) (sp : Option Nat) (len cap m i n : Nat) (K : Post) :
  roundX Try.prog S0 noLoop F211 body211 1 [] [] [] [] [0,3,4,5] [0,0,0,1,0,0,1,0,0,1,0,1,1] (T211i (.slice (some ⟨0,o,sp⟩) len cap) m i n) (hp [.cells cs 1 own, .cells c2 1 true]) K = (
Alt (ltI 0 (↑n : Int))
  (Need (leI 0 (wr IntKind.i64 ((↑n : Int) - 1)))
    (Need (ltI (wr IntKind.i64 ((↑n : Int) - 1)) (↑m : Int))
      (Need (isInt IntKind.i64 ((getO c2 (0 + (wr IntKind.i64 ((↑n : Int) - 1)).toNat * 1)).getD undef))
        (Need (ltI (↑i : Int) (↑len : Int))
          (Need (isInt IntKind.i64 ((getO cs (o + (↑i : Int).toNat * 1)).getD undef))
            (Alt
              (ltI (intV ((getO cs (o + (↑i : Int).toNat * 1)).getD undef))
                (intV ((getO c2 (0 + (wr IntKind.i64 ((↑n : Int) - 1)).toNat * 1)).getD undef)))
              (K AE.normal
                (tmps 59
                  [(0, Value.slice (some { block := 0, off := o, spot := sp : Addr }) len cap),
                    (3, Value.slice (some { block := 1, off := 0, spot := some 1 : Addr }) m m),
                    (4, Value.int IntKind.i64 (↑i : Int)),
                    (5, Value.int IntKind.i64 (wr IntKind.i64 ((↑n : Int) - 1)))])
                (hp [Blk.cells cs 1 own, Blk.cells c2 1 true]))
              (K (AE.exit 2)
                (tmps 59
                  [(0, Value.slice (some { block := 0, off := o, spot := sp : Addr }) len cap),
                    (3, Value.slice (some { block := 1, off := 0, spot := some 1 : Addr }) m m),
                    (4, Value.int IntKind.i64 (↑i : Int)), (5, Value.int IntKind.i64 (↑n : Int))])
                (hp [Blk.cells cs 1 own, Blk.cells c2 1 true]))))))))
  (K (AE.exit 2)
    (tmps 59
      [(0, Value.slice (some { block := 0, off := o, spot := sp : Addr }) len cap),
        (3, Value.slice (some { block := 1, off := 0, spot := some 1 : Addr }) m m),
        (4, Value.int IntKind.i64 (↑i : Int)), (5, Value.int IntKind.i64 (↑n : Int))])
    (hp [Blk.cells cs 1 own, Blk.cells c2 1 true]))) := by kernel_rfl

noncomputable def c211i (cs c2 : List Value) (own : Bool) (o : Nat) (sp : Option Nat) (len cap m i n : Nat) : Cut := ⟨[0,0,1,0,0,1,0,0,1,0,1,1], T211i (.slice (some ⟨0,o,sp⟩) len cap) m i m, hp [.cells cs 1 own, .cells c2 1 true], fun K => K (.exit 2) (T211i (.slice (some ⟨0,o,sp⟩) len cap) m i n) (hp [.cells cs 1 own, .cells c2 1 true])⟩

theorem r211 (cs c2 : List Value) (own : Bool) (o : Nat) (sp : Option Nat) (len cap m i n : Nat) (K : Post) :
  roundX Try.prog S0 (gcLKX (at0 []) (at0 []) 1 (cutLK [c211i cs c2 own o sp len cap m i n])) F211 body211 1 [] [] [] [] [0,3,4] [0,0,1,0,1,1] (T211 (.slice (some ⟨0,o,sp⟩) len cap) m i) (hp [.cells cs 1 own, .cells c2 1 true]) K = (
Alt (ltI (↑i : Int) (↑len : Int))
  (FlatD [] (hp [Blk.cells cs 1 own, Blk.cells c2 1 true]) ∧
    tmps 59
          [(0, Value.slice (some { block := 0, off := o, spot := sp : Addr }) len cap),
            (3, Value.slice (some { block := 1, off := 0, spot := some 1 : Addr }) m m),
            (4, Value.int IntKind.i64 (↑i : Int)), (5, Value.int IntKind.i64 (↑m : Int))] =
        tmps 59
          [(0, Value.slice (some { block := 0, off := o, spot := sp : Addr }) len cap),
            (3, Value.slice (some { block := 1, off := 0, spot := some 1 : Addr }) m m),
            (4, Value.int IntKind.i64 (↑i : Int)), (5, Value.int IntKind.i64 (↑m : Int))] ∧
      hp [Blk.cells cs 1 own, Blk.cells c2 1 true] = hp [Blk.cells cs 1 own, Blk.cells c2 1 true] ∧
        Alt (ltI 0 (↑n : Int))
          (Need (leI 0 (wr IntKind.i64 ((↑n : Int) - 1)))
            (Need (ltI (wr IntKind.i64 ((↑n : Int) - 1)) (↑m : Int))
              (Need (isInt IntKind.i64 ((getO c2 (0 + (wr IntKind.i64 ((↑n : Int) - 1)).toNat * 1)).getD undef))
                (Need (ltI (↑i : Int) (↑len : Int))
                  (Need (isInt IntKind.i64 ((getO cs (o + (↑i : Int).toNat * 1)).getD undef))
                    (Alt
                      (eqI (intV ((getO c2 (0 + (wr IntKind.i64 ((↑n : Int) - 1)).toNat * 1)).getD undef))
                        (intV ((getO cs (o + (↑i : Int).toNat * 1)).getD undef)))
                      (K AE.normal
                        (tmps 59
                          [(0, Value.slice (some { block := 0, off := o, spot := sp : Addr }) len cap),
                            (3, Value.slice (some { block := 1, off := 0, spot := some 1 : Addr }) m m),
                            (4, Value.int IntKind.i64 (wr IntKind.i64 ((↑i : Int) + 1)))])
                        (hp [Blk.cells cs 1 own, Blk.cells c2 1 true]))
                      (Need (leI (↑n : Int) (↑m : Int))
                        (Need (leN (0 + ((↑n : Int).toNat - 0) * 1) c2.length)
                          (Need (leN (((↑n : Int).toNat - 0) * 8) 1099511627776)
                            (Need (leN ((↑n : Int).toNat - 0) 1099511627776)
                              (Need (ltI (↑i : Int) (↑len : Int))
                                (Need (isInt IntKind.i64 ((getO cs (o + (↑i : Int).toNat * 1)).getD undef))
                                  (Need
                                    (leN (0 + ((↑n : Int).toNat - 0) * 1)
                                      (List.take (((↑n : Int).toNat - 0) * 1) (List.drop 0 c2)).length)
                                    (Need (leN (((↑n : Int).toNat - 0 + 1) * 8) 1099511627776)
                                      (Need (leN ((↑n : Int).toNat - 0 + 1) 1099511627776)
                                        (Need (leI (↑n : Int) (↑m : Int))
                                          (Need (leN (0 + (↑n : Int).toNat * 1 + (m - (↑n : Int).toNat) * 1) c2.length)
                                            (Need
                                              (leN (0 + ((↑n : Int).toNat - 0 + 1) * 1)
                                                (List.take (((↑n : Int).toNat - 0) * 1)
                                                      (List.drop 0
                                                        (List.take (((↑n : Int).toNat - 0) * 1) (List.drop 0 c2))) ++
                                                    [Value.int IntKind.i64
                                                        (intV
                                                          ((getO cs (o + (↑i : Int).toNat * 1)).getD undef))]).length)
                                              (Need
                                                (leN (((↑n : Int).toNat - 0 + 1 + (m - (↑n : Int).toNat)) * 8)
                                                  1099511627776)
                                                (Need
                                                  (leN ((↑n : Int).toNat - 0 + 1 + (m - (↑n : Int).toNat))
                                                    1099511627776)
                                                  (Need
                                                    ((List.take ((m - (↑n : Int).toNat) * 1)
                                                          (List.drop (0 + (↑n : Int).toNat * 1) c2)).all
                                                      oneV)
                                                    (Need (leI (↑n : Int) (↑m : Int))
                                                      (Need
                                                        (beqV 64
                                                          (Value.slice
                                                            (some
                                                              { block := 1, off := 0 + (↑n : Int).toNat * 1,
                                                                spot := some 3 : Addr })
                                                            (m - (↑n : Int).toNat) (m - (↑n : Int).toNat))
                                                          (Value.slice
                                                            (some
                                                              { block := 1, off := 0 + (↑n : Int).toNat * 1,
                                                                spot := some 3 : Addr })
                                                            (m - (↑n : Int).toNat) (m - (↑n : Int).toNat)))
                                                        (Need (leI (↑n : Int) (↑m : Int))
                                                          (Need
                                                            (beqV 64
                                                              (Value.slice
                                                                (some
                                                                  { block := 1, off := 0 + (↑n : Int).toNat * 1,
                                                                    spot := some 3 : Addr })
                                                                (m - (↑n : Int).toNat) (m - (↑n : Int).toNat))
                                                              (Value.slice
                                                                (some
                                                                  { block := 1, off := 0 + (↑n : Int).toNat * 1,
                                                                    spot := some 3 : Addr })
                                                                (m - (↑n : Int).toNat) (m - (↑n : Int).toNat)))
                                                            (Need
                                                              (beqV 64 (Value.int IntKind.i64 (↑n : Int))
                                                                (Value.int IntKind.i64 (↑n : Int)))
                                                              (Need
                                                                (beqV 64 (Value.int IntKind.i64 (↑n : Int))
                                                                  (Value.int IntKind.i64 (↑n : Int)))
                                                                (Need
                                                                  (beqV 64
                                                                    (Value.slice
                                                                      (some
                                                                        { block := 1, off := 0, spot := some 1 : Addr })
                                                                      m m)
                                                                    (Value.slice
                                                                      (some
                                                                        { block := 1, off := 0, spot := some 1 : Addr })
                                                                      m m))
                                                                  (Need
                                                                    (beqV 64
                                                                      (Value.slice
                                                                        (some
                                                                          { block := 1, off := 0, spot := some 1 :
                                                                            Addr })
                                                                        m m)
                                                                      (Value.slice
                                                                        (some
                                                                          { block := 1, off := 0, spot := some 1 :
                                                                            Addr })
                                                                        m m))
                                                                    (Need
                                                                      (isInt IntKind.i64
                                                                        ((getO cs (o + (↑i : Int).toNat * 1)).getD
                                                                          undef))
                                                                      (Need
                                                                        (beqV 64
                                                                          (Value.int IntKind.i64
                                                                            (intV
                                                                              ((getO cs (o + (↑i : Int).toNat * 1)).getD
                                                                                undef)))
                                                                          (Value.int IntKind.i64
                                                                            (intV
                                                                              ((getO cs (o + (↑i : Int).toNat * 1)).getD
                                                                                undef))))
                                                                        (Need (ltI (↑i : Int) (↑len : Int))
                                                                          (Need
                                                                            (beqV 64
                                                                              (Value.pointer
                                                                                (some
                                                                                  { block := 0,
                                                                                    off := o + (↑i : Int).toNat * 1 :
                                                                                    Addr }))
                                                                              (Value.pointer
                                                                                (some
                                                                                  { block := 0,
                                                                                    off := o + (↑i : Int).toNat * 1 :
                                                                                    Addr })))
                                                                            (Need
                                                                              (beqV 64
                                                                                (Value.int IntKind.i64 (↑i : Int))
                                                                                (Value.int IntKind.i64 (↑i : Int)))
                                                                              (Need
                                                                                (beqV 64
                                                                                  (Value.slice
                                                                                    (some
                                                                                      { block := 0, off := o,
                                                                                        spot := sp : Addr })
                                                                                    len cap)
                                                                                  (Value.slice
                                                                                    (some
                                                                                      { block := 0, off := o,
                                                                                        spot := sp : Addr })
                                                                                    len cap))
                                                                                (K AE.normal
                                                                                  (tmps 59
                                                                                    [(0,
                                                                                        Value.slice
                                                                                          (some
                                                                                            { block := 0, off := o,
                                                                                              spot := sp : Addr })
                                                                                          len cap),
                                                                                      (3,
                                                                                        Value.slice
                                                                                          (some
                                                                                            { block := 1, off := 0,
                                                                                              spot := some 1 : Addr })
                                                                                          ((↑n : Int).toNat - 0 + 1 +
                                                                                            (m - (↑n : Int).toNat))
                                                                                          ((↑n : Int).toNat - 0 + 1 +
                                                                                            (m - (↑n : Int).toNat))),
                                                                                      (4,
                                                                                        Value.int IntKind.i64
                                                                                          (wr IntKind.i64
                                                                                            ((↑i : Int) + 1)))])
                                                                                  (hp
                                                                                    [Blk.cells cs 1 own,
                                                                                      Blk.cells
                                                                                        (List.take
                                                                                            (((↑n : Int).toNat - 0 +
                                                                                                1) *
                                                                                              1)
                                                                                            (List.drop 0
                                                                                              (List.take
                                                                                                  (((↑n : Int).toNat -
                                                                                                      0) *
                                                                                                    1)
                                                                                                  (List.drop 0
                                                                                                    (List.take
                                                                                                      (((↑n :
                                                                                                              Int).toNat -
                                                                                                          0) *
                                                                                                        1)
                                                                                                      (List.drop 0
                                                                                                        c2))) ++
                                                                                                [Value.int IntKind.i64
                                                                                                    (intV
                                                                                                      ((getO cs
                                                                                                            (o +
                                                                                                              (↑i :
                                                                                                                    Int).toNat *
                                                                                                                1)).getD
                                                                                                        undef))])) ++
                                                                                          List.take
                                                                                            ((m - (↑n : Int).toNat) * 1)
                                                                                            (List.drop
                                                                                              (0 + (↑n : Int).toNat * 1)
                                                                                              c2))
                                                                                        1
                                                                                        true])))))))))))))))))))))))))))))))))))))
          (Need (leI (↑n : Int) (↑m : Int))
            (Need (leN (0 + ((↑n : Int).toNat - 0) * 1) c2.length)
              (Need (leN (((↑n : Int).toNat - 0) * 8) 1099511627776)
                (Need (leN ((↑n : Int).toNat - 0) 1099511627776)
                  (Need (ltI (↑i : Int) (↑len : Int))
                    (Need (isInt IntKind.i64 ((getO cs (o + (↑i : Int).toNat * 1)).getD undef))
                      (Need
                        (leN (0 + ((↑n : Int).toNat - 0) * 1)
                          (List.take (((↑n : Int).toNat - 0) * 1) (List.drop 0 c2)).length)
                        (Need (leN (((↑n : Int).toNat - 0 + 1) * 8) 1099511627776)
                          (Need (leN ((↑n : Int).toNat - 0 + 1) 1099511627776)
                            (Need (leI (↑n : Int) (↑m : Int))
                              (Need (leN (0 + (↑n : Int).toNat * 1 + (m - (↑n : Int).toNat) * 1) c2.length)
                                (Need
                                  (leN (0 + ((↑n : Int).toNat - 0 + 1) * 1)
                                    (List.take (((↑n : Int).toNat - 0) * 1)
                                          (List.drop 0 (List.take (((↑n : Int).toNat - 0) * 1) (List.drop 0 c2))) ++
                                        [Value.int IntKind.i64
                                            (intV ((getO cs (o + (↑i : Int).toNat * 1)).getD undef))]).length)
                                  (Need (leN (((↑n : Int).toNat - 0 + 1 + (m - (↑n : Int).toNat)) * 8) 1099511627776)
                                    (Need (leN ((↑n : Int).toNat - 0 + 1 + (m - (↑n : Int).toNat)) 1099511627776)
                                      (Need
                                        ((List.take ((m - (↑n : Int).toNat) * 1)
                                              (List.drop (0 + (↑n : Int).toNat * 1) c2)).all
                                          oneV)
                                        (Need (leI (↑n : Int) (↑m : Int))
                                          (Need
                                            (beqV 64
                                              (Value.slice
                                                (some
                                                  { block := 1, off := 0 + (↑n : Int).toNat * 1, spot := some 3 :
                                                    Addr })
                                                (m - (↑n : Int).toNat) (m - (↑n : Int).toNat))
                                              (Value.slice
                                                (some
                                                  { block := 1, off := 0 + (↑n : Int).toNat * 1, spot := some 3 :
                                                    Addr })
                                                (m - (↑n : Int).toNat) (m - (↑n : Int).toNat)))
                                            (Need (leI (↑n : Int) (↑m : Int))
                                              (Need
                                                (beqV 64
                                                  (Value.slice
                                                    (some
                                                      { block := 1, off := 0 + (↑n : Int).toNat * 1, spot := some 3 :
                                                        Addr })
                                                    (m - (↑n : Int).toNat) (m - (↑n : Int).toNat))
                                                  (Value.slice
                                                    (some
                                                      { block := 1, off := 0 + (↑n : Int).toNat * 1, spot := some 3 :
                                                        Addr })
                                                    (m - (↑n : Int).toNat) (m - (↑n : Int).toNat)))
                                                (Need
                                                  (beqV 64 (Value.int IntKind.i64 (↑n : Int))
                                                    (Value.int IntKind.i64 (↑n : Int)))
                                                  (Need
                                                    (beqV 64 (Value.int IntKind.i64 (↑n : Int))
                                                      (Value.int IntKind.i64 (↑n : Int)))
                                                    (Need
                                                      (beqV 64
                                                        (Value.slice
                                                          (some { block := 1, off := 0, spot := some 1 : Addr }) m m)
                                                        (Value.slice
                                                          (some { block := 1, off := 0, spot := some 1 : Addr }) m m))
                                                      (Need
                                                        (beqV 64
                                                          (Value.slice
                                                            (some { block := 1, off := 0, spot := some 1 : Addr }) m m)
                                                          (Value.slice
                                                            (some { block := 1, off := 0, spot := some 1 : Addr }) m m))
                                                        (Need
                                                          (isInt IntKind.i64
                                                            ((getO cs (o + (↑i : Int).toNat * 1)).getD undef))
                                                          (Need
                                                            (beqV 64
                                                              (Value.int IntKind.i64
                                                                (intV
                                                                  ((getO cs (o + (↑i : Int).toNat * 1)).getD undef)))
                                                              (Value.int IntKind.i64
                                                                (intV
                                                                  ((getO cs (o + (↑i : Int).toNat * 1)).getD undef))))
                                                            (Need (ltI (↑i : Int) (↑len : Int))
                                                              (Need
                                                                (beqV 64
                                                                  (Value.pointer
                                                                    (some
                                                                      { block := 0, off := o + (↑i : Int).toNat * 1 :
                                                                        Addr }))
                                                                  (Value.pointer
                                                                    (some
                                                                      { block := 0, off := o + (↑i : Int).toNat * 1 :
                                                                        Addr })))
                                                                (Need
                                                                  (beqV 64 (Value.int IntKind.i64 (↑i : Int))
                                                                    (Value.int IntKind.i64 (↑i : Int)))
                                                                  (Need
                                                                    (beqV 64
                                                                      (Value.slice
                                                                        (some
                                                                          { block := 0, off := o, spot := sp : Addr })
                                                                        len cap)
                                                                      (Value.slice
                                                                        (some
                                                                          { block := 0, off := o, spot := sp : Addr })
                                                                        len cap))
                                                                    (K AE.normal
                                                                      (tmps 59
                                                                        [(0,
                                                                            Value.slice
                                                                              (some
                                                                                { block := 0, off := o, spot := sp :
                                                                                  Addr })
                                                                              len cap),
                                                                          (3,
                                                                            Value.slice
                                                                              (some
                                                                                { block := 1, off := 0, spot := some 1 :
                                                                                  Addr })
                                                                              ((↑n : Int).toNat - 0 + 1 +
                                                                                (m - (↑n : Int).toNat))
                                                                              ((↑n : Int).toNat - 0 + 1 +
                                                                                (m - (↑n : Int).toNat))),
                                                                          (4,
                                                                            Value.int IntKind.i64
                                                                              (wr IntKind.i64 ((↑i : Int) + 1)))])
                                                                      (hp
                                                                        [Blk.cells cs 1 own,
                                                                          Blk.cells
                                                                            (List.take (((↑n : Int).toNat - 0 + 1) * 1)
                                                                                (List.drop 0
                                                                                  (List.take
                                                                                      (((↑n : Int).toNat - 0) * 1)
                                                                                      (List.drop 0
                                                                                        (List.take
                                                                                          (((↑n : Int).toNat - 0) * 1)
                                                                                          (List.drop 0 c2))) ++
                                                                                    [Value.int IntKind.i64
                                                                                        (intV
                                                                                          ((getO cs
                                                                                                (o +
                                                                                                  (↑i : Int).toNat *
                                                                                                    1)).getD
                                                                                            undef))])) ++
                                                                              List.take ((m - (↑n : Int).toNat) * 1)
                                                                                (List.drop (0 + (↑n : Int).toNat * 1)
                                                                                  c2))
                                                                            1 true]))))))))))))))))))))))))))))))))
  (K (AE.exit 0) (tmps 59 [(3, Value.slice (some { block := 1, off := 0, spot := some 1 : Addr }) m m)])
    (hp [Blk.cells cs 1 own, Blk.cells c2 1 true]))) := by kernel_rfl

theorem r211e (cs c2 : List Value) (own : Bool) (o : Nat) (sp : Option Nat) (len cap m i : Nat) (K : Post) :
  roundX Try.prog S0 noLoop F211 body211 1 [] [] [] [] [0,3,4] [0,0,1,0,1,1] (T211 (.slice (some ⟨0,o,sp⟩) len cap) m i) (hp [.cells cs 1 own, .cells c2 1 true]) K = (
Alt (ltI (↑i : Int) (↑len : Int)) False
  (K (AE.exit 0) (tmps 59 [(3, Value.slice (some { block := 1, off := 0, spot := some 1 : Addr }) m m)])
    (hp [Blk.cells cs 1 own, Blk.cells c2 1 true]))) := by kernel_rfl

theorem w211 (cs : List Value) (own : Bool) (o : Nat) (sp : Option Nat) (len cap : Nat) (c2 : List Value) (m : Nat) (K : Value → Heap → Prop) :
  funX Try.prog S0 (gcLKX (at0 []) (at0 [.tmp 3 1]) 1 (cutLK [⟨[0,1,0,1,1], T211 (.slice (some ⟨0,o,sp⟩) len cap) 0 0, hp [.cells cs 1 own, .cells [] 1 true], fun K => K (.exit 0) (tmps 59 [(3, .slice (some ⟨1,0,some 1⟩) m m)]) (hp [.cells cs 1 own, .cells c2 1 true])⟩])) F211 body211 Try.f24 [] [] [.slice (some ⟨0,o,sp⟩) len cap] (hp [.cells cs 1 own]) K = (
FlatD [] (hp [Blk.cells cs 1 own, Blk.cells [] 1 true]) ∧
  tmps 59
        [(0, Value.slice (some { block := 0, off := o, spot := sp : Addr }) len cap),
          (3, Value.slice (some { block := 1, off := 0, spot := some 1 : Addr }) 0 0), (4, Value.int IntKind.i64 0)] =
      tmps 59
        [(0, Value.slice (some { block := 0, off := o, spot := sp : Addr }) len cap),
          (3, Value.slice (some { block := 1, off := 0, spot := some 1 : Addr }) 0 0), (4, Value.int IntKind.i64 0)] ∧
    hp [Blk.cells cs 1 own, Blk.cells [] 1 true] = hp [Blk.cells cs 1 own, Blk.cells [] 1 true] ∧
      K (Value.slice (some { block := 1, off := 0, spot := some 1 : Addr }) m m)
        (hp [Blk.cells cs 1 own, Blk.cells c2 1 true])) := by kernel_rfl

end Go.Proofs.Ytocndbldmkjcnaa

namespace Go.Proofs.Ytocndbldmkjcnaa
open Go.RowKit Go.Proofs.Ytocndbldmkjcnaa.AM
set_option maxRecDepth 100000
set_option maxHeartbeats 4000000
/-- the place of a number, looked for from the end on -/
def posI (x : Int) (L : List Int) : Nat → Nat
  | 0 => 0
  | n + 1 => if ltI x ((L[n]?).getD 0) then posI x L n else n + 1
theorem posI_le (x : Int) (L : List Int) : ∀ n, posI x L n ≤ n := by
  intro n
  induction n with
  | zero => exact Nat.le_refl _
  | succ n ih => unfold posI; split <;> omega
def insI (L : List Int) (x : Int) : List Int := if 0 < posI x L L.length ∧ L[posI x L L.length - 1]? = some x then L else L.take (posI x L L.length) ++ x :: L.drop (posI x L L.length)
def riseL (l : List Int) : List Int := l.foldl insI []
theorem insI_mem (L : List Int) (x y : Int) : y ∈ insI L x ↔ y = x ∨ y ∈ L := by
  unfold insI
  split
  · rename_i h
    have := List.mem_of_getElem? h.2
    exact ⟨.inr, fun hh => hh.elim (fun e => e ▸ this) id⟩
  · simp only [List.mem_append, List.mem_cons]
    have : y ∈ L ↔ y ∈ L.take (posI x L L.length) ∨ y ∈ L.drop (posI x L L.length) := by rw [← List.mem_append, List.take_append_drop]
    rw [this]
    constructor
    · rintro (h | h | h) <;> simp [h]
    · rintro (h | h | h) <;> simp [h]
theorem insI_len (L : List Int) (x : Int) : (insI L x).length ≤ L.length + 1 := by
  unfold insI
  have := posI_le x L L.length
  split
  · omega
  · simp; omega
theorem rise_mem : ∀ (l L : List Int) (y : Int), y ∈ l.foldl insI L ↔ y ∈ L ∨ y ∈ l := by
  intro l
  induction l with
  | nil => intro L y; simp
  | cons x l ih =>
    intro L y
    rw [List.foldl_cons, ih, insI_mem, List.mem_cons]
    constructor
    · rintro ((h | h) | h) <;> simp [h]
    · rintro (h | h | h) <;> simp [h]
theorem rise_len : ∀ (l L : List Int), (l.foldl insI L).length ≤ L.length + l.length := by
  intro l
  induction l with
  | nil => intro L; exact Nat.le_refl _
  | cons x l ih => intro L; rw [List.foldl_cons]; have := ih (insI L x); have := insI_len L x; simp; omega
abbrev Up (l : List Int) : Prop := l.Pairwise fun x y => x < y
theorem posI_facts (x : Int) (L : List Int) (hr : Up L) : ∀ n, n ≤ L.length → (∀ (j : Nat) y, j < posI x L n → L[j]? = some y → y ≤ x) ∧ (∀ (j : Nat) y, posI x L n ≤ j → j < n → L[j]? = some y → x < y) := by
  intro n
  induction n with
  | zero => intro _; exact ⟨fun j y h => by simp [posI] at h, fun j y _ h => by omega⟩
  | succ n ih =>
    intro hl
    obtain ⟨h1, h2⟩ := ih (by omega)
    have hx : L[n]? = some L[n] := List.getElem?_eq_getElem (by omega)
    unfold posI
    rw [hx]
    simp only [Option.getD_some]
    split
    · rename_i hlt
      have hlt := ltI_iff.1 hlt
      refine ⟨h1, fun j y ha hb hj => ?_⟩
      rcases Nat.lt_or_ge j n with q | q
      · exact h2 j y ha q hj
      · obtain rfl : j = n := by omega
        rw [hx] at hj; injection hj with hj; subst hj; exact hlt
    · rename_i hlt
      have hle : L[n] ≤ x := by
        by_cases q : x < L[n]
        · exact absurd (ltI_iff.2 q) hlt
        · omega
      refine ⟨fun j y ha hj => ?_, fun j y ha hb => by omega⟩
      rcases Nat.lt_or_ge j n with q | q
      · have := List.pairwise_iff_getElem.1 hr j n (by omega) (by omega) q
        rw [List.getElem?_eq_getElem (by omega)] at hj; injection hj with hj; omega
      · obtain rfl : j = n := by omega
        rw [hx] at hj; injection hj with hj; omega
theorem insI_up {L : List Int} {x : Int} (hr : Up L) : Up (insI L x) := by
  obtain ⟨h1, h2⟩ := posI_facts x L hr L.length (Nat.le_refl _)
  have hle := posI_le x L L.length
  unfold insI
  split
  · exact hr
  · rename_i hnot
    generalize posI x L L.length = n at *
    have hs := hr
    unfold Up at hs ⊢
    rw [← List.take_append_drop n L, List.pairwise_append] at hs
    have hA : ∀ y ∈ L.take n, y < x := fun y hy => by
      obtain ⟨j, hj⟩ := List.mem_iff_getElem?.1 hy
      rw [List.getElem?_take] at hj
      split at hj
      · rename_i hjn
        have hyx := h1 j y hjn hj
        rcases Int.lt_or_eq_of_le hyx with q | q
        · exact q
        · subst q
          exfalso
          have hlast : j = n - 1 := by
            rcases Nat.lt_or_ge j (n - 1) with q | q
            · have hy1 : L[n - 1]? = some L[n - 1] := List.getElem?_eq_getElem (by omega)
              have := h1 (n - 1) _ (by omega) hy1
              have := List.pairwise_iff_getElem.1 hr j (n - 1) (by omega) (by omega) q
              rw [List.getElem?_eq_getElem (by omega)] at hj; injection hj with hj; omega
            · omega
          subst hlast
          exact hnot ⟨by omega, hj⟩
      · cases hj
    have hB : ∀ y ∈ L.drop n, x < y := fun y hy => by
      obtain ⟨j, hj⟩ := List.mem_iff_getElem?.1 hy
      rw [List.getElem?_drop] at hj
      exact h2 (n + j) y (by omega) (List.getElem?_eq_some_iff.1 hj).1 hj
    rw [List.pairwise_append, List.pairwise_cons]
    refine ⟨hs.1, ⟨hB, hs.2.1⟩, fun a ha b hb => ?_⟩
    rcases List.mem_cons.1 hb with rfl | hb
    · exact hA a ha
    · have := hA a ha; have := hB b hb; omega
theorem rise_up : ∀ (l L : List Int), Up L → Up (l.foldl insI L) := by
  intro l
  induction l with
  | nil => intro L h; exact h
  | cons x l ih => intro L h; rw [List.foldl_cons]; exact ih _ (insI_up h)
theorem riseL_up (l : List Int) : Up (riseL l) := rise_up l [] List.Pairwise.nil
theorem riseL_mem {l : List Int} {y : Int} : y ∈ riseL l ↔ y ∈ l := by unfold riseL; rw [rise_mem]; simp
theorem riseL_len (l : List Int) : (riseL l).length ≤ l.length := by have := rise_len l []; simpa [riseL] using this
/-- rising rows of the same numbers are the same -/
theorem up_ext : ∀ {a b : List Int}, Up a → Up b → (∀ y, y ∈ a ↔ y ∈ b) → a = b := by
  intro a
  induction a with
  | nil =>
    intro b _ _ h
    cases b with
    | nil => rfl
    | cons y b => exact absurd ((h y).2 List.mem_cons_self) (by simp)
  | cons x a ih =>
    intro b ha hb h
    cases b with
    | nil => exact absurd ((h x).1 List.mem_cons_self) (by simp)
    | cons y b =>
      unfold Up at ha hb
      rw [List.pairwise_cons] at ha hb
      have hxy : x = y := by
        have h1 := (h x).1 List.mem_cons_self
        have h2 := (h y).2 List.mem_cons_self
        rcases List.mem_cons.1 h1 with e | h1
        · exact e
        · rcases List.mem_cons.1 h2 with e | h2
          · exact e.symm
          · have := hb.1 x h1; have := ha.1 y h2; omega
      subst hxy
      congr 1
      refine ih ha.2 hb.2 fun z => ⟨fun hz => ?_, fun hz => ?_⟩
      · rcases List.mem_cons.1 ((h z).1 (List.mem_cons_of_mem _ hz)) with e | e
        · subst e; have := ha.1 z hz; omega
        · exact e
      · rcases List.mem_cons.1 ((h z).2 (List.mem_cons_of_mem _ hz)) with e | e
        · subst e; have := hb.1 z hz; omega
        · exact e
theorem up_iff_rise {l : List Int} : Up l ↔ l = riseL l := ⟨fun h => up_ext h (riseL_up l) fun y => riseL_mem.symm, fun h => h ▸ riseL_up l⟩
/-- what is kept of a sorted row -/
theorem compact_mem {l : List Int} {y : Int} : y ∈ Lib.compact l ↔ y ∈ l := by
  unfold Lib.compact Lib.compactUpTo
  simp only [List.mem_map, List.mem_filter, List.mem_range]
  constructor
  · rintro ⟨j, ⟨hj, _⟩, rfl⟩
    have : l.toArray[j]! = l[j] := by simp [hj]
    rw [this]; exact List.getElem_mem _
  · intro hy
    have hex : ∃ j, ∃ h : j < l.length, l[j] = y := by
      obtain ⟨j, h, e⟩ := List.getElem_of_mem hy
      exact ⟨j, h, e⟩
    obtain ⟨j, hj, hmin⟩ : ∃ j, (∃ h : j < l.length, l[j] = y) ∧ ∀ k, k < j → ¬ ∃ h : k < l.length, l[k] = y := by
      obtain ⟨j, hj⟩ := hex
      induction j using Nat.strongRecOn with
      | _ j ih =>
        by_cases q : ∃ k, k < j ∧ ∃ h : k < l.length, l[k] = y
        · obtain ⟨k, hk, hk2⟩ := q; exact ih k hk hk2
        · exact ⟨j, hj, fun k hk hh => q ⟨k, hk, hh⟩⟩
    obtain ⟨hl, e⟩ := hj
    refine ⟨j, ⟨hl, ?_⟩, by simp [hl, e]⟩
    unfold Lib.keeps
    rw [decide_eq_true_iff]
    by_cases h0 : j = 0
    · exact .inl h0
    · right
      intro hh
      have h1 : l.toArray[j]! = l[j] := by simp [hl]
      have h2 : l.toArray[j - 1]! = l[j - 1] := by simp [show j - 1 < l.length by omega]
      rw [h1, h2] at hh
      exact hmin (j - 1) (by omega) ⟨by omega, by rw [← hh, e]⟩
theorem compact_up {l : List Int} (hs : l.Pairwise fun x y => x ≤ y) : Up (Lib.compact l) := by
  unfold Lib.compact Lib.compactUpTo Up
  rw [List.pairwise_map]
  have hr : (List.range l.length).Pairwise (fun i j => i < j) := List.pairwise_lt_range
  refine List.Pairwise.imp_of_mem ?_ (hr.filter _)
  intro i j hi hj hij
  simp only [List.mem_filter, List.mem_range] at hi hj
  obtain ⟨hj1, hj2⟩ := hj
  unfold Lib.keeps at hj2
  rw [decide_eq_true_iff] at hj2
  have hne := hj2.resolve_left (by omega)
  have h1 : l.toArray[j]! = l[j] := by simp [hj1]
  have h2 : l.toArray[j - 1]! = l[j - 1] := by simp [show j - 1 < l.length by omega]
  have h3 : l.toArray[i]! = l[i] := by simp [hi.1]
  rw [h1, h2] at hne
  rw [h1, h3]
  have a := List.pairwise_iff_getElem.1 hs (j - 1) j (by omega) (by omega) (by omega)
  rcases Nat.lt_or_ge i (j - 1) with q | q
  · have b := List.pairwise_iff_getElem.1 hs i (j - 1) (by omega) (by omega) q
    omega
  · obtain rfl : i = j - 1 := by omega
    omega
theorem sort_pw (l : List Int) : (l.mergeSort fun x y => decide (x ≤ y)).Pairwise fun x y => x ≤ y := by
  have := List.pairwise_mergeSort (le := fun x y : Int => decide (x ≤ y)) (fun a b c h1 h2 => by simp at *; omega) (fun a b => by simp; omega) l
  exact this.imp fun h => by simpa using h
theorem ddL_up (l : List Int) : Up (ddL l) := compact_up (sort_pw l)
theorem ddL_mem {l : List Int} {y : Int} : y ∈ ddL l ↔ y ∈ l := by unfold ddL; rw [compact_mem, List.mem_mergeSort]
theorem dd_rise (l : List Int) : ddL l = riseL l := up_ext (ddL_up l) (riseL_up l) fun y => by rw [ddL_mem, riseL_mem]
end Go.Proofs.Ytocndbldmkjcnaa

namespace Go.Proofs.Ytocndbldmkjcnaa
open Go.RowKit Go.Proofs.Ytocndbldmkjcnaa.AM
set_option maxRecDepth 100000
set_option maxHeartbeats 4000000
theorem rise_inner (hmix : Try.prog.follows .mixedOrders = true) (l L : List Int) (cs : List Value) (own : Bool) (o : Nat) (sp : Option Nat) (cap i : Nat) (x : Int) (hx : l[i]? = some x) (hB : ISl cs o l) (hL : L.length ≤ 1000000) (K : Post) : ∀ n : Nat, n ≤ L.length →
    K (.exit 2) (T211i (.slice (some ⟨0,o,sp⟩) l.length cap) L.length i (posI x L n)) (hp [.cells cs 1 own, .cells (eC (iE .i64) L) 1 true]) →
    LSays Try.prog 1 (sub body211 [0,0,0,1,0,0,1,0,0,1,0,1,1]) (T211i (.slice (some ⟨0,o,sp⟩) l.length cap) L.length i n) (hp [.cells cs 1 own, .cells (eC (iE .i64) L) 1 true]) K := by
  have hF : FlatD [] (hp [.cells cs 1 own, .cells (eC (iE .i64) L) 1 true]) := FlatD.hp ⟨hB.flat, eC_flat flat_i L, trivial⟩
  have hg1 := hB.cell i x hx
  have hlt : (i : Int) < (l.length : Int) := by have := (List.getElem?_eq_some_iff.1 hx).1; omega
  intro n
  induction n with
  | zero =>
    intro hn hK
    refine (sure0 hmix).roundX F211 noLoops [] [] [] [] [0,3,4,5] ?_
    rw [r211i]
    simp only [show ¬ ((0 : Int) < ((0 : Nat) : Int)) by omega, Alt_iff, Need_iff, ltI_eq, leI_eq, eqI_eq, leN_eq, eqN_eq, decide_eq_true_eq, decide_eq_false_iff_not, decide_true, decide_false, true_and, and_true, Bool.true_eq_false, Bool.false_eq_true, false_implies, true_implies, implies_true, not_true_eq_false, not_false_eq_true, Bool.not_eq_true', Bool.not_eq_false']
    exact ⟨hF, hK⟩
  | succ n ih =>
    intro hn hK
    have hy : L[n]? = some L[n] := List.getElem?_eq_getElem (by omega)
    have h1 := eC_get (iE .i64) L hy
    refine (sure0 hmix).roundX F211 noLoops [] [] [] [] [0,3,4,5] ?_
    rw [r211i]
    unfold posI at hK
    rw [hy] at hK
    simp only [Option.getD_some] at hK
    simp only [show (0 : Int) < ((n + 1 : Nat) : Int) by omega, hlt, show (0 : Int) ≤ (n : Int) by omega, show (n : Int) < (L.length : Int) by omega, pv n (by omega), hg1, h1, hF, Alt_iff, Need_iff, ltI_eq, leI_eq, eqI_eq, leN_eq, eqN_eq, decide_eq_true_eq, decide_eq_false_iff_not, decide_true, decide_false, true_and, and_true, Bool.true_eq_false, Bool.false_eq_true, false_implies, true_implies, implies_true, not_true_eq_false, not_false_eq_true, Bool.not_eq_true', Bool.not_eq_false', Nat.zero_add, Nat.add_zero, Nat.sub_zero, Nat.zero_mul, Nat.mul_one, Int.toNat_natCast, List.drop_zero, beqV_int, beqV_sl, beqV_str, beqV_bool, beqV_ptr, beqV_flt, beqV_agg, beqV_tuple, List.all_cons, List.all_nil, Bool.and_self, Bool.and_true, Bool.true_and, Nat.le_refl, Int.le_refl, Nat.zero_le, Option.getD_some, isStr, strV, isInt, intV, isBool, boolV, kindEq, at0, isJunk, Option.isSome_some, Option.isSome_none, if_true, if_false, Nat.add_sub_cancel_left, Nat.add_sub_cancel]
    refine ⟨fun h => ?_, fun h => ?_⟩
    · rw [if_pos (ltI_iff.2 h)] at hK
      exact ih (by omega) hK
    · rw [if_neg (fun hh => h (ltI_iff.1 hh))] at hK
      exact hK
theorem rise_outer (hmix : Try.prog.follows .mixedOrders = true) (l : List Int) (cs : List Value) (own : Bool) (o : Nat) (sp : Option Nat) (cap : Nat) (hB : ISl cs o l) (hl : l.length ≤ 1000000) (K : Post) : ∀ (t : List Int) (i : Nat) (L : List Int), l.drop i = t → i ≤ l.length → L.length + t.length ≤ 1000000 →
    K (.exit 0) (tmps 59 [(3, .slice (some ⟨1,0,some 1⟩) (t.foldl insI L).length (t.foldl insI L).length)]) (hp [.cells cs 1 own, .cells (eC (iE .i64) (t.foldl insI L)) 1 true]) →
    LSays Try.prog 1 (sub body211 [0,0,1,0,1,1]) (T211 (.slice (some ⟨0,o,sp⟩) l.length cap) L.length i) (hp [.cells cs 1 own, .cells (eC (iE .i64) L) 1 true]) K := by
  intro t
  induction t with
  | nil =>
    intro i L ht hi hL hK
    have hF : FlatD [] (hp [.cells cs 1 own, .cells (eC (iE .i64) L) 1 true]) := FlatD.hp ⟨hB.flat, eC_flat flat_i L, trivial⟩
    have hge : ¬ ((i : Int) < (l.length : Int)) := by have := List.drop_eq_nil_iff.1 ht; omega
    refine (sure0 hmix).roundX F211 noLoops [] [] [] [] [0,3,4] ?_
    rw [r211e]
    simp only [hge, hF, Alt_iff, Need_iff, ltI_eq, leI_eq, eqI_eq, leN_eq, eqN_eq, decide_eq_true_eq, decide_eq_false_iff_not, decide_true, decide_false, true_and, and_true, Bool.true_eq_false, Bool.false_eq_true, false_implies, true_implies, implies_true, not_true_eq_false, not_false_eq_true, Bool.not_eq_true', Bool.not_eq_false', Nat.zero_add, Nat.add_zero, Nat.sub_zero, Nat.zero_mul, Nat.mul_one, Int.toNat_natCast, List.drop_zero, beqV_int, beqV_sl, beqV_str, beqV_bool, beqV_ptr, beqV_flt, beqV_agg, beqV_tuple, List.all_cons, List.all_nil, Bool.and_self, Bool.and_true, Bool.true_and, Nat.le_refl, Int.le_refl, Nat.zero_le, Option.getD_some, isStr, strV, isInt, intV, isBool, boolV, kindEq, at0, isJunk, Option.isSome_some, Option.isSome_none, if_true, if_false, Nat.add_sub_cancel_left, Nat.add_sub_cancel]
    exact hK
  | cons x t ih =>
    intro i L ht hi hL hK
    obtain ⟨hlt, hx, hd⟩ := cons_of_drop ht
    have hl2 : (i : Int) < (l.length : Int) := by omega
    have hg1 := hB.cell i x hx
    have hF : FlatD [] (hp [.cells cs 1 own, .cells (eC (iE .i64) L) 1 true]) := FlatD.hp ⟨hB.flat, eC_flat flat_i L, trivial⟩
    have hF2 : ∀ L2, FlatD [] (hp [.cells cs 1 own, .cells (eC (iE .i64) L2) 1 true]) := fun L2 => FlatD.hp ⟨hB.flat, eC_flat flat_i _, trivial⟩
    have hle := posI_le x L L.length
    simp only [List.length_cons] at hL
    have hLi : Loops Try.prog body211 1 (cutLK [c211i cs (eC (iE .i64) L) own o sp l.length cap L.length i (posI x L L.length)]) := Loops.none.more _ fun K hK => rise_inner hmix l L cs own o sp cap i x hx hB (by omega) K L.length (Nat.le_refl _) hK
    refine (sure0 hmix).roundX F211 (hLi.gcX (at0 []) (at0 [])) [] [] [] [] [0,3,4] ?_
    rw [r211]
    rw [List.foldl_cons] at hK
    have hins := insI_len L x
    have next := ih (i + 1) (insI L x) hd (by omega) (by omega) hK
    have hdef : insI L x = if 0 < posI x L L.length ∧ L[posI x L L.length - 1]? = some x then L else L.take (posI x L L.length) ++ x :: L.drop (posI x L L.length) := rfl
    generalize posI x L L.length = n at *
    have hcell : 0 < n → getO (eC (iE .i64) L) (n - 1) = some (iE .i64 (L[n - 1]?.getD 0)) := fun hn => by
      have hy : L[n - 1]? = some L[n - 1] := List.getElem?_eq_getElem (by omega)
      rw [eC_get (iE .i64) L hy, hy]; rfl
    have hone : ∀ L2 : List Int, (eC (iE .i64) L2).all oneV = true := fun L2 => eC_one one_i L2
    have hrow : (eC (iE .i64) (L.take n) ++ [Value.int .i64 x]) ++ eC (iE .i64) (L.drop n) = eC (iE .i64) (L.take n ++ x :: L.drop n) := by
      rw [eC_append, eC_cons]; simp
    have hins1 : 0 < n ∧ L[n - 1]? = some x → insI L x = L := fun h => by rw [hdef, if_pos h]
    have hins2 : ¬ (0 < n ∧ L[n - 1]? = some x) → insI L x = L.take n ++ x :: L.drop n ∧ (insI L x).length = n + 1 + (L.length - n) := fun h => by
      rw [hdef, if_neg h]; exact ⟨rfl, by simp; omega⟩
    have k1 : n ≤ (eC (iE .i64) L).length := by rw [eC_len]; exact hle
    have k2 : (eC (iE .i64) (L.take n)).length = n := by rw [eC_len, List.length_take]; omega
    have k3 : (eC (iE .i64) L).length = L.length := eC_len _ _
    have k4 : n + (L.length - n) = L.length := by omega
    have hlen3 : L.length - n = (L.drop n).length := by simp
    have done : ¬ (0 < n ∧ L[n - 1]? = some x) → LSays Try.prog 1 (sub body211 [0,0,1,0,1,1]) (T211 (.slice (some ⟨0,o,sp⟩) l.length cap) (n + 1 + (L.length - n)) (i + 1)) (hp [.cells cs 1 own, .cells (eC (iE .i64) (L.take n ++ x :: L.drop n)) 1 true]) K := fun h => by
      obtain ⟨e1, e2⟩ := hins2 h
      rw [e2, e1] at next; exact next
    have t1 : List.take n (eC (iE .i64) L) = eC (iE .i64) (L.take n) := eC_take _ _ _
    have t2 : List.drop n (eC (iE .i64) L) = eC (iE .i64) (L.drop n) := eC_drop _ _ _
    have t3 : List.take (L.length - n) (eC (iE .i64) (L.drop n)) = eC (iE .i64) (L.drop n) := List.take_of_length_le (by rw [eC_len]; simp)
    have t4 : List.take n (eC (iE .i64) (L.take n)) = eC (iE .i64) (L.take n) := List.take_of_length_le (by omega)
    have t5 : List.take (n + 1) (eC (iE .i64) (L.take n) ++ [Value.int .i64 x]) = eC (iE .i64) (L.take n) ++ [Value.int .i64 x] := List.take_of_length_le (by simp; omega)
    rcases Nat.eq_zero_or_pos n with h0 | hn
    · subst h0
      simp only [hl2, hF, hg1, nx i (by omega), show ¬ ((0 : Int) < ((0 : Nat) : Int)) by omega, show ((0 : Nat) : Int) ≤ (L.length : Int) by omega, t1, t2, t3, t4, t5, hone, hrow, Alt_iff, Need_iff, ltI_eq, leI_eq, eqI_eq, leN_eq, eqN_eq, decide_eq_true_eq, decide_eq_false_iff_not, decide_true, decide_false, true_and, and_true, Bool.true_eq_false, Bool.false_eq_true, false_implies, true_implies, implies_true, not_true_eq_false, not_false_eq_true, Bool.not_eq_true', Bool.not_eq_false', Nat.zero_add, Nat.add_zero, Nat.sub_zero, Nat.zero_mul, Nat.mul_one, Int.toNat_natCast, List.drop_zero, beqV_int, beqV_sl, beqV_str, beqV_bool, beqV_ptr, beqV_flt, beqV_agg, beqV_tuple, List.all_cons, List.all_nil, Bool.and_self, Bool.and_true, Bool.true_and, Nat.le_refl, Int.le_refl, Nat.zero_le, Option.getD_some, isStr, strV, isInt, intV, isBool, boolV, kindEq, at0, isJunk, Option.isSome_some, Option.isSome_none, if_true, if_false, Nat.add_sub_cancel_left, Nat.add_sub_cancel]
      have d0 := done (fun h => by omega)
      have e0 : eC (iE .i64) (List.take 0 L) ++ [Value.int .i64 x] ++ List.take L.length (eC (iE .i64) L) = eC (iE .i64) (List.take 0 L ++ x :: List.drop 0 L) := by
        rw [List.take_of_length_le (Nat.le_of_eq k3)]; rfl
      rw [Nat.zero_add, Nat.sub_zero] at d0
      rw [e0]
      and_intros <;> first | exact d0 | exact hF2 _ | (rw [List.take_of_length_le (Nat.le_of_eq k3)]; exact hone _) | (simp only [List.length_append, List.length_singleton]; omega) | omega
    · obtain ⟨p, rfl⟩ : ∃ p, n = p + 1 := ⟨n - 1, by omega⟩
      simp only [Nat.add_sub_cancel] at hcell
      simp only [hl2, hF, hg1, nx i (by omega), pv p (by omega), hcell (by omega), show (0 : Int) < ((p + 1 : Nat) : Int) by omega, show (0 : Int) ≤ (p : Int) by omega, show (p : Int) < (L.length : Int) by omega, show ((p + 1 : Nat) : Int) ≤ (L.length : Int) by omega, t1, t2, t3, t4, t5, hone, hrow, Alt_iff, Need_iff, ltI_eq, leI_eq, eqI_eq, leN_eq, eqN_eq, decide_eq_true_eq, decide_eq_false_iff_not, decide_true, decide_false, true_and, and_true, Bool.true_eq_false, Bool.false_eq_true, false_implies, true_implies, implies_true, not_true_eq_false, not_false_eq_true, Bool.not_eq_true', Bool.not_eq_false', Nat.zero_add, Nat.add_zero, Nat.sub_zero, Nat.zero_mul, Nat.mul_one, Int.toNat_natCast, List.drop_zero, beqV_int, beqV_sl, beqV_str, beqV_bool, beqV_ptr, beqV_flt, beqV_agg, beqV_tuple, List.all_cons, List.all_nil, Bool.and_self, Bool.and_true, Bool.true_and, Nat.le_refl, Int.le_refl, Nat.zero_le, Option.getD_some, isStr, strV, isInt, intV, isBool, boolV, kindEq, at0, isJunk, Option.isSome_some, Option.isSome_none, if_true, if_false, Nat.add_sub_cancel_left, Nat.add_sub_cancel]
      have hgd : L[p]?.getD 0 = x ↔ (0 < p + 1 ∧ L[p + 1 - 1]? = some x) := by
        have hy : L[p]? = some L[p] := List.getElem?_eq_getElem (by omega)
        rw [Nat.add_sub_cancel, hy]; simp
      refine ⟨fun h => ?_, fun h => ?_⟩
      · have := hins1 (hgd.1 h); rw [this] at next; exact next
      · have d1 := done (fun hh => h (hgd.2 hh))
        and_intros <;> first | exact d1 | exact hF2 _ | (simp only [List.length_append, List.length_singleton]; omega) | omega
noncomputable def riseC : Ctr where
  pre := fun args blks => match args, blks with
    | [.slice (some ⟨0, o, _⟩) len cap], [.cells cs 1 _] => IsI cs o len cap ∧ Need (leN len 1000000) True
    | _, _ => False
  val := fun args blks => match args, blks with
    | [.slice (some ⟨0, o, _⟩) len _], [.cells cs 1 _] => .slice (some ⟨1,0,some 1⟩) (riseL (intsAt cs o len)).length (riseL (intsAt cs o len)).length
    | _, _ => undef
  new := fun args blks => match args, blks with
    | [.slice (some ⟨0, o, _⟩) len _], [.cells cs 1 _] => [.cells (eC (iE .i64) (riseL (intsAt cs o len))) 1 true]
    | _, _ => []
theorem rise_says (hmix : Try.prog.follows .mixedOrders = true) : riseC.Holds Try.prog 24 := by
  intro args blks hf hp
  simp only [riseC] at hp ⊢
  split at hp
  · rename_i o sp len cap cs own
    obtain ⟨⟨l, rfl, hc, hB⟩, hl⟩ := hp
    simp only [Alt_iff, Need_iff, ltI_eq, leI_eq, eqI_eq, leN_eq, eqN_eq, decide_eq_true_eq, decide_eq_false_iff_not, decide_true, decide_false, true_and, and_true, Bool.true_eq_false, Bool.false_eq_true, false_implies, true_implies, implies_true, not_true_eq_false, not_false_eq_true, Bool.not_eq_true', Bool.not_eq_false'] at hl
    simp only [intsAt_eq hB]
    refine ⟨⟨eC_flat flat_i _, trivial⟩, ?_⟩
    have hF : ∀ L, FlatD [] (AM.hp [.cells cs 1 own, .cells (eC (iE .i64) L) 1 true]) := fun L => FlatD.hp ⟨hB.flat, eC_flat flat_i L, trivial⟩
    have hL : Loops Try.prog body211 1 (cutLK [⟨[0,1,0,1,1], T211 (.slice (some ⟨0,o,sp⟩) l.length cap) 0 0, AM.hp [.cells cs 1 own, .cells [] 1 true], fun K => K (.exit 0) (tmps 59 [(3, .slice (some ⟨1,0,some 1⟩) (riseL l).length (riseL l).length)]) (AM.hp [.cells cs 1 own, .cells (eC (iE .i64) (riseL l)) 1 true])⟩]) := Loops.none.more _ fun K hK => by
      show LSays Try.prog _ (sub body211 [0,0,1,0,1,1]) _ _ _
      exact rise_outer hmix l cs own o sp cap hB hl K l 0 [] rfl (by omega) (by simpa using hl) hK
    refine (sure0 hmix).funX F211 body211 [] [] Try.func24 rfl (hL.gcX (at0 []) (at0 [.tmp 3 1])) ?_
    rw [w211]
    exact ⟨hF [], rfl, rfl, hF _, rfl, rfl, rfl⟩
  · exact hp.elim
/-! ### the law -/
theorem mkC_is {l : List Int} (hz : ∀ x ∈ l, ZP .i64 x) (hl : l.length ≤ 1000000) : ISl (mkC l) 0 (ddL l) ∧ IsI (mkC l) 0 (ddL l).length l.length ∧ FlatL (mkC l) := by
  have hle := ddL_len l
  have hb : ISl (mkC l) 0 (ddL l) := ⟨fun j c hj => by
    rw [Nat.zero_add]; exact eC_get _ _ (by rw [List.getElem?_append_left (List.getElem?_eq_some_iff.1 hj).1]; exact hj), fun x hx => hz x (ddL_mem.1 hx), by omega, eC_flat flat_i _⟩
  exact ⟨hb, .mk _ rfl hle hb, eC_flat flat_i _⟩
theorem rise_is {l : List Int} (hz : ∀ x ∈ l, ZP .i64 x) (hl : l.length ≤ 1000000) : ISl (eC (iE .i64) (riseL l)) 0 (riseL l) ∧ IsI (eC (iE .i64) (riseL l)) 0 (riseL l).length (riseL l).length := by
  have hle := riseL_len l
  have hb : ISl (eC (iE .i64) (riseL l)) 0 (riseL l) := ESl.own flat_i (fun x hx => hz x (riseL_mem.1 hx)) (by omega)
  exact ⟨hb, .mk _ rfl (Nat.le_refl _) hb⟩
end Go.Proofs.Ytocndbldmkjcnaa

namespace Go.Proofs.Ytocndbldmkjcnaa
open Go.RowKit Go.Proofs.Ytocndbldmkjcnaa.AM
set_option maxRecDepth 100000
set_option maxHeartbeats 4000000
theorem repl_one (n : Nat) (v : Value) : repl n [v] = List.replicate n v := by
  unfold repl
  induction n with
  | zero => rfl
  | succ n ih => rw [List.replicate_succ, List.flatten_cons, ih, List.replicate_succ]; rfl
/-- cells written behind what is there -/
theorem setAll_app (vs pre : List Value) (k : Nat) (r : List Value) (hk : pre.length = k) (hr : vs.length ≤ r.length) : setAll (pre ++ r) k vs = pre ++ vs ++ r.drop vs.length := by
  subst hk
  refine List.ext_getElem? fun j => ?_
  rw [setAll_get _ _ _ _ (by simp; omega)]
  by_cases h1 : j < pre.length
  · rw [if_pos h1, List.append_assoc, List.getElem?_append_left h1, List.getElem?_append_left h1]
  · rw [if_neg h1, List.append_assoc]
    by_cases h2 : j < pre.length + vs.length
    · rw [if_pos h2, List.getElem?_append_right (by omega), List.getElem?_append_left (by omega)]
    · rw [if_neg h2, List.getElem?_append_right (l₁ := pre) (l₂ := r) (by omega), List.getElem?_append_right (l₁ := pre) (by omega), List.getElem?_append_right (by omega), List.getElem?_drop]
      congr 1
      omega
theorem own_is {l : List Int} (hz : ∀ x ∈ l, ZP .i64 x) (hl : l.length ≤ 1000000) : ISl (eC (iE .i64) l) 0 l ∧ IsI (eC (iE .i64) l) 0 l.length l.length := by
  have hb : ISl (eC (iE .i64) l) 0 l := ESl.own flat_i hz (by omega)
  exact ⟨hb, .mk _ rfl (Nat.le_refl _) hb⟩
end Go.Proofs.Ytocndbldmkjcnaa

namespace Go.Proofs.Ytocndbldmkjcnaa
open Go.RowKit Go.Proofs.Ytocndbldmkjcnaa.AM
set_option maxRecDepth 100000
set_option maxHeartbeats 4000000
noncomputable def body227 : Code := (Try.f29.body).getD .skip
def F227 : List Nat → Option (List Nat) := fun p => match p with
  | [1] => some [0, 1]
  | [1, 1] => some [3]
  | _ => none
noncomputable def body231 : Code := (Try.f33.body).getD .skip
def F231 : List Nat → Option (List Nat) := fun p => match p with
  | [1] => some [0, 1]
  | [1, 1] => some [3]
  | _ => none
noncomputable def body232 : Code := (Try.f34.body).getD .skip
def F232 : List Nat → Option (List Nat) := fun p => match p with
  | [1] => some [0, 1]
  | [1, 0, 1] => some [0, 1, 7, 8]
  | [1, 0, 0, 1, 0, 1] => some [0, 1, 7, 8, 9]
  | [1, 0, 1, 0, 0, 1, 0, 1] => some []
  | [1, 1, 0, 0, 1, 0, 1] => some [0, 1, 7, 8]
  | [1, 0, 0, 1, 1, 0, 0, 1, 0, 1] => some [0, 1, 5, 7, 8]
  | [1, 1, 0, 0, 1, 1, 0, 0, 1, 0, 1] => some [0, 1, 5, 7, 8, 16]
  | [1, 0, 1, 1, 0, 0, 1, 1, 0, 0, 1, 0, 1] => some [4]
  | [1, 1, 1, 0, 0, 1, 0, 1] => some [0, 1, 7, 8]
  | [1, 1] => some []
  | [1, 1, 1] => some [4]
  | _ => none
noncomputable def body230 : Code := (Try.f31.body).getD .skip
def F230 : List Nat → Option (List Nat) := fun p => match p with
  | [1] => some [0, 1]
  | [1, 1] => some [0, 1, 5]
  | [1, 0, 1, 1] => some [0, 1, 5, 12]
  | [1, 0, 1, 0, 1, 1] => some [4]
  | [1, 1, 1] => some [0, 1, 5]
  | [1, 0, 1, 1, 1] => some [0, 1, 5, 6]
  | [1, 0, 0, 0, 1, 0, 1, 1, 1] => some [0, 1, 5, 6, 19]
  | [1, 1, 0, 0, 0, 1, 0, 1, 1, 1] => some [0, 5]
  | [1, 0, 0, 1, 0, 1, 1, 1] => some [0, 1, 5, 6]
  | [1, 0, 0, 1, 0, 0, 1, 0, 1, 1, 1] => some [0, 1, 5, 6, 7]
  | [1, 1, 0, 0, 1, 0, 0, 1, 0, 1, 1, 1] => some [0, 1, 5, 6, 7, 29]
  | [1, 0, 1, 1, 0, 0, 1, 0, 0, 1, 0, 1, 1, 1] => some [0, 1, 5, 6]
  | [1, 1, 0, 0, 1, 0, 1, 1, 1] => some [0, 1, 5, 6]
  | [1, 1, 1, 1] => some [0, 5]
  | [1, 1, 1, 1, 1] => some [0, 5]
  | [1, 1, 1, 1, 1, 1] => some [4]
  | _ => none
noncomputable def body225 : Code := (Try.f28.body).getD .skip
def F225 : List Nat → Option (List Nat) := fun p => match p with
  | [1] => some [0, 3]
  | [1, 1] => some [4]
  | _ => none
noncomputable def body216 : Code := (Try.f23.body).getD .skip
def F216 : List Nat → Option (List Nat) := fun p => match p with
  | [1] => some [0, 3]
  | [1, 1] => some [4]
  | _ => none
noncomputable def S96 : Book := bookOf [(16, hasC)]
theorem sure96 (hmix : Try.prog.follows .mixedOrders = true) : Sure Try.prog S96 := ⟨hmix, plain, bookOf_ok (l := [(16, hasC)]) ⟨rhas_says hmix, trivial⟩⟩
def isG (g : Nat) (fn : Fn) (f c : Array Value) (b : Nat) : Prop := match fn, f.toList, c.toList with
  | .func g', [], [.pointer (some ⟨b', 0, none⟩)] => Need (eqN g' g) (Need (eqN b' b) True)
  | _, _, _ => False
theorem isG_eq {g : Nat} {fn : Fn} {f c : Array Value} {b : Nat} (h : isG g fn f c b) : fn = .func g ∧ f = #[] ∧ c = #[.pointer (some ⟨b, 0, none⟩)] := by
  unfold isG at h
  split at h
  · rename_i g' b' h1 h2
    simp only [Alt_iff, Need_iff, ltI_eq, leI_eq, eqI_eq, leN_eq, eqN_eq, decide_eq_true_eq, decide_eq_false_iff_not, decide_true, decide_false, true_and, and_true, Bool.true_eq_false, Bool.false_eq_true, false_implies, true_implies, implies_true, not_true_eq_false, not_false_eq_true, Bool.not_eq_true', Bool.not_eq_false'] at h
    obtain ⟨rfl, rfl⟩ := h
    exact ⟨rfl, by cases f; simp_all, by cases c; simp_all⟩
  · exact h.elim
/-- a variable that holds a slice; one that holds a function over such a variable -/
noncomputable def hV (o : Nat) (sp : Option Nat) (len cap : Nat) (cb : List Value) (w : Bool) : List Blk := [.cells [.slice (some ⟨1,o,sp⟩) len cap] 1 true, .cells cb 1 w]
noncomputable def hW (g : Nat) (o : Nat) (sp : Option Nat) (len cap : Nat) (cb : List Value) (w : Bool) : List Blk := [.cells [.func (.func g) #[] #[.pointer (some ⟨1,0,none⟩)]] 1 true, .cells [.slice (some ⟨2,o,sp⟩) len cap] 1 true, .cells cb 1 w]
noncomputable def hD (cs : List Value) (g : Nat) (o : Nat) (sp : Option Nat) (len cap : Nat) (cb : List Value) (w : Bool) : List Blk := [.cells cs 1 true, .cells [.func (.func g) #[] #[.pointer (some ⟨2,0,none⟩)]] 1 true, .cells [.slice (some ⟨3,o,sp⟩) len cap] 1 true, .cells cb 1 w]
noncomputable def hE (cs : List Value) (w0 : Bool) (o : Nat) (sp : Option Nat) (len cap : Nat) (cb : List Value) (w : Bool) : List Blk := [.cells cs 1 w0, .cells [.slice (some ⟨2,o,sp⟩) len cap] 1 true, .cells cb 1 w]
noncomputable def T232 (len cap i : Nat) : List Value := tmps 19 [(0, .slice (some ⟨0,0,some 3⟩) len cap), (1, .func (.func 33) #[] #[.pointer (some ⟨1,0,none⟩)]), (7, .int .i64 len), (8, .int .i64 i)]
noncomputable def T230 (len cap i j : Nat) : List Value := tmps 42 [(0, .slice (some ⟨0,0,some 3⟩) len cap), (1, .func (.func 33) #[] #[.pointer (some ⟨1,0,none⟩)]), (5, .int .i64 i), (6, .int .i64 j)]
/-- the first that is not kept -/
def idxD (kp : Int → Bool) : Nat → List Int → Int
  | _, [] => -1
  | i, x :: t => if kp x then idxD kp (i + 1) t else (i : Int)
def allD (kp : Int → Bool) : List Int → Bool
  | [] => true
  | x :: t => if kp x then allD kp t else false
/-- what is left of a row, from which those that are not kept are taken -/
noncomputable def delC (kp : Int → Bool) (len : Nat) (cs : List Value) : List Value := eC (iE .i64) ((intsAt cs 0 len).filter kp ++ List.replicate (len - ((intsAt cs 0 len).filter kp).length) 0) ++ cs.drop len
def kpA (b : List Int) (n : Int) : Bool := hasL n b
def kpN (b : List Int) (n : Int) : Bool := !hasL n b
theorem hD_flat {cs : List Value} {g o : Nat} {sp : Option Nat} {len cap : Nat} {cb : List Value} {w : Bool} (ha : FlatL cs) (hb : FlatL cb) : FlatD [1, 2] (hp (hD cs g o sp len cap cb w)) := FlatD.hp ⟨ha, rfl, rfl, hb, trivial⟩
theorem allD_idx (kp : Int → Bool) : ∀ (l : List Int) (i : Nat), (allD kp l = true ∧ idxD kp i l = -1 ∧ l.filter kp = l) ∨ (allD kp l = false ∧ ∃ a x t, l = a ++ x :: t ∧ idxD kp i l = ((i + a.length : Nat) : Int) ∧ a.filter kp = a ∧ kp x = false) := by
  intro l
  induction l with
  | nil => intro i; exact .inl ⟨rfl, rfl, rfl⟩
  | cons x t ih =>
    intro i
    cases hk : kp x with
    | false => exact .inr ⟨by simp [allD, hk], [], x, t, rfl, by simp [idxD, hk], rfl, hk⟩
    | true =>
      rcases ih (i + 1) with ⟨h1, h2, h3⟩ | ⟨h1, a, y, u, h2, h3, h4, h5⟩
      · exact .inl ⟨by simp [allD, hk, h1], by simp [idxD, hk, h2], by rw [List.filter_cons, if_pos hk, h3]⟩
      · exact .inr ⟨by simp [allD, hk, h1], x :: a, y, u, by rw [h2]; rfl, by rw [idxD, if_pos hk, h3]; simp; omega, by rw [List.filter_cons, if_pos hk, h4], h5⟩
theorem IsI.row {cs : List Value} {l : List Int} (h : ISl cs 0 l) : cs = eC (iE .i64) l ++ cs.drop l.length := by
  obtain ⟨h1, _⟩ := h.take 0 l.length (by omega)
  rw [List.drop_zero, List.drop_zero, List.take_length] at h1
  rw [← h1, List.take_append_drop]
theorem del_full {l : List Int} {q : List Value} (F : List Int) (hF : F.length ≤ l.length) : setAll (eC (iE .i64) (F ++ l.drop F.length) ++ q) F.length (repl (l.length - F.length) [Value.int .i64 0]) = eC (iE .i64) (F ++ List.replicate (l.length - F.length) 0) ++ q := by
  have hr : (repl (l.length - F.length) [Value.int .i64 0]).length = l.length - F.length := by rw [repl_one, List.length_replicate]
  rw [eC_append, List.append_assoc, setAll_app _ _ _ _ (eC_len _ _) (by rw [hr]; simp [eC_len]), hr, List.drop_append_of_le_length (by rw [eC_len]; simp), eC_drop, List.drop_eq_nil_of_le (by simp), repl_one, eC_append]
  simp [eC]
theorem delC_flat {kp : Int → Bool} {len : Nat} {cs : List Value} (h : FlatL cs) : FlatL (delC kp len cs) := ⟨fun x hx => (List.mem_append.1 hx).elim ((eC_flat flat_i _).1 x) fun hh => h.1 x (List.mem_of_mem_drop hh)⟩
theorem row_is {l : List Int} {q : List Value} (hz : ∀ x ∈ l, ZP .i64 x) (hl : l.length ≤ 1000000) (hq : FlatL q) : ISl (eC (iE .i64) l ++ q) 0 l := ⟨fun j c hj => by
    rw [Nat.zero_add, getO_eq, List.getElem?_append_left (by rw [eC_len]; exact (List.getElem?_eq_some_iff.1 hj).1), ← getO_eq]; exact eC_get _ _ hj, hz, by omega, ⟨fun x hx => (List.mem_append.1 hx).elim ((eC_flat flat_i l).1 x) (hq.1 x)⟩⟩
noncomputable def clNC : CtrW where
  D := [0]
  W := []
  E := []
  pre := fun args blks => match args, blks with
    | [.int .i64 n, .pointer (some ⟨0,0,none⟩)], [.cells [.slice (some ⟨1,o,_⟩) len cap] 1 true, .cells cb 1 _] => IsI cb o len cap ∧ IsN [.int .i64 n]
    | _, _ => False
  val := fun args blks => match args, blks with
    | [.int .i64 n, _], [.cells [.slice (some ⟨1,o,_⟩) len _] 1 true, .cells cb 1 _] => .bool (kpN (intsAt cb o len) n)
    | _, _ => undef
  out := fun _ blks => blks
noncomputable def kkNC : CtrW where
  D := [0, 1]
  W := []
  E := []
  pre := fun args blks => match args, blks with
    | [.int .i64 n, .pointer (some ⟨0,0,none⟩)], [.cells [.func fn f c] 1 true, .cells [.slice (some ⟨2,o,_⟩) len cap] 1 true, .cells cb 1 _] => isG 29 fn f c 1 ∧ IsI cb o len cap ∧ IsN [.int .i64 n]
    | _, _ => False
  val := fun args blks => match args, blks with
    | [.int .i64 n, _], [.cells [.func _ _ _] 1 true, .cells [.slice (some ⟨2,o,_⟩) len _] 1 true, .cells cb 1 _] => .bool (!kpN (intsAt cb o len) n)
    | _, _ => undef
  out := fun _ blks => blks
noncomputable def S97N : Book := bookW [(29, clNC)] (bookOf [])
noncomputable def S98N : Book := bookW [(33, kkNC)] (bookOf [])

theorem w227 (n : Int) (o : Nat) (sp : Option Nat) (len cap : Nat) (cb : List Value) (w : Bool) (K : Value → Heap → Prop) :
  funX Try.prog S96 noLoop F227 body227 Try.f29 [0] [] [.int .i64 n, .pointer (some ⟨0,0,none⟩)] (hp (hV o sp len cap cb w)) K = (
(FlatL cb ∧ True) ∧
  (IsE (iE IntKind.i64) (ZP IntKind.i64) cb o len cap ∧ IsN [Value.int IntKind.i64 n]) ∧
    K (Value.bool !hasL n (intsAt cb o len))
      (hp [Blk.cells [Value.slice (some { block := 1, off := o, spot := sp : Addr }) len cap] 1 true, Blk.cells cb 1 w])) := by kernel_rfl

theorem w231N (n : Int) (o : Nat) (sp : Option Nat) (len cap : Nat) (cb : List Value) (w : Bool) (K : Value → Heap → Prop) :
  funX Try.prog S97N noLoop F231 body231 Try.f33 [0,1] [] [.int .i64 n, .pointer (some ⟨0,0,none⟩)] (hp (hW 29 o sp len cap cb w)) K = (
(nojL [Value.slice (some { block := 1, off := o, spot := sp : Addr }) len cap] = true ∧ FlatL cb ∧ True) ∧
  (IsE (iE IntKind.i64) (ZP IntKind.i64) cb o len cap ∧ IsN [Value.int IntKind.i64 n]) ∧
    K (Value.bool !kpN (intsAt cb o len) n)
      (hp
        [Blk.cells [Value.func (Fn.func 29) #[] #[Value.pointer (some { block := 1, off := 0 : Addr })]] 1 true,
          Blk.cells [Value.slice (some { block := 2, off := o, spot := sp : Addr }) len cap] 1 true, Blk.cells cb 1 w])) := by kernel_rfl

theorem r232N (cs : List Value) (len cap i : Nat) (o2 : Nat) (s2 : Option Nat) (l2 c2 : Nat) (cb : List Value) (w : Bool) (K : Post) :
  roundX Try.prog S98N noLoop F232 body232 4 [1,2] [] [1,2] [] [0,1,7,8] [0,0,1,0,1] (T232 len cap i) (hp (hD cs 29 o2 s2 l2 c2 cb w)) K = (
Alt (ltI (↑i : Int) (↑len : Int))
  (Need (ltI (↑i : Int) (↑len : Int))
    (Need (isInt IntKind.i64 ((getO cs (0 + (↑i : Int).toNat * 1)).getD undef))
      ((nojL [Value.func (Fn.func 29) #[] #[Value.pointer (some { block := 1, off := 0 : Addr })]] = true ∧
          nojL [Value.slice (some { block := 2, off := o2, spot := s2 : Addr }) l2 c2] = true ∧ FlatL cb ∧ True) ∧
        (True ∧
            IsE (iE IntKind.i64) (ZP IntKind.i64) cb o2 l2 c2 ∧
              IsN [Value.int IntKind.i64 (intV ((getO cs (0 + (↑i : Int).toNat * 1)).getD undef))]) ∧
          Alt (!kpN (intsAt cb o2 l2) (intV ((getO cs (0 + (↑i : Int).toNat * 1)).getD undef)))
            (K AE.ret (tmps 19 [(4, Value.int IntKind.i64 (↑i : Int))])
              (hp
                [Blk.cells cs 1 true,
                  Blk.cells [Value.func (Fn.func 29) #[] #[Value.pointer (some { block := 2, off := 0 : Addr })]] 1
                    true,
                  Blk.cells [Value.slice (some { block := 3, off := o2, spot := s2 : Addr }) l2 c2] 1 true,
                  Blk.cells cb 1 w]))
            (K AE.normal
              (tmps 19
                [(0, Value.slice (some { block := 0, off := 0, spot := some 3 : Addr }) len cap),
                  (1, Value.func (Fn.func 33) #[] #[Value.pointer (some { block := 1, off := 0 : Addr })]),
                  (7, Value.int IntKind.i64 (↑len : Int)),
                  (8, Value.int IntKind.i64 (wr IntKind.i64 ((↑i : Int) + 1)))])
              (hp
                [Blk.cells cs 1 true,
                  Blk.cells [Value.func (Fn.func 29) #[] #[Value.pointer (some { block := 2, off := 0 : Addr })]] 1
                    true,
                  Blk.cells [Value.slice (some { block := 3, off := o2, spot := s2 : Addr }) l2 c2] 1 true,
                  Blk.cells cb 1 w])))))
  (K (AE.exit 0) (tmps 19 [])
    (hp
      [Blk.cells cs 1 true,
        Blk.cells [Value.func (Fn.func 29) #[] #[Value.pointer (some { block := 2, off := 0 : Addr })]] 1 true,
        Blk.cells [Value.slice (some { block := 3, off := o2, spot := s2 : Addr }) l2 c2] 1 true, Blk.cells cb 1 w]))) := by kernel_rfl

theorem r230N (cs : List Value) (len cap i j : Nat) (o2 : Nat) (s2 : Option Nat) (l2 c2 : Nat) (cb : List Value) (w : Bool) (K : Post) :
  roundX Try.prog S98N noLoop F230 body230 4 [1,2] [] [1,2] [] [0,1,5,6] [0,0,1,0,1,1,1] (T230 len cap i j) (hp (hD cs 29 o2 s2 l2 c2 cb w)) K = (
Alt (ltI (↑j : Int) (↑len : Int))
  (Need (ltI (↑j : Int) (↑len : Int))
    (Need (isInt IntKind.i64 ((getO cs (0 + (↑j : Int).toNat * 1)).getD undef))
      ((nojL [Value.func (Fn.func 29) #[] #[Value.pointer (some { block := 1, off := 0 : Addr })]] = true ∧
          nojL [Value.slice (some { block := 2, off := o2, spot := s2 : Addr }) l2 c2] = true ∧ FlatL cb ∧ True) ∧
        (True ∧
            IsE (iE IntKind.i64) (ZP IntKind.i64) cb o2 l2 c2 ∧
              IsN [Value.int IntKind.i64 (intV ((getO cs (0 + (↑j : Int).toNat * 1)).getD undef))]) ∧
          Alt (!!kpN (intsAt cb o2 l2) (intV ((getO cs (0 + (↑j : Int).toNat * 1)).getD undef)))
            (Need (ltI (↑i : Int) (↑len : Int))
              (Need (leN (0 + (↑i : Int).toNat * 1 + 1) cs.length)
                (K AE.normal
                  (tmps 42
                    [(0, Value.slice (some { block := 0, off := 0, spot := some 3 : Addr }) len cap),
                      (1, Value.func (Fn.func 33) #[] #[Value.pointer (some { block := 1, off := 0 : Addr })]),
                      (5, Value.int IntKind.i64 (wr IntKind.i64 ((↑i : Int) + 1))),
                      (6, Value.int IntKind.i64 (wr IntKind.i64 ((↑j : Int) + 1)))])
                  (hp
                    [Blk.cells
                        (setAll cs (0 + (↑i : Int).toNat * 1)
                          [Value.int IntKind.i64 (intV ((getO cs (0 + (↑j : Int).toNat * 1)).getD undef))])
                        1 true,
                      Blk.cells [Value.func (Fn.func 29) #[] #[Value.pointer (some { block := 2, off := 0 : Addr })]] 1
                        true,
                      Blk.cells [Value.slice (some { block := 3, off := o2, spot := s2 : Addr }) l2 c2] 1 true,
                      Blk.cells cb 1 w]))))
            (K AE.normal
              (tmps 42
                [(0, Value.slice (some { block := 0, off := 0, spot := some 3 : Addr }) len cap),
                  (1, Value.func (Fn.func 33) #[] #[Value.pointer (some { block := 1, off := 0 : Addr })]),
                  (5, Value.int IntKind.i64 (↑i : Int)), (6, Value.int IntKind.i64 (wr IntKind.i64 ((↑j : Int) + 1)))])
              (hp
                [Blk.cells cs 1 true,
                  Blk.cells [Value.func (Fn.func 29) #[] #[Value.pointer (some { block := 2, off := 0 : Addr })]] 1
                    true,
                  Blk.cells [Value.slice (some { block := 3, off := o2, spot := s2 : Addr }) l2 c2] 1 true,
                  Blk.cells cb 1 w])))))
  (K (AE.exit 0)
    (tmps 42
      [(0, Value.slice (some { block := 0, off := 0, spot := some 3 : Addr }) len cap),
        (5, Value.int IntKind.i64 (↑i : Int))])
    (hp
      [Blk.cells cs 1 true,
        Blk.cells [Value.func (Fn.func 29) #[] #[Value.pointer (some { block := 2, off := 0 : Addr })]] 1 true,
        Blk.cells [Value.slice (some { block := 3, off := o2, spot := s2 : Addr }) l2 c2] 1 true, Blk.cells cb 1 w]))) := by kernel_rfl

theorem w232N (cs : List Value) (len cap : Nat) (r : Int) (ok : Bool) (o2 : Nat) (s2 : Option Nat) (l2 c2 : Nat) (cb : List Value) (w : Bool) (K : Value → Heap → Prop) :
  funX Try.prog S98N (gcLKX (at0 [1,2]) (at0 []) 4 (cutLK [⟨[0,1,0,1], T232 len cap 0, hp (hD cs 29 o2 s2 l2 c2 cb w), fun K => Alt ok (K (.exit 0) (tmps 19 []) (hp (hD cs 29 o2 s2 l2 c2 cb w))) (K .ret (tmps 19 [(4, .int .i64 r)]) (hp (hD cs 29 o2 s2 l2 c2 cb w)))⟩])) F232 body232 Try.f34 [1,2] [] [.slice (some ⟨0,0,some 3⟩) len cap, .func (.func 33) #[] #[.pointer (some ⟨1,0,none⟩)]] (hp (hD cs 29 o2 s2 l2 c2 cb w)) K = (
FlatD [1, 2]
    (hp
      [Blk.cells cs 1 true,
        Blk.cells [Value.func (Fn.func 29) #[] #[Value.pointer (some { block := 2, off := 0 : Addr })]] 1 true,
        Blk.cells [Value.slice (some { block := 3, off := o2, spot := s2 : Addr }) l2 c2] 1 true, Blk.cells cb 1 w]) ∧
  tmps 19
        [(0, Value.slice (some { block := 0, off := 0, spot := some 3 : Addr }) len cap),
          (1, Value.func (Fn.func 33) #[] #[Value.pointer (some { block := 1, off := 0 : Addr })]),
          (7, Value.int IntKind.i64 (↑len : Int)), (8, Value.int IntKind.i64 0)] =
      tmps 19
        [(0, Value.slice (some { block := 0, off := 0, spot := some 3 : Addr }) len cap),
          (1, Value.func (Fn.func 33) #[] #[Value.pointer (some { block := 1, off := 0 : Addr })]),
          (7, Value.int IntKind.i64 (↑len : Int)), (8, Value.int IntKind.i64 0)] ∧
    hp
          [Blk.cells cs 1 true,
            Blk.cells [Value.func (Fn.func 29) #[] #[Value.pointer (some { block := 2, off := 0 : Addr })]] 1 true,
            Blk.cells [Value.slice (some { block := 3, off := o2, spot := s2 : Addr }) l2 c2] 1 true,
            Blk.cells cb 1 w] =
        hp
          [Blk.cells cs 1 true,
            Blk.cells [Value.func (Fn.func 29) #[] #[Value.pointer (some { block := 2, off := 0 : Addr })]] 1 true,
            Blk.cells [Value.slice (some { block := 3, off := o2, spot := s2 : Addr }) l2 c2] 1 true,
            Blk.cells cb 1 w] ∧
      Alt ok
        (K (Value.int IntKind.i64 (-1))
          (hp
            [Blk.cells cs 1 true,
              Blk.cells [Value.func (Fn.func 29) #[] #[Value.pointer (some { block := 2, off := 0 : Addr })]] 1 true,
              Blk.cells [Value.slice (some { block := 3, off := o2, spot := s2 : Addr }) l2 c2] 1 true,
              Blk.cells cb 1 w]))
        (K (Value.int IntKind.i64 r)
          (hp
            [Blk.cells cs 1 true,
              Blk.cells [Value.func (Fn.func 29) #[] #[Value.pointer (some { block := 2, off := 0 : Addr })]] 1 true,
              Blk.cells [Value.slice (some { block := 3, off := o2, spot := s2 : Addr }) l2 c2] 1 true,
              Blk.cells cb 1 w]))) := by kernel_rfl

theorem clN_says (hmix : Try.prog.follows .mixedOrders = true) : clNC.Holds Try.prog 29 := by
  intro args blks hf hp
  simp only [clNC] at hp ⊢
  split at hp
  · rename_i n o sp len cap cb w
    obtain ⟨hI, hN⟩ := hp
    have hI' := hI
    obtain ⟨b, rfl, hc, hB⟩ := hI
    simp only [intsAt_eq hB]
    refine ⟨⟨rfl, rfl, trivial⟩, trivial, ?_⟩
    refine (sure96 hmix).funX F227 body227 [0] [] Try.func29 rfl noLoops ?_
    have := w227 n o sp b.length cap cb w
    unfold hV at this
    rw [this, intsAt_eq hB]
    exact ⟨⟨hB.flat, trivial⟩, ⟨hI', hN⟩, FlatD.hp ⟨rfl, hB.flat, trivial⟩, rfl, rfl, rfl⟩
  · exact hp.elim
theorem sure97N (hmix : Try.prog.follows .mixedOrders = true) : Sure Try.prog S97N := ⟨hmix, plain, bookW_ok (l := [(29, clNC)]) sb9 ⟨clN_says hmix, trivial⟩⟩
theorem kkN_says (hmix : Try.prog.follows .mixedOrders = true) : kkNC.Holds Try.prog 33 := by
  intro args blks hf hp
  simp only [kkNC] at hp ⊢
  split at hp
  · rename_i n fn f c o sp len cap cb w
    obtain ⟨hG, hI, hN⟩ := hp
    obtain ⟨rfl, rfl, rfl⟩ := isG_eq hG
    have hI' := hI
    obtain ⟨b, rfl, hc, hB⟩ := hI
    simp only [intsAt_eq hB]
    refine ⟨⟨rfl, rfl, rfl, trivial⟩, trivial, ?_⟩
    refine (sure97N hmix).funX F231 body231 [0,1] [] Try.func33 rfl noLoops ?_
    have := w231N n o sp b.length cap cb w
    unfold hW at this
    rw [this, intsAt_eq hB]
    exact ⟨⟨rfl, hB.flat, trivial⟩, ⟨hI', hN⟩, FlatD.hp ⟨rfl, rfl, hB.flat, trivial⟩, rfl, rfl, rfl⟩
  · exact hp.elim
theorem sure98N (hmix : Try.prog.follows .mixedOrders = true) : Sure Try.prog S98N := ⟨hmix, plain, bookW_ok (l := [(33, kkNC)]) sb9 ⟨kkN_says hmix, trivial⟩⟩
theorem ixN_loop (hmix : Try.prog.follows .mixedOrders = true) (l b : List Int) (cs cb : List Value) (w : Bool) (o2 : Nat) (s2 : Option Nat) (cap c2 : Nat) (hc2 : b.length ≤ c2) (hA : ISl cs 0 l) (hB : ISl cb o2 b) (K : Post) : ∀ (t : List Int) (i : Nat), l.drop i = t →
    Alt (allD (kpN b) t) (K (.exit 0) (tmps 19 []) (hp (hD cs 29 o2 s2 b.length c2 cb w))) (K .ret (tmps 19 [(4, .int .i64 (idxD (kpN b) i t))]) (hp (hD cs 29 o2 s2 b.length c2 cb w))) →
    LSays Try.prog 4 (sub body232 [0,0,1,0,1]) (T232 l.length cap i) (hp (hD cs 29 o2 s2 b.length c2 cb w)) K := by
  have hF : FlatD [1, 2] (hp (hD cs 29 o2 s2 b.length c2 cb w)) := hD_flat hA.flat hB.flat
  have hsh := hA.short
  intro t
  induction t with
  | nil =>
    intro i ht hK
    have hge : ¬ ((i : Int) < (l.length : Int)) := by have := List.drop_eq_nil_iff.1 ht; omega
    refine (sure98N hmix).roundX F232 noLoops [1,2] [] [1,2] [] [0,1,7,8] ?_
    rw [r232N]
    simp only [hge, Alt_iff, Need_iff, ltI_eq, leI_eq, eqI_eq, leN_eq, eqN_eq, decide_eq_true_eq, decide_eq_false_iff_not, decide_true, decide_false, true_and, and_true, Bool.true_eq_false, Bool.false_eq_true, false_implies, true_implies, implies_true, not_true_eq_false, not_false_eq_true, Bool.not_eq_true', Bool.not_eq_false', Nat.zero_add, Nat.add_zero, Nat.sub_zero, Nat.zero_mul, Nat.mul_one, Int.toNat_natCast, List.drop_zero, beqV_int, beqV_sl, beqV_str, beqV_bool, beqV_ptr, beqV_flt, beqV_agg, beqV_tuple, List.all_cons, List.all_nil, Bool.and_self, Bool.and_true, Bool.true_and, Nat.le_refl, Int.le_refl, Nat.zero_le, Option.getD_some, isStr, strV, isInt, intV, isBool, boolV, kindEq, at0, isJunk, Option.isSome_some, Option.isSome_none, if_true, if_false, Nat.add_sub_cancel_left, Nat.add_sub_cancel]
    exact ⟨hF, hK⟩
  | cons x t ih =>
    intro i ht hK
    obtain ⟨hlt, hx, hd⟩ := cons_of_drop ht
    have hg := hA.cell i x hx
    rw [Nat.zero_add] at hg
    refine (sure98N hmix).roundX F232 noLoops [1,2] [] [1,2] [] [0,1,7,8] ?_
    rw [r232N]
    simp only [show (i : Int) < (l.length : Int) by omega, hg, nx i (by omega), intsAt_eq hB, Alt_iff, Need_iff, ltI_eq, leI_eq, eqI_eq, leN_eq, eqN_eq, decide_eq_true_eq, decide_eq_false_iff_not, decide_true, decide_false, true_and, and_true, Bool.true_eq_false, Bool.false_eq_true, false_implies, true_implies, implies_true, not_true_eq_false, not_false_eq_true, Bool.not_eq_true', Bool.not_eq_false', Nat.zero_add, Nat.add_zero, Nat.sub_zero, Nat.zero_mul, Nat.mul_one, Int.toNat_natCast, List.drop_zero, beqV_int, beqV_sl, beqV_str, beqV_bool, beqV_ptr, beqV_flt, beqV_agg, beqV_tuple, List.all_cons, List.all_nil, Bool.and_self, Bool.and_true, Bool.true_and, Nat.le_refl, Int.le_refl, Nat.zero_le, Option.getD_some, isStr, strV, isInt, intV, isBool, boolV, kindEq, at0, isJunk, Option.isSome_some, Option.isSome_none, if_true, if_false, Nat.add_sub_cancel_left, Nat.add_sub_cancel]
    refine ⟨⟨rfl, rfl, hB.flat⟩, ⟨.mk b rfl hc2 hB, .mk x (hA.ok x (List.mem_of_getElem? hx))⟩, fun h => ⟨hF, ?_⟩, fun h => ⟨hF, ?_⟩⟩
    · rw [allD, idxD, if_neg (by rw [h]; simp), if_neg (by rw [h]; simp)] at hK; exact hK
    · rw [allD, idxD, if_pos h, if_pos h] at hK; exact ih (i + 1) hd hK
noncomputable def ixNC : CtrW where
  D := [1, 2]
  W := []
  E := []
  pre := fun args blks => match args, blks with
    | [.slice (some ⟨0,0,some 3⟩) len cap, .func fn f c], [.cells cs 1 true, .cells [.func fn2 f2 c2] 1 true, .cells [.slice (some ⟨3,o,_⟩) l2 cc] 1 true, .cells cb 1 _] => isG 33 fn f c 1 ∧ isG 29 fn2 f2 c2 2 ∧ IsI cs 0 len cap ∧ IsI cb o l2 cc
    | _, _ => False
  val := fun args blks => match args, blks with
    | [.slice (some ⟨0,0,some 3⟩) len _, .func _ _ _], [.cells cs 1 true, .cells [.func _ _ _] 1 true, .cells [.slice (some ⟨3,o,_⟩) l2 _] 1 true, .cells cb 1 _] => .int .i64 (idxD (kpN (intsAt cb o l2)) 0 (intsAt cs 0 len))
    | _, _ => undef
  out := fun _ blks => blks
theorem ixN_says (hmix : Try.prog.follows .mixedOrders = true) : ixNC.Holds Try.prog 34 := by
  intro args blks hf hp
  simp only [ixNC] at hp ⊢
  split at hp
  · rename_i len cap fn f c cs fn2 f2 c2 o sp l2 cc cb w
    obtain ⟨hG, hG2, hI, hJ⟩ := hp
    obtain ⟨rfl, rfl, rfl⟩ := isG_eq hG
    obtain ⟨rfl, rfl, rfl⟩ := isG_eq hG2
    obtain ⟨l, rfl, hc, hA⟩ := hI
    obtain ⟨b, rfl, hc2, hB⟩ := hJ
    simp only [intsAt_eq hB, intsAt_eq hA]
    refine ⟨⟨rfl, rfl, rfl, rfl, trivial⟩, trivial, ?_⟩
    have hF : FlatD [1, 2] (AM.hp (hD cs 29 o sp b.length cc cb w)) := hD_flat hA.flat hB.flat
    have hL : Loops Try.prog body232 4 (cutLK [⟨[0,1,0,1], T232 l.length cap 0, AM.hp (hD cs 29 o sp b.length cc cb w), fun K => Alt (allD (kpN b) l) (K (.exit 0) (tmps 19 []) (AM.hp (hD cs 29 o sp b.length cc cb w))) (K .ret (tmps 19 [(4, .int .i64 (idxD (kpN b) 0 l))]) (AM.hp (hD cs 29 o sp b.length cc cb w)))⟩]) := Loops.none.more _ fun K hK => by
      show LSays Try.prog _ (sub body232 [0,0,1,0,1]) _ _ _
      exact ixN_loop hmix l b cs cb w o sp cap cc hc2 hA hB K l 0 rfl hK
    refine (sure98N hmix).funX F232 body232 [1,2] [] Try.func34 rfl (hL.gcX (at0 [1,2]) (at0 [])) ?_
    have := w232N cs l.length cap (idxD (kpN b) 0 l) (allD (kpN b) l) o sp b.length cc cb w
    unfold hD at *
    rw [this]
    refine ⟨hF, rfl, rfl, ?_⟩
    rcases allD_idx (kpN b) l 0 with ⟨h1, h2, _⟩ | ⟨h1, _⟩
    · rw [h1, h2]; exact ⟨hF, rfl, rfl, rfl⟩
    · rw [h1]; exact ⟨hF, rfl, rfl, rfl⟩
  · exact hp.elim
noncomputable def S99N : Book := bookW [(33, kkNC), (34, ixNC)] (bookOf [])
theorem sure99N (hmix : Try.prog.follows .mixedOrders = true) : Sure Try.prog S99N := ⟨hmix, plain, bookW_ok (l := [(33, kkNC), (34, ixNC)]) sb9 ⟨kkN_says hmix, ixN_says hmix, trivial⟩⟩
theorem deN_loop (hmix : Try.prog.follows .mixedOrders = true) (l b : List Int) (q cb : List Value) (w : Bool) (o2 : Nat) (s2 : Option Nat) (cap c2 : Nat) (hc2 : b.length ≤ c2) (hz : ∀ x ∈ l, ZP .i64 x) (hq : FlatL q) (hl : l.length ≤ 1000000) (hB : ISl cb o2 b) (K : Post) : ∀ (t F : List Int) (j : Nat), l.drop j = t → F.length ≤ j → j ≤ l.length →
    K (.exit 0) (tmps 42 [(0, .slice (some ⟨0,0,some 3⟩) l.length cap), (5, .int .i64 ((F ++ t.filter (kpN b)).length : Nat))]) (hp (hD (eC (iE .i64) ((F ++ t.filter (kpN b)) ++ l.drop (F ++ t.filter (kpN b)).length) ++ q) 29 o2 s2 b.length c2 cb w)) →
    LSays Try.prog 4 (sub body230 [0,0,1,0,1,1,1]) (T230 l.length cap F.length j) (hp (hD (eC (iE .i64) (F ++ l.drop F.length) ++ q) 29 o2 s2 b.length c2 cb w)) K := by
  have hfl : ∀ F : List Int, FlatL (eC (iE .i64) F ++ q) := fun F => ⟨fun x hx => (List.mem_append.1 hx).elim ((eC_flat flat_i F).1 x) (hq.1 x)⟩
  have hF : ∀ F : List Int, FlatD [1, 2] (hp (hD (eC (iE .i64) F ++ q) 29 o2 s2 b.length c2 cb w)) := fun F => hD_flat (hfl F) hB.flat
  intro t
  induction t with
  | nil =>
    intro F j ht hFj hj hK
    have hge : ¬ ((j : Int) < (l.length : Int)) := by have := List.drop_eq_nil_iff.1 ht; omega
    refine (sure98N hmix).roundX F230 noLoops [1,2] [] [1,2] [] [0,1,5,6] ?_
    rw [r230N]
    simp only [hge, Alt_iff, Need_iff, ltI_eq, leI_eq, eqI_eq, leN_eq, eqN_eq, decide_eq_true_eq, decide_eq_false_iff_not, decide_true, decide_false, true_and, and_true, Bool.true_eq_false, Bool.false_eq_true, false_implies, true_implies, implies_true, not_true_eq_false, not_false_eq_true, Bool.not_eq_true', Bool.not_eq_false', Nat.zero_add, Nat.add_zero, Nat.sub_zero, Nat.zero_mul, Nat.mul_one, Int.toNat_natCast, List.drop_zero, beqV_int, beqV_sl, beqV_str, beqV_bool, beqV_ptr, beqV_flt, beqV_agg, beqV_tuple, List.all_cons, List.all_nil, Bool.and_self, Bool.and_true, Bool.true_and, Nat.le_refl, Int.le_refl, Nat.zero_le, Option.getD_some, isStr, strV, isInt, intV, isBool, boolV, kindEq, at0, isJunk, Option.isSome_some, Option.isSome_none, if_true, if_false, Nat.add_sub_cancel_left, Nat.add_sub_cancel]
    simp only [List.filter_nil, List.append_nil] at hK
    exact ⟨hF _, hK⟩
  | cons x t ih =>
    intro F j ht hFj hj hK
    obtain ⟨hlt, hx, hd⟩ := cons_of_drop ht
    have hlen : (F ++ l.drop F.length).length = l.length := by simp; omega
    have hg : getO (eC (iE .i64) (F ++ l.drop F.length) ++ q) j = some (iE .i64 x) := by
      rw [getO_eq, List.getElem?_append_left (by rw [eC_len]; omega), ← getO_eq]
      refine eC_get _ _ ?_
      rw [List.getElem?_append_right hFj, List.getElem?_drop, show F.length + (j - F.length) = j by omega, hx]
    have hset : setAll (eC (iE .i64) (F ++ l.drop F.length) ++ q) F.length [.int .i64 x] = eC (iE .i64) ((F ++ [x]) ++ l.drop (F ++ [x]).length) ++ q := by
      rw [eC_append, List.append_assoc, setAll_app _ _ _ _ (eC_len _ _) (by simp [eC_len]; omega)]
      have : (eC (iE .i64) (l.drop F.length) ++ q).drop 1 = eC (iE .i64) (l.drop (F.length + 1)) ++ q := by
        rw [List.drop_append_of_le_length (by rw [eC_len]; simp; omega), eC_drop, List.drop_drop]
      rw [List.length_singleton, this, eC_append, eC_append]
      simp [eC]
    refine (sure98N hmix).roundX F230 noLoops [1,2] [] [1,2] [] [0,1,5,6] ?_
    rw [r230N]
    have hroom : F.length + 1 ≤ (eC (iE .i64) (F ++ l.drop F.length) ++ q).length := by simp only [List.length_append, eC_len]; simp; omega
    simp only [show (j : Int) < (l.length : Int) by omega, show (F.length : Int) < (l.length : Int) by omega, hg, nx j (by omega), nx F.length (by omega), intsAt_eq hB, hset, hroom, Alt_iff, Need_iff, ltI_eq, leI_eq, eqI_eq, leN_eq, eqN_eq, decide_eq_true_eq, decide_eq_false_iff_not, decide_true, decide_false, true_and, and_true, Bool.true_eq_false, Bool.false_eq_true, false_implies, true_implies, implies_true, not_true_eq_false, not_false_eq_true, Bool.not_eq_true', Bool.not_eq_false', Nat.zero_add, Nat.add_zero, Nat.sub_zero, Nat.zero_mul, Nat.mul_one, Int.toNat_natCast, List.drop_zero, beqV_int, beqV_sl, beqV_str, beqV_bool, beqV_ptr, beqV_flt, beqV_agg, beqV_tuple, List.all_cons, List.all_nil, Bool.and_self, Bool.and_true, Bool.true_and, Nat.le_refl, Int.le_refl, Nat.zero_le, Option.getD_some, isStr, strV, isInt, intV, isBool, boolV, kindEq, at0, isJunk, Option.isSome_some, Option.isSome_none, if_true, if_false, Nat.add_sub_cancel_left, Nat.add_sub_cancel]
    refine ⟨⟨rfl, rfl, hB.flat⟩, ⟨.mk b rfl hc2 hB, .mk x (hz x (List.mem_of_getElem? hx))⟩, fun h => ⟨hF _, ?_⟩, fun h => ⟨hF _, ?_⟩⟩
    · have h : kpN b x = true := by simpa using h
      have e : F ++ (x :: t).filter (kpN b) = (F ++ [x]) ++ t.filter (kpN b) := by rw [List.filter_cons, if_pos h]; simp
      rw [e] at hK
      have := ih (F ++ [x]) (j + 1) hd (by simp; omega) (by omega) hK
      rw [show (F ++ [x]).length = F.length + 1 by simp] at this ⊢
      exact this
    · have h : kpN b x = false := by simpa using h
      have e : (x :: t).filter (kpN b) = t.filter (kpN b) := by rw [List.filter_cons, if_neg (by rw [h]; simp)]
      rw [e] at hK
      exact ih F (j + 1) hd (by omega) (by omega) hK

theorem w230N (cs : List Value) (len cap i m : Nat) (c3 : List Value) (o2 : Nat) (s2 : Option Nat) (l2 c2 : Nat) (cb : List Value) (w : Bool) (K : Value → Heap → Prop) :
  funX Try.prog S99N (gcLKX (at0 [1,2]) (at0 []) 4 (cutLK [⟨[0,1,0,1,1,1], T230 len cap i (i + 1), hp (hD cs 29 o2 s2 l2 c2 cb w), fun K => K (.exit 0) (tmps 42 [(0, .slice (some ⟨0,0,some 3⟩) len cap), (5, .int .i64 m)]) (hp (hD c3 29 o2 s2 l2 c2 cb w))⟩])) F230 body230 Try.f31 [1,2] [] [.slice (some ⟨0,0,some 3⟩) len cap, .func (.func 33) #[] #[.pointer (some ⟨1,0,none⟩)]] (hp (hD cs 29 o2 s2 l2 c2 cb w)) K = (
(FlatL cs ∧
    nojL [Value.func (Fn.func 29) #[] #[Value.pointer (some { block := 2, off := 0 : Addr })]] = true ∧
      nojL [Value.slice (some { block := 3, off := o2, spot := s2 : Addr }) l2 c2] = true ∧ FlatL cb ∧ True) ∧
  (True ∧
      True ∧ IsE (iE IntKind.i64) (ZP IntKind.i64) cs 0 len cap ∧ IsE (iE IntKind.i64) (ZP IntKind.i64) cb o2 l2 c2) ∧
    Alt (eqI (idxD (kpN (intsAt cb o2 l2)) 0 (intsAt cs 0 len)) (-1))
      (K (Value.slice (some { block := 0, off := 0, spot := some 3 : Addr }) len cap)
        (hp
          [Blk.cells cs 1 true,
            Blk.cells [Value.func (Fn.func 29) #[] #[Value.pointer (some { block := 2, off := 0 : Addr })]] 1 true,
            Blk.cells [Value.slice (some { block := 3, off := o2, spot := s2 : Addr }) l2 c2] 1 true,
            Blk.cells cb 1 w]))
      (FlatD [1, 2]
          (hp
            [Blk.cells cs 1 true,
              Blk.cells [Value.func (Fn.func 29) #[] #[Value.pointer (some { block := 2, off := 0 : Addr })]] 1 true,
              Blk.cells [Value.slice (some { block := 3, off := o2, spot := s2 : Addr }) l2 c2] 1 true,
              Blk.cells cb 1 w]) ∧
        tmps 42
              [(0, Value.slice (some { block := 0, off := 0, spot := some 3 : Addr }) len cap),
                (1, Value.func (Fn.func 33) #[] #[Value.pointer (some { block := 1, off := 0 : Addr })]),
                (5, Value.int IntKind.i64 (idxD (kpN (intsAt cb o2 l2)) 0 (intsAt cs 0 len))),
                (6, Value.int IntKind.i64 (wr IntKind.i64 (idxD (kpN (intsAt cb o2 l2)) 0 (intsAt cs 0 len) + 1)))] =
            tmps 42
              [(0, Value.slice (some { block := 0, off := 0, spot := some 3 : Addr }) len cap),
                (1, Value.func (Fn.func 33) #[] #[Value.pointer (some { block := 1, off := 0 : Addr })]),
                (5, Value.int IntKind.i64 (↑i : Int)), (6, Value.int IntKind.i64 (↑(i + 1) : Int))] ∧
          hp
                [Blk.cells cs 1 true,
                  Blk.cells [Value.func (Fn.func 29) #[] #[Value.pointer (some { block := 2, off := 0 : Addr })]] 1
                    true,
                  Blk.cells [Value.slice (some { block := 3, off := o2, spot := s2 : Addr }) l2 c2] 1 true,
                  Blk.cells cb 1 w] =
              hp
                [Blk.cells cs 1 true,
                  Blk.cells [Value.func (Fn.func 29) #[] #[Value.pointer (some { block := 2, off := 0 : Addr })]] 1
                    true,
                  Blk.cells [Value.slice (some { block := 3, off := o2, spot := s2 : Addr }) l2 c2] 1 true,
                  Blk.cells cb 1 w] ∧
            Need (leI (↑m : Int) (↑len : Int))
              (Alt (eqN (len - (↑m : Int).toNat) 0)
                (Need (leI (↑m : Int) (↑cap : Int))
                  (K
                    (Value.slice (some { block := 0, off := 0, spot := some 3 : Addr }) ((↑m : Int).toNat - 0)
                      (cap - 0))
                    (hp
                      [Blk.cells c3 1 true,
                        Blk.cells [Value.func (Fn.func 29) #[] #[Value.pointer (some { block := 2, off := 0 : Addr })]]
                          1 true,
                        Blk.cells [Value.slice (some { block := 3, off := o2, spot := s2 : Addr }) l2 c2] 1 true,
                        Blk.cells cb 1 w])))
                (Need
                  (leN (0 + (↑m : Int).toNat * 1 + (repl (len - (↑m : Int).toNat) [Value.int IntKind.i64 0]).length)
                    c3.length)
                  (Need ((repl (len - (↑m : Int).toNat) [Value.int IntKind.i64 0]).all oneV)
                    (Need (leI (↑m : Int) (↑cap : Int))
                      (K
                        (Value.slice (some { block := 0, off := 0, spot := some 3 : Addr }) ((↑m : Int).toNat - 0)
                          (cap - 0))
                        (hp
                          [Blk.cells
                              (setAll c3 (0 + (↑m : Int).toNat * 1)
                                (repl (len - (↑m : Int).toNat) [Value.int IntKind.i64 0]))
                              1 true,
                            Blk.cells
                              [Value.func (Fn.func 29) #[] #[Value.pointer (some { block := 2, off := 0 : Addr })]] 1
                              true,
                            Blk.cells [Value.slice (some { block := 3, off := o2, spot := s2 : Addr }) l2 c2] 1 true,
                            Blk.cells cb 1 w])))))))) := by kernel_rfl

theorem w230eN (cs : List Value) (len cap : Nat) (o2 : Nat) (s2 : Option Nat) (l2 c2 : Nat) (cb : List Value) (w : Bool) (K : Value → Heap → Prop) :
  funX Try.prog S99N noLoop F230 body230 Try.f31 [1,2] [] [.slice (some ⟨0,0,some 3⟩) len cap, .func (.func 33) #[] #[.pointer (some ⟨1,0,none⟩)]] (hp (hD cs 29 o2 s2 l2 c2 cb w)) K = (
(FlatL cs ∧
    nojL [Value.func (Fn.func 29) #[] #[Value.pointer (some { block := 2, off := 0 : Addr })]] = true ∧
      nojL [Value.slice (some { block := 3, off := o2, spot := s2 : Addr }) l2 c2] = true ∧ FlatL cb ∧ True) ∧
  (True ∧
      True ∧ IsE (iE IntKind.i64) (ZP IntKind.i64) cs 0 len cap ∧ IsE (iE IntKind.i64) (ZP IntKind.i64) cb o2 l2 c2) ∧
    Need (eqI (idxD (kpN (intsAt cb o2 l2)) 0 (intsAt cs 0 len)) (-1))
      (K (Value.slice (some { block := 0, off := 0, spot := some 3 : Addr }) len cap)
        (hp
          [Blk.cells cs 1 true,
            Blk.cells [Value.func (Fn.func 29) #[] #[Value.pointer (some { block := 2, off := 0 : Addr })]] 1 true,
            Blk.cells [Value.slice (some { block := 3, off := o2, spot := s2 : Addr }) l2 c2] 1 true,
            Blk.cells cb 1 w]))) := by kernel_rfl

noncomputable def deNC : CtrW where
  D := [1, 2]
  W := [0]
  E := []
  pre := fun args blks => match args, blks with
    | [.slice (some ⟨0,0,some 3⟩) len cap, .func fn f c], [.cells cs 1 true, .cells [.func fn2 f2 c2] 1 true, .cells [.slice (some ⟨3,o,_⟩) l2 cc] 1 true, .cells cb 1 _] => isG 33 fn f c 1 ∧ isG 29 fn2 f2 c2 2 ∧ IsI cs 0 len cap ∧ IsI cb o l2 cc ∧ Need (leN len 1000000) True
    | _, _ => False
  val := fun args blks => match args, blks with
    | [.slice (some ⟨0,0,some 3⟩) len cap, .func _ _ _], [.cells cs 1 true, .cells [.func _ _ _] 1 true, .cells [.slice (some ⟨3,o,_⟩) l2 _] 1 true, .cells cb 1 _] => .slice (some ⟨0,0,some 3⟩) ((intsAt cs 0 len).filter (kpN (intsAt cb o l2))).length cap
    | _, _ => undef
  out := fun args blks => match args, blks with
    | [.slice (some ⟨0,0,some 3⟩) len cap, .func _ _ _], [.cells cs 1 true, .cells [.func f g h] 1 true, .cells [.slice (some ⟨3,o,sp⟩) l2 cc] 1 true, .cells cb 1 w] => [.cells (delC (kpN (intsAt cb o l2)) len cs) 1 true, .cells [.func f g h] 1 true, .cells [.slice (some ⟨3,o,sp⟩) l2 cc] 1 true, .cells cb 1 w]
    | _, b => b
theorem deN_says (hmix : Try.prog.follows .mixedOrders = true) : deNC.Holds Try.prog 31 := by
  intro args blks hf hp
  simp only [deNC] at hp ⊢
  split at hp
  · rename_i len cap fn f c cs fn2 f2 c2 o sp l2 cc cb w
    obtain ⟨hG, hG2, hI, hJ, hk⟩ := hp
    obtain ⟨rfl, rfl, rfl⟩ := isG_eq hG
    obtain ⟨rfl, rfl, rfl⟩ := isG_eq hG2
    have hI' := hI
    have hJ' := hJ
    obtain ⟨l, rfl, hc, hA⟩ := hI
    obtain ⟨b, rfl, hc2, hB⟩ := hJ
    simp only [Alt_iff, Need_iff, ltI_eq, leI_eq, eqI_eq, leN_eq, eqN_eq, decide_eq_true_eq, decide_eq_false_iff_not, decide_true, decide_false, true_and, and_true, Bool.true_eq_false, Bool.false_eq_true, false_implies, true_implies, implies_true, not_true_eq_false, not_false_eq_true, Bool.not_eq_true', Bool.not_eq_false'] at hk
    have hrow := IsI.row hA
    simp only [intsAt_eq hB, intsAt_eq hA]
    refine ⟨⟨trivial, rfl, rfl, rfl, trivial⟩, ⟨delC_flat hA.flat, trivial⟩, ?_⟩
    have hF : FlatD [1, 2] (AM.hp (hD cs 29 o sp b.length cc cb w)) := hD_flat hA.flat hB.flat
    have hdel : delC (kpN b) l.length cs = eC (iE .i64) (l.filter (kpN b) ++ List.replicate (l.length - (l.filter (kpN b)).length) 0) ++ cs.drop l.length := by unfold delC; rw [intsAt_eq hA]
    rcases allD_idx (kpN b) l 0 with ⟨h1, h2, h3⟩ | ⟨h1, a, x, t, h2, h3, h4, h5⟩
    · refine (sure99N hmix).funX F230 body230 [1,2] [] Try.func31 rfl noLoops ?_
      have := w230eN cs l.length cap o sp b.length cc cb w
      unfold hD at *
      rw [this, intsAt_eq hB, intsAt_eq hA, h2, hdel, h3, Nat.sub_self, List.replicate_zero, List.append_nil, ← hrow]
      exact ⟨⟨hA.flat, rfl, rfl, hB.flat, trivial⟩, ⟨trivial, trivial, hI', hJ'⟩, hF, rfl, rfl, rfl⟩
    · have hfe : l.filter (kpN b) = a ++ t.filter (kpN b) := by rw [h2, List.filter_append, h4, List.filter_cons, if_neg (by rw [h5]; simp)]
      have hla : a.length < l.length := by rw [h2]; simp
      have hfl : (l.filter (kpN b)).length ≤ l.length := List.length_filter_le _ _
      have hdr : l.drop (a.length + 1) = t := by rw [h2, List.drop_append]; simp
      have hst : eC (iE .i64) (a ++ l.drop a.length) ++ cs.drop l.length = cs := by
        have : a ++ l.drop a.length = l := by conv => rhs; rw [← List.take_append_drop a.length l]
                                              congr 1; rw [h2]; simp
        rw [this]; exact hrow.symm
      have hL : Loops Try.prog body230 4 (cutLK [⟨[0,1,0,1,1,1], T230 l.length cap a.length (a.length + 1), AM.hp (hD cs 29 o sp b.length cc cb w), fun K => K (.exit 0) (tmps 42 [(0, .slice (some ⟨0,0,some 3⟩) l.length cap), (5, .int .i64 ((l.filter (kpN b)).length : Nat))]) (AM.hp (hD (eC (iE .i64) (l.filter (kpN b) ++ l.drop (l.filter (kpN b)).length) ++ cs.drop l.length) 29 o sp b.length cc cb w))⟩]) := Loops.none.more _ fun K hK => by
        show LSays Try.prog _ (sub body230 [0,0,1,0,1,1,1]) _ _ _
        rw [hfe] at hK
        have := deN_loop hmix l b (cs.drop l.length) cb w o sp cap cc hc2 hA.ok ⟨fun x hx => hA.flat.1 x (List.mem_of_mem_drop hx)⟩ hk hB K t a (a.length + 1) hdr (by omega) (by omega) hK
        rw [hst] at this; exact this
      refine (sure99N hmix).funX F230 body230 [1,2] [] Try.func31 rfl (hL.gcX (at0 [1,2]) (at0 [])) ?_
      have := w230N cs l.length cap a.length (l.filter (kpN b)).length (eC (iE .i64) (l.filter (kpN b) ++ l.drop (l.filter (kpN b)).length) ++ cs.drop l.length) o sp b.length cc cb w
      have hq : FlatL (cs.drop l.length) := ⟨fun x hx => hA.flat.1 x (List.mem_of_mem_drop hx)⟩
      have hF2 : ∀ L : List Int, FlatD [1, 2] (AM.hp (hD (eC (iE .i64) L ++ cs.drop l.length) 29 o sp b.length cc cb w)) := fun L => hD_flat ⟨fun x hx => (List.mem_append.1 hx).elim ((eC_flat flat_i L).1 x) (hq.1 x)⟩ hB.flat
      have hfull := del_full (l := l) (q := cs.drop l.length) (l.filter (kpN b)) hfl
      have hrl : (repl (l.length - (l.filter (kpN b)).length) [Value.int .i64 0]).length = l.length - (l.filter (kpN b)).length := by rw [repl_one, List.length_replicate]
      have hro : (repl (l.length - (l.filter (kpN b)).length) [Value.int .i64 0]).all oneV = true := by rw [repl_one]; simp [oneV]
      have hcl : (eC (iE .i64) (l.filter (kpN b) ++ l.drop (l.filter (kpN b)).length) ++ cs.drop l.length).length = l.length + (cs.drop l.length).length := by rw [List.length_append, eC_len, List.length_append, List.length_drop]; omega
      unfold hD at *
      rw [this]
      simp only [intsAt_eq hB, intsAt_eq hA, h3, Nat.zero_add, nx a.length (by omega), hdel, hfull, hrl, hro, hcl, show ¬ ((a.length : Int) = -1) by omega, show ((l.filter (kpN b)).length : Int) ≤ (l.length : Int) by omega, show ((l.filter (kpN b)).length : Int) ≤ (cap : Int) by omega, Alt_iff, Need_iff, ltI_eq, leI_eq, eqI_eq, leN_eq, eqN_eq, decide_eq_true_eq, decide_eq_false_iff_not, decide_true, decide_false, true_and, and_true, Bool.true_eq_false, Bool.false_eq_true, false_implies, true_implies, implies_true, not_true_eq_false, not_false_eq_true, Bool.not_eq_true', Bool.not_eq_false', Nat.zero_add, Nat.add_zero, Nat.sub_zero, Nat.zero_mul, Nat.mul_one, Int.toNat_natCast, List.drop_zero, beqV_int, beqV_sl, beqV_str, beqV_bool, beqV_ptr, beqV_flt, beqV_agg, beqV_tuple, List.all_cons, List.all_nil, Bool.and_self, Bool.and_true, Bool.true_and, Nat.le_refl, Int.le_refl, Nat.zero_le, Option.getD_some, isStr, strV, isInt, intV, isBool, boolV, kindEq, at0, isJunk, Option.isSome_some, Option.isSome_none, if_true, if_false, Nat.add_sub_cancel_left, Nat.add_sub_cancel]
      refine ⟨⟨hA.flat, rfl, rfl, hB.flat⟩, ⟨hI', hJ'⟩, hF, fun h => ?_, fun h => ?_⟩
      · have he : l.length = (l.filter (kpN b)).length := by omega
        have e1 : l.drop (l.filter (kpN b)).length = [] := List.drop_eq_nil_of_le (by omega)
        rw [e1, h, List.replicate_zero]
        exact ⟨hF2 _, rfl⟩
      · and_intros <;> first | omega | exact hF2 _ | rfl
  · exact hp.elim
noncomputable def keNC : CtrW where
  D := [1]
  W := []
  E := []
  pre := fun args blks => match args, blks with
    | [.slice (some ⟨0,o1,_⟩) len cap, .func fn f c], [.cells cs 1 _, .cells [.slice (some ⟨2,o,_⟩) l2 cc] 1 true, .cells cb 1 _] => isG 29 fn f c 1 ∧ IsI cs o1 len cap ∧ IsI cb o l2 cc ∧ Need (leN len 1000000) (Need (leN o1 cs.length) True)
    | _, _ => False
  val := fun args blks => match args, blks with
    | [.slice (some ⟨0,o1,_⟩) len _, .func _ _ _], [.cells cs 1 _, .cells [.slice (some ⟨2,o,_⟩) l2 _] 1 true, .cells cb 1 _] => .slice (some ⟨3,0,some 3⟩) ((ddL (intsAt cs o1 len)).filter (kpN (intsAt cb o l2))).length len
    | _, _ => undef
  out := fun args blks => match args, blks with
    | [.slice (some ⟨0,o1,_⟩) len _, .func _ _ _], [.cells cs 1 w0, .cells [.slice (some ⟨2,o,sp⟩) l2 cc] 1 true, .cells cb 1 w] => [.cells cs 1 w0, .cells [.slice (some ⟨2,o,sp⟩) l2 cc] 1 true, .cells cb 1 w, .cells (delC (kpN (intsAt cb o l2)) (ddL (intsAt cs o1 len)).length (mkC (intsAt cs o1 len))) 1 true]
    | _, b => b
noncomputable def S100N : Book := bookW [(31, deNC)] (bookOf [(32, makeC)])
theorem sure100N (hmix : Try.prog.follows .mixedOrders = true) : Sure Try.prog S100N := ⟨hmix, plain, bookW_ok (l := [(31, deNC)]) (bookOf_ok (l := [(32, makeC)]) ⟨make_says hmix, trivial⟩) ⟨deN_says hmix, trivial⟩⟩

theorem w225N (cs : List Value) (w0 : Bool) (o1 : Nat) (sp : Option Nat) (len cap : Nat) (o2 : Nat) (s2 : Option Nat) (l2 c2 : Nat) (cb : List Value) (w : Bool) (K : Value → Heap → Prop) :
  funX Try.prog S100N noLoop F225 body225 Try.f28 [1] [] [.slice (some ⟨0,o1,sp⟩) len cap, .func (.func 29) #[] #[.pointer (some ⟨1,0,none⟩)]] (hp (hE cs w0 o2 s2 l2 c2 cb w)) K = (
(FlatL cs ∧ True) ∧
  (IsE (iE IntKind.i64) (ZP IntKind.i64) cs o1 len cap ∧ Need (leN len 1000000000) (Need (leN o1 cs.length) True)) ∧
    (FlatL (mkC (intsAt cs o1 len)) ∧
        nojL [Value.func (Fn.func 29) #[] #[Value.pointer (some { block := 2, off := 0 : Addr })]] = true ∧
          nojL [Value.slice (some { block := 3, off := o2, spot := s2 : Addr }) l2 c2] = true ∧ FlatL cb ∧ True) ∧
      (True ∧
          True ∧
            IsE (iE IntKind.i64) (ZP IntKind.i64) (mkC (intsAt cs o1 len)) 0 (ddL (intsAt cs o1 len)).length len ∧
              IsE (iE IntKind.i64) (ZP IntKind.i64) cb o2 l2 c2 ∧
                Need (leN (ddL (intsAt cs o1 len)).length 1000000) True) ∧
        K
          (Value.slice (some { block := 3, off := 0, spot := some 3 : Addr })
            (List.filter (kpN (intsAt cb o2 l2))
                (intsAt (mkC (intsAt cs o1 len)) 0 (ddL (intsAt cs o1 len)).length)).length
            len)
          (hp
            [Blk.cells cs 1 w0,
              Blk.cells [Value.slice (some { block := 2, off := o2, spot := s2 : Addr }) l2 c2] 1 true,
              Blk.cells cb 1 w,
              Blk.cells (delC (kpN (intsAt cb o2 l2)) (ddL (intsAt cs o1 len)).length (mkC (intsAt cs o1 len))) 1 true])) := by kernel_rfl

theorem keN_says (hmix : Try.prog.follows .mixedOrders = true) : keNC.Holds Try.prog 28 := by
  intro args blks hf hp
  simp only [keNC] at hp ⊢
  split at hp
  · rename_i o1 s1 len cap fn f c cs w0 o sp l2 cc cb w
    obtain ⟨hG, hI, hJ, hk⟩ := hp
    obtain ⟨rfl, rfl, rfl⟩ := isG_eq hG
    have hI' := hI
    have hJ' := hJ
    obtain ⟨l, rfl, hc, hA⟩ := hI
    obtain ⟨b, rfl, hc2, hB⟩ := hJ
    simp only [Alt_iff, Need_iff, ltI_eq, leI_eq, eqI_eq, leN_eq, eqN_eq, decide_eq_true_eq, decide_eq_false_iff_not, decide_true, decide_false, true_and, and_true, Bool.true_eq_false, Bool.false_eq_true, false_implies, true_implies, implies_true, not_true_eq_false, not_false_eq_true, Bool.not_eq_true', Bool.not_eq_false'] at hk
    obtain ⟨k1, k2⟩ := hk
    obtain ⟨m1, m2, m3⟩ := mkC_is hA.ok k1
    have hdl := ddL_len l
    simp only [intsAt_eq hB, intsAt_eq hA]
    refine ⟨⟨rfl, rfl, rfl, trivial⟩, ⟨delC_flat m3, trivial⟩, ?_⟩
    refine (sure100N hmix).funX F225 body225 [1] [] Try.func28 rfl noLoops ?_
    have := w225N cs w0 o1 s1 l.length cap o sp b.length cc cb w
    unfold hE at this
    rw [this, intsAt_eq hB, intsAt_eq hA, intsAt_eq m1]
    refine ⟨⟨hA.flat, trivial⟩, ⟨hI', Need_iff.2 ⟨leN_iff.2 (by omega), Need_iff.2 ⟨leN_iff.2 k2, trivial⟩⟩⟩, ⟨m3, rfl, rfl, hB.flat, trivial⟩, ⟨trivial, trivial, m2, hJ', Need_iff.2 ⟨leN_iff.2 (by omega), trivial⟩⟩, FlatD.hp ⟨hA.flat, rfl, hB.flat, delC_flat m3, trivial⟩, rfl, rfl, rfl⟩
  · exact hp.elim
noncomputable def S101N : Book := bookW [(28, keNC)] (bookOf [])
theorem sure101N (hmix : Try.prog.follows .mixedOrders = true) : Sure Try.prog S101N := ⟨hmix, plain, bookW_ok (l := [(28, keNC)]) sb9 ⟨keN_says hmix, trivial⟩⟩

theorem w216 (ca cb : List Value) (w1 w2 : Bool) (o1 o2 : Nat) (s1 s2 : Option Nat) (l1 c1 l2 c2 : Nat) (K : Value → Heap → Prop) :
  funX Try.prog S101N noLoop F216 body216 Try.f23 [] [] [.slice (some ⟨0,o1,s1⟩) l1 c1, .slice (some ⟨1,o2,s2⟩) l2 c2] (hp [.cells ca 1 w1, .cells cb 1 w2]) K = (
(FlatL ca ∧ nojL [Value.slice (some { block := 2, off := o2, spot := s2 : Addr }) l2 c2] = true ∧ FlatL cb ∧ True) ∧
  (True ∧
      IsE (iE IntKind.i64) (ZP IntKind.i64) ca o1 l1 c1 ∧
        IsE (iE IntKind.i64) (ZP IntKind.i64) cb o2 l2 c2 ∧ Need (leN l1 1000000) (Need (leN o1 ca.length) True)) ∧
    K
      (Value.slice (some { block := 2, off := 0, spot := some 3 : Addr })
        (List.filter (kpN (intsAt cb o2 l2)) (ddL (intsAt ca o1 l1))).length l1)
      (hp
        [Blk.cells ca 1 w1, Blk.cells cb 1 w2,
          Blk.cells (delC (kpN (intsAt cb o2 l2)) (ddL (intsAt ca o1 l1)).length (mkC (intsAt ca o1 l1))) 1 true])) := by kernel_rfl

noncomputable def anNC : Ctr where
  pre := fun args blks => match args, blks with
    | [.slice (some ⟨0, o1, _⟩) l1 c1, .slice (some ⟨1, o2, _⟩) l2 c2], [.cells ca 1 _, .cells cb 1 _] => IsI ca o1 l1 c1 ∧ IsI cb o2 l2 c2 ∧ Need (leN l1 1000000) (Need (leN o1 ca.length) True)
    | _, _ => False
  val := fun args blks => match args, blks with
    | [.slice (some ⟨0, o1, _⟩) l1 _, .slice (some ⟨1, o2, _⟩) l2 _], [.cells ca 1 _, .cells cb 1 _] => .slice (some ⟨2,0,some 3⟩) ((ddL (intsAt ca o1 l1)).filter (kpN (intsAt cb o2 l2))).length l1
    | _, _ => undef
  new := fun args blks => match args, blks with
    | [.slice (some ⟨0, o1, _⟩) l1 _, .slice (some ⟨1, o2, _⟩) l2 _], [.cells ca 1 _, .cells cb 1 _] => [.cells (delC (kpN (intsAt cb o2 l2)) (ddL (intsAt ca o1 l1)).length (mkC (intsAt ca o1 l1))) 1 true]
    | _, _ => []
theorem anN_says (hmix : Try.prog.follows .mixedOrders = true) : anNC.Holds Try.prog 23 := by
  intro args blks hf hp
  simp only [anNC] at hp ⊢
  split at hp
  · rename_i o1 s1 l1 c1 o2 s2 l2 c2 ca w1 cb w2
    obtain ⟨hI, hJ, hk⟩ := hp
    have hI' := hI
    have hJ' := hJ
    have hk' := hk
    obtain ⟨l, rfl, hc, hA⟩ := hI
    obtain ⟨b, rfl, hc2, hB⟩ := hJ
    simp only [Alt_iff, Need_iff, ltI_eq, leI_eq, eqI_eq, leN_eq, eqN_eq, decide_eq_true_eq, decide_eq_false_iff_not, decide_true, decide_false, true_and, and_true, Bool.true_eq_false, Bool.false_eq_true, false_implies, true_implies, implies_true, not_true_eq_false, not_false_eq_true, Bool.not_eq_true', Bool.not_eq_false'] at hk
    obtain ⟨m1, m2, m3⟩ := mkC_is hA.ok hk.1
    simp only [intsAt_eq hB, intsAt_eq hA]
    refine ⟨⟨delC_flat m3, trivial⟩, ?_⟩
    refine (sure101N hmix).funX F216 body216 [] [] Try.func23 rfl noLoops ?_
    rw [w216, intsAt_eq hB, intsAt_eq hA]
    refine ⟨⟨hA.flat, rfl, hB.flat, trivial⟩, ?_, FlatD.hp ⟨hA.flat, hB.flat, delC_flat m3, trivial⟩, rfl, rfl, rfl⟩
    and_intros <;> first | trivial | exact hI' | exact hJ' | exact hk'
  · exact hp.elim
end Go.Proofs.Ytocndbldmkjcnaa

namespace Go.Proofs.Ytocndbldmkjcnaa
open Go.RowKit Go.Proofs.Ytocndbldmkjcnaa.AM
set_option maxRecDepth 100000
set_option maxHeartbeats 4000000
noncomputable def body215 : Code := (Try.f19.body).getD .skip
def F215 : List Nat → Option (List Nat) := fun p => match p with
  | [1] => some [0, 1, 2]
  | [1, 1] => some [0, 1, 2, 7]
  | [1, 0, 1, 1] => some [0, 1, 2, 7, 8]
  | [1, 0, 0, 0, 1, 0, 1, 1] => some [0, 1, 2, 7, 8, 12]
  | [1, 1, 0, 0, 0, 1, 0, 1, 1] => some [7]
  | [1, 0, 0, 1, 0, 1, 1] => some [0, 1, 2, 7, 8]
  | [1, 0, 0, 1, 0, 0, 1, 0, 1, 1] => some [0, 1, 2, 7, 8, 22]
  | [1, 1, 0, 0, 1, 0, 1, 1] => some [0, 1, 2, 7, 8]
  | [1, 1, 1] => some [7]
  | [1, 1, 1, 1] => some [6]
  | _ => none
noncomputable def body218 : Code := (Try.f18.body).getD .skip
def F218 : List Nat → Option (List Nat) := fun p => match p with
  | [1] => some [0, 1]
  | [1, 1] => some [4]
  | _ => none
noncomputable def body219 : Code := (Try.f12.body).getD .skip
def F219 : List Nat → Option (List Nat) := fun p => match p with
  | [1] => some [0, 1]
  | [1, 1] => some [4]
  | _ => none
noncomputable def S102 : Book := bookOf [(24, riseC), (11, hasC)]
theorem sure102 (hmix : Try.prog.follows .mixedOrders = true) : Sure Try.prog S102 := ⟨hmix, plain, bookOf_ok (l := [(24, riseC), (11, hasC)]) ⟨rise_says hmix, has_says hmix, trivial⟩⟩
noncomputable def T215 (a b : Value) (inn : Bool) (m i : Nat) : List Value := tmps 32 [(0, a), (1, b), (2, .bool inn), (7, .slice (some ⟨2,0,some 1⟩) m m), (8, .int .i64 i)]

theorem r215 (ca cb c3 : List Value) (w1 w2 : Bool) (o1 o2 : Nat) (s1 s2 : Option Nat) (l1 k1 l2 k2 m i : Nat) (inn : Bool) (K : Post) :
  roundX Try.prog S102 noLoop F215 body215 2 [] [] [] [] [0,1,2,7,8] [0,0,1,0,1,1] (T215 (.slice (some ⟨0,o1,s1⟩) l1 k1) (.slice (some ⟨1,o2,s2⟩) l2 k2) inn m i) (hp [.cells ca 1 w1, .cells cb 1 w2, .cells c3 1 true]) K = (
Alt (ltI (↑i : Int) (↑l1 : Int))
  (Need (ltI (↑i : Int) (↑l1 : Int))
    (Need (isInt IntKind.i64 ((getO ca (o1 + (↑i : Int).toNat * 1)).getD undef))
      ((FlatL cb ∧ True) ∧
        (IsE (iE IntKind.i64) (ZP IntKind.i64) cb o2 l2 k2 ∧
            IsN [Value.int IntKind.i64 (intV ((getO ca (o1 + (↑i : Int).toNat * 1)).getD undef))]) ∧
          Alt (hasL (intV ((getO ca (o1 + (↑i : Int).toNat * 1)).getD undef)) (intsAt cb o2 l2) == inn)
            (Need (ltI (↑i : Int) (↑l1 : Int))
              (Need (isInt IntKind.i64 ((getO ca (o1 + (↑i : Int).toNat * 1)).getD undef))
                (Need (leN (0 + m * 1) c3.length)
                  (Need (leN ((m + 1) * 8) 1099511627776)
                    (Need (leN (m + 1) 1099511627776)
                      (K AE.normal
                        (tmps 32
                          [(0, Value.slice (some { block := 0, off := o1, spot := s1 : Addr }) l1 k1),
                            (1, Value.slice (some { block := 1, off := o2, spot := s2 : Addr }) l2 k2),
                            (2, Value.bool inn),
                            (7, Value.slice (some { block := 2, off := 0, spot := some 1 : Addr }) (m + 1) (m + 1)),
                            (8, Value.int IntKind.i64 (wr IntKind.i64 ((↑i : Int) + 1)))])
                        (hp
                          [Blk.cells ca 1 w1, Blk.cells cb 1 w2,
                            Blk.cells
                              (List.take (m * 1) (List.drop 0 c3) ++
                                [Value.int IntKind.i64 (intV ((getO ca (o1 + (↑i : Int).toNat * 1)).getD undef))])
                              1 true])))))))
            (K AE.normal
              (tmps 32
                [(0, Value.slice (some { block := 0, off := o1, spot := s1 : Addr }) l1 k1),
                  (1, Value.slice (some { block := 1, off := o2, spot := s2 : Addr }) l2 k2), (2, Value.bool inn),
                  (7, Value.slice (some { block := 2, off := 0, spot := some 1 : Addr }) m m),
                  (8, Value.int IntKind.i64 (wr IntKind.i64 ((↑i : Int) + 1)))])
              (hp [Blk.cells ca 1 w1, Blk.cells cb 1 w2, Blk.cells c3 1 true])))))
  (K (AE.exit 0) (tmps 32 [(7, Value.slice (some { block := 2, off := 0, spot := some 1 : Addr }) m m)])
    (hp [Blk.cells ca 1 w1, Blk.cells cb 1 w2, Blk.cells c3 1 true]))) := by kernel_rfl

theorem w215 (ca cb c3 : List Value) (w1 w2 : Bool) (o1 o2 : Nat) (s1 s2 : Option Nat) (l1 k1 l2 k2 m : Nat) (inn : Bool) (K : Value → Heap → Prop) :
  funX Try.prog S102 (gcLKX (at0 []) (at0 [.tmp 7 1]) 2 (cutLK [⟨[0,1,0,1,1], T215 (.slice (some ⟨0,o1,s1⟩) l1 k1) (.slice (some ⟨1,o2,s2⟩) l2 k2) inn 0 0, hp [.cells ca 1 w1, .cells cb 1 w2, .cells [] 1 true], fun K => K (.exit 0) (tmps 32 [(7, .slice (some ⟨2,0,some 1⟩) m m)]) (hp [.cells ca 1 w1, .cells cb 1 w2, .cells c3 1 true])⟩])) F215 body215 Try.f19 [] [] [.slice (some ⟨0,o1,s1⟩) l1 k1, .slice (some ⟨1,o2,s2⟩) l2 k2, .bool inn] (hp [.cells ca 1 w1, .cells cb 1 w2]) K = (
FlatD [] (hp [Blk.cells ca 1 w1, Blk.cells cb 1 w2, Blk.cells [] 1 true]) ∧
  tmps 32
        [(0, Value.slice (some { block := 0, off := o1, spot := s1 : Addr }) l1 k1),
          (1, Value.slice (some { block := 1, off := o2, spot := s2 : Addr }) l2 k2), (2, Value.bool inn),
          (7, Value.slice (some { block := 2, off := 0, spot := some 1 : Addr }) 0 0), (8, Value.int IntKind.i64 0)] =
      tmps 32
        [(0, Value.slice (some { block := 0, off := o1, spot := s1 : Addr }) l1 k1),
          (1, Value.slice (some { block := 1, off := o2, spot := s2 : Addr }) l2 k2), (2, Value.bool inn),
          (7, Value.slice (some { block := 2, off := 0, spot := some 1 : Addr }) 0 0), (8, Value.int IntKind.i64 0)] ∧
    hp [Blk.cells ca 1 w1, Blk.cells cb 1 w2, Blk.cells [] 1 true] =
        hp [Blk.cells ca 1 w1, Blk.cells cb 1 w2, Blk.cells [] 1 true] ∧
      (FlatL c3 ∧ True) ∧
        (IsE (iE IntKind.i64) (ZP IntKind.i64) c3 0 m m ∧ Need (leN m 1000000) True) ∧
          K
            (Value.slice (some { block := 2, off := 0, spot := some 1 : Addr }) (riseL (intsAt c3 0 m)).length
              (riseL (intsAt c3 0 m)).length)
            (hp [Blk.cells ca 1 w1, Blk.cells cb 1 w2, Blk.cells (eC (iE IntKind.i64) (riseL (intsAt c3 0 m))) 1 true])) := by kernel_rfl

noncomputable def S103 : Book := bookOf [(23, anNC)]

theorem w218 (ca : List Value) (w1 : Bool) (o1 : Nat) (s1 : Option Nat) (l1 k1 : Nat) (n : Int) (K : Value → Heap → Prop) :
  funX Try.prog S103 noLoop F218 body218 Try.f18 [] [] [.slice (some ⟨0,o1,s1⟩) l1 k1, .int .i64 n] (hp [.cells ca 1 w1]) K = (
(FlatL ca ∧ FlatL [Value.int IntKind.i64 n] ∧ True) ∧
  (IsE (iE IntKind.i64) (ZP IntKind.i64) ca o1 l1 k1 ∧
      IsE (iE IntKind.i64) (ZP IntKind.i64) [Value.int IntKind.i64 n] 0 1 1 ∧
        Need (leN l1 1000000) (Need (leN o1 ca.length) True)) ∧
    K
      (Value.slice (some { block := 1, off := 0, spot := some 3 : Addr })
        (List.filter (kpN (intsAt [Value.int IntKind.i64 n] 0 1)) (ddL (intsAt ca o1 l1))).length l1)
      (hp
        [Blk.cells ca 1 w1,
          Blk.cells
            (delC (kpN (intsAt [Value.int IntKind.i64 n] 0 1)) (ddL (intsAt ca o1 l1)).length (mkC (intsAt ca o1 l1))) 1
            true])) := by kernel_rfl

theorem del_is {l : List Int} (kp : Int → Bool) (hz : ∀ x ∈ l, ZP .i64 x) (hl : l.length ≤ 1000000) : ISl (delC kp (ddL l).length (mkC l)) 0 ((ddL l).filter kp) ∧ IsI (delC kp (ddL l).length (mkC l)) 0 ((ddL l).filter kp).length l.length := by
  obtain ⟨m1, m2, m3⟩ := mkC_is hz hl
  have hle := ddL_len l
  have hfl : ((ddL l).filter kp).length ≤ (ddL l).length := List.length_filter_le _ _
  have hb : ISl (delC kp (ddL l).length (mkC l)) 0 ((ddL l).filter kp) := by
    unfold delC
    rw [intsAt_eq m1, eC_append, List.append_assoc]
    exact row_is (fun x hx => hz x (ddL_mem.1 (List.mem_filter.1 hx).1)) (by omega) ⟨fun x hx => (List.mem_append.1 hx).elim ((eC_flat flat_i _).1 x) fun hh => m3.1 x (List.mem_of_mem_drop hh)⟩
  exact ⟨hb, .mk _ rfl (by omega) hb⟩
theorem one_is {n : Int} (hn : ZP .i64 n) : ISl [Value.int .i64 n] 0 [n] ∧ intsAt [Value.int .i64 n] 0 1 = [n] ∧ IsI [Value.int .i64 n] 0 1 1 := by
  obtain ⟨a, b⟩ := own_is (l := [n]) (fun x hx => by simp at hx; rw [hx]; exact hn) (by simp)
  exact ⟨a, intsAt_eq a, b⟩
def bothL (inn : Bool) (a b : List Int) : List Int := riseL (a.filter fun x => hasL x b == inn)
theorem both_loop (hmix : Try.prog.follows .mixedOrders = true) (a b : List Int) (ca cb : List Value) (w1 w2 : Bool) (o1 o2 : Nat) (s1 s2 : Option Nat) (k1 k2 : Nat) (inn : Bool) (hk2 : b.length ≤ k2) (hA : ISl ca o1 a) (hB : ISl cb o2 b) (hl : a.length ≤ 1000000) (K : Post) : ∀ (t F : List Int) (i : Nat), a.drop i = t → F.length ≤ i → i ≤ a.length →
    K (.exit 0) (tmps 32 [(7, .slice (some ⟨2,0,some 1⟩) (F ++ t.filter fun x => hasL x b == inn).length (F ++ t.filter fun x => hasL x b == inn).length)]) (hp [.cells ca 1 w1, .cells cb 1 w2, .cells (eC (iE .i64) (F ++ t.filter fun x => hasL x b == inn)) 1 true]) →
    LSays Try.prog 2 (sub body215 [0,0,1,0,1,1]) (T215 (.slice (some ⟨0,o1,s1⟩) a.length k1) (.slice (some ⟨1,o2,s2⟩) b.length k2) inn F.length i) (hp [.cells ca 1 w1, .cells cb 1 w2, .cells (eC (iE .i64) F) 1 true]) K := by
  have hF : ∀ F : List Int, FlatD [] (hp [.cells ca 1 w1, .cells cb 1 w2, .cells (eC (iE .i64) F) 1 true]) := fun F => FlatD.hp ⟨hA.flat, hB.flat, eC_flat flat_i F, trivial⟩
  intro t
  induction t with
  | nil =>
    intro F i ht hFi hi hK
    have hge : ¬ ((i : Int) < (a.length : Int)) := by have := List.drop_eq_nil_iff.1 ht; omega
    refine (sure102 hmix).roundX F215 noLoops [] [] [] [] [0,1,2,7,8] ?_
    rw [r215]
    simp only [List.filter_nil, List.append_nil] at hK
    simp only [hge, hF, Alt_iff, Need_iff, ltI_eq, leI_eq, eqI_eq, leN_eq, eqN_eq, decide_eq_true_eq, decide_eq_false_iff_not, decide_true, decide_false, true_and, and_true, Bool.true_eq_false, Bool.false_eq_true, false_implies, true_implies, implies_true, not_true_eq_false, not_false_eq_true, Bool.not_eq_true', Bool.not_eq_false', Nat.zero_add, Nat.add_zero, Nat.sub_zero, Nat.zero_mul, Nat.mul_one, Int.toNat_natCast, List.drop_zero, beqV_int, beqV_sl, beqV_str, beqV_bool, beqV_ptr, beqV_flt, beqV_agg, beqV_tuple, List.all_cons, List.all_nil, Bool.and_self, Bool.and_true, Bool.true_and, Nat.le_refl, Int.le_refl, Nat.zero_le, Option.getD_some, isStr, strV, isInt, intV, isBool, boolV, kindEq, at0, isJunk, Option.isSome_some, Option.isSome_none, if_true, if_false, Nat.add_sub_cancel_left, Nat.add_sub_cancel]
    exact hK
  | cons x t ih =>
    intro F i ht hFi hi hK
    obtain ⟨hlt, hx, hd⟩ := cons_of_drop ht
    refine (sure102 hmix).roundX F215 noLoops [] [] [] [] [0,1,2,7,8] ?_
    rw [r215]
    have ht1 : List.take F.length (eC (iE .i64) F) ++ [Value.int .i64 x] = eC (iE .i64) (F ++ [x]) := by rw [List.take_of_length_le (by rw [eC_len]; exact Nat.le_refl _), eC_append]; rfl
    simp only [show (i : Int) < (a.length : Int) by omega, hA.cell i x hx, nx i (by omega), intsAt_eq hB, ht1, eC_len, hF, hB.flat, Alt_iff, Need_iff, ltI_eq, leI_eq, eqI_eq, leN_eq, eqN_eq, decide_eq_true_eq, decide_eq_false_iff_not, decide_true, decide_false, true_and, and_true, Bool.true_eq_false, Bool.false_eq_true, false_implies, true_implies, implies_true, not_true_eq_false, not_false_eq_true, Bool.not_eq_true', Bool.not_eq_false', Nat.zero_add, Nat.add_zero, Nat.sub_zero, Nat.zero_mul, Nat.mul_one, Int.toNat_natCast, List.drop_zero, beqV_int, beqV_sl, beqV_str, beqV_bool, beqV_ptr, beqV_flt, beqV_agg, beqV_tuple, List.all_cons, List.all_nil, Bool.and_self, Bool.and_true, Bool.true_and, Nat.le_refl, Int.le_refl, Nat.zero_le, Option.getD_some, isStr, strV, isInt, intV, isBool, boolV, kindEq, at0, isJunk, Option.isSome_some, Option.isSome_none, if_true, if_false, Nat.add_sub_cancel_left, Nat.add_sub_cancel]
    refine ⟨⟨.mk b rfl hk2 hB, .mk x (hA.ok x (List.mem_of_getElem? hx))⟩, fun h => ?_, fun h => ?_⟩
    · have e : F ++ (x :: t).filter (fun x => hasL x b == inn) = (F ++ [x]) ++ t.filter (fun x => hasL x b == inn) := by rw [List.filter_cons, if_pos h]; simp
      rw [e] at hK
      have := ih (F ++ [x]) (i + 1) hd (by simp; omega) (by omega) hK
      rw [show (F ++ [x]).length = F.length + 1 by simp] at this
      and_intros <;> first | omega | exact this
    · have e : (x :: t).filter (fun x => hasL x b == inn) = t.filter (fun x => hasL x b == inn) := by rw [List.filter_cons, if_neg (by rw [h]; simp)]
      rw [e] at hK
      exact ih F (i + 1) hd (by omega) (by omega) hK
noncomputable def boC : Ctr where
  pre := fun args blks => match args, blks with
    | [.slice (some ⟨0, o1, _⟩) l1 c1, .slice (some ⟨1, o2, _⟩) l2 c2, .bool _], [.cells ca 1 _, .cells cb 1 _] => IsI ca o1 l1 c1 ∧ IsI cb o2 l2 c2 ∧ Need (leN l1 1000000) True
    | _, _ => False
  val := fun args blks => match args, blks with
    | [.slice (some ⟨0, o1, _⟩) l1 _, .slice (some ⟨1, o2, _⟩) l2 _, .bool inn], [.cells ca 1 _, .cells cb 1 _] => .slice (some ⟨2,0,some 1⟩) (bothL inn (intsAt ca o1 l1) (intsAt cb o2 l2)).length (bothL inn (intsAt ca o1 l1) (intsAt cb o2 l2)).length
    | _, _ => undef
  new := fun args blks => match args, blks with
    | [.slice (some ⟨0, o1, _⟩) l1 _, .slice (some ⟨1, o2, _⟩) l2 _, .bool inn], [.cells ca 1 _, .cells cb 1 _] => [.cells (eC (iE .i64) (bothL inn (intsAt ca o1 l1) (intsAt cb o2 l2))) 1 true]
    | _, _ => []
theorem bo_says (hmix : Try.prog.follows .mixedOrders = true) : boC.Holds Try.prog 19 := by
  intro args blks hf hp
  simp only [boC] at hp ⊢
  split at hp
  · rename_i o1 s1 l1 k1 o2 s2 l2 k2 inn ca w1 cb w2
    obtain ⟨⟨a, rfl, hc, hA⟩, ⟨b, rfl, hc2, hB⟩, hk⟩ := hp
    simp only [Alt_iff, Need_iff, ltI_eq, leI_eq, eqI_eq, leN_eq, eqN_eq, decide_eq_true_eq, decide_eq_false_iff_not, decide_true, decide_false, true_and, and_true, Bool.true_eq_false, Bool.false_eq_true, false_implies, true_implies, implies_true, not_true_eq_false, not_false_eq_true, Bool.not_eq_true', Bool.not_eq_false'] at hk
    simp only [intsAt_eq hB, intsAt_eq hA]
    refine ⟨⟨eC_flat flat_i _, trivial⟩, ?_⟩
    have hF : ∀ F : List Int, FlatD [] (AM.hp [.cells ca 1 w1, .cells cb 1 w2, .cells (eC (iE .i64) F) 1 true]) := fun F => FlatD.hp ⟨hA.flat, hB.flat, eC_flat flat_i F, trivial⟩
    have hfl := List.length_filter_le (fun x => hasL x b == inn) a
    obtain ⟨r1, r2⟩ := own_is (l := a.filter fun x => hasL x b == inn) (fun x hx => hA.ok x (List.mem_filter.1 hx).1) (by omega)
    have hL : Loops Try.prog body215 2 (cutLK [⟨[0,1,0,1,1], T215 (.slice (some ⟨0,o1,s1⟩) a.length k1) (.slice (some ⟨1,o2,s2⟩) b.length k2) inn 0 0, AM.hp [.cells ca 1 w1, .cells cb 1 w2, .cells [] 1 true], fun K => K (.exit 0) (tmps 32 [(7, .slice (some ⟨2,0,some 1⟩) (a.filter fun x => hasL x b == inn).length (a.filter fun x => hasL x b == inn).length)]) (AM.hp [.cells ca 1 w1, .cells cb 1 w2, .cells (eC (iE .i64) (a.filter fun x => hasL x b == inn)) 1 true])⟩]) := Loops.none.more _ fun K hK => by
      show LSays Try.prog _ (sub body215 [0,0,1,0,1,1]) _ _ _
      exact both_loop hmix a b ca cb w1 w2 o1 o2 s1 s2 k1 k2 inn hc2 hA hB hk K a [] 0 rfl (Nat.le_refl _) (Nat.zero_le _) (by simpa using hK)
    refine (sure102 hmix).funX F215 body215 [] [] Try.func19 rfl (hL.gcX (at0 []) (at0 [.tmp 7 1])) ?_
    rw [w215, intsAt_eq r1]
    exact ⟨hF [], rfl, rfl, ⟨eC_flat flat_i _, trivial⟩, ⟨r2, Need_iff.2 ⟨leN_iff.2 (by omega), trivial⟩⟩, hF _, rfl, rfl, rfl⟩
  · exact hp.elim
theorem sure103 (hmix : Try.prog.follows .mixedOrders = true) : Sure Try.prog S103 := ⟨hmix, plain, bookOf_ok (l := [(23, anNC)]) ⟨anN_says hmix, trivial⟩⟩
/-- a row and a number; a row told of a row and a number -/
noncomputable def rnC (F : List Int → Int → List Int) (G : List Int → Int → List Value) (c : List Int → Nat) : Ctr where
  pre := fun args blks => match args, blks with
    | [.slice (some ⟨0, o1, _⟩) l1 c1, .int .i64 n], [.cells ca 1 _] => IsI ca o1 l1 c1 ∧ IsN [.int .i64 n] ∧ Need (leN l1 1000) (Need (leN o1 ca.length) True)
    | _, _ => False
  val := fun args blks => match args, blks with
    | [.slice (some ⟨0, o1, _⟩) l1 _, .int .i64 n], [.cells ca 1 _] => .slice (some ⟨1,0,some 3⟩) (F (intsAt ca o1 l1) n).length (c (intsAt ca o1 l1))
    | _, _ => undef
  new := fun args blks => match args, blks with
    | [.slice (some ⟨0, o1, _⟩) l1 _, .int .i64 n], [.cells ca 1 _] => [.cells (G (intsAt ca o1 l1) n) 1 true]
    | _, _ => []
noncomputable def putC : Ctr := rnC (fun l n => ddL (l ++ [n])) (fun l n => mkC (l ++ [n])) fun l => l.length + 1
noncomputable def cutNC : Ctr := rnC (fun l n => (ddL l).filter (kpN [n])) (fun l n => delC (kpN [n]) (ddL l).length (mkC l)) fun l => l.length
theorem cutN_says (hmix : Try.prog.follows .mixedOrders = true) : cutNC.Holds Try.prog 18 := by
  intro args blks hf hp
  simp only [cutNC, rnC] at hp ⊢
  split at hp
  · rename_i o1 s1 l1 k1 n ca w1
    obtain ⟨hI, ⟨_, hn⟩, hk⟩ := hp
    have hI' := hI
    obtain ⟨a, rfl, hc, hA⟩ := hI
    obtain ⟨n1, n2, n3⟩ := one_is hn
    simp only [Alt_iff, Need_iff, ltI_eq, leI_eq, eqI_eq, leN_eq, eqN_eq, decide_eq_true_eq, decide_eq_false_iff_not, decide_true, decide_false, true_and, and_true, Bool.true_eq_false, Bool.false_eq_true, false_implies, true_implies, implies_true, not_true_eq_false, not_false_eq_true, Bool.not_eq_true', Bool.not_eq_false'] at hk
    obtain ⟨m1, m2, m3⟩ := mkC_is hA.ok (by omega)
    simp only [intsAt_eq hA]
    refine ⟨⟨delC_flat m3, trivial⟩, ?_⟩
    refine (sure103 hmix).funX F218 body218 [] [] Try.func18 rfl noLoops ?_
    rw [w218, intsAt_eq hA, n2]
    exact ⟨⟨hA.flat, n1.flat, trivial⟩, ⟨hI', n3, Need_iff.2 ⟨leN_iff.2 (by omega), Need_iff.2 ⟨leN_iff.2 hk.2, trivial⟩⟩⟩, FlatD.hp ⟨hA.flat, delC_flat m3, trivial⟩, rfl, rfl, rfl⟩
  · exact hp.elim
noncomputable def S104 : Book := bookOf [(19, boC)]
theorem sure104 (hmix : Try.prog.follows .mixedOrders = true) : Sure Try.prog S104 := ⟨hmix, plain, bookOf_ok (l := [(19, boC)]) ⟨bo_says hmix, trivial⟩⟩

theorem w219 (ca : List Value) (w1 : Bool) (o1 : Nat) (s1 : Option Nat) (l1 k1 : Nat) (n : Int) (K : Value → Heap → Prop) :
  funX Try.prog S104 noLoop F219 body219 Try.f12 [] [] [.slice (some ⟨0,o1,s1⟩) l1 k1, .int .i64 n] (hp [.cells ca 1 w1]) K = (
(FlatL ca ∧ FlatL [Value.int IntKind.i64 n] ∧ True) ∧
  (IsE (iE IntKind.i64) (ZP IntKind.i64) ca o1 l1 k1 ∧
      IsE (iE IntKind.i64) (ZP IntKind.i64) [Value.int IntKind.i64 n] 0 1 1 ∧ Need (leN l1 1000000) True) ∧
    K
      (Value.slice (some { block := 1, off := 0, spot := some 1 : Addr })
        (bothL false (intsAt ca o1 l1) (intsAt [Value.int IntKind.i64 n] 0 1)).length
        (bothL false (intsAt ca o1 l1) (intsAt [Value.int IntKind.i64 n] 0 1)).length)
      (hp
        [Blk.cells ca 1 w1,
          Blk.cells (eC (iE IntKind.i64) (bothL false (intsAt ca o1 l1) (intsAt [Value.int IntKind.i64 n] 0 1))) 1
            true])) := by kernel_rfl

noncomputable def rcutC : Ctr where
  pre := fun args blks => match args, blks with
    | [.slice (some ⟨0, o1, _⟩) l1 c1, .int .i64 n], [.cells ca 1 _] => IsI ca o1 l1 c1 ∧ IsN [.int .i64 n] ∧ Need (leN l1 1000000) True
    | _, _ => False
  val := fun args blks => match args, blks with
    | [.slice (some ⟨0, o1, _⟩) l1 _, .int .i64 n], [.cells ca 1 _] => .slice (some ⟨1,0,some 1⟩) (bothL false (intsAt ca o1 l1) [n]).length (bothL false (intsAt ca o1 l1) [n]).length
    | _, _ => undef
  new := fun args blks => match args, blks with
    | [.slice (some ⟨0, o1, _⟩) l1 _, .int .i64 n], [.cells ca 1 _] => [.cells (eC (iE .i64) (bothL false (intsAt ca o1 l1) [n])) 1 true]
    | _, _ => []
theorem rcut_says (hmix : Try.prog.follows .mixedOrders = true) : rcutC.Holds Try.prog 12 := by
  intro args blks hf hp
  simp only [rcutC] at hp ⊢
  split at hp
  · rename_i o1 s1 l1 k1 n ca w1
    obtain ⟨hI, ⟨_, hn⟩, hk⟩ := hp
    have hI' := hI
    obtain ⟨a, rfl, hc, hA⟩ := hI
    obtain ⟨n1, n2, n3⟩ := one_is hn
    simp only [intsAt_eq hA]
    refine ⟨⟨eC_flat flat_i _, trivial⟩, ?_⟩
    refine (sure104 hmix).funX F219 body219 [] [] Try.func12 rfl noLoops ?_
    rw [w219, intsAt_eq hA, n2]
    exact ⟨⟨hA.flat, n1.flat, trivial⟩, ⟨hI', n3, hk⟩, FlatD.hp ⟨hA.flat, eC_flat flat_i _, trivial⟩, rfl, rfl, rfl⟩
  · exact hp.elim
end Go.Proofs.Ytocndbldmkjcnaa

namespace Go.Proofs.Ytocndbldmkjcnaa
open Go.RowKit Go.Proofs.Ytocndbldmkjcnaa.AM
set_option maxRecDepth 100000
set_option maxHeartbeats 4000000
/-! ### rows that are told by what they hold -/
abbrev Rw := List Int × List Value × Nat
structure RowR (F : List Int) (x : Rw) : Prop where
  eq : x.1 = F
  row : ISl x.2.1 0 x.1
  le : x.1.length ≤ x.2.2
theorem RowR.at {F : List Int} {x : Rw} (h : RowR F x) : intsAt x.2.1 0 x.1.length = F := by rw [intsAt_eq h.row, h.eq]
theorem RowR.is {F : List Int} {x : Rw} (h : RowR F x) : IsI x.2.1 0 x.1.length x.2.2 := .mk x.1 rfl h.le h.row
theorem RowR.len {F : List Int} {x : Rw} (h : RowR F x) : x.1.length = F.length := by rw [h.eq]
theorem RowR.flat {F : List Int} {x : Rw} (h : RowR F x) : FlatL x.2.1 := h.row.flat
theorem RowR.ok {F : List Int} {x : Rw} (h : RowR F x) : ∀ y ∈ F, ZP .i64 y := by rw [← h.eq]; exact h.row.ok
noncomputable def twoX (F : List Int → List Int → List Int) (sp : Option Nat) : CtrX Rw where
  D := []
  W := []
  E := []
  pre := fun args blks => match args, blks with
    | [.slice (some ⟨0, o1, _⟩) l1 c1, .slice (some ⟨1, o2, _⟩) l2 c2], [.cells ca 1 _, .cells cb 1 _] => IsI ca o1 l1 c1 ∧ IsI cb o2 l2 c2 ∧ Need (leN l1 1000) (Need (leN l2 1000) (Need (leN o1 ca.length) (Need (leN o2 cb.length) True)))
    | _, _ => False
  rel := fun args blks x => match args, blks with
    | [.slice (some ⟨0, o1, _⟩) l1 c1, .slice (some ⟨1, o2, _⟩) l2 c2], [.cells ca 1 _, .cells cb 1 _] => RowR (F (intsAt ca o1 l1) (intsAt cb o2 l2)) x
    | _, _ => False
  val := fun args blks x => .slice (some ⟨2,0,sp⟩) x.1.length x.2.2
  out := fun args blks x => blks ++ [.cells x.2.1 1 true]
noncomputable def oneX (F : List Int → List Int) (sp : Option Nat) : CtrX Rw where
  D := []
  W := []
  E := []
  pre := fun args blks => match args, blks with
    | [.slice (some ⟨0, o1, _⟩) l1 c1], [.cells ca 1 _] => IsI ca o1 l1 c1 ∧ Need (leN l1 1000) (Need (leN o1 ca.length) True)
    | _, _ => False
  rel := fun args blks x => match args, blks with
    | [.slice (some ⟨0, o1, _⟩) l1 c1], [.cells ca 1 _] => RowR (F (intsAt ca o1 l1)) x
    | _, _ => False
  val := fun args blks x => .slice (some ⟨1,0,sp⟩) x.1.length x.2.2
  out := fun args blks x => blks ++ [.cells x.2.1 1 true]
noncomputable def numX (F : List Int → Int → List Int) (sp : Option Nat) : CtrX Rw where
  D := []
  W := []
  E := []
  pre := fun args blks => match args, blks with
    | [.slice (some ⟨0, o1, _⟩) l1 c1, .int .i64 n], [.cells ca 1 _] => IsI ca o1 l1 c1 ∧ IsN [.int .i64 n] ∧ Need (leN l1 1000) (Need (leN o1 ca.length) True)
    | _, _ => False
  rel := fun args blks x => match args, blks with
    | [.slice (some ⟨0, o1, _⟩) l1 c1, .int .i64 n], [.cells ca 1 _] => RowR (F (intsAt ca o1 l1) n) x
    | _, _ => False
  val := fun args blks x => .slice (some ⟨1,0,sp⟩) x.1.length x.2.2
  out := fun args blks x => blks ++ [.cells x.2.1 1 true]
def andF (a b : List Int) : List Int := (riseL a).filter (kpA b)
def notF (a b : List Int) : List Int := (riseL a).filter (kpN b)
def orF (a b : List Int) : List Int := riseL (a ++ b)
def cutF (a : List Int) (n : Int) : List Int := notF a [n]
def putF (a : List Int) (n : Int) : List Int := riseL (a ++ [n])
def rcutF (a : List Int) (n : Int) : List Int := bothL false a [n]
theorem rowR_del {a : List Int} {kp : Int → Bool} (hz : ∀ x ∈ a, ZP .i64 x) (hl : a.length ≤ 1000000) : RowR ((riseL a).filter kp) ((ddL a).filter kp, delC kp (ddL a).length (mkC a), a.length) := by
  obtain ⟨d1, d2⟩ := del_is kp hz hl
  exact ⟨by rw [← dd_rise], d1, Nat.le_trans (List.length_filter_le _ _) (ddL_len a)⟩
theorem rowR_mk {a : List Int} (hz : ∀ x ∈ a, ZP .i64 x) (hl : a.length ≤ 1000000) : RowR (riseL a) (ddL a, mkC a, a.length) := by
  obtain ⟨d1, d2, d3⟩ := mkC_is hz hl
  exact ⟨dd_rise a, d1, ddL_len a⟩
theorem rowR_own {a : List Int} (hz : ∀ x ∈ a, ZP .i64 x) (hl : a.length ≤ 1000000) : RowR a (a, eC (iE .i64) a, a.length) := by
  obtain ⟨d1, d2⟩ := own_is hz hl
  exact ⟨rfl, d1, Nat.le_refl _⟩
noncomputable def andX : CtrX Rw := twoX andF (some 3)
noncomputable def notX : CtrX Rw := twoX notF (some 3)
noncomputable def orX : CtrX Rw := twoX orF (some 3)
noncomputable def makeX : CtrX Rw := oneX riseL (some 3)
noncomputable def riseX : CtrX Rw := oneX riseL (some 1)
noncomputable def putX : CtrX Rw := numX putF (some 3)
noncomputable def cutX : CtrX Rw := numX cutF (some 3)
noncomputable def rcutX : CtrX Rw := numX rcutF (some 1)
theorem not_x (hmix : Try.prog.follows .mixedOrders = true) : notX.Holds Try.prog 23 := (anN_says hmix).x rfl rfl rfl fun args blks hf hp => by
  simp only [notX, twoX, anNC] at hp ⊢
  split at hp
  · rename_i o1 s1 l1 c1 o2 s2 l2 c2 ca w1 cb w2
    obtain ⟨hI, hJ, hk⟩ := hp
    have hI' := hI
    have hJ' := hJ
    obtain ⟨a, rfl, hc, hA⟩ := hI
    obtain ⟨b, rfl, hc2, hB⟩ := hJ
    simp only [Alt_iff, Need_iff, ltI_eq, leI_eq, eqI_eq, leN_eq, eqN_eq, decide_eq_true_eq, decide_eq_false_iff_not, decide_true, decide_false, true_and, and_true, Bool.true_eq_false, Bool.false_eq_true, false_implies, true_implies, implies_true, not_true_eq_false, not_false_eq_true, Bool.not_eq_true', Bool.not_eq_false'] at hk
    refine ⟨⟨hI', hJ', Need_iff.2 ⟨leN_iff.2 (by omega), Need_iff.2 ⟨leN_iff.2 hk.2.2.1, trivial⟩⟩⟩, ((ddL a).filter (kpN b), delC (kpN b) (ddL a).length (mkC a), a.length), ?_, by simp only [intsAt_eq hA, intsAt_eq hB], by simp only [intsAt_eq hA, intsAt_eq hB]⟩
    have := rowR_del (a := a) (kp := kpN b) hA.ok (by omega)
    simp only [intsAt_eq hA, intsAt_eq hB]
    exact this
  · exact hp.elim
theorem make_x (hmix : Try.prog.follows .mixedOrders = true) : makeX.Holds Try.prog 32 := (make_says hmix).x rfl rfl rfl fun args blks hf hp => by
  simp only [makeX, oneX, makeC] at hp ⊢
  split at hp
  · rename_i o1 s1 l1 c1 ca w1
    obtain ⟨hI, hk⟩ := hp
    have hI' := hI
    obtain ⟨a, rfl, hc, hA⟩ := hI
    simp only [Alt_iff, Need_iff, ltI_eq, leI_eq, eqI_eq, leN_eq, eqN_eq, decide_eq_true_eq, decide_eq_false_iff_not, decide_true, decide_false, true_and, and_true, Bool.true_eq_false, Bool.false_eq_true, false_implies, true_implies, implies_true, not_true_eq_false, not_false_eq_true, Bool.not_eq_true', Bool.not_eq_false'] at hk
    refine ⟨⟨hI', Need_iff.2 ⟨leN_iff.2 (by omega), Need_iff.2 ⟨leN_iff.2 hk.2, trivial⟩⟩⟩, (ddL a, mkC a, a.length), ?_, by simp only [intsAt_eq hA], by simp only [intsAt_eq hA]⟩
    simp only [intsAt_eq hA]
    exact rowR_mk (a := a) hA.ok (by omega)
  · exact hp.elim
theorem rise_x (hmix : Try.prog.follows .mixedOrders = true) : riseX.Holds Try.prog 24 := (rise_says hmix).x rfl rfl rfl fun args blks hf hp => by
  simp only [riseX, oneX, riseC] at hp ⊢
  split at hp
  · rename_i o1 s1 l1 c1 ca w1
    obtain ⟨hI, hk⟩ := hp
    have hI' := hI
    obtain ⟨a, rfl, hc, hA⟩ := hI
    simp only [Alt_iff, Need_iff, ltI_eq, leI_eq, eqI_eq, leN_eq, eqN_eq, decide_eq_true_eq, decide_eq_false_iff_not, decide_true, decide_false, true_and, and_true, Bool.true_eq_false, Bool.false_eq_true, false_implies, true_implies, implies_true, not_true_eq_false, not_false_eq_true, Bool.not_eq_true', Bool.not_eq_false'] at hk
    have hle := riseL_len a
    refine ⟨⟨hI', Need_iff.2 ⟨leN_iff.2 (by omega), trivial⟩⟩, (riseL a, eC (iE .i64) (riseL a), (riseL a).length), ?_, by simp only [intsAt_eq hA], by simp only [intsAt_eq hA]⟩
    simp only [intsAt_eq hA]
    exact rowR_own (fun x hx => hA.ok x (riseL_mem.1 hx)) (by omega)
  · exact hp.elim
theorem cut_x (hmix : Try.prog.follows .mixedOrders = true) : cutX.Holds Try.prog 18 := (cutN_says hmix).x rfl rfl rfl fun args blks hf hp => by
  simp only [cutX, numX, cutNC, rnC] at hp ⊢
  split at hp
  · rename_i o1 s1 l1 c1 n ca w1
    have hp' := hp
    obtain ⟨hI, ⟨_, hn⟩, hk⟩ := hp
    obtain ⟨a, rfl, hc, hA⟩ := hI
    simp only [Alt_iff, Need_iff, ltI_eq, leI_eq, eqI_eq, leN_eq, eqN_eq, decide_eq_true_eq, decide_eq_false_iff_not, decide_true, decide_false, true_and, and_true, Bool.true_eq_false, Bool.false_eq_true, false_implies, true_implies, implies_true, not_true_eq_false, not_false_eq_true, Bool.not_eq_true', Bool.not_eq_false'] at hk
    refine ⟨hp', ((ddL a).filter (kpN [n]), delC (kpN [n]) (ddL a).length (mkC a), a.length), ?_, by simp only [intsAt_eq hA], by simp only [intsAt_eq hA]⟩
    simp only [intsAt_eq hA]
    exact rowR_del (a := a) (kp := kpN [n]) hA.ok (by omega)
  · exact hp.elim
theorem rcut_x (hmix : Try.prog.follows .mixedOrders = true) : rcutX.Holds Try.prog 12 := (rcut_says hmix).x rfl rfl rfl fun args blks hf hp => by
  simp only [rcutX, numX, rcutC] at hp ⊢
  split at hp
  · rename_i o1 s1 l1 c1 n ca w1
    obtain ⟨hI, hN, hk⟩ := hp
    have hI' := hI
    obtain ⟨a, rfl, hc, hA⟩ := hI
    simp only [Alt_iff, Need_iff, ltI_eq, leI_eq, eqI_eq, leN_eq, eqN_eq, decide_eq_true_eq, decide_eq_false_iff_not, decide_true, decide_false, true_and, and_true, Bool.true_eq_false, Bool.false_eq_true, false_implies, true_implies, implies_true, not_true_eq_false, not_false_eq_true, Bool.not_eq_true', Bool.not_eq_false'] at hk
    refine ⟨⟨hI', hN, Need_iff.2 ⟨leN_iff.2 (by omega), trivial⟩⟩, (rcutF a n, eC (iE .i64) (rcutF a n), (rcutF a n).length), ?_, by simp only [intsAt_eq hA]; rfl, by simp only [intsAt_eq hA]; rfl⟩
    simp only [intsAt_eq hA]
    have hle : (rcutF a n).length ≤ a.length := Nat.le_trans (riseL_len _) (List.length_filter_le _ _)
    exact rowR_own (fun x hx => hA.ok x (List.mem_filter.1 (riseL_mem.1 hx)).1) (by omega)
  · exact hp.elim
noncomputable def bothX : CtrX Rw where
  D := []
  W := []
  E := []
  pre := fun args blks => match args, blks with
    | [.slice (some ⟨0, o1, _⟩) l1 c1, .slice (some ⟨1, o2, _⟩) l2 c2, .bool _], [.cells ca 1 _, .cells cb 1 _] => IsI ca o1 l1 c1 ∧ IsI cb o2 l2 c2 ∧ Need (leN l1 1000) True
    | _, _ => False
  rel := fun args blks x => match args, blks with
    | [.slice (some ⟨0, o1, _⟩) l1 c1, .slice (some ⟨1, o2, _⟩) l2 c2, .bool inn], [.cells ca 1 _, .cells cb 1 _] => RowR (bothL inn (intsAt ca o1 l1) (intsAt cb o2 l2)) x
    | _, _ => False
  val := fun args blks x => .slice (some ⟨2,0,some 1⟩) x.1.length x.2.2
  out := fun args blks x => blks ++ [.cells x.2.1 1 true]
theorem both_x (hmix : Try.prog.follows .mixedOrders = true) : bothX.Holds Try.prog 19 := (bo_says hmix).x rfl rfl rfl fun args blks hf hp => by
  simp only [bothX, boC] at hp ⊢
  split at hp
  · rename_i o1 s1 l1 c1 o2 s2 l2 c2 inn ca w1 cb w2
    obtain ⟨hI, hJ, hk⟩ := hp
    have hI' := hI
    have hJ' := hJ
    obtain ⟨a, rfl, hc, hA⟩ := hI
    obtain ⟨b, rfl, hc2, hB⟩ := hJ
    simp only [Alt_iff, Need_iff, ltI_eq, leI_eq, eqI_eq, leN_eq, eqN_eq, decide_eq_true_eq, decide_eq_false_iff_not, decide_true, decide_false, true_and, and_true, Bool.true_eq_false, Bool.false_eq_true, false_implies, true_implies, implies_true, not_true_eq_false, not_false_eq_true, Bool.not_eq_true', Bool.not_eq_false'] at hk
    refine ⟨⟨hI', hJ', Need_iff.2 ⟨leN_iff.2 (by omega), trivial⟩⟩, (bothL inn a b, eC (iE .i64) (bothL inn a b), (bothL inn a b).length), ?_, by simp only [intsAt_eq hA, intsAt_eq hB], by simp only [intsAt_eq hA, intsAt_eq hB]⟩
    simp only [intsAt_eq hA, intsAt_eq hB]
    have hle : (bothL inn a b).length ≤ a.length := Nat.le_trans (riseL_len _) (List.length_filter_le _ _)
    exact rowR_own (fun x hx => hA.ok x (List.mem_filter.1 (riseL_mem.1 hx)).1) (by omega)
  · exact hp.elim
theorem RowR.atL {F : List Int} {x : Rw} (h : RowR F x) : intsAt x.2.1 0 F.length = F := by rw [← h.len]; exact h.at
theorem RowR.isL {F : List Int} {x : Rw} (h : RowR F x) : IsI x.2.1 0 F.length x.2.2 := by rw [← h.len]; exact h.is
theorem ltI_no {a b : Int} (h : ltI a b = false) : ¬ a < b := fun hh => by rw [ltI_iff.2 hh] at h; cases h
theorem mem_andF {a b : List Int} {y : Int} : y ∈ andF a b ↔ y ∈ a ∧ y ∈ b := by unfold andF kpA; rw [List.mem_filter, riseL_mem, hasL_iff]
theorem mem_notF {a b : List Int} {y : Int} : y ∈ notF a b ↔ y ∈ a ∧ ¬ y ∈ b := by unfold notF kpN; rw [List.mem_filter, riseL_mem, Bool.not_eq_true', Bool.eq_false_iff, Ne, hasL_iff]
theorem mem_orF {a b : List Int} {y : Int} : y ∈ orF a b ↔ y ∈ a ∨ y ∈ b := by unfold orF; rw [riseL_mem, List.mem_append]
theorem mem_bothL {a b : List Int} {inn : Bool} {y : Int} : y ∈ bothL inn a b ↔ y ∈ a ∧ (y ∈ b ↔ inn = true) := by
  unfold bothL; rw [riseL_mem, List.mem_filter, beq_iff_eq]
  cases h : hasL y b <;> cases inn <;> simp [← hasL_iff, h]
theorem up_filter {l : List Int} (h : Up l) (kp : Int → Bool) : Up (l.filter kp) := List.Pairwise.filter _ h
theorem up_andF (a b : List Int) : Up (andF a b) := up_filter (riseL_up a) _
theorem up_notF (a b : List Int) : Up (notF a b) := up_filter (riseL_up a) _
theorem up_orF (a b : List Int) : Up (orF a b) := riseL_up _
theorem up_bothL (inn : Bool) (a b : List Int) : Up (bothL inn a b) := riseL_up _
theorem up_nodup {l : List Int} (h : Up l) : l.Nodup := List.Pairwise.imp (fun {a b} h => by omega) h
theorem len_andF (a b : List Int) : (andF a b).length ≤ a.length := Nat.le_trans (List.length_filter_le _ _) (riseL_len a)
theorem len_notF (a b : List Int) : (notF a b).length ≤ a.length := Nat.le_trans (List.length_filter_le _ _) (riseL_len a)
theorem len_orF (a b : List Int) : (orF a b).length ≤ a.length + b.length := by have := riseL_len (a ++ b); rw [List.length_append] at this; exact this
theorem has_eq {n : Int} {l : List Int} {b : Bool} (h : n ∈ l ↔ b = true) : hasL n l = b := by
  cases b with
  | true => exact hasL_iff.2 (h.2 rfl)
  | false => exact Bool.eq_false_iff.2 fun hh => by have := h.1 (hasL_iff.1 hh); cases this
end Go.Proofs.Ytocndbldmkjcnaa

namespace Go.Proofs.Ytocndbldmkjcnaa
open Go.RowKit Go.Proofs.Ytocndbldmkjcnaa.AM
set_option maxRecDepth 100000
set_option maxHeartbeats 4000000
noncomputable def body511 : Code := (Try.f21.body).getD .skip
def F511 : List Nat → Option (List Nat) := fun p => match p with
  | [1] => some [0, 1]
  | [1, 1] => some [0, 1, 6]
  | [1, 1, 1] => some [0, 1, 6, 7, 8]
  | [1, 0, 0, 0, 0, 1, 1, 1] => some [0, 1, 6, 7, 8, 15]
  | [1, 1, 0, 0, 0, 0, 1, 1, 1] => some [0, 1, 6, 7]
  | [1, 0, 0, 0, 1, 1, 1] => some [0, 1, 6, 7, 8]
  | [1, 0, 1, 0, 0, 0, 1, 1, 1] => some [0, 1, 6, 7, 8, 9]
  | [1, 1, 0, 1, 0, 0, 0, 1, 1, 1] => some [0, 1, 6, 7, 8, 9, 27]
  | [1, 1, 1, 1] => some [0, 1, 6, 7]
  | [1, 1, 1, 1, 1] => some [4, 5]
  | _ => none
noncomputable def body512 : Code := (Try.f25.body).getD .skip
def F512 : List Nat → Option (List Nat) := fun p => match p with
  | [1] => some [0, 1]
  | [1, 1] => some [4]
  | _ => none
noncomputable def body513 : Code := (Try.f26.body).getD .skip
def F513 : List Nat → Option (List Nat) := fun p => match p with
  | [1] => some [0]
  | [1, 1] => some [2]
  | _ => none
noncomputable def body514 : Code := (Try.f30.body).getD .skip
def F514 : List Nat → Option (List Nat) := fun p => match p with
  | [1] => some [0]
  | [1, 1] => some [2]
  | _ => none
noncomputable def S501 : Book := addI Try.prog [(25, Try.f25, body512), (26, Try.f26, body513), (30, Try.f30, body514)] S0
theorem sure501 (hm : Try.prog.follows .mixedOrders = true) : Sure Try.prog S501 := Sure.addI (sure0 hm) (l := [(25, Try.f25, body512), (26, Try.f26, body513), (30, Try.f30, body514)]) ⟨⟨Try.func25, rfl⟩, ⟨Try.func26, rfl⟩, ⟨Try.func30, rfl⟩, trivial⟩
noncomputable def T511 (o : Nat) (sp : Option Nat) (len cap : Nat) (n : Int) (i j : Nat) : List Value := tmps 54 [(0, .slice (some ⟨0,o,sp⟩) len cap), (1, .int .i64 n), (6, .int .i64 len), (7, .int .i64 i), (8, .int .i64 j)]
noncomputable def U511 (o : Nat) (sp : Option Nat) (len cap : Nat) (n : Int) (i : Nat) : List Value := tmps 54 [(0, .slice (some ⟨0,o,sp⟩) len cap), (1, .int .i64 n), (6, .int .i64 len), (7, .int .i64 i)]
/-- what is ahead of i is less, what is from j on is not -/
structure Halves (l : List Int) (n : Int) (i j : Nat) : Prop where
  le : i ≤ j
  len : j ≤ l.length
  low : ∀ (k : Nat) x, k < i → l[k]? = some x → x < n
  high : ∀ (k : Nat) x, j ≤ k → l[k]? = some x → n ≤ x

theorem r511 (cs : List Value) (own : Bool) (o : Nat) (sp : Option Nat) (len cap i j : Nat) (n : Int) (K : Post) :
  roundX Try.prog S501 noLoop F511 body511 1 [] [] [] [] [0,1,6,7,8] [0,0,0,1,1,1] (T511 o sp len cap n i j) (hp [.cells cs 1 own]) K = (
Alt (ltI (↑i : Int) (↑j : Int))
  (Need (leI 0 (wr IntKind.i64 ((wr IntKind.u64 (wr IntKind.i64 ((↑i : Int) + (↑j : Int)))).fdiv 2)))
    (Need (ltI (wr IntKind.i64 ((wr IntKind.u64 (wr IntKind.i64 ((↑i : Int) + (↑j : Int)))).fdiv 2)) (↑len : Int))
      (Need
        (isInt IntKind.i64
          ((getO cs
                (o +
                  (wr IntKind.i64 ((wr IntKind.u64 (wr IntKind.i64 ((↑i : Int) + (↑j : Int)))).fdiv 2)).toNat * 1)).getD
            undef))
        (Alt
          (!eqI
              (intV
                ((getO cs
                      (o +
                        (wr IntKind.i64 ((wr IntKind.u64 (wr IntKind.i64 ((↑i : Int) + (↑j : Int)))).fdiv 2)).toNat *
                          1)).getD
                  undef))
              (intV
                ((getO cs
                      (o +
                        (wr IntKind.i64 ((wr IntKind.u64 (wr IntKind.i64 ((↑i : Int) + (↑j : Int)))).fdiv 2)).toNat *
                          1)).getD
                  undef)))
          (Alt (!!eqI n n)
            (K AE.normal
              (tmps 54
                [(0, Value.slice (some { block := 0, off := o, spot := sp : Addr }) len cap),
                  (1, Value.int IntKind.i64 n), (6, Value.int IntKind.i64 (↑len : Int)),
                  (7,
                    Value.int IntKind.i64
                      (wr IntKind.i64
                        (wr IntKind.i64 ((wr IntKind.u64 (wr IntKind.i64 ((↑i : Int) + (↑j : Int)))).fdiv 2) + 1))),
                  (8, Value.int IntKind.i64 (↑j : Int))])
              (hp [Blk.cells cs 1 own]))
            (Alt
              (ltI
                (intV
                  ((getO cs
                        (o +
                          (wr IntKind.i64 ((wr IntKind.u64 (wr IntKind.i64 ((↑i : Int) + (↑j : Int)))).fdiv 2)).toNat *
                            1)).getD
                    undef))
                n)
              (K AE.normal
                (tmps 54
                  [(0, Value.slice (some { block := 0, off := o, spot := sp : Addr }) len cap),
                    (1, Value.int IntKind.i64 n), (6, Value.int IntKind.i64 (↑len : Int)),
                    (7,
                      Value.int IntKind.i64
                        (wr IntKind.i64
                          (wr IntKind.i64 ((wr IntKind.u64 (wr IntKind.i64 ((↑i : Int) + (↑j : Int)))).fdiv 2) + 1))),
                    (8, Value.int IntKind.i64 (↑j : Int))])
                (hp [Blk.cells cs 1 own]))
              (K AE.normal
                (tmps 54
                  [(0, Value.slice (some { block := 0, off := o, spot := sp : Addr }) len cap),
                    (1, Value.int IntKind.i64 n), (6, Value.int IntKind.i64 (↑len : Int)),
                    (7, Value.int IntKind.i64 (↑i : Int)),
                    (8,
                      Value.int IntKind.i64
                        (wr IntKind.i64 ((wr IntKind.u64 (wr IntKind.i64 ((↑i : Int) + (↑j : Int)))).fdiv 2)))])
                (hp [Blk.cells cs 1 own]))))
          (Alt
            (ltI
              (intV
                ((getO cs
                      (o +
                        (wr IntKind.i64 ((wr IntKind.u64 (wr IntKind.i64 ((↑i : Int) + (↑j : Int)))).fdiv 2)).toNat *
                          1)).getD
                  undef))
              n)
            (K AE.normal
              (tmps 54
                [(0, Value.slice (some { block := 0, off := o, spot := sp : Addr }) len cap),
                  (1, Value.int IntKind.i64 n), (6, Value.int IntKind.i64 (↑len : Int)),
                  (7,
                    Value.int IntKind.i64
                      (wr IntKind.i64
                        (wr IntKind.i64 ((wr IntKind.u64 (wr IntKind.i64 ((↑i : Int) + (↑j : Int)))).fdiv 2) + 1))),
                  (8, Value.int IntKind.i64 (↑j : Int))])
              (hp [Blk.cells cs 1 own]))
            (K AE.normal
              (tmps 54
                [(0, Value.slice (some { block := 0, off := o, spot := sp : Addr }) len cap),
                  (1, Value.int IntKind.i64 n), (6, Value.int IntKind.i64 (↑len : Int)),
                  (7, Value.int IntKind.i64 (↑i : Int)),
                  (8,
                    Value.int IntKind.i64
                      (wr IntKind.i64 ((wr IntKind.u64 (wr IntKind.i64 ((↑i : Int) + (↑j : Int)))).fdiv 2)))])
              (hp [Blk.cells cs 1 own])))))))
  (K (AE.exit 0)
    (tmps 54
      [(0, Value.slice (some { block := 0, off := o, spot := sp : Addr }) len cap), (1, Value.int IntKind.i64 n),
        (6, Value.int IntKind.i64 (↑len : Int)), (7, Value.int IntKind.i64 (↑i : Int))])
    (hp [Blk.cells cs 1 own]))) := by kernel_rfl

noncomputable def cut511 (cs : List Value) (own : Bool) (o : Nat) (sp : Option Nat) (cap : Nat) (n : Int) (l : List Int) : CutE where
  β := Nat × Nat
  p := [0,0,1,1,1]
  t := fun x => T511 o sp l.length cap n x.1 x.2
  h := fun x => hp [.cells cs 1 own]
  Q := fun x K => Halves l n x.1 x.2 ∧ ∀ i, Halves l n i i → K (.exit 0) (U511 o sp l.length cap n i) (hp [.cells cs 1 own])

theorem w511 (cs : List Value) (own : Bool) (o : Nat) (sp : Option Nat) (cap : Nat) (n : Int) (l : List Int) (K : Value → Heap → Prop) :
  funX Try.prog S501 (gcLKX (at0 []) (at0 []) 1 (cutE [cut511 cs own o sp cap n l])) F511 body511 Try.f21 [] [] [.slice (some ⟨0,o,sp⟩) l.length cap, .int .i64 n] (hp [.cells cs 1 own]) K = (
FlatD [] (hp [Blk.cells cs 1 own]) ∧
  ∃ (b : Nat × Nat),
    tmps 54
          [(0, Value.slice (some { block := 0, off := o, spot := sp : Addr }) l.length cap),
            (1, Value.int IntKind.i64 n), (6, Value.int IntKind.i64 (↑l.length : Int)), (7, Value.int IntKind.i64 0),
            (8, Value.int IntKind.i64 (↑l.length : Int))] =
        tmps 54
          [(0, Value.slice (some { block := 0, off := o, spot := sp : Addr }) l.length cap),
            (1, Value.int IntKind.i64 n), (6, Value.int IntKind.i64 (↑l.length : Int)),
            (7, Value.int IntKind.i64 (↑b.fst : Int)), (8, Value.int IntKind.i64 (↑b.snd : Int))] ∧
      hp [Blk.cells cs 1 own] = hp [Blk.cells cs 1 own] ∧
        Halves l n b.fst b.snd ∧
          ∀ (i : Nat),
            Halves l n i i →
              Alt (ltI (↑i : Int) (↑l.length : Int))
                (Need (ltI (↑i : Int) (↑l.length : Int))
                  (Need (isInt IntKind.i64 ((getO cs (o + (↑i : Int).toNat * 1)).getD undef))
                    (Alt (eqI (intV ((getO cs (o + (↑i : Int).toNat * 1)).getD undef)) n)
                      (K (Value.tuple #[Value.int IntKind.i64 (↑i : Int), Value.bool true]) (hp [Blk.cells cs 1 own]))
                      (Need (ltI (↑i : Int) (↑l.length : Int))
                        (Need (isInt IntKind.i64 ((getO cs (o + (↑i : Int).toNat * 1)).getD undef))
                          (Alt
                            (!eqI (intV ((getO cs (o + (↑i : Int).toNat * 1)).getD undef))
                                (intV ((getO cs (o + (↑i : Int).toNat * 1)).getD undef)))
                            (K (Value.tuple #[Value.int IntKind.i64 (↑i : Int), Value.bool !eqI n n])
                              (hp [Blk.cells cs 1 own]))
                            (K (Value.tuple #[Value.int IntKind.i64 (↑i : Int), Value.bool false])
                              (hp [Blk.cells cs 1 own]))))))))
                (K (Value.tuple #[Value.int IntKind.i64 (↑i : Int), Value.bool false]) (hp [Blk.cells cs 1 own]))) := by kernel_rfl

end Go.Proofs.Ytocndbldmkjcnaa

namespace Go.Proofs.Ytocndbldmkjcnaa
open Go.RowKit Go.Proofs.Ytocndbldmkjcnaa.AM
set_option maxRecDepth 100000
set_option maxHeartbeats 4000000
theorem wr_u64 (x : Int) (h0 : 0 ≤ x) (h1 : x < 18446744073709551616) : wr .u64 x = x := by
  rw [wr_eq]; simp [IntKind.wrap, IntKind.bits, IntKind.signed]; omega
theorem mid_eq (i j : Nat) (h : i + j < 4611686018427387904) : wr .i64 ((wr .u64 (wr .i64 ((i : Int) + (j : Int)))).fdiv 2) = (((i + j) / 2 : Nat) : Int) := by
  rw [wr_i64 ((i : Int) + (j : Int)) (by omega) (by omega), wr_u64 _ (by omega) (by omega), Int.fdiv_eq_ediv_of_nonneg _ (by omega), wr_i64 _ (by omega) (by omega)]; omega
theorem find_loop (hmix : Try.prog.follows .mixedOrders = true) (l : List Int) (hup : Up l) (cs : List Value) (own : Bool) (o : Nat) (sp : Option Nat) (cap : Nat) (n : Int) (hB : ISl cs o l) (hl : l.length ≤ 1000000000) (K : Post)
    (hK : ∀ i, Halves l n i i → K (.exit 0) (U511 o sp l.length cap n i) (hp [.cells cs 1 own])) : ∀ (m i j : Nat), j - i ≤ m → Halves l n i j →
    LSays Try.prog 1 (sub body511 [0,0,0,1,1,1]) (T511 o sp l.length cap n i j) (hp [.cells cs 1 own]) K := by
  have hF := hf1 (own := own) hB.flat
  have hsorted : ∀ (a b : Nat) x y, a < b → l[a]? = some x → l[b]? = some y → x < y := fun a b x y hab ha hb => by
    obtain ⟨h1, h2⟩ := List.getElem?_eq_some_iff.1 ha
    obtain ⟨h3, h4⟩ := List.getElem?_eq_some_iff.1 hb
    have := List.pairwise_iff_getElem.1 hup a b h1 h3 hab
    rw [h2, h4] at this; exact this
  intro m
  induction m with
  | zero =>
    intro i j hm hh
    have : i = j := by have := hh.le; omega
    subst this
    refine (sure501 hmix).roundX F511 noLoops [] [] [] [] [0,1,6,7,8] ?_
    rw [r511]
    simp only [show ¬ ((i : Int) < (i : Int)) by omega, hF, Alt_iff, Need_iff, ltI_eq, leI_eq, eqI_eq, leN_eq, eqN_eq, decide_eq_true_eq, decide_eq_false_iff_not, decide_true, decide_false, true_and, and_true, Bool.true_eq_false, Bool.false_eq_true, false_implies, true_implies, implies_true, not_true_eq_false, not_false_eq_true, Bool.not_eq_true', Bool.not_eq_false', Nat.zero_add, Nat.add_zero, Nat.sub_zero, Nat.zero_mul, Nat.mul_one, Int.toNat_natCast, List.drop_zero, beqV_int, beqV_sl, beqV_str, beqV_bool, beqV_ptr, beqV_flt, beqV_agg, beqV_tuple, List.all_cons, List.all_nil, Bool.and_self, Bool.and_true, Bool.true_and, Nat.le_refl, Int.le_refl, Nat.zero_le, Option.getD_some, isStr, strV, isInt, intV, isBool, boolV, kindEq, at0, isJunk, Option.isSome_some, Option.isSome_none, if_true, if_false, Nat.add_sub_cancel_left, Nat.add_sub_cancel]
    exact hK i hh
  | succ m ih =>
    intro i j hm hh
    by_cases hij : i < j
    · have hj := hh.len
      have hlt : (i + j) / 2 < l.length := by omega
      have hx : l[(i + j) / 2]? = some l[(i + j) / 2] := List.getElem?_eq_getElem hlt
      generalize l[(i + j) / 2] = x at hx
      have hg : getO cs (o + (i + j) / 2) = some (.int .i64 x) := hB.cell _ x hx
      refine (sure501 hmix).roundX F511 noLoops [] [] [] [] [0,1,6,7,8] ?_
      rw [r511, mid_eq i j (by omega)]
      simp only [show ((i : Int) < (j : Int)) by omega, hF, hg, show (0 : Int) ≤ (((i + j) / 2 : Nat) : Int) by omega, show ((((i + j) / 2 : Nat) : Int) < (l.length : Int)) by omega, nx ((i + j) / 2) (by omega), Bool.not_true, Bool.not_false, Alt_iff, Need_iff, ltI_eq, leI_eq, eqI_eq, leN_eq, eqN_eq, decide_eq_true_eq, decide_eq_false_iff_not, decide_true, decide_false, true_and, and_true, Bool.true_eq_false, Bool.false_eq_true, false_implies, true_implies, implies_true, not_true_eq_false, not_false_eq_true, Bool.not_eq_true', Bool.not_eq_false', Nat.zero_add, Nat.add_zero, Nat.sub_zero, Nat.zero_mul, Nat.mul_one, Int.toNat_natCast, List.drop_zero, beqV_int, beqV_sl, beqV_str, beqV_bool, beqV_ptr, beqV_flt, beqV_agg, beqV_tuple, List.all_cons, List.all_nil, Bool.and_self, Bool.and_true, Bool.true_and, Nat.le_refl, Int.le_refl, Nat.zero_le, Option.getD_some, isStr, strV, isInt, intV, isBool, boolV, kindEq, at0, isJunk, Option.isSome_some, Option.isSome_none, if_true, if_false, Nat.add_sub_cancel_left, Nat.add_sub_cancel]
      refine ⟨fun h => ih _ j (by omega) ⟨by omega, hj, fun k y hk hy => ?_, hh.high⟩, fun h => ih i _ (by omega) ⟨by omega, by omega, hh.low, fun k y hk hy => ?_⟩⟩
      · by_cases hk2 : k = (i + j) / 2
        · subst hk2; rw [hx] at hy; injection hy with hy; omega
        · have := hsorted k _ y x (by omega) hy hx; omega
      · by_cases hk2 : k = (i + j) / 2
        · subst hk2; rw [hx] at hy; injection hy with hy; omega
        · have := hsorted _ k x y (by omega) hx hy; omega
    · have : i = j := by have := hh.le; omega
      subst this
      refine (sure501 hmix).roundX F511 noLoops [] [] [] [] [0,1,6,7,8] ?_
      rw [r511]
      simp only [show ¬ ((i : Int) < (i : Int)) by omega, hF, Alt_iff, Need_iff, ltI_eq, leI_eq, eqI_eq, leN_eq, eqN_eq, decide_eq_true_eq, decide_eq_false_iff_not, decide_true, decide_false, true_and, and_true, Bool.true_eq_false, Bool.false_eq_true, false_implies, true_implies, implies_true, not_true_eq_false, not_false_eq_true, Bool.not_eq_true', Bool.not_eq_false', Nat.zero_add, Nat.add_zero, Nat.sub_zero, Nat.zero_mul, Nat.mul_one, Int.toNat_natCast, List.drop_zero, beqV_int, beqV_sl, beqV_str, beqV_bool, beqV_ptr, beqV_flt, beqV_agg, beqV_tuple, List.all_cons, List.all_nil, Bool.and_self, Bool.and_true, Bool.true_and, Nat.le_refl, Int.le_refl, Nat.zero_le, Option.getD_some, isStr, strV, isInt, intV, isBool, boolV, kindEq, at0, isJunk, Option.isSome_some, Option.isSome_none, if_true, if_false, Nat.add_sub_cancel_left, Nat.add_sub_cancel]
      exact hK i hh
/-- where a number stands, or would stand; is it there? -/
structure FindR (l : List Int) (n : Int) (x : Nat × Bool) : Prop where
  half : Halves l n x.1 x.1
  has : x.2 = hasL n l
inductive IsUp (l : List Int) : Prop
  | mk (h : Up l) (hl : l.length ≤ 1000000000) : IsUp l
noncomputable def findX : CtrX (Nat × Bool) where
  D := []
  W := []
  E := []
  pre := fun args blks => match args, blks with
    | [.slice (some ⟨0, o1, _⟩) l1 c1, .int .i64 n], [.cells ca 1 _] => IsI ca o1 l1 c1 ∧ IsUp (intsAt ca o1 l1)
    | _, _ => False
  rel := fun args blks x => match args, blks with
    | [.slice (some ⟨0, o1, _⟩) l1 c1, .int .i64 n], [.cells ca 1 _] => FindR (intsAt ca o1 l1) n x
    | _, _ => False
  val := fun args blks x => .tuple #[.int .i64 x.1, .bool x.2]
  out := fun args blks x => blks
theorem up_lt {l : List Int} (hup : Up l) {a b : Nat} {x y : Int} (hab : a < b) (ha : l[a]? = some x) (hb : l[b]? = some y) : x < y := by
  obtain ⟨h1, h2⟩ := List.getElem?_eq_some_iff.1 ha
  obtain ⟨h3, h4⟩ := List.getElem?_eq_some_iff.1 hb
  have := List.pairwise_iff_getElem.1 hup a b h1 h3 hab
  rw [h2, h4] at this; exact this
theorem half_has {l : List Int} (hup : Up l) {n : Int} {i : Nat} (h : Halves l n i i) : (match l[i]? with | some x => eqI x n | none => false) = hasL n l := by
  refine (has_eq ⟨fun hm => ?_, fun hm => ?_⟩).symm
  · obtain ⟨k, hk, hkn⟩ := List.getElem_of_mem hm
    have hk' : l[k]? = some n := by rw [List.getElem?_eq_getElem hk, hkn]
    have h1 : ¬ k < i := fun h1 => by have := h.low k _ h1 hk'; omega
    have h2 : ¬ i < k := fun h2 => by
      have hi' : l[i]? = some l[i] := List.getElem?_eq_getElem (by omega)
      have := h.high i _ (Nat.le_refl _) hi'
      have := up_lt hup h2 hi' hk'
      omega
    have : k = i := by omega
    subst this
    rw [hk']; exact eqI_iff.2 rfl
  · cases hx : l[i]? with
    | none => rw [hx] at hm; cases hm
    | some x => rw [hx] at hm; rw [← eqI_iff.1 hm]; exact List.mem_of_getElem? hx
theorem half_uniq {l : List Int} {n : Int} {i j : Nat} (h : Halves l n i i) (h2 : Halves l n j j) : i = j := by
  have key : ∀ {i j : Nat}, Halves l n i i → Halves l n j j → ¬ i < j := fun {i j} h h2 hlt => by
    have := h2.len
    have hi : l[i]? = some l[i] := List.getElem?_eq_getElem (by omega)
    have := h2.low i _ hlt hi
    have := h.high i _ (Nat.le_refl _) hi
    omega
  have := key h h2
  have := key h2 h
  omega
theorem half_ex {l : List Int} (hup : Up l) (n : Int) : ∀ (m i j : Nat), j - i ≤ m → Halves l n i j → ∃ k, Halves l n k k := by
  intro m
  induction m with
  | zero =>
    intro i j hm hh
    have : i = j := by have := hh.le; omega
    subst this; exact ⟨i, hh⟩
  | succ m ih =>
    intro i j hm hh
    by_cases hij : i < j
    · have hj := hh.len
      have hi : l[i]? = some l[i] := List.getElem?_eq_getElem (by omega)
      generalize l[i] = x at hi
      by_cases hx : x < n
      · refine ih (i + 1) j (by omega) ⟨by omega, hj, fun k y hk hy => ?_, hh.high⟩
        by_cases hk2 : k = i
        · subst hk2; rw [hi] at hy; injection hy with hy; omega
        · exact hh.low k y (by omega) hy
      · refine ⟨i, Nat.le_refl _, by omega, hh.low, fun k y hk hy => ?_⟩
        by_cases hk2 : k = i
        · subst hk2; rw [hi] at hy; injection hy with hy; omega
        · have := up_lt hup (show i < k by omega) hi hy; omega
    · have : i = j := by have := hh.le; omega
      subst this; exact ⟨i, hh⟩
theorem find_says (hmix : Try.prog.follows .mixedOrders = true) : findX.Holds Try.prog 21 := by
  intro args blks hf hp
  simp only [findX] at hp ⊢
  split at hp
  · rename_i o1 s1 l1 c1 n ca w1
    obtain ⟨⟨l, rfl, hc, hB⟩, hu⟩ := hp
    rw [intsAt_eq hB] at hu
    obtain ⟨hup, hl⟩ := hu
    simp only [intsAt_eq hB]
    have h0 : Halves l n 0 l.length := ⟨by omega, Nat.le_refl _, fun k x hk => by omega, fun k x hk hx => by have := (List.getElem?_eq_some_iff.1 hx).1; omega⟩
    obtain ⟨i, hi⟩ := half_ex hup n l.length 0 l.length (by omega) h0
    have hF := hf1 (own := w1) hB.flat
    refine ⟨(i, hasL n l), ⟨hi, rfl⟩, ⟨rfl, trivial⟩, trivial, ?_⟩
    have hL : Loops Try.prog body511 1 (cutE [cut511 ca w1 o1 s1 c1 n l]) := Loops.noneE.moreE _ fun x K hQ => by
      obtain ⟨h1, h2⟩ := hQ
      exact find_loop hmix l hup ca w1 o1 s1 c1 n hB hl K h2 l.length x.1 x.2 (by have := h1.len; omega) h1
    refine (sure501 hmix).funX F511 body511 [] [] Try.func21 rfl (hL.gcX (at0 []) (at0 [])) ?_
    rw [w511]
    refine ⟨hF, (0, l.length), rfl, rfl, h0, fun j hj => ?_⟩
    obtain rfl := half_uniq hi hj
    have he := half_has hup hi
    cases hx : l[i]? with
    | none =>
      have := List.getElem?_eq_none_iff.1 hx
      rw [hx] at he
      simp only [show ¬ ((i : Int) < (l.length : Int)) by omega, hF, ← he, Alt_iff, Need_iff, ltI_eq, leI_eq, eqI_eq, leN_eq, eqN_eq, decide_eq_true_eq, decide_eq_false_iff_not, decide_true, decide_false, true_and, and_true, Bool.true_eq_false, Bool.false_eq_true, false_implies, true_implies, implies_true, not_true_eq_false, not_false_eq_true, Bool.not_eq_true', Bool.not_eq_false', Nat.zero_add, Nat.add_zero, Nat.sub_zero, Nat.zero_mul, Nat.mul_one, Int.toNat_natCast, List.drop_zero, beqV_int, beqV_sl, beqV_str, beqV_bool, beqV_ptr, beqV_flt, beqV_agg, beqV_tuple, List.all_cons, List.all_nil, Bool.and_self, Bool.and_true, Bool.true_and, Nat.le_refl, Int.le_refl, Nat.zero_le, Option.getD_some, isStr, strV, isInt, intV, isBool, boolV, kindEq, at0, isJunk, Option.isSome_some, Option.isSome_none, if_true, if_false, Nat.add_sub_cancel_left, Nat.add_sub_cancel]
    | some x =>
      have := (List.getElem?_eq_some_iff.1 hx).1
      have hg : getO ca (o1 + i) = some (.int .i64 x) := hB.cell _ x hx
      rw [hx] at he
      simp only [show ((i : Int) < (l.length : Int)) by omega, hF, hg, ← he, Bool.not_true, Alt_iff, Need_iff, ltI_eq, leI_eq, eqI_eq, leN_eq, eqN_eq, decide_eq_true_eq, decide_eq_false_iff_not, decide_true, decide_false, true_and, and_true, Bool.true_eq_false, Bool.false_eq_true, false_implies, true_implies, implies_true, not_true_eq_false, not_false_eq_true, Bool.not_eq_true', Bool.not_eq_false', Nat.zero_add, Nat.add_zero, Nat.sub_zero, Nat.zero_mul, Nat.mul_one, Int.toNat_natCast, List.drop_zero, beqV_int, beqV_sl, beqV_str, beqV_bool, beqV_ptr, beqV_flt, beqV_agg, beqV_tuple, List.all_cons, List.all_nil, Bool.and_self, Bool.and_true, Bool.true_and, Nat.le_refl, Int.le_refl, Nat.zero_le, Option.getD_some, isStr, strV, isInt, intV, isBool, boolV, kindEq, at0, isJunk, Option.isSome_some, Option.isSome_none, if_true, if_false, Nat.add_sub_cancel_left, Nat.add_sub_cancel]
      by_cases hq : x = n
      · simp [hq, hF]
      · simp [hq, hF]
  · exact hp.elim
end Go.Proofs.Ytocndbldmkjcnaa

namespace Go.Proofs.Ytocndbldmkjcnaa
open Go.RowKit Go.Proofs.Ytocndbldmkjcnaa.AM
set_option maxRecDepth 100000
set_option maxHeartbeats 4000000
noncomputable def body502 : Code := (Try.f4.body).getD .skip
def F502 : List Nat → Option (List Nat) := fun p => match p with
  | [1] => some [0, 1, 2]
  | [1, 0, 1] => some [0, 1, 2, 15]
  | [1, 0, 1, 0, 1] => some [6]
  | [1, 1] => some [0, 1, 2]
  | [1, 1, 1] => some [0, 1, 2, 7]
  | [1, 0, 1, 1, 1] => some [0, 1, 2, 7, 20]
  | [1, 0, 1, 0, 1, 1, 1] => some [6]
  | [1, 1, 1, 1] => some [0, 1, 2, 7]
  | [1, 1, 1, 1, 1] => some [0, 1, 2, 7, 8]
  | [1, 1, 1, 1, 1, 1] => some [0, 1, 2, 7, 8, 9]
  | [1, 0, 1, 1, 1, 1, 1, 1] => some [0, 1, 2, 7, 8, 9, 10]
  | [1, 0, 0, 0, 1, 0, 1, 1, 1, 1, 1, 1] => some [0, 1, 2, 7, 8, 9, 10, 24]
  | [1, 1, 0, 0, 0, 1, 0, 1, 1, 1, 1, 1, 1] => some [2, 7, 8, 9]
  | [1, 0, 0, 1, 0, 1, 1, 1, 1, 1, 1] => some [0, 1, 2, 7, 8, 9, 10]
  | [1, 0, 0, 0, 1, 0, 0, 1, 0, 1, 1, 1, 1, 1, 1] => some [0, 1, 2, 7, 8, 9, 10, 31]
  | [1, 0, 0, 1, 0, 0, 0, 1, 0, 0, 1, 0, 1, 1, 1, 1, 1, 1] => some [0, 1, 2, 7, 8, 9, 10, 46]
  | [1, 0, 1, 0, 0, 1, 0, 0, 0, 1, 0, 0, 1, 0, 1, 1, 1, 1, 1, 1] => some [6]
  | [1, 0, 1, 0, 0, 0, 1, 0, 0, 1, 0, 1, 1, 1, 1, 1, 1] => some [0, 1, 2, 7, 8, 9, 10]
  | [1, 1, 0, 1, 0, 0, 0, 1, 0, 0, 1, 0, 1, 1, 1, 1, 1, 1] => some [0, 1, 2, 7, 8, 9, 10]
  | [1, 0, 0, 1, 0, 0, 1, 0, 1, 1, 1, 1, 1, 1] => some [0, 1, 2, 7, 8, 9, 10]
  | [1, 1, 0, 0, 1, 0, 0, 1, 0, 1, 1, 1, 1, 1, 1] => some [0, 1, 2, 7, 8, 9, 10, 11, 12]
  | [1, 0, 1, 1, 0, 0, 1, 0, 0, 1, 0, 1, 1, 1, 1, 1, 1] => some [0, 1, 2, 7, 8, 9, 10, 12, 81]
  | [1, 0, 1, 0, 1, 1, 0, 0, 1, 0, 0, 1, 0, 1, 1, 1, 1, 1, 1] => some [6]
  | [1, 1, 1, 0, 0, 1, 0, 0, 1, 0, 1, 1, 1, 1, 1, 1] => some [0, 1, 2, 7, 8, 9, 10, 12]
  | [1, 1, 1, 1, 0, 0, 1, 0, 0, 1, 0, 1, 1, 1, 1, 1, 1] => some [0, 1, 2, 7, 8, 9, 10, 82]
  | [1, 0, 1, 1, 1, 1, 0, 0, 1, 0, 0, 1, 0, 1, 1, 1, 1, 1, 1] => some [0, 1, 2, 7, 8, 9, 10]
  | [1, 1, 0, 0, 1, 0, 1, 1, 1, 1, 1, 1] => some [0, 1, 2, 7, 8, 9, 10]
  | [1, 1, 1, 1, 1, 1, 1] => some [2, 7, 8, 9]
  | [1, 1, 1, 1, 1, 1, 1, 1] => some [6]
  | _ => none
noncomputable def body503 : Code := (Try.f5.body).getD .skip
def F503 : List Nat → Option (List Nat) := fun p => match p with
  | [1] => some [0, 1]
  | [1, 1] => some [1, 5]
  | [1, 1, 1] => some [1, 5, 6]
  | [1, 0, 1, 1, 1] => some [1, 5, 6, 25]
  | [1, 0, 1, 0, 1, 1, 1] => some [4]
  | [1, 1, 1, 1] => some [1, 5, 6]
  | [1, 0, 1, 1, 1, 1] => some [1, 5, 6, 7]
  | [1, 0, 0, 0, 1, 0, 1, 1, 1, 1] => some [1, 5, 6, 7, 28]
  | [1, 1, 0, 0, 0, 1, 0, 1, 1, 1, 1] => some [1, 5, 6]
  | [1, 0, 0, 1, 0, 1, 1, 1, 1] => some [1, 5, 6, 7]
  | [1, 0, 0, 1, 0, 0, 1, 0, 1, 1, 1, 1] => some [1, 5, 6, 7, 8, 9]
  | [1, 1, 0, 0, 1, 0, 0, 1, 0, 1, 1, 1, 1] => some [1, 5, 6, 7, 42]
  | [1, 0, 1, 1, 0, 0, 1, 0, 0, 1, 0, 1, 1, 1, 1] => some [4]
  | [1, 1, 0, 0, 1, 0, 1, 1, 1, 1] => some [1, 5, 6, 7]
  | [1, 1, 1, 1, 1] => some [1, 5, 6]
  | [1, 1, 1, 1, 1, 1] => some [1, 5, 6, 11]
  | [1, 1, 1, 1, 1, 1, 1] => some [1, 5, 6, 11, 12]
  | [1, 0, 1, 1, 1, 1, 1, 1, 1] => some [1, 5, 6, 11, 12, 13]
  | [1, 0, 0, 0, 1, 0, 1, 1, 1, 1, 1, 1, 1] => some [1, 5, 6, 11, 12, 13, 56]
  | [1, 1, 0, 0, 0, 1, 0, 1, 1, 1, 1, 1, 1, 1] => some [5, 6, 11, 12]
  | [1, 0, 0, 1, 0, 1, 1, 1, 1, 1, 1, 1] => some [1, 5, 6, 11, 12, 13]
  | [1, 0, 0, 0, 1, 0, 0, 1, 0, 1, 1, 1, 1, 1, 1, 1] => some [1, 5, 6, 11, 12, 13, 67]
  | [1, 0, 1, 0, 0, 0, 1, 0, 0, 1, 0, 1, 1, 1, 1, 1, 1, 1] => some [4]
  | [1, 0, 0, 1, 0, 0, 1, 0, 1, 1, 1, 1, 1, 1, 1] => some [1, 5, 6, 11, 12, 13]
  | [1, 1, 0, 0, 1, 0, 1, 1, 1, 1, 1, 1, 1] => some [1, 5, 6, 11, 12, 13]
  | [1, 1, 1, 1, 1, 1, 1, 1] => some [5, 6, 11, 12]
  | [1, 0, 1, 1, 1, 1, 1, 1, 1, 1] => some [5, 6, 11, 12, 14]
  | [1, 0, 0, 0, 1, 0, 1, 1, 1, 1, 1, 1, 1, 1] => some [5, 6, 11, 12, 14, 72]
  | [1, 1, 0, 0, 0, 1, 0, 1, 1, 1, 1, 1, 1, 1, 1] => some [5, 6, 11]
  | [1, 0, 0, 1, 0, 1, 1, 1, 1, 1, 1, 1, 1] => some [5, 6, 11, 12, 14]
  | [1, 0, 0, 1, 0, 0, 1, 0, 1, 1, 1, 1, 1, 1, 1, 1] => some [5, 6, 11, 12, 14, 15, 16]
  | [1, 1, 0, 0, 1, 0, 0, 1, 0, 1, 1, 1, 1, 1, 1, 1, 1] => some [5, 6, 11, 12, 14, 88]
  | [1, 0, 1, 1, 0, 0, 1, 0, 0, 1, 0, 1, 1, 1, 1, 1, 1, 1, 1] => some [4]
  | [1, 1, 0, 0, 1, 0, 1, 1, 1, 1, 1, 1, 1, 1] => some [5, 6, 11, 12, 14]
  | [1, 1, 1, 1, 1, 1, 1, 1, 1] => some [5, 6, 11]
  | [1, 1, 1, 1, 1, 1, 1, 1, 1, 1] => some [5, 6, 11, 18]
  | [1, 1, 1, 1, 1, 1, 1, 1, 1, 1, 1] => some [4]
  | _ => none
noncomputable def body504 : Code := (Try.f6.body).getD .skip
def F504 : List Nat → Option (List Nat) := fun p => match p with
  | [1] => some [0, 1]
  | [1, 0, 1] => some [0, 1, 14]
  | [1, 0, 1, 0, 1] => some [4]
  | [1, 1] => some [0, 1]
  | [1, 1, 1] => some [0, 1, 5]
  | [1, 0, 1, 1, 1] => some [0, 1, 5, 19]
  | [1, 0, 1, 0, 1, 1, 1] => some [4]
  | [1, 1, 1, 1] => some [0, 1, 5]
  | [1, 1, 1, 1, 1] => some [0, 1, 5, 6]
  | [1, 0, 1, 1, 1, 1, 1] => some [0, 1, 5, 6, 7]
  | [1, 0, 0, 0, 1, 0, 1, 1, 1, 1, 1] => some [0, 1, 5, 6, 7, 23]
  | [1, 1, 0, 0, 0, 1, 0, 1, 1, 1, 1, 1] => some []
  | [1, 0, 0, 1, 0, 1, 1, 1, 1, 1] => some [0, 1, 5, 6, 7]
  | [1, 0, 0, 0, 1, 0, 0, 1, 0, 1, 1, 1, 1, 1] => some [0, 1, 5, 6, 7, 30]
  | [1, 0, 1, 0, 0, 0, 1, 0, 0, 1, 0, 1, 1, 1, 1, 1] => some [0, 1, 5, 6, 7, 8]
  | [1, 1, 0, 1, 0, 0, 0, 1, 0, 0, 1, 0, 1, 1, 1, 1, 1] => some [0, 1, 5, 6, 7, 9]
  | [1, 1, 1, 0, 1, 0, 0, 0, 1, 0, 0, 1, 0, 1, 1, 1, 1, 1] => some [0, 1, 5, 6, 7, 57]
  | [1, 0, 1, 1, 1, 0, 1, 0, 0, 0, 1, 0, 0, 1, 0, 1, 1, 1, 1, 1] => some [4]
  | [1, 1, 1, 0, 0, 0, 1, 0, 0, 1, 0, 1, 1, 1, 1, 1] => some [0, 1, 5, 6, 7, 10, 11]
  | [1, 1, 1, 1, 0, 0, 0, 1, 0, 0, 1, 0, 1, 1, 1, 1, 1] => some [0, 1, 5, 6, 7, 10, 63]
  | [1, 0, 0, 1, 1, 1, 1, 0, 0, 0, 1, 0, 0, 1, 0, 1, 1, 1, 1, 1] => some [0, 1, 5, 7, 10, 78]
  | [1, 0, 1, 0, 0, 1, 1, 1, 1, 0, 0, 0, 1, 0, 0, 1, 0, 1, 1, 1, 1, 1] => some [4]
  | [1, 0, 1, 1, 1, 1, 0, 0, 0, 1, 0, 0, 1, 0, 1, 1, 1, 1, 1] => some [0, 1, 5, 7, 10]
  | [1, 0, 0, 1, 0, 0, 1, 0, 1, 1, 1, 1, 1] => some [0, 1, 5, 6, 7]
  | [1, 1, 0, 0, 1, 0, 0, 1, 0, 1, 1, 1, 1, 1] => some [0, 1, 5, 6, 7, 97]
  | [1, 0, 1, 1, 0, 0, 1, 0, 0, 1, 0, 1, 1, 1, 1, 1] => some [4]
  | [1, 1, 0, 0, 1, 0, 1, 1, 1, 1, 1] => some [0, 1, 5, 6, 7]
  | [1, 1, 1, 1, 1, 1] => some []
  | [1, 1, 1, 1, 1, 1, 1] => some [4]
  | _ => none
noncomputable def body505 : Code := (Try.f7.body).getD .skip
def F505 : List Nat → Option (List Nat) := fun p => match p with
  | [1] => some [0]
  | [1, 1] => some [2]
  | _ => none
noncomputable def body506 : Code := (Try.f8.body).getD .skip
def F506 : List Nat → Option (List Nat) := fun p => match p with
  | [1] => some [0]
  | [1, 0, 1] => some [0, 20]
  | [1, 0, 1, 0, 1] => some [2, 3]
  | [1, 1] => some [0]
  | [1, 1, 1] => some [0]
  | [1, 1, 1, 1] => some [0]
  | [1, 1, 1, 1, 1] => some [2, 3]
  | _ => none
noncomputable def body507 : Code := (Try.f9.body).getD .skip
def F507 : List Nat → Option (List Nat) := fun p => match p with
  | [1] => some [0, 1]
  | [1, 0, 1] => some [0, 1, 8]
  | [1, 0, 1, 0, 1] => some [4]
  | [1, 1] => some [0, 1]
  | [1, 1, 1] => some []
  | [1, 1, 1, 1] => some [4]
  | _ => none
noncomputable def body508 : Code := (Try.f10.body).getD .skip
def F508 : List Nat → Option (List Nat) := fun p => match p with
  | [1] => some [0]
  | [1, 1] => some [2]
  | _ => none
noncomputable def body509 : Code := (Try.f14.body).getD .skip
def F509 : List Nat → Option (List Nat) := fun p => match p with
  | [1] => some [0]
  | [1, 1] => some [2]
  | _ => none
noncomputable def body510 : Code := (Try.f15.body).getD .skip
def F510 : List Nat → Option (List Nat) := fun p => match p with
  | [1] => some [0, 1]
  | [1, 1] => some [6]
  | [1, 1, 1] => some [4]
  | _ => none
noncomputable def S502o (hm : Try.prog.follows .mixedOrders = true) : Book := bookS [(21, findX.summ (find_says hm)), (18, cutX.summ (cut_x hm)), (12, rcutX.summ (rcut_x hm))] (bookOf [(3, trueC), (13, sameC), (17, isC), (16, hasC), (11, hasC), (20, cloneC)])
noncomputable def S502 (hm : Try.prog.follows .mixedOrders = true) : Book := addI Try.prog [(8, Try.f8, body506), (9, Try.f9, body507), (14, Try.f14, body509), (10, Try.f10, body508), (7, Try.f7, body505), (15, Try.f15, body510)] (S502o hm)
noncomputable def s1w (b m k : Nat) : Value := .slice (some ⟨b,0,some 1⟩) m k
noncomputable def T502 (most : Int) (s1 : Option Nat) (len k1 : Nat) (id : Int) (m k : Nat) (last : Int) (i : Nat) : List Value := tmps 111 [(0, .int .i64 most), (1, .slice (some ⟨0,0,s1⟩) len k1), (2, .int .i64 id), (7, .pointer (some ⟨1,0,none⟩)), (8, s1w 2 m k), (9, .int .i64 last), (10, .int .i64 i)]
noncomputable def H502 (ca : List Value) (mo la : Int) (cy : List Value) (m k : Nat) (cz : List Value) : Heap := hp [.cells ca 2 false, .cells [.int .i64 mo, .int .i64 la, s1w 3 m k] 3 true, .cells cy 1 true, .cells cz 1 true]
/-- what the pool and the plain list are alike in -/
structure PoolIs (R : List Int) (last : Int) (n : Nat) (cy : List Value) (m : Nat) (k : Nat) (cz : List Value) (m2 k2 : Nat) : Prop where
  y : ISl cy 0 R
  z : ISl cz 0 R
  em : m = R.length
  em2 : m2 = R.length
  hk : m ≤ k
  hk2 : m2 ≤ k2
  up : Up R
  low : ∀ x ∈ R, 1 ≤ x ∧ x ≤ last
  last : 0 ≤ last ∧ last ≤ n
  len : R.length ≤ n

theorem r502 (hm : Try.prog.follows .mixedOrders = true) (ca : List Value) (most mo la last id : Int) (s1 : Option Nat) (len k1 : Nat) (cy : List Value) (m k : Nat) (cz : List Value) (m2 k2 : Nat) (i : Nat) (K : Post) :
  roundX Try.prog (S502 hm) noLoop F502 body502 1 [1] [.cell 7 2 1, .tmp 8 1] [1] [] [0,1,2,7,8,9,10] [0,0,1,0,1,1,1,1,1,1] (T502 most s1 len k1 id m k last i) (H502 ca mo la cy m2 k2 cz) K = (
Alt (ltI (↑i : Int) (↑len : Int))
  (Need (ltI (↑i : Int) (↑len : Int))
    (Need (isBool ((getO ca (0 + (↑i : Int).toNat * 2 + 0)).getD undef))
      (Alt (boolV ((getO ca (0 + (↑i : Int).toNat * 2 + 0)).getD undef))
        (Need (ltI (↑i : Int) (↑len : Int))
          (Need (isInt IntKind.i64 ((getO ca (0 + (↑i : Int).toNat * 2 + 1)).getD undef))
            ((FlatL cz ∧ True) ∧
              (IsE (iE IntKind.i64) (ZP IntKind.i64) cz 0 m2 k2 ∧ IsUp (intsAt cz 0 m2)) ∧
                ∀ (x : Nat × Bool),
                  FindR (intsAt cz 0 m2) (intV ((getO ca (0 + (↑i : Int).toNat * 2 + 1)).getD undef)) x →
                    Alt (!x.snd)
                      (Need (ltI (↑i : Int) (↑len : Int))
                        (Need (isInt IntKind.i64 ((getO ca (0 + (↑i : Int).toNat * 2 + 1)).getD undef))
                          ((FlatL cy ∧ True) ∧
                            (IsE (iE IntKind.i64) (ZP IntKind.i64) cy 0 m k ∧
                                IsN
                                  [Value.int IntKind.i64
                                      (intV ((getO ca (0 + (↑i : Int).toNat * 2 + 1)).getD undef))]) ∧
                              Need (isInt IntKind.i64 ((getO ca (0 + (↑i : Int).toNat * 2 + 1)).getD undef))
                                (Need
                                  (beqV 64
                                    (Value.int IntKind.i64 (intV ((getO ca (0 + (↑i : Int).toNat * 2 + 1)).getD undef)))
                                    (Value.int IntKind.i64
                                      (intV ((getO ca (0 + (↑i : Int).toNat * 2 + 1)).getD undef))))
                                  (Need
                                    (beqV 64
                                      (Value.pointer (some { block := 0, off := 0 + (↑i : Int).toNat * 2 + 1 : Addr }))
                                      (Value.pointer (some { block := 0, off := 0 + (↑i : Int).toNat * 2 + 1 : Addr })))
                                    (Need (ltI (↑i : Int) (↑len : Int))
                                      (Need
                                        (beqV 64
                                          (Value.pointer (some { block := 0, off := 0 + (↑i : Int).toNat * 2 : Addr }))
                                          (Value.pointer (some { block := 0, off := 0 + (↑i : Int).toNat * 2 : Addr })))
                                        (Need
                                          (beqV 64 (Value.int IntKind.i64 (↑i : Int))
                                            (Value.int IntKind.i64 (↑i : Int)))
                                          (Need
                                            (beqV 64
                                              (Value.slice (some { block := 0, off := 0, spot := s1 : Addr }) len k1)
                                              (Value.slice (some { block := 0, off := 0, spot := s1 : Addr }) len k1))
                                            (Need
                                              (beqV 64
                                                (Value.slice (some { block := 2, off := 0, spot := some 1 : Addr }) m k)
                                                (Value.slice (some { block := 2, off := 0, spot := some 1 : Addr }) m
                                                  k))
                                              (Alt
                                                (!false ==
                                                    hasL (intV ((getO ca (0 + (↑i : Int).toNat * 2 + 1)).getD undef))
                                                      (intsAt cy 0 m))
                                                (K AE.ret (tmps 111 [(6, Value.bool false)])
                                                  (hp [Blk.cells ca 2 false]))
                                                (Need (ltI (↑i : Int) (↑len : Int))
                                                  (Need
                                                    (isInt IntKind.i64
                                                      ((getO ca (0 + (↑i : Int).toNat * 2 + 1)).getD undef))
                                                    ((FlatL cy ∧ True) ∧
                                                      (IsE (iE IntKind.i64) (ZP IntKind.i64) cy 0 m k ∧
                                                          IsN
                                                              [Value.int IntKind.i64
                                                                  (intV
                                                                    ((getO ca (0 + (↑i : Int).toNat * 2 + 1)).getD
                                                                      undef))] ∧
                                                            Need (leN m 1000) True) ∧
                                                        ∀ (x : Rw),
                                                          RowR
                                                              (rcutF (intsAt cy 0 m)
                                                                (intV
                                                                  ((getO ca (0 + (↑i : Int).toNat * 2 + 1)).getD
                                                                    undef)))
                                                              x →
                                                            K AE.normal
                                                              (tmps 111
                                                                [(0, Value.int IntKind.i64 most),
                                                                  (1,
                                                                    Value.slice
                                                                      (some { block := 0, off := 0, spot := s1 : Addr })
                                                                      len k1),
                                                                  (2, Value.int IntKind.i64 id),
                                                                  (7,
                                                                    Value.pointer
                                                                      (some { block := 1, off := 0 : Addr })),
                                                                  (8,
                                                                    Value.slice
                                                                      (some
                                                                        { block := 2, off := 0, spot := some 1 : Addr })
                                                                      x.fst.length x.snd.snd),
                                                                  (9, Value.int IntKind.i64 last),
                                                                  (10,
                                                                    Value.int IntKind.i64
                                                                      (wr IntKind.i64 ((↑i : Int) + 1)))])
                                                              (hp
                                                                [Blk.cells ca 2 false,
                                                                  Blk.cells
                                                                    [Value.int IntKind.i64 mo, Value.int IntKind.i64 la,
                                                                      Value.slice
                                                                        (some
                                                                          { block := 3, off := 0, spot := some 1 :
                                                                            Addr })
                                                                        m2 k2]
                                                                    3 true,
                                                                  Blk.cells x.snd.fst 1 true,
                                                                  Blk.cells cz 1 true])))))))))))))))
                      ((FlatL cz ∧ True) ∧
                        (IsE (iE IntKind.i64) (ZP IntKind.i64) cz 0 m2 k2 ∧
                            IsN [Value.int IntKind.i64 (intV ((getO ca (0 + (↑i : Int).toNat * 2 + 1)).getD undef))] ∧
                              Need (leN m2 1000) True) ∧
                          ∀ (x : Rw),
                            RowR (cutF (intsAt cz 0 m2) (intV ((getO ca (0 + (↑i : Int).toNat * 2 + 1)).getD undef)))
                                x →
                              Need (ltI (↑i : Int) (↑len : Int))
                                (Need (isInt IntKind.i64 ((getO ca (0 + (↑i : Int).toNat * 2 + 1)).getD undef))
                                  ((FlatL cy ∧ True) ∧
                                    (IsE (iE IntKind.i64) (ZP IntKind.i64) cy 0 m k ∧
                                        IsN
                                          [Value.int IntKind.i64
                                              (intV ((getO ca (0 + (↑i : Int).toNat * 2 + 1)).getD undef))]) ∧
                                      Need (isInt IntKind.i64 ((getO ca (0 + (↑i : Int).toNat * 2 + 1)).getD undef))
                                        (Need
                                          (beqV 64
                                            (Value.int IntKind.i64
                                              (intV ((getO ca (0 + (↑i : Int).toNat * 2 + 1)).getD undef)))
                                            (Value.int IntKind.i64
                                              (intV ((getO ca (0 + (↑i : Int).toNat * 2 + 1)).getD undef))))
                                          (Need
                                            (beqV 64
                                              (Value.pointer
                                                (some { block := 0, off := 0 + (↑i : Int).toNat * 2 + 1 : Addr }))
                                              (Value.pointer
                                                (some { block := 0, off := 0 + (↑i : Int).toNat * 2 + 1 : Addr })))
                                            (Need (ltI (↑i : Int) (↑len : Int))
                                              (Need
                                                (beqV 64
                                                  (Value.pointer
                                                    (some { block := 0, off := 0 + (↑i : Int).toNat * 2 : Addr }))
                                                  (Value.pointer
                                                    (some { block := 0, off := 0 + (↑i : Int).toNat * 2 : Addr })))
                                                (Need
                                                  (beqV 64 (Value.int IntKind.i64 (↑i : Int))
                                                    (Value.int IntKind.i64 (↑i : Int)))
                                                  (Need
                                                    (beqV 64
                                                      (Value.slice (some { block := 0, off := 0, spot := s1 : Addr })
                                                        len k1)
                                                      (Value.slice (some { block := 0, off := 0, spot := s1 : Addr })
                                                        len k1))
                                                    (Need
                                                      (beqV 64
                                                        (Value.slice
                                                          (some { block := 2, off := 0, spot := some 1 : Addr }) m k)
                                                        (Value.slice
                                                          (some { block := 2, off := 0, spot := some 1 : Addr }) m k))
                                                      (Alt
                                                        (!true ==
                                                            hasL
                                                              (intV
                                                                ((getO ca (0 + (↑i : Int).toNat * 2 + 1)).getD undef))
                                                              (intsAt cy 0 m))
                                                        (K AE.ret (tmps 111 [(6, Value.bool false)])
                                                          (hp [Blk.cells ca 2 false]))
                                                        (Need (ltI (↑i : Int) (↑len : Int))
                                                          (Need
                                                            (isInt IntKind.i64
                                                              ((getO ca (0 + (↑i : Int).toNat * 2 + 1)).getD undef))
                                                            ((FlatL cy ∧ True) ∧
                                                              (IsE (iE IntKind.i64) (ZP IntKind.i64) cy 0 m k ∧
                                                                  IsN
                                                                      [Value.int IntKind.i64
                                                                          (intV
                                                                            ((getO ca
                                                                                  (0 + (↑i : Int).toNat * 2 + 1)).getD
                                                                              undef))] ∧
                                                                    Need (leN m 1000) True) ∧
                                                                ∀ (x_1 : Rw),
                                                                  RowR
                                                                      (rcutF (intsAt cy 0 m)
                                                                        (intV
                                                                          ((getO ca (0 + (↑i : Int).toNat * 2 + 1)).getD
                                                                            undef)))
                                                                      x_1 →
                                                                    K AE.normal
                                                                      (tmps 111
                                                                        [(0, Value.int IntKind.i64 most),
                                                                          (1,
                                                                            Value.slice
                                                                              (some
                                                                                { block := 0, off := 0, spot := s1 :
                                                                                  Addr })
                                                                              len k1),
                                                                          (2, Value.int IntKind.i64 id),
                                                                          (7,
                                                                            Value.pointer
                                                                              (some { block := 1, off := 0 : Addr })),
                                                                          (8,
                                                                            Value.slice
                                                                              (some
                                                                                { block := 2, off := 0, spot := some 1 :
                                                                                  Addr })
                                                                              x_1.fst.length x_1.snd.snd),
                                                                          (9, Value.int IntKind.i64 last),
                                                                          (10,
                                                                            Value.int IntKind.i64
                                                                              (wr IntKind.i64 ((↑i : Int) + 1)))])
                                                                      (hp
                                                                        [Blk.cells ca 2 false,
                                                                          Blk.cells
                                                                            [Value.int IntKind.i64 mo,
                                                                              Value.int IntKind.i64 la,
                                                                              Value.slice
                                                                                (some
                                                                                  { block := 3, off := 0,
                                                                                    spot := some 1 : Addr })
                                                                                x.fst.length x.snd.snd]
                                                                            3 true,
                                                                          Blk.cells x_1.snd.fst 1 true,
                                                                          Blk.cells x.snd.fst 1 true]))))))))))))))))))
        (Alt (leI (intV (Value.int IntKind.i64 mo)) (↑m2 : Int))
          (Alt (!false == ltI (↑m : Int) most) (K AE.ret (tmps 111 [(6, Value.bool false)]) (hp [Blk.cells ca 2 false]))
            (K AE.normal
              (tmps 111
                [(0, Value.int IntKind.i64 most),
                  (1, Value.slice (some { block := 0, off := 0, spot := s1 : Addr }) len k1),
                  (2, Value.int IntKind.i64 id), (7, Value.pointer (some { block := 1, off := 0 : Addr })),
                  (8, Value.slice (some { block := 2, off := 0, spot := some 1 : Addr }) m k),
                  (9, Value.int IntKind.i64 last), (10, Value.int IntKind.i64 (wr IntKind.i64 ((↑i : Int) + 1)))])
              (hp
                [Blk.cells ca 2 false,
                  Blk.cells
                    [Value.int IntKind.i64 mo, Value.int IntKind.i64 la,
                      Value.slice (some { block := 3, off := 0, spot := some 1 : Addr }) m2 k2]
                    3 true,
                  Blk.cells cy 1 true, Blk.cells cz 1 true])))
          (Alt (eqI (intV (Value.int IntKind.i64 la)) 2147483647)
            (Alt (!false == ltI (↑m : Int) most)
              (K AE.ret (tmps 111 [(6, Value.bool false)]) (hp [Blk.cells ca 2 false]))
              (K AE.normal
                (tmps 111
                  [(0, Value.int IntKind.i64 most),
                    (1, Value.slice (some { block := 0, off := 0, spot := s1 : Addr }) len k1),
                    (2, Value.int IntKind.i64 id), (7, Value.pointer (some { block := 1, off := 0 : Addr })),
                    (8, Value.slice (some { block := 2, off := 0, spot := some 1 : Addr }) m k),
                    (9, Value.int IntKind.i64 last), (10, Value.int IntKind.i64 (wr IntKind.i64 ((↑i : Int) + 1)))])
                (hp
                  [Blk.cells ca 2 false,
                    Blk.cells
                      [Value.int IntKind.i64 mo, Value.int IntKind.i64 la,
                        Value.slice (some { block := 3, off := 0, spot := some 1 : Addr }) m2 k2]
                      3 true,
                    Blk.cells cy 1 true, Blk.cells cz 1 true])))
            (Need (leN (0 + m2 * 1) cz.length)
              (Need (leN ((m2 + 1) * 8) 1099511627776)
                (Need (leN (m2 + 1) 1099511627776)
                  (Need
                    (beqV 64 (Value.slice (some { block := 3, off := 0, spot := some 1 : Addr }) m2 k2)
                      (Value.slice (some { block := 3, off := 0, spot := some 1 : Addr }) m2 k2))
                    (Alt (!true == ltI (↑m : Int) most)
                      (K AE.ret (tmps 111 [(6, Value.bool false)]) (hp [Blk.cells ca 2 false]))
                      (Alt
                        (!eqI (intV (Value.int IntKind.i64 (wr IntKind.i64 (intV (Value.int IntKind.i64 la) + 1))))
                            (wr IntKind.i64 (last + 1)))
                        (K AE.ret (tmps 111 [(6, Value.bool false)]) (hp [Blk.cells ca 2 false]))
                        (Need (leN (0 + m * 1) cy.length)
                          (Need (leN ((m + 1) * 8) 1099511627776)
                            (Need (leN (m + 1) 1099511627776)
                              (K AE.normal
                                (tmps 111
                                  [(0, Value.int IntKind.i64 most),
                                    (1, Value.slice (some { block := 0, off := 0, spot := s1 : Addr }) len k1),
                                    (2, Value.int IntKind.i64 id),
                                    (7, Value.pointer (some { block := 1, off := 0 : Addr })),
                                    (8,
                                      Value.slice (some { block := 2, off := 0, spot := some 1 : Addr }) (m + 1)
                                        (m + 1)),
                                    (9, Value.int IntKind.i64 (wr IntKind.i64 (last + 1))),
                                    (10, Value.int IntKind.i64 (wr IntKind.i64 ((↑i : Int) + 1)))])
                                (hp
                                  [Blk.cells ca 2 false,
                                    Blk.cells
                                      [Value.int IntKind.i64 mo,
                                        Value.int IntKind.i64 (wr IntKind.i64 (intV (Value.int IntKind.i64 la) + 1)),
                                        Value.slice (some { block := 3, off := 0, spot := some 1 : Addr }) (m2 + 1)
                                          (m2 + 1)]
                                      3 true,
                                    Blk.cells
                                      (List.take (m * 1) (List.drop 0 cy) ++
                                        [Value.int IntKind.i64 (wr IntKind.i64 (last + 1))])
                                      1 true,
                                    Blk.cells
                                      (List.take (m2 * 1) (List.drop 0 cz) ++
                                        [Value.int IntKind.i64
                                            (intV
                                              (Value.int IntKind.i64
                                                (wr IntKind.i64 (intV (Value.int IntKind.i64 la) + 1))))])
                                      1 true]))))))))))))))))
  (K (AE.exit 0)
    (tmps 111
      [(2, Value.int IntKind.i64 id), (7, Value.pointer (some { block := 1, off := 0 : Addr })),
        (8, Value.slice (some { block := 2, off := 0, spot := some 1 : Addr }) m k), (9, Value.int IntKind.i64 last)])
    (hp
      [Blk.cells ca 2 false,
        Blk.cells
          [Value.int IntKind.i64 mo, Value.int IntKind.i64 la,
            Value.slice (some { block := 3, off := 0, spot := some 1 : Addr }) m2 k2]
          3 true,
        Blk.cells cy 1 true, Blk.cells cz 1 true]))) := by kernel_rfl

structure St502 where
  R : List Int
  last : Int
  cy : List Value
  m : Nat
  k : Nat
  cz : List Value
  m2 : Nat
  k2 : Nat
  i : Nat
noncomputable def cut502 (ca : List Value) (most mo id : Int) (s1 : Option Nat) (len k1 : Nat) : CutE where
  β := St502
  p := [0,1,0,1,1,1,1,1,1]
  t := fun x => T502 most s1 len k1 id x.m x.k x.last x.i
  h := fun x => H502 ca mo x.last x.cy x.m2 x.k2 x.cz
  Q := fun x K => (PoolIs x.R x.last x.i x.cy x.m x.k x.cz x.m2 x.k2 ∧ x.i ≤ len ∧ len ≤ 100) ∧ ∀ y : St502, PoolIs y.R y.last len y.cy y.m y.k y.cz y.m2 y.k2 → K (.exit 0) (tmps 111 [(2, .int .i64 id), (7, .pointer (some ⟨1,0,none⟩)), (8, s1w 2 y.m y.k), (9, .int .i64 y.last)]) (H502 ca mo y.last y.cy y.m2 y.k2 y.cz)

theorem w502 (hm : Try.prog.follows .mixedOrders = true) (ca : List Value) (most mo id : Int) (s1 : Option Nat) (len k1 : Nat) (K : Value → Heap → Prop) :
  funX Try.prog (S502 hm) (gcLKX (at0 [1]) (at0 [.cell 7 2 1, .tmp 8 1]) 1 (cutE [cut502 ca most mo id s1 len k1])) F502 body502 Try.f4 [] [] [.int .i64 most, .slice (some ⟨0,0,s1⟩) len k1, .int .i64 id] (hp [.cells ca 2 false]) K = (
Alt (ltI 100 (↑len : Int)) (True ∧ True ∧ K (Value.bool true) (hp [Blk.cells ca 2 false]))
  (FlatD [1]
      (hp
        [Blk.cells ca 2 false,
          Blk.cells
            [Value.int IntKind.i64 (if 0 > most then 0 else most), Value.int IntKind.i64 0,
              Value.slice (some { block := 3, off := 0, spot := some 1 : Addr }) 0 0]
            3 true,
          Blk.cells [] 1 true, Blk.cells [] 1 true]) ∧
    ∃ (b : St502),
      tmps 111
            [(0, Value.int IntKind.i64 most),
              (1, Value.slice (some { block := 0, off := 0, spot := s1 : Addr }) len k1), (2, Value.int IntKind.i64 id),
              (7, Value.pointer (some { block := 1, off := 0 : Addr })),
              (8, Value.slice (some { block := 2, off := 0, spot := some 1 : Addr }) 0 0), (9, Value.int IntKind.i64 0),
              (10, Value.int IntKind.i64 0)] =
          tmps 111
            [(0, Value.int IntKind.i64 most),
              (1, Value.slice (some { block := 0, off := 0, spot := s1 : Addr }) len k1), (2, Value.int IntKind.i64 id),
              (7, Value.pointer (some { block := 1, off := 0 : Addr })),
              (8, Value.slice (some { block := 2, off := 0, spot := some 1 : Addr }) b.m b.k),
              (9, Value.int IntKind.i64 b.last), (10, Value.int IntKind.i64 (↑b.i : Int))] ∧
        hp
              [Blk.cells ca 2 false,
                Blk.cells
                  [Value.int IntKind.i64 (if 0 > most then 0 else most), Value.int IntKind.i64 0,
                    Value.slice (some { block := 3, off := 0, spot := some 1 : Addr }) 0 0]
                  3 true,
                Blk.cells [] 1 true, Blk.cells [] 1 true] =
            hp
              [Blk.cells ca 2 false,
                Blk.cells
                  [Value.int IntKind.i64 mo, Value.int IntKind.i64 b.last,
                    Value.slice (some { block := 3, off := 0, spot := some 1 : Addr }) b.m2 b.k2]
                  3 true,
                Blk.cells b.cy 1 true, Blk.cells b.cz 1 true] ∧
          (PoolIs b.R b.last b.i b.cy b.m b.k b.cz b.m2 b.k2 ∧ b.i.le len ∧ len.le 100) ∧
            ∀ (y : St502),
              PoolIs y.R y.last len y.cy y.m y.k y.cz y.m2 y.k2 →
                (FlatL y.cz ∧ True) ∧
                  (IsE (iE IntKind.i64) (ZP IntKind.i64) y.cz 0 y.m2 y.k2 ∧ Need (leN y.m2 1000000000) True) ∧
                    (FlatL (eC (iE IntKind.i64) (intsAt y.cz 0 y.m2)) ∧ FlatL y.cy ∧ True) ∧
                      (IsE (iE IntKind.i64) (ZP IntKind.i64) (eC (iE IntKind.i64) (intsAt y.cz 0 y.m2)) 0 y.m2 y.m2 ∧
                          IsE (iE IntKind.i64) (ZP IntKind.i64) y.cy 0 y.m y.k) ∧
                        Alt (sameI (intsAt (eC (iE IntKind.i64) (intsAt y.cz 0 y.m2)) 0 y.m2) (intsAt y.cy 0 y.m))
                          ((FlatL y.cz ∧ True) ∧
                            (IsE (iE IntKind.i64) (ZP IntKind.i64) y.cz 0 y.m2 y.k2 ∧ IsUp (intsAt y.cz 0 y.m2)) ∧
                              ∀ (x : Nat × Bool),
                                FindR (intsAt y.cz 0 y.m2) id x →
                                  (FlatL y.cy ∧ True) ∧
                                    (IsE (iE IntKind.i64) (ZP IntKind.i64) y.cy 0 y.m y.k ∧
                                        IsN [Value.int IntKind.i64 id]) ∧
                                      Alt (x.snd == hasL id (intsAt y.cy 0 y.m))
                                        (Alt (eqI (intV (Value.int IntKind.i64 y.last)) y.last)
                                          (True ∧ True ∧ K (Value.bool true) (hp [Blk.cells ca 2 false]))
                                          (K (Value.bool false) (hp [Blk.cells ca 2 false])))
                                        (K (Value.bool false) (hp [Blk.cells ca 2 false])))
                          (K (Value.bool false) (hp [Blk.cells ca 2 false])))) := by kernel_rfl

end Go.Proofs.Ytocndbldmkjcnaa
