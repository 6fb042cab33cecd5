/- Proved: what functions of the program come to, by their conditions over the abstract machine. Conditions: those that each theorem states. -/
import Derived.Test.YtfgiifppapopnaaAm4
import Derived.Test.YtfgiifppapopnaaProg
import Derived.WalkKit
import Derived.ProofKit
import Derived.Laws.BitsLemmas
import Derived.Laws.Externs
set_option linter.unusedVariables false
set_option linter.unusedSimpArgs false
namespace Go.Proofs.Ytfgiifppapopnaa
open Go.RowKit Go.Proofs.Ytfgiifppapopnaa.AM
set_option maxRecDepth 100000
set_option maxHeartbeats 4000000
noncomputable def S0 : Book := fun _ => none
theorem named : (Try.prog.funcs.toList.all fun fn => !(fn.name == "runtime.NumGoroutine")) = true := by decide +kernel
theorem plain : Plain Try.prog := fun f fn hf _ hn => by
  have h1 := List.all_eq_true.1 named fn (by simpa using Array.mem_of_getElem? hf)
  rw [hn] at h1
  exact absurd h1 (by decide)
theorem sums0 : SumsOk Try.prog S0.sums := fun f s hs => by cases hs
theorem sure0 (hmix : Try.prog.follows .mixedOrders = true) : Sure Try.prog S0 := ⟨hmix, plain, sums0⟩
theorem f64_of {x : Nat} (h : (Lit.float .f64 x).wf = true) : x < 18446744073709551616 := by simpa [Lit.wf] using h
theorem u64_of {x : Int} (h : (Lit.int .u64 x).wf = true) : 0 ≤ x ∧ x < 18446744073709551616 := by
  simp [Lit.wf, IntKind.min, IntKind.max, IntKind.bits, IntKind.signed] at h; omega
theorem wr_u64 (n : Int) (h0 : 0 ≤ n) (h1 : n < 18446744073709551616) : wr .u64 n = n := by
  rw [wr_eq]; simp [IntKind.wrap, IntKind.bits, IntKind.signed]; omega
theorem ofInt_nat (n : Nat) : BitVec.ofInt 64 (n : Int) = BitVec.ofNat 64 n := by simp
/-- the highest bit -/
theorem and_high (n : Nat) (h : n < 18446744073709551616) : bitsW .and .u64 (n : Int) 9223372036854775808 = if n < 9223372036854775808 then 0 else 9223372036854775808 := by
  have e : ((BitVec.ofInt 64 (n : Int)) &&& BitVec.ofInt 64 9223372036854775808).toNat = if n < 9223372036854775808 then 0 else 9223372036854775808 := by
    have e1 : BitVec.ofInt 64 9223372036854775808 = BitVec.twoPow 64 63 := by decide
    rw [ofInt_nat, e1, BitVec.and_twoPow]
    have hg : (BitVec.ofNat 64 n).getLsbD 63 = n.testBit 63 := by
      simp only [BitVec.getLsbD, BitVec.toNat_ofNat]
      rw [Nat.mod_eq_of_lt (by simpa using h)]
    rw [hg]
    by_cases hn : n < 9223372036854775808
    · rw [Nat.testBit_lt_two_pow (by simpa using hn), if_pos hn]; rfl
    · rw [if_neg hn, show n.testBit 63 = true from by
        rw [Nat.testBit_eq_decide_div_mod_eq, decide_eq_true_iff]; omega]
      decide
  show wr .u64 (((BitVec.ofInt 64 (n : Int)) &&& BitVec.ofInt 64 9223372036854775808).toNat : Int) = _
  rw [e]
  split
  · rfl
  · rfl
theorem or_high (n : Nat) (h : n < 9223372036854775808) : bitsW .or .u64 (n : Int) 9223372036854775808 = (n : Int) + 9223372036854775808 := by
  have e : ((BitVec.ofInt 64 (n : Int)) ||| BitVec.ofInt 64 9223372036854775808).toNat = n + 9223372036854775808 := by
    rw [ofInt_nat, show (9223372036854775808 : Int) = ((9223372036854775808 : Nat) : Int) from rfl, ofInt_nat, BitVec.toNat_or, BitVec.toNat_ofNat, BitVec.toNat_ofNat, Nat.mod_eq_of_lt (by simp; omega)]
    rw [show 9223372036854775808 % 2 ^ 64 = 2 ^ 63 * 1 by decide, Nat.or_comm, Nat.two_pow_add_eq_or_of_lt (by simpa using h) 1 |>.symm]
    omega
  show wr .u64 (((BitVec.ofInt 64 (n : Int)) ||| BitVec.ofInt 64 9223372036854775808).toNat : Int) = _
  rw [e, wr_u64 _ (by omega) (by omega)]; rfl
theorem not_all (n : Nat) (h : n < 18446744073709551616) : (BitVec.ofInt 64 18446744073709551615 ^^^ BitVec.ofInt 64 (n : Int)).toNat = 18446744073709551615 - n := by
  have e1 : BitVec.ofInt 64 18446744073709551615 = BitVec.allOnes 64 := by decide
  rw [e1, BitVec.allOnes_xor, BitVec.toNat_not, ofInt_nat, BitVec.toNat_ofNat, Nat.mod_eq_of_lt (by simpa using h)]
end Go.Proofs.Ytfgiifppapopnaa

namespace Go.Proofs.Ytfgiifppapopnaa
open Go.RowKit Go.Proofs.Ytfgiifppapopnaa.AM
set_option maxRecDepth 100000
set_option maxHeartbeats 4000000
noncomputable def body745 : Code := (Try.f44.body).getD .skip
def F745 : List Nat → Option (List Nat) := fun p => match p with
  | [1] => some [2, 3, 4]
  | [1, 1] => some [2, 3, 7]
  | [1, 0, 1, 1] => some [2, 3, 7, 17]
  | [1, 0, 1, 0, 1, 1] => some [6]
  | [1, 1, 1] => some [2, 3, 7]
  | [1, 0, 1, 1, 1] => some [2, 3, 7, 19]
  | [1, 0, 1, 0, 1, 1, 1] => some [2, 3, 7, 19, 20]
  | [1, 0, 1, 0, 1, 0, 1, 1, 1] => some [6]
  | [1, 1, 1, 0, 1, 0, 1, 1, 1] => some [3, 7, 19, 34]
  | [1, 0, 1, 1, 1, 0, 1, 0, 1, 1, 1] => some [6]
  | [1, 1, 1, 1, 1, 0, 1, 0, 1, 1, 1] => some [3, 7, 46]
  | [1, 0, 1, 1, 1, 1, 1, 0, 1, 0, 1, 1, 1] => some [6]
  | [1, 1, 1, 1] => some [3]
  | [1, 1, 1, 1, 1] => some [6]
  | _ => none
noncomputable def body758 : Code := (Try.f57.body).getD .skip
def F758 : List Nat → Option (List Nat) := fun p => match p with
  | [1] => some [0, 1]
  | [1, 1] => some [3]
  | _ => none
noncomputable def body744 : Code := (Try.f43.body).getD .skip
def F744 : List Nat → Option (List Nat) := fun p => match p with
  | [1] => some [1, 2]
  | [1, 1] => some [3]
  | _ => none
noncomputable def body757 : Code := (Try.f56.body).getD .skip
def F757 : List Nat → Option (List Nat) := fun p => match p with
  | [1] => some [0, 1]
  | [1, 0, 1] => some [0, 1, 7, 8]
  | [1, 0, 0, 1, 0, 1] => some [0, 1, 7, 8, 9]
  | [1, 0, 1, 0, 0, 1, 0, 1] => some []
  | [1, 1, 0, 0, 1, 0, 1] => some [0, 1, 7, 8]
  | [1, 0, 0, 1, 1, 0, 0, 1, 0, 1] => some [0, 1, 5, 7, 8]
  | [1, 1, 0, 0, 1, 1, 0, 0, 1, 0, 1] => some [0, 1, 5, 7, 8, 16]
  | [1, 0, 1, 1, 0, 0, 1, 1, 0, 0, 1, 0, 1] => some [4]
  | [1, 1, 1, 0, 0, 1, 0, 1] => some [0, 1, 7, 8]
  | [1, 1] => some []
  | [1, 1, 1] => some [4]
  | _ => none
noncomputable def S745 : Book := addI Try.prog [(57, Try.f57, body758)] S0
noncomputable def agS (op s0 s1 s2 s3 a b : Int) : Value := .agg #[.int .i64 op, .int .u64 s0, .int .u64 s1, .int .u64 s2, .int .u64 s3, .int .i64 a, .int .i64 b]

theorem w745 (op s0 s1 s2 s3 a b n : Int) (last : Bool) (K : Value → Heap → Prop) :
  funX Try.prog S745 noLoop F745 body745 Try.f44 [] [] [agS op s0 s1 s2 s3 a b, .int .i64 n, .bool last] (hp []) K = (
Alt (!eqI (intV (Value.int IntKind.i64 op)) 1) (Alt (!(eqI (intV (Value.int IntKind.u64 s0)) 0 && (eqI (intV (Value.int IntKind.u64 s1)) 0 && (eqI (intV (Value.int IntKind.u64 s2)) 0 && (eqI (intV (Value.int IntKind.u64
s3)) 0 && true))))) (K (Value.bool false) (hp [])) (Alt (eqI (intV (Value.int IntKind.i64 op)) 1) (Alt (eqI (intV (Value.int IntKind.i64 a)) 0) (Alt (eqI (intV (Value.int IntKind.i64 b)) 0) (K (Value.bool !last) (hp []))
(K (Value.bool false) (hp []))) (K (Value.bool false) (hp []))) (Alt (eqI (intV (Value.int IntKind.i64 op)) 2) (Alt (leI 0 (intV (Value.int IntKind.i64 a))) (Alt (ltI (intV (Value.int IntKind.i64 a)) (intV (Value.int
IntKind.i64 n))) (Alt (leI 0 (intV (Value.int IntKind.i64 b))) (K (Value.bool (ltI (intV (Value.int IntKind.i64 b)) (intV (Value.int IntKind.i64 n)))) (hp [])) (K (Value.bool false) (hp []))) (K (Value.bool false) (hp
[]))) (K (Value.bool false) (hp []))) (Alt (eqI (intV (Value.int IntKind.i64 op)) 3) (Alt (leI 0 (intV (Value.int IntKind.i64 a))) (Alt (ltI (intV (Value.int IntKind.i64 a)) (intV (Value.int IntKind.i64 n))) (K
(Value.bool (eqI (intV (Value.int IntKind.i64 b)) 0)) (hp [])) (K (Value.bool false) (hp []))) (K (Value.bool false) (hp []))) (Alt (eqI (intV (Value.int IntKind.i64 op)) 4) (Alt (eqI (intV (Value.int IntKind.i64 a)) 0)
(K (Value.bool (eqI (intV (Value.int IntKind.i64 b)) 0)) (hp [])) (K (Value.bool false) (hp []))) (K (Value.bool false) (hp []))))))) (Alt (eqI (intV (Value.int IntKind.i64 op)) 1) (Alt (eqI (intV (Value.int IntKind.i64
a)) 0) (Alt (eqI (intV (Value.int IntKind.i64 b)) 0) (K (Value.bool !last) (hp [])) (K (Value.bool false) (hp []))) (K (Value.bool false) (hp []))) (Alt (eqI (intV (Value.int IntKind.i64 op)) 2) (Alt (leI 0 (intV
(Value.int IntKind.i64 a))) (Alt (ltI (intV (Value.int IntKind.i64 a)) (intV (Value.int IntKind.i64 n))) (Alt (leI 0 (intV (Value.int IntKind.i64 b))) (K (Value.bool (ltI (intV (Value.int IntKind.i64 b)) (intV (Value.int
IntKind.i64 n)))) (hp [])) (K (Value.bool false) (hp []))) (K (Value.bool false) (hp []))) (K (Value.bool false) (hp []))) (Alt (eqI (intV (Value.int IntKind.i64 op)) 3) (Alt (leI 0 (intV (Value.int IntKind.i64 a))) (Alt
(ltI (intV (Value.int IntKind.i64 a)) (intV (Value.int IntKind.i64 n))) (K (Value.bool (eqI (intV (Value.int IntKind.i64 b)) 0)) (hp [])) (K (Value.bool false) (hp []))) (K (Value.bool false) (hp []))) (Alt (eqI (intV
(Value.int IntKind.i64 op)) 4) (Alt (eqI (intV (Value.int IntKind.i64 a)) 0) (K (Value.bool (eqI (intV (Value.int IntKind.i64 b)) 0)) (hp [])) (K (Value.bool false) (hp []))) (K (Value.bool false) (hp []))))))) := by kernel_rfl

/-- a step -/
structure St where
  fo : Int
  f0 : Int
  f1 : Int
  f2 : Int
  f3 : Int
  fa : Int
  fb : Int
def stF (x : St) : List Value := [.int .i64 x.fo, .int .u64 x.f0, .int .u64 x.f1, .int .u64 x.f2, .int .u64 x.f3, .int .i64 x.fa, .int .i64 x.fb]
def stC (L : List St) : List Value := L.flatMap stF
/-- cells read as a step -/
noncomputable def stD (cs : List Value) (i : Nat) : St := ⟨intV ((getO cs i).getD undef), intV ((getO cs (i + 1)).getD undef), intV ((getO cs (i + 2)).getD undef), intV ((getO cs (i + 3)).getD undef), intV ((getO cs (i + 4)).getD undef), intV ((getO cs (i + 5)).getD undef), intV ((getO cs (i + 6)).getD undef)⟩
noncomputable def stsAt (cs : List Value) (n : Nat) : List St := (List.range n).map fun i => stD cs (i * 7)
structure StOk (x : St) : Prop where
  ko : -9223372036854775808 ≤ x.fo ∧ x.fo < 9223372036854775808
  k0 : 0 ≤ x.f0 ∧ x.f0 < 18446744073709551616
  k1 : 0 ≤ x.f1 ∧ x.f1 < 18446744073709551616
  k2 : 0 ≤ x.f2 ∧ x.f2 < 18446744073709551616
  k3 : 0 ≤ x.f3 ∧ x.f3 < 18446744073709551616
  ka : -9223372036854775808 ≤ x.fa ∧ x.fa < 9223372036854775808
  kb : -9223372036854775808 ≤ x.fb ∧ x.fb < 9223372036854775808
/-- a slice's first steps -/
inductive IsSt (cs : List Value) (n : Nat) : Prop
  | mk (L : List St) (h : cs = stC L) (hn : n ≤ L.length) (ok : ∀ x ∈ L, StOk x) (short : n ≤ 1000000) : IsSt cs n
/-- may it stand in a program of that length? -/
def rightF (x : St) (n : Int) (last : Bool) : Bool :=
  bif !eqI x.fo 1 && !(eqI x.f0 0 && (eqI x.f1 0 && (eqI x.f2 0 && (eqI x.f3 0 && true)))) then false else
  bif eqI x.fo 1 then eqI x.fa 0 && (eqI x.fb 0 && !last) else
  bif eqI x.fo 2 then leI 0 x.fa && (ltI x.fa n && (leI 0 x.fb && ltI x.fb n)) else
  bif eqI x.fo 3 then leI 0 x.fa && (ltI x.fa n && eqI x.fb 0) else
  eqI x.fo 4 && (eqI x.fa 0 && eqI x.fb 0)
inductive IsAg (cs : Array Value) : Prop
  | mk (x : St) (h : cs = (stF x).toArray) : IsAg cs
noncomputable def rightC : Ctr where
  pre := fun args blks => match args, blks with
    | [.agg cs, .int .i64 _, .bool _], [] => IsAg cs
    | _, _ => False
  val := fun args blks => match args, blks with
    | [.agg cs, .int .i64 n, .bool last], [] => .bool (rightF (stD cs.toList 0) n last)
    | _, _ => undef
  new := fun _ _ => []
theorem sure745 (hm : Try.prog.follows .mixedOrders = true) : Sure Try.prog S745 := Sure.addI (sure0 hm) (l := [(57, Try.f57, body758)]) ⟨⟨Try.func57, rfl⟩, trivial⟩
theorem right_says (hm : Try.prog.follows .mixedOrders = true) : rightC.Holds Try.prog 44 := by
  intro args blks hf hpre
  refine ⟨trivial, ?_⟩
  simp only [rightC] at hpre ⊢
  split at hpre
  · rename_i cs n last
    obtain ⟨x, rfl⟩ := hpre
    have hF : FlatD [] (hp []) := FlatD.hp trivial
    refine (sure745 hm).funX F745 body745 [] [] Try.func44 rfl noLoops ?_
    show funX Try.prog S745 noLoop F745 body745 Try.f44 [] [] [agS x.fo x.f0 x.f1 x.f2 x.f3 x.fa x.fb, .int .i64 n, .bool last] (hp []) _
    rw [w745]
    simp only [intV]
    rw [show stD (stF x).toArray.toList 0 = x from rfl]
    have fin : ∀ b : Bool, b = rightF x n last → FlatD [] (hp []) ∧ isJunk (Value.bool b) = false ∧ Value.bool b = Value.bool (rightF x n last) ∧ hp [] = hp ([] ++ []) := fun b h => ⟨hF, rfl, by rw [h], rfl⟩
    unfold rightF at fin ⊢
    have red : ∀ (c : Bool) (A B : Prop), (c = true → A) → (c = false → B) → Alt c A B := fun c A B h1 h2 => Alt_iff.2 ⟨h1, h2⟩
    repeat' (refine red _ _ _ (fun h => ?_) (fun h => ?_))
    all_goals refine fin _ ?_
    all_goals first | (simp only [*]; rfl) | (simp only [*]; done) | (simp_all; done) | skip
  · exact hpre.elim
/-- the first step that may not stand -/
def idxS (n : Int) : List St → Int → Int
  | [], _ => -1
  | x :: t, i => bif rightF x n false then idxS n t (i + 1) else i
noncomputable def fnC : Value := .func (.func 43) #[] #[.pointer (some ⟨1,0,none⟩)]
noncomputable def idxW : CtrW where
  D := [1]
  W := []
  E := [1]
  pre := fun args blks => match args, blks with
    | [.slice (some ⟨0,0,_⟩) m _, fn], [.cells cs 7 _, .cells [.slice (some ⟨0,0,_⟩) n _] 1 _] => fn = fnC ∧ IsSt cs n ∧ Need (leN m n) True
    | _, _ => False
  val := fun args blks => match args, blks with
    | [.slice (some ⟨0,0,_⟩) m _, fn], [.cells cs 7 _, .cells [.slice (some ⟨0,0,_⟩) n _] 1 _] => .int .i64 (idxS n (stsAt cs m) 0)
    | _, _ => undef
  out := fun args blks => blks
noncomputable def S757 : Book := addI Try.prog [(43, Try.f43, body744)] (bookOf [(44, rightC)])
theorem sure757 (hm : Try.prog.follows .mixedOrders = true) : Sure Try.prog S757 := Sure.addI (S := bookOf [(44, rightC)]) ⟨hm, plain, bookOf_ok (l := [(44, rightC)]) ⟨right_says hm, trivial⟩⟩ (l := [(43, Try.f43, body744)]) ⟨⟨Try.func43, rfl⟩, trivial⟩
noncomputable def H757 (sp : Option Nat) (n k : Nat) (cs : List Value) (own own2 : Bool) : Heap := hp [.cells cs 7 own, .cells [.slice (some ⟨0,0,sp⟩) n k] 1 own2]
noncomputable def T757 (sq : Option Nat) (m k i : Nat) : List Value := tmps 19 [(0, .slice (some ⟨0,0,sq⟩) m k), (1, fnC), (7, .int .i64 m), (8, .int .i64 i)]

theorem r757 (sp sq : Option Nat) (n m k k2 i : Nat) (cs : List Value) (own own2 : Bool) (K : Post) :
  roundX Try.prog S757 noLoop F757 body757 2 [1] [] [1] [] [0,1,7,8] [0,0,1,0,1] (T757 sq m k2 i) (H757 sp n k cs own own2) K = (
Alt (ltI (↑i : Int) (↑m : Int)) (Need (ltI (↑i : Int) (↑m : Int)) (Need (isInt IntKind.i64 ((getO cs (0 + (↑i : Int).toNat * 7)).getD undef)) (Need (isInt IntKind.u64 ((getO cs (0 + (↑i : Int).toNat * 7 + 1)).getD
undef)) (Need (isInt IntKind.u64 ((getO cs (0 + (↑i : Int).toNat * 7 + 1 + 1)).getD undef)) (Need (isInt IntKind.u64 ((getO cs (0 + (↑i : Int).toNat * 7 + 1 + 1 + 1)).getD undef)) (Need (isInt IntKind.u64 ((getO cs (0 +
(↑i : Int).toNat * 7 + 1 + 1 + 1 + 1)).getD undef)) (Need (isInt IntKind.i64 ((getO cs (0 + (↑i : Int).toNat * 7 + 1 + 1 + 1 + 1 + 1)).getD undef)) (Need (isInt IntKind.i64 ((getO cs (0 + (↑i : Int).toNat * 7 + 1 + 1 + 1
+ 1 + 1 + 1)).getD undef)) (True ∧ IsAg #[Value.int IntKind.i64 (intV (Value.int IntKind.i64 (intV ((getO cs (0 + (↑i : Int).toNat * 7)).getD undef)))), Value.int IntKind.u64 (intV (Value.int IntKind.u64 (intV ((getO cs
(0 + (↑i : Int).toNat * 7 + 1)).getD undef)))), Value.int IntKind.u64 (intV (Value.int IntKind.u64 (intV ((getO cs (0 + (↑i : Int).toNat * 7 + 1 + 1)).getD undef)))), Value.int IntKind.u64 (intV (Value.int IntKind.u64
(intV ((getO cs (0 + (↑i : Int).toNat * 7 + 1 + 1 + 1)).getD undef)))), Value.int IntKind.u64 (intV (Value.int IntKind.u64 (intV ((getO cs (0 + (↑i : Int).toNat * 7 + 1 + 1 + 1 + 1)).getD undef)))), Value.int IntKind.i64
(intV (Value.int IntKind.i64 (intV ((getO cs (0 + (↑i : Int).toNat * 7 + 1 + 1 + 1 + 1 + 1)).getD undef)))), Value.int IntKind.i64 (intV (Value.int IntKind.i64 (intV ((getO cs (0 + (↑i : Int).toNat * 7 + 1 + 1 + 1 + 1 +
1 + 1)).getD undef))))] ∧ Alt (!rightF (stD [Value.int IntKind.i64 (intV (Value.int IntKind.i64 (intV ((getO cs (0 + (↑i : Int).toNat * 7)).getD undef)))), Value.int IntKind.u64 (intV (Value.int IntKind.u64 (intV ((getO
cs (0 + (↑i : Int).toNat * 7 + 1)).getD undef)))), Value.int IntKind.u64 (intV (Value.int IntKind.u64 (intV ((getO cs (0 + (↑i : Int).toNat * 7 + 1 + 1)).getD undef)))), Value.int IntKind.u64 (intV (Value.int IntKind.u64
(intV ((getO cs (0 + (↑i : Int).toNat * 7 + 1 + 1 + 1)).getD undef)))), Value.int IntKind.u64 (intV (Value.int IntKind.u64 (intV ((getO cs (0 + (↑i : Int).toNat * 7 + 1 + 1 + 1 + 1)).getD undef)))), Value.int IntKind.i64
(intV (Value.int IntKind.i64 (intV ((getO cs (0 + (↑i : Int).toNat * 7 + 1 + 1 + 1 + 1 + 1)).getD undef)))), Value.int IntKind.i64 (intV (Value.int IntKind.i64 (intV ((getO cs (0 + (↑i : Int).toNat * 7 + 1 + 1 + 1 + 1 +
1 + 1)).getD undef))))] 0) (↑n : Int) false) (K AE.ret (tmps 19 [(4, Value.int IntKind.i64 (↑i : Int))]) (hp [Blk.cells cs 7 own, Blk.cells [Value.slice (some { block := 0, off := 0, spot := sp : Addr }) n k] 1 own2]))
(K AE.normal (tmps 19 [(0, Value.slice (some { block := 0, off := 0, spot := sq : Addr }) m k2), (1, Value.func (Fn.func 43) #[] #[Value.pointer (some { block := 1, off := 0 : Addr })]), (7, Value.int IntKind.i64 (↑m :
Int)), (8, Value.int IntKind.i64 (wr IntKind.i64 ((↑i : Int) + 1)))]) (hp [Blk.cells cs 7 own, Blk.cells [Value.slice (some { block := 0, off := 0, spot := sp : Addr }) n k] 1 own2]))))))))))) (K (AE.exit 0) (tmps 19 [])
(hp [Blk.cells cs 7 own, Blk.cells [Value.slice (some { block := 0, off := 0, spot := sp : Addr }) n k] 1 own2]))) := by kernel_rfl

noncomputable def Q757 (sp sq : Option Nat) (n m k k2 : Nat) (cs : List Value) (own own2 : Bool) (r : Int) (K : Post) : Prop := (r = -1 → K (.exit 0) (tmps 19 []) (H757 sp n k cs own own2)) ∧ (r ≠ -1 → K .ret (tmps 19 [(4, .int .i64 r)]) (H757 sp n k cs own own2))
noncomputable def cut757 (sp sq : Option Nat) (n m k k2 : Nat) (cs : List Value) (own own2 : Bool) (r : Int) : CutE where
  β := Nat
  p := [0,1,0,1]
  t := fun _ => T757 sq m k2 0
  h := fun _ => H757 sp n k cs own own2
  Q := fun _ K => Q757 sp sq n m k k2 cs own own2 r K

theorem w757 (sp sq : Option Nat) (n m k k2 : Nat) (cs : List Value) (own own2 : Bool) (r : Int) (K : Value → Heap → Prop) :
  funX Try.prog S757 (gcLKX (at0 [1]) (at0 []) 2 (cutE [cut757 sp sq n m k k2 cs own own2 r])) F757 body757 Try.f56 [1] [] [.slice (some ⟨0,0,sq⟩) m k2, fnC] (H757 sp n k cs own own2) K = (
FlatD [1] (hp [Blk.cells cs 7 own, Blk.cells [Value.slice (some { block := 0, off := 0, spot := sp : Addr }) n k] 1 own2]) ∧ ∃ (b : Nat), tmps 19 [(0, Value.slice (some { block := 0, off := 0, spot := sq : Addr }) m k2),
(1, Value.func (Fn.func 43) #[] #[Value.pointer (some { block := 1, off := 0 : Addr })]), (7, Value.int IntKind.i64 (↑m : Int)), (8, Value.int IntKind.i64 0)] = tmps 19 [(0, Value.slice (some
{ block := 0, off := 0, spot := sq : Addr }) m k2), (1, Value.func (Fn.func 43) #[] #[Value.pointer (some { block := 1, off := 0 : Addr })]), (7, Value.int IntKind.i64 (↑m : Int)), (8, Value.int IntKind.i64 0)] ∧ hp
[Blk.cells cs 7 own, Blk.cells [Value.slice (some { block := 0, off := 0, spot := sp : Addr }) n k] 1 own2] = hp [Blk.cells cs 7 own, Blk.cells [Value.slice (some { block := 0, off := 0, spot := sp : Addr }) n k] 1 own2]
∧ (r = -1 → K (Value.int IntKind.i64 (-1)) (hp [Blk.cells cs 7 own, Blk.cells [Value.slice (some { block := 0, off := 0, spot := sp : Addr }) n k] 1 own2])) ∧ ((r = -1 → False) → K (Value.int IntKind.i64 r) (hp
[Blk.cells cs 7 own, Blk.cells [Value.slice (some { block := 0, off := 0, spot := sp : Addr }) n k] 1 own2]))) := by kernel_rfl

end Go.Proofs.Ytfgiifppapopnaa

namespace Go.Proofs.Ytfgiifppapopnaa
open Go.RowKit Go.Proofs.Ytfgiifppapopnaa.AM
set_option maxRecDepth 100000
set_option maxHeartbeats 4000000
theorem stC_drop : ∀ (i : Nat) (L : List St), (stC L).drop (i * 7) = stC (L.drop i) := by
  intro i
  induction i with
  | zero => intro L; simp
  | succ i ih =>
    intro L
    cases L with
    | nil => simp [stC]
    | cons x L =>
      rw [List.drop_succ_cons, ← ih L, show (i + 1) * 7 = 7 + i * 7 by omega, ← List.drop_drop]
      rfl
theorem stC_len (L : List St) : (stC L).length = L.length * 7 := by
  induction L with
  | nil => rfl
  | cons x L ih => simp only [stC, List.flatMap_cons, List.length_append] at ih ⊢; rw [ih]; simp [stF]; omega
theorem stC_flat (L : List St) : FlatL (stC L) := by
  refine ⟨fun v hv => ?_⟩
  simp only [stC, List.mem_flatMap] at hv
  obtain ⟨x, _, hx⟩ := hv
  simp [stF] at hx
  rcases hx with rfl | rfl | rfl | rfl | rfl | rfl | rfl <;> rfl
theorem st_nth {L : List St} {i : Nat} {x : St} (h : L[i]? = some x) (j : Nat) (hj : j < 7) : getO (stC L) (i * 7 + j) = (stF x)[j]? := by
  rw [getO_eq, ← List.getElem?_drop, stC_drop]
  have : L.drop i = x :: L.drop (i + 1) := by
    have hi := (List.getElem?_eq_some_iff.1 h)
    obtain ⟨hi, rfl⟩ := hi
    exact List.drop_eq_getElem_cons hi
  rw [this]
  simp only [stC, List.flatMap_cons]
  rw [List.getElem?_append_left (by simp [stF]; omega)]
theorem st_get {L : List St} {i : Nat} {x : St} (h : L[i]? = some x) : getO (stC L) (i * 7) = some (.int .i64 x.fo) ∧ getO (stC L) (i * 7 + 1) = some (.int .u64 x.f0) ∧ getO (stC L) (i * 7 + 1 + 1) = some (.int .u64 x.f1) ∧ getO (stC L) (i * 7 + 1 + 1 + 1) = some (.int .u64 x.f2) ∧ getO (stC L) (i * 7 + 1 + 1 + 1 + 1) = some (.int .u64 x.f3) ∧ getO (stC L) (i * 7 + 1 + 1 + 1 + 1 + 1) = some (.int .i64 x.fa) ∧ getO (stC L) (i * 7 + 1 + 1 + 1 + 1 + 1 + 1) = some (.int .i64 x.fb) :=
  ⟨st_nth h 0 (by omega), st_nth h 1 (by omega), st_nth h 2 (by omega), st_nth h 3 (by omega), st_nth h 4 (by omega), st_nth h 5 (by omega), st_nth h 6 (by omega)⟩
theorem stD_get {L : List St} {i : Nat} {x : St} (h : L[i]? = some x) : stD (stC L) (i * 7) = x := by
  unfold stD
  rw [(st_nth h 1 (by omega)), (st_nth h 2 (by omega)), (st_nth h 3 (by omega)), (st_nth h 4 (by omega)), (st_nth h 5 (by omega)), (st_nth h 6 (by omega)), show i * 7 = i * 7 + 0 from rfl, (st_nth h 0 (by omega))]
  rfl
theorem stsAt_eq {L : List St} {n : Nat} (hn : n ≤ L.length) : stsAt (stC L) n = L.take n := by
  unfold stsAt
  apply List.ext_getElem?
  intro i
  rw [List.getElem?_map]
  by_cases hi : i < n
  · rw [List.getElem?_range hi, List.getElem?_take_of_lt hi]
    have h := List.getElem?_eq_getElem (show i < L.length by omega)
    rw [h, Option.map_some, stD_get h]
  · rw [List.getElem?_eq_none (by simp; omega), List.getElem?_eq_none (by simp; omega)]; rfl
theorem idxS_ge (n : Int) : ∀ (t : List St) (i : Int), 0 ≤ i → idxS n t i = -1 ∨ i ≤ idxS n t i := by
  intro t
  induction t with
  | nil => intro i _; exact .inl rfl
  | cons x t ih =>
    intro i hi
    unfold idxS
    cases rightF x n false with
    | false => exact .inr (Int.le_refl _)
    | true =>
      rcases ih (i + 1) (by omega) with h | h
      · exact .inl h
      · exact .inr (by simp only [cond_true]; omega)
theorem idx_loop (hm : Try.prog.follows .mixedOrders = true) (L : List St) (sp sq : Option Nat) (n m k k2 : Nat) (own own2 : Bool) (hn : n ≤ L.length) (hmn : m ≤ n) (hs : n ≤ 1000000) (r : Int) (K : Post) (hK : Q757 sp sq n m k k2 (stC L) own own2 r K) : ∀ (t : List St) (i : Nat), (L.take m).drop i = t → idxS n t i = r →
    LSays Try.prog 2 (sub body757 [0,0,1,0,1]) (T757 sq m k2 i) (H757 sp n k (stC L) own own2) K := by
  have hF : FlatD [1] (hp [.cells (stC L) 7 own, .cells [.slice (some ⟨0,0,sp⟩) n k] 1 own2]) := FlatD.hp ⟨stC_flat L, rfl, trivial⟩
  unfold Q757 H757 at hK
  intro t
  induction t with
  | nil =>
    intro i ht hr
    have hge : ¬ ((i : Int) < (m : Int)) := by have := List.drop_eq_nil_iff.1 ht; rw [List.length_take] at this; omega
    refine (sure757 hm).roundX F757 noLoops [1] [] [1] [] [0,1,7,8] ?_
    rw [r757]
    simp only [hge, hF, Alt_iff, Need_iff, ltI_eq, leI_eq, eqI_eq, leN_eq, eqN_eq, decide_eq_true_eq, decide_eq_false_iff_not, decide_true, decide_false, true_and, and_true, Bool.true_eq_false, Bool.false_eq_true, false_implies, true_implies, implies_true, not_true_eq_false, not_false_eq_true, Bool.not_eq_true', Bool.not_eq_false', Nat.zero_add, Nat.add_zero, Nat.sub_zero, Nat.zero_mul, Nat.mul_one, Int.toNat_natCast, List.drop_zero, beqV_int, beqV_sl, beqV_str, beqV_bool, beqV_ptr, beqV_flt, beqV_agg, beqV_tuple, List.all_cons, List.all_nil, Bool.and_self, Bool.and_true, Bool.true_and, Nat.le_refl, Int.le_refl, Nat.zero_le, Option.getD_some, isStr, strV, isInt, intV, isBool, boolV, kindEq, at0, isJunk, Option.isSome_some, Option.isSome_none, if_true, if_false, Nat.add_sub_cancel_left, Nat.add_sub_cancel]
    exact hK.1 hr.symm
  | cons x t ih =>
    intro i ht hr
    have hx : (L.take m)[i]? = some x := by
      have := congrArg List.head? ht
      rw [List.head?_drop] at this; exact this
    have hi : i < m := by have := (List.getElem?_eq_some_iff.1 hx).1; rw [List.length_take] at this; omega
    have hxL : L[i]? = some x := by rw [List.getElem?_take_of_lt hi] at hx; exact hx
    obtain ⟨g0, g1, g2, g3, g4, g5, g6⟩ := st_get hxL
    have hw : wr .i64 ((i : Int) + 1) = ((i + 1 : Nat) : Int) := by rw [wr_eq]; simp [IntKind.wrap, IntKind.bits, IntKind.signed]; omega
    have hA : IsAg #[.int .i64 x.fo, .int .u64 x.f0, .int .u64 x.f1, .int .u64 x.f2, .int .u64 x.f3, .int .i64 x.fa, .int .i64 x.fb] := .mk x rfl
    have hD : stD [.int .i64 x.fo, .int .u64 x.f0, .int .u64 x.f1, .int .u64 x.f2, .int .u64 x.f3, .int .i64 x.fa, .int .i64 x.fb] 0 = x := rfl
    refine (sure757 hm).roundX F757 noLoops [1] [] [1] [] [0,1,7,8] ?_
    rw [r757]
    simp only [show ((i : Int) < (m : Int)) by omega, hF, g0, g1, g2, g3, g4, g5, g6, hA, hD, hw, Alt_iff, Need_iff, ltI_eq, leI_eq, eqI_eq, leN_eq, eqN_eq, decide_eq_true_eq, decide_eq_false_iff_not, decide_true, decide_false, true_and, and_true, Bool.true_eq_false, Bool.false_eq_true, false_implies, true_implies, implies_true, not_true_eq_false, not_false_eq_true, Bool.not_eq_true', Bool.not_eq_false', Nat.zero_add, Nat.add_zero, Nat.sub_zero, Nat.zero_mul, Nat.mul_one, Int.toNat_natCast, List.drop_zero, beqV_int, beqV_sl, beqV_str, beqV_bool, beqV_ptr, beqV_flt, beqV_agg, beqV_tuple, List.all_cons, List.all_nil, Bool.and_self, Bool.and_true, Bool.true_and, Nat.le_refl, Int.le_refl, Nat.zero_le, Option.getD_some, isStr, strV, isInt, intV, isBool, boolV, kindEq, at0, isJunk, Option.isSome_some, Option.isSome_none, if_true, if_false, Nat.add_sub_cancel_left, Nat.add_sub_cancel]
    unfold idxS at hr
    cases hb : rightF x n false with
    | false =>
      rw [hb, cond_false] at hr
      simp only [Bool.not_false, true_implies]
      rw [hr]
      exact ⟨hK.2 (by omega), fun h => by cases h⟩
    | true =>
      rw [hb, cond_true] at hr
      simp only [Bool.not_true, true_implies]
      exact ⟨fun h => (by cases h), ih (i + 1) (by rw [← List.drop_drop, ht]; rfl) hr⟩
theorem idx_says (hm : Try.prog.follows .mixedOrders = true) : idxW.Holds Try.prog 56 := by
  intro args blks hf hpre
  simp only [idxW] at hpre ⊢
  split at hpre
  · rename_i sq m k2 fn cs own sp n k own2
    obtain ⟨rfl, ⟨L, rfl, hn, ok, hs⟩, hmn⟩ := hpre
    simp only [Alt_iff, Need_iff, ltI_eq, leI_eq, eqI_eq, leN_eq, eqN_eq, decide_eq_true_eq, decide_eq_false_iff_not, decide_true, decide_false, true_and, and_true, Bool.true_eq_false, Bool.false_eq_true, false_implies, true_implies, implies_true, not_true_eq_false, not_false_eq_true, Bool.not_eq_true', Bool.not_eq_false'] at hmn
    refine ⟨⟨rfl, rfl, trivial⟩, trivial, ?_⟩
    have hF : FlatD [1] (hp [.cells (stC L) 7 own, .cells [.slice (some ⟨0,0,sp⟩) n k] 1 own2]) := FlatD.hp ⟨stC_flat L, rfl, trivial⟩
    have hr0 := idxS_ge n (L.take m) 0 (by decide)
    rw [stsAt_eq (show m ≤ L.length by omega)]
    generalize hr : idxS n (L.take m) 0 = r at hr0 ⊢
    have hL : Loops Try.prog body757 2 (cutE [cut757 sp sq n m k k2 (stC L) own own2 r]) := Loops.noneE.moreE _ fun x K hQ => by
      show LSays Try.prog 2 (sub body757 [0,0,1,0,1]) (T757 sq m k2 (0 : Nat)) (H757 sp n k (stC L) own own2) K
      exact idx_loop hm L sp sq n m k k2 own own2 hn hmn hs r K hQ (L.take m) 0 rfl hr
    refine (sure757 hm).funX F757 body757 [1] [] Try.func56 rfl (hL.gcX (at0 [1]) (at0 [])) ?_
    have hw := w757 sp sq n m k k2 (stC L) own own2 r
    unfold H757 at hw
    rw [hw]
    refine ⟨hF, 0, rfl, rfl, fun h => ?_, fun h => ?_⟩
    · rw [h]; exact ⟨hF, rfl, rfl, rfl⟩
    · exact ⟨hF, rfl, rfl, rfl⟩
  · exact hpre.elim
end Go.Proofs.Ytfgiifppapopnaa

namespace Go.Proofs.Ytfgiifppapopnaa
open Go.RowKit Go.Proofs.Ytfgiifppapopnaa.AM
set_option maxRecDepth 100000
set_option maxHeartbeats 4000000
noncomputable def body743 : Code := (Try.f42.body).getD .skip
def F743 : List Nat → Option (List Nat) := fun p => match p with
  | [1] => some [0, 1]
  | [1, 1] => some [4]
  | _ => none
noncomputable def body726 : Code := (Try.f25.body).getD .skip
def F726 : List Nat → Option (List Nat) := fun p => match p with
  | [1] => some [1]
  | [1, 0, 1] => some [1, 11]
  | [1, 0, 1, 0, 1] => some [2]
  | [1, 1] => some [1]
  | [1, 1, 1] => some [1, 3]
  | [1, 1, 1, 1] => some [2]
  | _ => none
noncomputable def S726 : Book := addI Try.prog [(42, Try.f42, body743)] (bookW [(56, idxW)] (bookOf [(44, rightC)]))
theorem sure726 (hm : Try.prog.follows .mixedOrders = true) : Sure Try.prog S726 := Sure.addI (S := bookW [(56, idxW)] (bookOf [(44, rightC)])) ⟨hm, plain, bookW_ok (bookOf_ok (l := [(44, rightC)]) ⟨right_says hm, trivial⟩) (l := [(56, idxW)]) ⟨idx_says hm, trivial⟩⟩ (l := [(42, Try.f42, body743)]) ⟨⟨Try.func42, rfl⟩, trivial⟩

theorem w726 (sp : Option Nat) (n k : Nat) (cs : List Value) (own : Bool) (K : Value → Heap → Prop) :
  funX Try.prog S726 noLoop F726 body726 Try.f25 [] [] [.slice (some ⟨0,0,sp⟩) n k] (hp [.cells cs 7 own]) K = (
Alt (ltI (↑n : Int) 1) (K (Value.bool false) (hp [Blk.cells cs 7 own])) (Alt (ltI 40 (↑n : Int)) (K (Value.bool false) (hp [Blk.cells cs 7 own])) (Need (leI 0 (wr IntKind.i64 ((↑n : Int) - 1))) (Need (leI (wr IntKind.i64
((↑n : Int) - 1)) (↑k : Int)) ((FlatL cs ∧ nojL [Value.slice (some { block := 0, off := 0, spot := sp : Addr }) n k] = true ∧ True) ∧ (Value.func (Fn.func 43) #[] #[Value.pointer (some { block := 1, off := 0 : Addr })] =
Value.func (Fn.func 43) #[] #[Value.pointer (some { block := 1, off := 0 : Addr })] ∧ IsSt cs n ∧ Need (leN ((wr IntKind.i64 ((↑n : Int) - 1)).toNat - 0) n) True) ∧ Alt (!leI 0 (idxS (↑n : Int) (stsAt cs ((wr IntKind.i64
((↑n : Int) - 1)).toNat - 0)) 0)) (Need (leI 0 (wr IntKind.i64 ((↑n : Int) - 1))) (Need (ltI (wr IntKind.i64 ((↑n : Int) - 1)) (↑n : Int)) (Need (isInt IntKind.i64 ((getO cs (0 + (wr IntKind.i64 ((↑n : Int) - 1)).toNat *
7)).getD undef)) (Need (isInt IntKind.u64 ((getO cs (0 + (wr IntKind.i64 ((↑n : Int) - 1)).toNat * 7 + 1)).getD undef)) (Need (isInt IntKind.u64 ((getO cs (0 + (wr IntKind.i64 ((↑n : Int) - 1)).toNat * 7 + 1 + 1)).getD
undef)) (Need (isInt IntKind.u64 ((getO cs (0 + (wr IntKind.i64 ((↑n : Int) - 1)).toNat * 7 + 1 + 1 + 1)).getD undef)) (Need (isInt IntKind.u64 ((getO cs (0 + (wr IntKind.i64 ((↑n : Int) - 1)).toNat * 7 + 1 + 1 + 1 +
1)).getD undef)) (Need (isInt IntKind.i64 ((getO cs (0 + (wr IntKind.i64 ((↑n : Int) - 1)).toNat * 7 + 1 + 1 + 1 + 1 + 1)).getD undef)) (Need (isInt IntKind.i64 ((getO cs (0 + (wr IntKind.i64 ((↑n : Int) - 1)).toNat * 7
+ 1 + 1 + 1 + 1 + 1 + 1)).getD undef)) (True ∧ IsAg #[Value.int IntKind.i64 (intV ((getO cs (0 + (wr IntKind.i64 ((↑n : Int) - 1)).toNat * 7)).getD undef)), Value.int IntKind.u64 (intV ((getO cs (0 + (wr IntKind.i64 ((↑n
: Int) - 1)).toNat * 7 + 1)).getD undef)), Value.int IntKind.u64 (intV ((getO cs (0 + (wr IntKind.i64 ((↑n : Int) - 1)).toNat * 7 + 1 + 1)).getD undef)), Value.int IntKind.u64 (intV ((getO cs (0 + (wr IntKind.i64 ((↑n :
Int) - 1)).toNat * 7 + 1 + 1 + 1)).getD undef)), Value.int IntKind.u64 (intV ((getO cs (0 + (wr IntKind.i64 ((↑n : Int) - 1)).toNat * 7 + 1 + 1 + 1 + 1)).getD undef)), Value.int IntKind.i64 (intV ((getO cs (0 + (wr
IntKind.i64 ((↑n : Int) - 1)).toNat * 7 + 1 + 1 + 1 + 1 + 1)).getD undef)), Value.int IntKind.i64 (intV ((getO cs (0 + (wr IntKind.i64 ((↑n : Int) - 1)).toNat * 7 + 1 + 1 + 1 + 1 + 1 + 1)).getD undef))] ∧ K (Value.bool
(rightF (stD [Value.int IntKind.i64 (intV ((getO cs (0 + (wr IntKind.i64 ((↑n : Int) - 1)).toNat * 7)).getD undef)), Value.int IntKind.u64 (intV ((getO cs (0 + (wr IntKind.i64 ((↑n : Int) - 1)).toNat * 7 + 1)).getD
undef)), Value.int IntKind.u64 (intV ((getO cs (0 + (wr IntKind.i64 ((↑n : Int) - 1)).toNat * 7 + 1 + 1)).getD undef)), Value.int IntKind.u64 (intV ((getO cs (0 + (wr IntKind.i64 ((↑n : Int) - 1)).toNat * 7 + 1 + 1 +
1)).getD undef)), Value.int IntKind.u64 (intV ((getO cs (0 + (wr IntKind.i64 ((↑n : Int) - 1)).toNat * 7 + 1 + 1 + 1 + 1)).getD undef)), Value.int IntKind.i64 (intV ((getO cs (0 + (wr IntKind.i64 ((↑n : Int) - 1)).toNat
* 7 + 1 + 1 + 1 + 1 + 1)).getD undef)), Value.int IntKind.i64 (intV ((getO cs (0 + (wr IntKind.i64 ((↑n : Int) - 1)).toNat * 7 + 1 + 1 + 1 + 1 + 1 + 1)).getD undef))] 0) (↑n : Int) true)) (hp [Blk.cells cs 7
own]))))))))))) (K (Value.bool false) (hp [Blk.cells cs 7 own]))))))) := by kernel_rfl

noncomputable def body729 : Code := (Try.f28.body).getD .skip
def F729 : List Nat → Option (List Nat) := fun p => match p with
  | [1] => some [0]
  | [1, 0, 1] => some [0, 15]
  | [1, 0, 1, 0, 1] => some [2]
  | [1, 1] => some [0]
  | [1, 0, 1, 1] => some [0, 3]
  | [1, 0, 0, 0, 1, 0, 1, 1] => some [0, 3, 19]
  | [1, 1, 0, 0, 0, 1, 0, 1, 1] => some []
  | [1, 0, 0, 1, 0, 1, 1] => some [0, 3]
  | [1, 0, 0, 1, 0, 0, 1, 0, 1, 1] => some [0, 3, 4]
  | [1, 1, 0, 0, 1, 0, 0, 1, 0, 1, 1] => some [0, 3, 4, 5, 6]
  | [1, 1, 1, 0, 0, 1, 0, 0, 1, 0, 1, 1] => some [0, 3, 4, 5, 6, 7]
  | [1, 1, 1, 1, 0, 0, 1, 0, 0, 1, 0, 1, 1] => some [0, 3, 4, 5, 6, 7, 51]
  | [1, 0, 1, 1, 1, 1, 0, 0, 1, 0, 0, 1, 0, 1, 1] => some [0, 3, 4, 5, 6, 7, 51, 52]
  | [1, 0, 1, 0, 1, 1, 1, 1, 0, 0, 1, 0, 0, 1, 0, 1, 1] => some [0, 3, 68]
  | [1, 0, 1, 0, 1, 0, 1, 1, 1, 1, 0, 0, 1, 0, 0, 1, 0, 1, 1] => some [2]
  | [1, 1, 1, 0, 1, 1, 1, 1, 0, 0, 1, 0, 0, 1, 0, 1, 1] => some [0, 3, 4, 5, 6, 7, 51, 69]
  | [1, 0, 1, 1, 1, 0, 1, 1, 1, 1, 0, 0, 1, 0, 0, 1, 0, 1, 1] => some [0, 3, 80]
  | [1, 0, 1, 0, 1, 1, 1, 0, 1, 1, 1, 1, 0, 0, 1, 0, 0, 1, 0, 1, 1] => some [2]
  | [1, 1, 1, 1, 1, 0, 1, 1, 1, 1, 0, 0, 1, 0, 0, 1, 0, 1, 1] => some [0, 3, 4, 5, 7, 51, 81]
  | [1, 0, 1, 1, 1, 1, 1, 0, 1, 1, 1, 1, 0, 0, 1, 0, 0, 1, 0, 1, 1] => some [0, 3, 93]
  | [1, 0, 1, 0, 1, 1, 1, 1, 1, 0, 1, 1, 1, 1, 0, 0, 1, 0, 0, 1, 0, 1, 1] => some [2]
  | [1, 1, 1, 1, 1, 1, 1, 0, 1, 1, 1, 1, 0, 0, 1, 0, 0, 1, 0, 1, 1] => some [0, 3, 4, 7, 94]
  | [1, 0, 1, 1, 1, 1, 1, 1, 1, 0, 1, 1, 1, 1, 0, 0, 1, 0, 0, 1, 0, 1, 1] => some [0, 3, 107]
  | [1, 0, 1, 0, 1, 1, 1, 1, 1, 1, 1, 0, 1, 1, 1, 1, 0, 0, 1, 0, 0, 1, 0, 1, 1] => some [2]
  | [1, 1, 1, 1, 1, 1, 1, 1, 1, 0, 1, 1, 1, 1, 0, 0, 1, 0, 0, 1, 0, 1, 1] => some [2]
  | [1, 1, 0, 0, 1, 0, 1, 1] => some [0, 3]
  | [1, 1, 1] => some []
  | [1, 1, 1, 1] => some [2]
  | _ => none
noncomputable def T729 (sp : Option Nat) (n k i : Nat) : List Value := tmps 108 [(0, .slice (some ⟨0,0,sp⟩) n k), (3, .int .i64 i)]

theorem r729 (sp : Option Nat) (n k i : Nat) (cs : List Value) (own : Bool) (K : Post) :
  roundX Try.prog S0 noLoop F729 body729 1 [] [] [] [] [0,3] [0,0,1,0,1,1] (T729 sp n k i) (hp [.cells cs 7 own]) K = (
Alt (ltI (↑i : Int) (↑n : Int)) (Need (ltI (↑i : Int) (↑n : Int)) (Need (isInt IntKind.i64 ((getO cs (0 + (↑i : Int).toNat * 7)).getD undef)) (Need (isInt IntKind.u64 ((getO cs (0 + (↑i : Int).toNat * 7 + 1)).getD
undef)) (Need (isInt IntKind.u64 ((getO cs (0 + (↑i : Int).toNat * 7 + 1 + 1)).getD undef)) (Need (isInt IntKind.u64 ((getO cs (0 + (↑i : Int).toNat * 7 + 1 + 1 + 1)).getD undef)) (Need (isInt IntKind.u64 ((getO cs (0 +
(↑i : Int).toNat * 7 + 1 + 1 + 1 + 1)).getD undef)) (Need (isInt IntKind.i64 ((getO cs (0 + (↑i : Int).toNat * 7 + 1 + 1 + 1 + 1 + 1)).getD undef)) (Need (isInt IntKind.i64 ((getO cs (0 + (↑i : Int).toNat * 7 + 1 + 1 + 1
+ 1 + 1 + 1)).getD undef)) (Alt (leI 0 (intV (Value.int IntKind.i64 (intV ((getO cs (0 + (↑i : Int).toNat * 7 + 1 + 1 + 1 + 1 + 1)).getD undef))))) (Alt (leI 0 (intV (Value.int IntKind.i64 (intV ((getO cs (0 + (↑i :
Int).toNat * 7 + 1 + 1 + 1 + 1 + 1 + 1)).getD undef))))) (Alt (eqI (intV (Value.int IntKind.i64 (intV ((getO cs (0 + (↑i : Int).toNat * 7)).getD undef)))) 1) (Alt (!eqI (intV (Value.int IntKind.i64 (intV ((getO cs (0 +
(↑i : Int).toNat * 7 + 1 + 1 + 1 + 1 + 1)).getD undef)))) 0) (K AE.ret (tmps 108 [(2, Value.bool false)]) (hp [Blk.cells cs 7 own])) (Alt (!eqI (intV (Value.int IntKind.i64 (intV ((getO cs (0 + (↑i : Int).toNat * 7 + 1 +
1 + 1 + 1 + 1 + 1)).getD undef)))) 0) (K AE.ret (tmps 108 [(2, Value.bool false)]) (hp [Blk.cells cs 7 own])) (Alt (eqI (↑i : Int) (wr IntKind.i64 ((↑n : Int) - 1))) (K AE.ret (tmps 108 [(2, Value.bool false)]) (hp
[Blk.cells cs 7 own])) (K AE.normal (tmps 108 [(0, Value.slice (some { block := 0, off := 0, spot := sp : Addr }) n k), (3, Value.int IntKind.i64 (wr IntKind.i64 ((↑i : Int) + 1)))]) (hp [Blk.cells cs 7 own]))))) (Alt
(eqI (intV (Value.int IntKind.i64 (intV ((getO cs (0 + (↑i : Int).toNat * 7)).getD undef)))) 2) (Alt (!ltI (intV (Value.int IntKind.i64 (intV ((getO cs (0 + (↑i : Int).toNat * 7 + 1 + 1 + 1 + 1 + 1)).getD undef)))) (↑n :
Int)) (K AE.ret (tmps 108 [(2, Value.bool false)]) (hp [Blk.cells cs 7 own])) (Alt (!ltI (intV (Value.int IntKind.i64 (intV ((getO cs (0 + (↑i : Int).toNat * 7 + 1 + 1 + 1 + 1 + 1 + 1)).getD undef)))) (↑n : Int)) (K
AE.ret (tmps 108 [(2, Value.bool false)]) (hp [Blk.cells cs 7 own])) (Alt (!(eqI (intV (Value.int IntKind.u64 (intV ((getO cs (0 + (↑i : Int).toNat * 7 + 1)).getD undef)))) 0 && (eqI (intV (Value.int IntKind.u64 (intV
((getO cs (0 + (↑i : Int).toNat * 7 + 1 + 1)).getD undef)))) 0 && (eqI (intV (Value.int IntKind.u64 (intV ((getO cs (0 + (↑i : Int).toNat * 7 + 1 + 1 + 1)).getD undef)))) 0 && (eqI (intV (Value.int IntKind.u64 (intV
((getO cs (0 + (↑i : Int).toNat * 7 + 1 + 1 + 1 + 1)).getD undef)))) 0 && true))))) (K AE.ret (tmps 108 [(2, Value.bool false)]) (hp [Blk.cells cs 7 own])) (K AE.normal (tmps 108 [(0, Value.slice (some
{ block := 0, off := 0, spot := sp : Addr }) n k), (3, Value.int IntKind.i64 (wr IntKind.i64 ((↑i : Int) + 1)))]) (hp [Blk.cells cs 7 own]))))) (Alt (eqI (intV (Value.int IntKind.i64 (intV ((getO cs (0 + (↑i : Int).toNat
* 7)).getD undef)))) 3) (Alt (!ltI (intV (Value.int IntKind.i64 (intV ((getO cs (0 + (↑i : Int).toNat * 7 + 1 + 1 + 1 + 1 + 1)).getD undef)))) (↑n : Int)) (K AE.ret (tmps 108 [(2, Value.bool false)]) (hp [Blk.cells cs 7
own])) (Alt (!eqI (intV (Value.int IntKind.i64 (intV ((getO cs (0 + (↑i : Int).toNat * 7 + 1 + 1 + 1 + 1 + 1 + 1)).getD undef)))) 0) (K AE.ret (tmps 108 [(2, Value.bool false)]) (hp [Blk.cells cs 7 own])) (Alt (!(eqI
(intV (Value.int IntKind.u64 (intV ((getO cs (0 + (↑i : Int).toNat * 7 + 1)).getD undef)))) 0 && (eqI (intV (Value.int IntKind.u64 (intV ((getO cs (0 + (↑i : Int).toNat * 7 + 1 + 1)).getD undef)))) 0 && (eqI (intV
(Value.int IntKind.u64 (intV ((getO cs (0 + (↑i : Int).toNat * 7 + 1 + 1 + 1)).getD undef)))) 0 && (eqI (intV (Value.int IntKind.u64 (intV ((getO cs (0 + (↑i : Int).toNat * 7 + 1 + 1 + 1 + 1)).getD undef)))) 0 &&
true))))) (K AE.ret (tmps 108 [(2, Value.bool false)]) (hp [Blk.cells cs 7 own])) (K AE.normal (tmps 108 [(0, Value.slice (some { block := 0, off := 0, spot := sp : Addr }) n k), (3, Value.int IntKind.i64 (wr IntKind.i64
((↑i : Int) + 1)))]) (hp [Blk.cells cs 7 own]))))) (Alt (eqI (intV (Value.int IntKind.i64 (intV ((getO cs (0 + (↑i : Int).toNat * 7)).getD undef)))) 4) (Alt (!eqI (intV (Value.int IntKind.i64 (intV ((getO cs (0 + (↑i :
Int).toNat * 7 + 1 + 1 + 1 + 1 + 1)).getD undef)))) 0) (K AE.ret (tmps 108 [(2, Value.bool false)]) (hp [Blk.cells cs 7 own])) (Alt (!eqI (intV (Value.int IntKind.i64 (intV ((getO cs (0 + (↑i : Int).toNat * 7 + 1 + 1 + 1
+ 1 + 1 + 1)).getD undef)))) 0) (K AE.ret (tmps 108 [(2, Value.bool false)]) (hp [Blk.cells cs 7 own])) (Alt (!(eqI (intV (Value.int IntKind.u64 (intV ((getO cs (0 + (↑i : Int).toNat * 7 + 1)).getD undef)))) 0 && (eqI
(intV (Value.int IntKind.u64 (intV ((getO cs (0 + (↑i : Int).toNat * 7 + 1 + 1)).getD undef)))) 0 && (eqI (intV (Value.int IntKind.u64 (intV ((getO cs (0 + (↑i : Int).toNat * 7 + 1 + 1 + 1)).getD undef)))) 0 && (eqI
(intV (Value.int IntKind.u64 (intV ((getO cs (0 + (↑i : Int).toNat * 7 + 1 + 1 + 1 + 1)).getD undef)))) 0 && true))))) (K AE.ret (tmps 108 [(2, Value.bool false)]) (hp [Blk.cells cs 7 own])) (K AE.normal (tmps 108 [(0,
Value.slice (some { block := 0, off := 0, spot := sp : Addr }) n k), (3, Value.int IntKind.i64 (wr IntKind.i64 ((↑i : Int) + 1)))]) (hp [Blk.cells cs 7 own]))))) (K AE.ret (tmps 108 [(2, Value.bool false)]) (hp
[Blk.cells cs 7 own])))))) (Alt (eqI (intV (Value.int IntKind.i64 (intV ((getO cs (0 + (↑i : Int).toNat * 7)).getD undef)))) 1) (Alt (!eqI (intV (Value.int IntKind.i64 (intV ((getO cs (0 + (↑i : Int).toNat * 7 + 1 + 1 +
1 + 1 + 1)).getD undef)))) 0) (K AE.ret (tmps 108 [(2, Value.bool false)]) (hp [Blk.cells cs 7 own])) (Alt (!eqI (intV (Value.int IntKind.i64 (intV ((getO cs (0 + (↑i : Int).toNat * 7 + 1 + 1 + 1 + 1 + 1 + 1)).getD
undef)))) 0) (K AE.ret (tmps 108 [(2, Value.bool false)]) (hp [Blk.cells cs 7 own])) (Alt (eqI (↑i : Int) (wr IntKind.i64 ((↑n : Int) - 1))) (K AE.ret (tmps 108 [(2, Value.bool false)]) (hp [Blk.cells cs 7 own])) (K
AE.normal (tmps 108 [(0, Value.slice (some { block := 0, off := 0, spot := sp : Addr }) n k), (3, Value.int IntKind.i64 (wr IntKind.i64 ((↑i : Int) + 1)))]) (hp [Blk.cells cs 7 own]))))) (Alt (eqI (intV (Value.int
IntKind.i64 (intV ((getO cs (0 + (↑i : Int).toNat * 7)).getD undef)))) 2) (Alt (!ltI (intV (Value.int IntKind.i64 (intV ((getO cs (0 + (↑i : Int).toNat * 7 + 1 + 1 + 1 + 1 + 1)).getD undef)))) (↑n : Int)) (K AE.ret (tmps
108 [(2, Value.bool false)]) (hp [Blk.cells cs 7 own])) (K AE.ret (tmps 108 [(2, Value.bool false)]) (hp [Blk.cells cs 7 own]))) (Alt (eqI (intV (Value.int IntKind.i64 (intV ((getO cs (0 + (↑i : Int).toNat * 7)).getD
undef)))) 3) (Alt (!ltI (intV (Value.int IntKind.i64 (intV ((getO cs (0 + (↑i : Int).toNat * 7 + 1 + 1 + 1 + 1 + 1)).getD undef)))) (↑n : Int)) (K AE.ret (tmps 108 [(2, Value.bool false)]) (hp [Blk.cells cs 7 own])) (Alt
(!eqI (intV (Value.int IntKind.i64 (intV ((getO cs (0 + (↑i : Int).toNat * 7 + 1 + 1 + 1 + 1 + 1 + 1)).getD undef)))) 0) (K AE.ret (tmps 108 [(2, Value.bool false)]) (hp [Blk.cells cs 7 own])) (Alt (!(eqI (intV
(Value.int IntKind.u64 (intV ((getO cs (0 + (↑i : Int).toNat * 7 + 1)).getD undef)))) 0 && (eqI (intV (Value.int IntKind.u64 (intV ((getO cs (0 + (↑i : Int).toNat * 7 + 1 + 1)).getD undef)))) 0 && (eqI (intV (Value.int
IntKind.u64 (intV ((getO cs (0 + (↑i : Int).toNat * 7 + 1 + 1 + 1)).getD undef)))) 0 && (eqI (intV (Value.int IntKind.u64 (intV ((getO cs (0 + (↑i : Int).toNat * 7 + 1 + 1 + 1 + 1)).getD undef)))) 0 && true))))) (K
AE.ret (tmps 108 [(2, Value.bool false)]) (hp [Blk.cells cs 7 own])) (K AE.normal (tmps 108 [(0, Value.slice (some { block := 0, off := 0, spot := sp : Addr }) n k), (3, Value.int IntKind.i64 (wr IntKind.i64 ((↑i : Int)
+ 1)))]) (hp [Blk.cells cs 7 own]))))) (Alt (eqI (intV (Value.int IntKind.i64 (intV ((getO cs (0 + (↑i : Int).toNat * 7)).getD undef)))) 4) (Alt (!eqI (intV (Value.int IntKind.i64 (intV ((getO cs (0 + (↑i : Int).toNat *
7 + 1 + 1 + 1 + 1 + 1)).getD undef)))) 0) (K AE.ret (tmps 108 [(2, Value.bool false)]) (hp [Blk.cells cs 7 own])) (Alt (!eqI (intV (Value.int IntKind.i64 (intV ((getO cs (0 + (↑i : Int).toNat * 7 + 1 + 1 + 1 + 1 + 1 +
1)).getD undef)))) 0) (K AE.ret (tmps 108 [(2, Value.bool false)]) (hp [Blk.cells cs 7 own])) (Alt (!(eqI (intV (Value.int IntKind.u64 (intV ((getO cs (0 + (↑i : Int).toNat * 7 + 1)).getD undef)))) 0 && (eqI (intV
(Value.int IntKind.u64 (intV ((getO cs (0 + (↑i : Int).toNat * 7 + 1 + 1)).getD undef)))) 0 && (eqI (intV (Value.int IntKind.u64 (intV ((getO cs (0 + (↑i : Int).toNat * 7 + 1 + 1 + 1)).getD undef)))) 0 && (eqI (intV
(Value.int IntKind.u64 (intV ((getO cs (0 + (↑i : Int).toNat * 7 + 1 + 1 + 1 + 1)).getD undef)))) 0 && true))))) (K AE.ret (tmps 108 [(2, Value.bool false)]) (hp [Blk.cells cs 7 own])) (K AE.normal (tmps 108 [(0,
Value.slice (some { block := 0, off := 0, spot := sp : Addr }) n k), (3, Value.int IntKind.i64 (wr IntKind.i64 ((↑i : Int) + 1)))]) (hp [Blk.cells cs 7 own]))))) (K AE.ret (tmps 108 [(2, Value.bool false)]) (hp
[Blk.cells cs 7 own]))))))) (Alt (leI 0 (intV (Value.int IntKind.i64 (intV ((getO cs (0 + (↑i : Int).toNat * 7 + 1 + 1 + 1 + 1 + 1 + 1)).getD undef))))) (Alt (eqI (intV (Value.int IntKind.i64 (intV ((getO cs (0 + (↑i :
Int).toNat * 7)).getD undef)))) 1) (Alt (!eqI (intV (Value.int IntKind.i64 (intV ((getO cs (0 + (↑i : Int).toNat * 7 + 1 + 1 + 1 + 1 + 1)).getD undef)))) 0) (K AE.ret (tmps 108 [(2, Value.bool false)]) (hp [Blk.cells cs
7 own])) (Alt (!eqI (intV (Value.int IntKind.i64 (intV ((getO cs (0 + (↑i : Int).toNat * 7 + 1 + 1 + 1 + 1 + 1 + 1)).getD undef)))) 0) (K AE.ret (tmps 108 [(2, Value.bool false)]) (hp [Blk.cells cs 7 own])) (Alt (eqI (↑i
: Int) (wr IntKind.i64 ((↑n : Int) - 1))) (K AE.ret (tmps 108 [(2, Value.bool false)]) (hp [Blk.cells cs 7 own])) (K AE.normal (tmps 108 [(0, Value.slice (some { block := 0, off := 0, spot := sp : Addr }) n k), (3,
Value.int IntKind.i64 (wr IntKind.i64 ((↑i : Int) + 1)))]) (hp [Blk.cells cs 7 own]))))) (Alt (eqI (intV (Value.int IntKind.i64 (intV ((getO cs (0 + (↑i : Int).toNat * 7)).getD undef)))) 2) (K AE.ret (tmps 108 [(2,
Value.bool false)]) (hp [Blk.cells cs 7 own])) (Alt (eqI (intV (Value.int IntKind.i64 (intV ((getO cs (0 + (↑i : Int).toNat * 7)).getD undef)))) 3) (K AE.ret (tmps 108 [(2, Value.bool false)]) (hp [Blk.cells cs 7 own]))
(Alt (eqI (intV (Value.int IntKind.i64 (intV ((getO cs (0 + (↑i : Int).toNat * 7)).getD undef)))) 4) (Alt (!eqI (intV (Value.int IntKind.i64 (intV ((getO cs (0 + (↑i : Int).toNat * 7 + 1 + 1 + 1 + 1 + 1)).getD undef))))
0) (K AE.ret (tmps 108 [(2, Value.bool false)]) (hp [Blk.cells cs 7 own])) (Alt (!eqI (intV (Value.int IntKind.i64 (intV ((getO cs (0 + (↑i : Int).toNat * 7 + 1 + 1 + 1 + 1 + 1 + 1)).getD undef)))) 0) (K AE.ret (tmps 108
[(2, Value.bool false)]) (hp [Blk.cells cs 7 own])) (Alt (!(eqI (intV (Value.int IntKind.u64 (intV ((getO cs (0 + (↑i : Int).toNat * 7 + 1)).getD undef)))) 0 && (eqI (intV (Value.int IntKind.u64 (intV ((getO cs (0 + (↑i
: Int).toNat * 7 + 1 + 1)).getD undef)))) 0 && (eqI (intV (Value.int IntKind.u64 (intV ((getO cs (0 + (↑i : Int).toNat * 7 + 1 + 1 + 1)).getD undef)))) 0 && (eqI (intV (Value.int IntKind.u64 (intV ((getO cs (0 + (↑i :
Int).toNat * 7 + 1 + 1 + 1 + 1)).getD undef)))) 0 && true))))) (K AE.ret (tmps 108 [(2, Value.bool false)]) (hp [Blk.cells cs 7 own])) (K AE.normal (tmps 108 [(0, Value.slice (some
{ block := 0, off := 0, spot := sp : Addr }) n k), (3, Value.int IntKind.i64 (wr IntKind.i64 ((↑i : Int) + 1)))]) (hp [Blk.cells cs 7 own]))))) (K AE.ret (tmps 108 [(2, Value.bool false)]) (hp [Blk.cells cs 7 own]))))))
(Alt (eqI (intV (Value.int IntKind.i64 (intV ((getO cs (0 + (↑i : Int).toNat * 7)).getD undef)))) 1) (Alt (!eqI (intV (Value.int IntKind.i64 (intV ((getO cs (0 + (↑i : Int).toNat * 7 + 1 + 1 + 1 + 1 + 1)).getD undef))))
0) (K AE.ret (tmps 108 [(2, Value.bool false)]) (hp [Blk.cells cs 7 own])) (Alt (!eqI (intV (Value.int IntKind.i64 (intV ((getO cs (0 + (↑i : Int).toNat * 7 + 1 + 1 + 1 + 1 + 1 + 1)).getD undef)))) 0) (K AE.ret (tmps 108
[(2, Value.bool false)]) (hp [Blk.cells cs 7 own])) (Alt (eqI (↑i : Int) (wr IntKind.i64 ((↑n : Int) - 1))) (K AE.ret (tmps 108 [(2, Value.bool false)]) (hp [Blk.cells cs 7 own])) (K AE.normal (tmps 108 [(0, Value.slice
(some { block := 0, off := 0, spot := sp : Addr }) n k), (3, Value.int IntKind.i64 (wr IntKind.i64 ((↑i : Int) + 1)))]) (hp [Blk.cells cs 7 own]))))) (Alt (eqI (intV (Value.int IntKind.i64 (intV ((getO cs (0 + (↑i :
Int).toNat * 7)).getD undef)))) 2) (K AE.ret (tmps 108 [(2, Value.bool false)]) (hp [Blk.cells cs 7 own])) (Alt (eqI (intV (Value.int IntKind.i64 (intV ((getO cs (0 + (↑i : Int).toNat * 7)).getD undef)))) 3) (K AE.ret
(tmps 108 [(2, Value.bool false)]) (hp [Blk.cells cs 7 own])) (Alt (eqI (intV (Value.int IntKind.i64 (intV ((getO cs (0 + (↑i : Int).toNat * 7)).getD undef)))) 4) (Alt (!eqI (intV (Value.int IntKind.i64 (intV ((getO cs
(0 + (↑i : Int).toNat * 7 + 1 + 1 + 1 + 1 + 1)).getD undef)))) 0) (K AE.ret (tmps 108 [(2, Value.bool false)]) (hp [Blk.cells cs 7 own])) (Alt (!eqI (intV (Value.int IntKind.i64 (intV ((getO cs (0 + (↑i : Int).toNat * 7
+ 1 + 1 + 1 + 1 + 1 + 1)).getD undef)))) 0) (K AE.ret (tmps 108 [(2, Value.bool false)]) (hp [Blk.cells cs 7 own])) (Alt (!(eqI (intV (Value.int IntKind.u64 (intV ((getO cs (0 + (↑i : Int).toNat * 7 + 1)).getD undef))))
0 && (eqI (intV (Value.int IntKind.u64 (intV ((getO cs (0 + (↑i : Int).toNat * 7 + 1 + 1)).getD undef)))) 0 && (eqI (intV (Value.int IntKind.u64 (intV ((getO cs (0 + (↑i : Int).toNat * 7 + 1 + 1 + 1)).getD undef)))) 0 &&
(eqI (intV (Value.int IntKind.u64 (intV ((getO cs (0 + (↑i : Int).toNat * 7 + 1 + 1 + 1 + 1)).getD undef)))) 0 && true))))) (K AE.ret (tmps 108 [(2, Value.bool false)]) (hp [Blk.cells cs 7 own])) (K AE.normal (tmps 108
[(0, Value.slice (some { block := 0, off := 0, spot := sp : Addr }) n k), (3, Value.int IntKind.i64 (wr IntKind.i64 ((↑i : Int) + 1)))]) (hp [Blk.cells cs 7 own]))))) (K AE.ret (tmps 108 [(2, Value.bool false)]) (hp
[Blk.cells cs 7 own])))))))))))))))) (K (AE.exit 0) (tmps 108 []) (hp [Blk.cells cs 7 own]))) := by kernel_rfl

noncomputable def Q729 (cs : List Value) (own : Bool) (c : Bool) (K : Post) : Prop := Alt c (K (.exit 0) (tmps 108 []) (hp [.cells cs 7 own])) (K .ret (tmps 108 [(2, .bool false)]) (hp [.cells cs 7 own]))
noncomputable def cut729 (sp : Option Nat) (n k : Nat) (cs : List Value) (own : Bool) (c : Bool) : CutE where
  β := Nat
  p := [0,1,0,1,1]
  t := fun _ => T729 sp n k 0
  h := fun _ => hp [.cells cs 7 own]
  Q := fun _ K => Q729 cs own c K

theorem w729 (sp : Option Nat) (n k : Nat) (cs : List Value) (own : Bool) (c : Bool) (K : Value → Heap → Prop) :
  funX Try.prog S0 (gcLKX (at0 []) (at0 []) 1 (cutE [cut729 sp n k cs own c])) F729 body729 Try.f28 [] [] [.slice (some ⟨0,0,sp⟩) n k] (hp [.cells cs 7 own]) K = (
Alt (ltI (↑n : Int) 1) (K (Value.bool false) (hp [Blk.cells cs 7 own])) (Alt (ltI 40 (↑n : Int)) (K (Value.bool false) (hp [Blk.cells cs 7 own])) (FlatD [] (hp [Blk.cells cs 7 own]) ∧ ∃ (b : Nat), tmps 108 [(0,
Value.slice (some { block := 0, off := 0, spot := sp : Addr }) n k), (3, Value.int IntKind.i64 0)] = tmps 108 [(0, Value.slice (some { block := 0, off := 0, spot := sp : Addr }) n k), (3, Value.int IntKind.i64 0)] ∧ hp
[Blk.cells cs 7 own] = hp [Blk.cells cs 7 own] ∧ Alt c (K (Value.bool true) (hp [Blk.cells cs 7 own])) (K (Value.bool false) (hp [Blk.cells cs 7 own]))))) := by kernel_rfl

end Go.Proofs.Ytfgiifppapopnaa

namespace Go.Proofs.Ytfgiifppapopnaa
open Go.RowKit Go.Proofs.Ytfgiifppapopnaa.AM
set_option maxRecDepth 100000
set_option maxHeartbeats 4000000
/-- may these stand one behind the other, the last at the end? -/
def chkL (n : Int) : List St → Bool
  | [] => true
  | x :: t => rightF x n t.isEmpty && chkL n t
/-- a program -/
def chkF (P : List St) : Bool := decide (1 ≤ P.length ∧ P.length ≤ 40) && chkL P.length P
noncomputable def checkC : Ctr where
  pre := fun args blks => match args, blks with
    | [.slice (some ⟨0,0,_⟩) n k], [.cells cs 7 _] => IsSt cs n ∧ Need (leN n k) True
    | _, _ => False
  val := fun args blks => match args, blks with
    | [.slice (some ⟨0,0,_⟩) n k], [.cells cs 7 _] => .bool (chkF (stsAt cs n))
    | _, _ => undef
  new := fun _ _ => []
theorem chkL_app (n : Int) (x : St) : ∀ (t : List St), chkL n (t ++ [x]) = (decide (idxS n t 0 = -1) && rightF x n true) := by
  have h : ∀ (t : List St) (i : Int), 0 ≤ i → chkL n (t ++ [x]) = (decide (idxS n t i = -1) && rightF x n true) := by
    intro t
    induction t with
    | nil => intro i hi; simp [chkL, idxS]
    | cons y t ih =>
      intro i hi
      rw [List.cons_append, chkL, show (t ++ [x]).isEmpty = false by cases t <;> rfl, ih (i + 1) (by omega), idxS]
      cases rightF y n false with
      | true => simp
      | false => simp; intro h; omega
  exact fun t => h t 0 (by decide)
theorem check_says (hm : Try.prog.follows .mixedOrders = true) : checkC.Holds Try.prog 25 := by
  intro args blks hf hpre
  refine ⟨trivial, ?_⟩
  simp only [checkC] at hpre ⊢
  split at hpre
  · rename_i sp n k cs own
    obtain ⟨⟨L, rfl, hn, ok, hs⟩, hnk⟩ := hpre
    simp only [Alt_iff, Need_iff, ltI_eq, leI_eq, eqI_eq, leN_eq, eqN_eq, decide_eq_true_eq, decide_eq_false_iff_not, decide_true, decide_false, true_and, and_true, Bool.true_eq_false, Bool.false_eq_true, false_implies, true_implies, implies_true, not_true_eq_false, not_false_eq_true, Bool.not_eq_true', Bool.not_eq_false'] at hnk
    have hF : FlatD [] (hp [.cells (stC L) 7 own]) := FlatD.hp ⟨stC_flat L, trivial⟩
    have hI : IsSt (stC L) n := .mk L rfl hn ok hs
    refine (sure726 hm).funX F726 body726 [] [] Try.func25 rfl noLoops ?_
    rw [w726]
    have hlen : (stsAt (stC L) n).length = n := by rw [stsAt_eq hn, List.length_take]; omega
    have fin : ∀ b : Bool, b = chkF (stsAt (stC L) n) → FlatD [] (hp [.cells (stC L) 7 own]) ∧ isJunk (Value.bool b) = false ∧ Value.bool b = Value.bool (chkF (stsAt (stC L) n)) ∧ hp [.cells (stC L) 7 own] = hp ([.cells (stC L) 7 own] ++ []) := fun b h => ⟨hF, rfl, by rw [h], rfl⟩
    refine Alt_iff.2 ⟨fun h => fin false ?_, fun h1 => Alt_iff.2 ⟨fun h => fin false ?_, fun h2 => ?_⟩⟩
    · rw [ltI_eq, decide_eq_true_eq] at h
      unfold chkF; rw [hlen, decide_eq_false (by omega)]; rfl
    · rw [ltI_eq, decide_eq_true_eq] at h
      unfold chkF; rw [hlen, decide_eq_false (by omega)]; rfl
    · rw [ltI_eq, decide_eq_false_iff_not] at h1 h2
      have hw : wr .i64 ((n : Int) - 1) = ((n - 1 : Nat) : Int) := by rw [wr_eq]; simp [IntKind.wrap, IntKind.bits, IntKind.signed]; omega
      have hx : L[n - 1]? = some L[n - 1] := List.getElem?_eq_getElem (by omega)
      generalize L[n - 1] = x at hx
      obtain ⟨g0, g1, g2, g3, g4, g5, g6⟩ := st_get hx
      have hA : IsAg #[.int .i64 x.fo, .int .u64 x.f0, .int .u64 x.f1, .int .u64 x.f2, .int .u64 x.f3, .int .i64 x.fa, .int .i64 x.fb] := .mk x rfl
      have hD : stD [.int .i64 x.fo, .int .u64 x.f0, .int .u64 x.f1, .int .u64 x.f2, .int .u64 x.f3, .int .i64 x.fa, .int .i64 x.fb] 0 = x := rfl
      have hc : chkF (stsAt (stC L) n) = (decide (idxS n (L.take (n - 1)) 0 = -1) && rightF x n true) := by
        unfold chkF
        rw [hlen, decide_eq_true (by omega), Bool.true_and, stsAt_eq hn, show L.take n = L.take (n - 1) ++ [x] by
          rw [show n = n - 1 + 1 by omega, List.take_add_one, hx]; rfl]
        exact chkL_app n x _
      have hi := idxS_ge n (L.take (n - 1)) 0 (by decide)
      simp only [hw, Int.toNat_natCast, Nat.sub_zero, Nat.zero_add, stsAt_eq (show n - 1 ≤ L.length by omega), g0, g1, g2, g3, g4, g5, g6, intV, Option.getD_some, hD]
      refine Need_iff.2 ⟨leI_iff.2 (by omega), Need_iff.2 ⟨leI_iff.2 (by omega), ⟨stC_flat L, rfl, trivial⟩, ⟨trivial, hI, Need_iff.2 ⟨leN_iff.2 (by omega), trivial⟩⟩, Alt_iff.2 ⟨fun h => ?_, fun h => fin false ?_⟩⟩⟩
      · have hz : idxS n (L.take (n - 1)) 0 = -1 := by
          rw [Bool.not_eq_true', leI_eq, decide_eq_false_iff_not] at h
          omega
        refine Need_iff.2 ⟨leI_iff.2 (by omega), Need_iff.2 ⟨ltI_iff.2 (by omega), Need_iff.2 ⟨rfl, Need_iff.2 ⟨rfl, Need_iff.2 ⟨rfl, Need_iff.2 ⟨rfl, Need_iff.2 ⟨rfl, Need_iff.2 ⟨rfl, Need_iff.2 ⟨rfl, trivial, hA, fin _ ?_⟩⟩⟩⟩⟩⟩⟩⟩⟩
        rw [hc, hz]; rfl
      · have hz : ¬ idxS n (L.take (n - 1)) 0 = -1 := by
          rw [Bool.not_eq_false', leI_eq, decide_eq_true_eq] at h
          omega
        rw [hc, decide_eq_false hz]; rfl
  · exact hpre.elim
theorem rchk_loop (hm : Try.prog.follows .mixedOrders = true) (L : List St) (sp : Option Nat) (n k : Nat) (own : Bool) (hn : n ≤ L.length) (hs : n ≤ 1000000) (c : Bool) (K : Post) (hK : Q729 (stC L) own c K) : ∀ (t : List St) (i : Nat), (L.take n).drop i = t → chkL n t = c →
    LSays Try.prog 1 (sub body729 [0,0,1,0,1,1]) (T729 sp n k i) (hp [.cells (stC L) 7 own]) K := by
  have hF : FlatD [] (hp [.cells (stC L) 7 own]) := FlatD.hp ⟨stC_flat L, trivial⟩
  unfold Q729 at hK
  obtain ⟨hT, hN⟩ := Alt_iff.1 hK
  intro t
  induction t with
  | nil =>
    intro i ht hr
    have hge : ¬ ((i : Int) < (n : Int)) := by have := List.drop_eq_nil_iff.1 ht; rw [List.length_take] at this; omega
    refine (sure0 hm).roundX F729 noLoops [] [] [] [] [0,3] ?_
    rw [r729]
    simp only [hge, hF, Alt_iff, Need_iff, ltI_eq, leI_eq, eqI_eq, leN_eq, eqN_eq, decide_eq_true_eq, decide_eq_false_iff_not, decide_true, decide_false, true_and, and_true, Bool.true_eq_false, Bool.false_eq_true, false_implies, true_implies, implies_true, not_true_eq_false, not_false_eq_true, Bool.not_eq_true', Bool.not_eq_false', Nat.zero_add, Nat.add_zero, Nat.sub_zero, Nat.zero_mul, Nat.mul_one, Int.toNat_natCast, List.drop_zero, beqV_int, beqV_sl, beqV_str, beqV_bool, beqV_ptr, beqV_flt, beqV_agg, beqV_tuple, List.all_cons, List.all_nil, Bool.and_self, Bool.and_true, Bool.true_and, Nat.le_refl, Int.le_refl, Nat.zero_le, Option.getD_some, isStr, strV, isInt, intV, isBool, boolV, kindEq, at0, isJunk, Option.isSome_some, Option.isSome_none, if_true, if_false, Nat.add_sub_cancel_left, Nat.add_sub_cancel]
    exact hT hr.symm
  | cons x t ih =>
    intro i ht hr
    have hx : (L.take n)[i]? = some x := by
      have := congrArg List.head? ht
      rw [List.head?_drop] at this; exact this
    have hi : i < n := by have := (List.getElem?_eq_some_iff.1 hx).1; rw [List.length_take] at this; omega
    have hxL : L[i]? = some x := by rw [List.getElem?_take_of_lt hi] at hx; exact hx
    obtain ⟨g0, g1, g2, g3, g4, g5, g6⟩ := st_get hxL
    have hw : wr .i64 ((i : Int) + 1) = ((i + 1 : Nat) : Int) := by rw [wr_eq]; simp [IntKind.wrap, IntKind.bits, IntKind.signed]; omega
    have hw2 : wr .i64 ((n : Int) - 1) = (n : Int) - 1 := by rw [wr_eq]; simp [IntKind.wrap, IntKind.bits, IntKind.signed]; omega
    have hd : (L.take n).drop (i + 1) = t := by rw [← List.drop_drop, ht]; rfl
    have he : t.isEmpty = eqI (i : Int) ((n : Int) - 1) := by
      have h1 : t.length = n - (i + 1) := by rw [← hd, List.length_drop, List.length_take]; omega
      rw [Bool.eq_iff_iff, eqI_iff, List.isEmpty_iff_length_eq_zero]; omega
    rw [chkL, he] at hr
    refine (sure0 hm).roundX F729 noLoops [] [] [] [] [0,3] ?_
    rw [r729]
    have next : rightF x n (eqI (i : Int) ((n : Int) - 1)) = true → FlatD [] (hp [.cells (stC L) 7 own]) ∧ LSays Try.prog 1 (sub body729 [0,0,1,0,1,1]) (T729 sp n k (i + 1)) (hp [.cells (stC L) 7 own]) K := fun h => ⟨hF, ih (i + 1) hd (by rw [h] at hr; exact hr)⟩
    have stop : rightF x n (eqI (i : Int) ((n : Int) - 1)) = false → FlatD [] (hp [.cells (stC L) 7 own]) ∧ K .ret (tmps 108 [(2, .bool false)]) (hp [.cells (stC L) 7 own]) := fun h => ⟨hF, hN (by rw [h] at hr; exact hr.symm)⟩
    unfold T729 at next
    have hlt : ltI (i : Int) (n : Int) = true := ltI_iff.2 (by omega)
    simp only [hlt, hw, hw2, Int.toNat_natCast, Nat.zero_add, g0, g1, g2, g3, g4, g5, g6, intV, Option.getD_some, isInt, kindEq]
    generalize eqI (i : Int) ((n : Int) - 1) = e at next stop hr
    unfold rightF at next stop
    have red : ∀ (c : Bool) (A B : Prop), (c = true → A) → (c = false → B) → Alt c A B := fun c A B h1 h2 => Alt_iff.2 ⟨h1, h2⟩
    have ned : ∀ (A : Prop), A → Need true A := fun A h => Need_iff.2 ⟨rfl, h⟩
    refine red _ _ _ (fun _ => ?_) (fun h => by cases h)
    repeat' (refine ned _ ?_)
    repeat' (refine red _ _ _ (fun h => ?_) (fun h => ?_))
    all_goals first | refine next ?_ | refine stop ?_
    all_goals first | (simp only [*]; rfl) | (simp only [*]; done) | (simp_all; done) | skip
theorem rcheck_says (hm : Try.prog.follows .mixedOrders = true) : checkC.Holds Try.prog 28 := by
  intro args blks hf hpre
  refine ⟨trivial, ?_⟩
  simp only [checkC] at hpre ⊢
  split at hpre
  · rename_i sp n k cs own
    obtain ⟨⟨L, rfl, hn, ok, hs⟩, hnk⟩ := hpre
    have hF : FlatD [] (hp [.cells (stC L) 7 own]) := FlatD.hp ⟨stC_flat L, trivial⟩
    have hL : Loops Try.prog body729 1 (cutE [cut729 sp n k (stC L) own (chkL n (L.take n))]) := Loops.noneE.moreE _ fun x K hQ => by
      show LSays Try.prog 1 (sub body729 [0,0,1,0,1,1]) (T729 sp n k (0 : Nat)) (hp [.cells (stC L) 7 own]) K
      exact rchk_loop hm L sp n k own hn hs _ K hQ (L.take n) 0 rfl rfl
    refine (sure0 hm).funX F729 body729 [] [] Try.func28 rfl (hL.gcX (at0 []) (at0 [])) ?_
    rw [w729]
    have hlen : (stsAt (stC L) n).length = n := by rw [stsAt_eq hn, List.length_take]; omega
    have fin : ∀ b : Bool, b = chkF (stsAt (stC L) n) → FlatD [] (hp [.cells (stC L) 7 own]) ∧ isJunk (Value.bool b) = false ∧ Value.bool b = Value.bool (chkF (stsAt (stC L) n)) ∧ hp [.cells (stC L) 7 own] = hp ([.cells (stC L) 7 own] ++ []) := fun b h => ⟨hF, rfl, by rw [h], rfl⟩
    refine Alt_iff.2 ⟨fun h => fin false ?_, fun h1 => Alt_iff.2 ⟨fun h => fin false ?_, fun h2 => ⟨hF, 0, rfl, rfl, Alt_iff.2 ⟨fun h => fin true ?_, fun h => fin false ?_⟩⟩⟩⟩
    · rw [ltI_eq, decide_eq_true_eq] at h
      unfold chkF; rw [hlen, decide_eq_false (by omega)]; rfl
    · rw [ltI_eq, decide_eq_true_eq] at h
      unfold chkF; rw [hlen, decide_eq_false (by omega)]; rfl
    · rw [ltI_eq, decide_eq_false_iff_not] at h1 h2
      unfold chkF; rw [hlen, decide_eq_true (by omega), stsAt_eq hn, h]; rfl
    · unfold chkF; rw [hlen, stsAt_eq hn, h, Bool.and_false]
  · exact hpre.elim
end Go.Proofs.Ytfgiifppapopnaa

namespace Go.Proofs.Ytfgiifppapopnaa
open Go.RowKit Go.Proofs.Ytfgiifppapopnaa.AM
set_option maxRecDepth 100000
set_option maxHeartbeats 4000000
noncomputable def body746 : Code := (Try.f45.body).getD .skip
def F746 : List Nat → Option (List Nat) := fun p => match p with
  | [1] => some [0, 1, 2]
  | [1, 0, 1] => some [0, 1, 2, 14]
  | [1, 0, 1, 0, 1] => some [6]
  | [1, 1] => some [0, 1, 2]
  | [1, 1, 1] => some [0, 1, 2]
  | [1, 0, 1, 1, 1] => some [0, 1, 2, 7]
  | [1, 1, 0, 1, 1, 1] => some [0, 1, 2, 7, 27]
  | [1, 0, 1, 1, 0, 1, 1, 1] => some [0, 1, 2, 7, 27, 28]
  | [1, 0, 1, 0, 1, 1, 0, 1, 1, 1] => some [6]
  | [1, 1, 1, 0, 1, 1, 0, 1, 1, 1] => some [0, 1, 2, 7, 41]
  | [1, 0, 1, 1, 1, 0, 1, 1, 0, 1, 1, 1] => some [6]
  | [1, 1, 1, 1] => some [1]
  | [1, 1, 1, 1, 1] => some [6]
  | _ => none
/-- is a number's bit set? -/
def bitS (b : Int) (i : Int) : Bool := b.toNat.testBit i.toNat
def setS (b : Int) (i : Int) : Int := ((b.toNat ||| (1 <<< i.toNat) : Nat) : Int)
def orS (a b : Int) : Int := ((a.toNat ||| b.toNat : Nat) : Int)
def stAt (P : List St) (i : Int) : St := P.getD i.toNat ⟨0, 0, 0, 0, 0, 0, 0⟩
/-- what is come to from a place, so deep: the steps, and what is passed by then -/
def comeF : Nat → List St → Int → Int → Int × Int
  | 0, _, _, b => (0, b)
  | f + 1, P, i, b => if bitS b i then (0, b) else
    if (stAt P i).fo = 2 then (orS (comeF f P (stAt P i).fa (setS b i)).1 (comeF f P (stAt P i).fb (comeF f P (stAt P i).fa (setS b i)).2).1, (comeF f P (stAt P i).fb (comeF f P (stAt P i).fa (setS b i)).2).2) else
    if (stAt P i).fo = 3 then comeF f P (stAt P i).fa (setS b i) else (setS 0 i, setS b i)
/-- how many are not passed yet -/
def left (n : Nat) (b : Int) : Nat := ((List.range n).filter fun j : Nat => !bitS b (j : Int)).length
structure ComeOk (P : List St) (f : Nat) (i b : Int) : Prop where
  ck : chkF P = true
  i0 : 0 ≤ i
  i1 : i < P.length
  b0 : 0 ≤ b
  b1 : b < 2 ^ P.length
  lf : left P.length b < f
noncomputable def comeW (f : Nat) : CtrW where
  D := []
  W := [1]
  E := []
  pre := fun args blks => match args, blks with
    | [.slice (some ⟨0,0,_⟩) n k, .int .i64 i, .pointer (some ⟨1,0,none⟩)], [.cells cs 7 _, .cells [.int .u64 b] 1 true] => IsSt cs n ∧ ComeOk (stsAt cs n) f i b
    | _, _ => False
  val := fun args blks => match args, blks with
    | [.slice (some ⟨0,0,_⟩) n k, .int .i64 i, .pointer (some ⟨1,0,none⟩)], [.cells cs 7 _, .cells [.int .u64 b] 1 true] => .int .u64 (comeF f (stsAt cs n) i b).1
    | _, _ => undef
  out := fun args blks => match args, blks with
    | [.slice (some ⟨0,0,_⟩) n k, .int .i64 i, .pointer (some ⟨1,0,none⟩)], [.cells cs 7 own, .cells [.int .u64 b] 1 true] => [.cells cs 7 own, .cells [.int .u64 (comeF f (stsAt cs n) i b).2] 1 true]
    | _, _ => []
noncomputable def S746 (f : Nat) : Book := bookW [(45, comeW f)] S0

theorem w746 (f : Nat) (sp : Option Nat) (n k : Nat) (i b : Int) (cs : List Value) (own : Bool) (K : Value → Heap → Prop) :
  funX Try.prog (S746 f) noLoop F746 body746 Try.f45 [] [] [.slice (some ⟨0,0,sp⟩) n k, .int .i64 i, .pointer (some ⟨1,0,none⟩)] (hp [.cells cs 7 own, .cells [.int .u64 b] 1 true]) K = (
Need (leI 0 i) (Alt (eqI (bitsW BinOp.and IntKind.u64 ((intV (Value.int IntKind.u64 b)).fdiv (2 ^ min i.toNat 64)) 1) 1) (K (Value.int IntKind.u64 0) (hp [Blk.cells cs 7 own, Blk.cells [Value.int IntKind.u64 b] 1 true]))
(Need (leI 0 i) (Need (leI 0 i) (Need (ltI i (↑n : Int)) (Need (isInt IntKind.i64 ((getO cs (0 + i.toNat * 7)).getD undef)) (Need (isInt IntKind.u64 ((getO cs (0 + i.toNat * 7 + 1)).getD undef)) (Need (isInt IntKind.u64
((getO cs (0 + i.toNat * 7 + 1 + 1)).getD undef)) (Need (isInt IntKind.u64 ((getO cs (0 + i.toNat * 7 + 1 + 1 + 1)).getD undef)) (Need (isInt IntKind.u64 ((getO cs (0 + i.toNat * 7 + 1 + 1 + 1 + 1)).getD undef)) (Need
(isInt IntKind.i64 ((getO cs (0 + i.toNat * 7 + 1 + 1 + 1 + 1 + 1)).getD undef)) (Need (isInt IntKind.i64 ((getO cs (0 + i.toNat * 7 + 1 + 1 + 1 + 1 + 1 + 1)).getD undef)) (Alt (eqI (intV (Value.int IntKind.i64 (intV
((getO cs (0 + i.toNat * 7)).getD undef)))) 2) ((FlatL cs ∧ FlatL [Value.int IntKind.u64 (bitsW BinOp.or IntKind.u64 (intV (Value.int IntKind.u64 b)) (wr IntKind.u64 (1 * 2 ^ min i.toNat 64)))] ∧ True) ∧ (IsSt cs n ∧
ComeOk (stsAt cs n) f (intV (Value.int IntKind.i64 (intV ((getO cs (0 + i.toNat * 7 + 1 + 1 + 1 + 1 + 1)).getD undef)))) (bitsW BinOp.or IntKind.u64 (intV (Value.int IntKind.u64 b)) (wr IntKind.u64 (1 * 2 ^ min i.toNat
64)))) ∧ (FlatL cs ∧ FlatL [Value.int IntKind.u64 (comeF f (stsAt cs n) (intV (Value.int IntKind.i64 (intV ((getO cs (0 + i.toNat * 7 + 1 + 1 + 1 + 1 + 1)).getD undef)))) (bitsW BinOp.or IntKind.u64 (intV (Value.int
IntKind.u64 b)) (wr IntKind.u64 (1 * 2 ^ min i.toNat 64)))).snd] ∧ True) ∧ (IsSt cs n ∧ ComeOk (stsAt cs n) f (intV (Value.int IntKind.i64 (intV ((getO cs (0 + i.toNat * 7 + 1 + 1 + 1 + 1 + 1 + 1)).getD undef)))) (comeF
f (stsAt cs n) (intV (Value.int IntKind.i64 (intV ((getO cs (0 + i.toNat * 7 + 1 + 1 + 1 + 1 + 1)).getD undef)))) (bitsW BinOp.or IntKind.u64 (intV (Value.int IntKind.u64 b)) (wr IntKind.u64 (1 * 2 ^ min i.toNat
64)))).snd) ∧ Need (beqV 64 (Value.int IntKind.i64 (intV (Value.int IntKind.i64 (intV ((getO cs (0 + i.toNat * 7 + 1 + 1 + 1 + 1 + 1 + 1)).getD undef))))) (Value.int IntKind.i64 (intV (Value.int IntKind.i64 (intV ((getO
cs (0 + i.toNat * 7 + 1 + 1 + 1 + 1 + 1 + 1)).getD undef)))))) (Need (beqV 64 (Value.slice (some { block := 0, off := 0, spot := sp : Addr }) n k) (Value.slice (some { block := 0, off := 0, spot := sp : Addr }) n k)) (K
(Value.int IntKind.u64 (bitsW BinOp.or IntKind.u64 (comeF f (stsAt cs n) (intV (Value.int IntKind.i64 (intV ((getO cs (0 + i.toNat * 7 + 1 + 1 + 1 + 1 + 1)).getD undef)))) (bitsW BinOp.or IntKind.u64 (intV (Value.int
IntKind.u64 b)) (wr IntKind.u64 (1 * 2 ^ min i.toNat 64)))).fst (comeF f (stsAt cs n) (intV (Value.int IntKind.i64 (intV ((getO cs (0 + i.toNat * 7 + 1 + 1 + 1 + 1 + 1 + 1)).getD undef)))) (comeF f (stsAt cs n) (intV
(Value.int IntKind.i64 (intV ((getO cs (0 + i.toNat * 7 + 1 + 1 + 1 + 1 + 1)).getD undef)))) (bitsW BinOp.or IntKind.u64 (intV (Value.int IntKind.u64 b)) (wr IntKind.u64 (1 * 2 ^ min i.toNat 64)))).snd).fst)) (hp
[Blk.cells cs 7 own, Blk.cells [Value.int IntKind.u64 (comeF f (stsAt cs n) (intV (Value.int IntKind.i64 (intV ((getO cs (0 + i.toNat * 7 + 1 + 1 + 1 + 1 + 1 + 1)).getD undef)))) (comeF f (stsAt cs n) (intV (Value.int
IntKind.i64 (intV ((getO cs (0 + i.toNat * 7 + 1 + 1 + 1 + 1 + 1)).getD undef)))) (bitsW BinOp.or IntKind.u64 (intV (Value.int IntKind.u64 b)) (wr IntKind.u64 (1 * 2 ^ min i.toNat 64)))).snd).snd] 1 true])))) (Alt (eqI
(intV (Value.int IntKind.i64 (intV ((getO cs (0 + i.toNat * 7)).getD undef)))) 3) ((FlatL cs ∧ FlatL [Value.int IntKind.u64 (bitsW BinOp.or IntKind.u64 (intV (Value.int IntKind.u64 b)) (wr IntKind.u64 (1 * 2 ^ min
i.toNat 64)))] ∧ True) ∧ (IsSt cs n ∧ ComeOk (stsAt cs n) f (intV (Value.int IntKind.i64 (intV ((getO cs (0 + i.toNat * 7 + 1 + 1 + 1 + 1 + 1)).getD undef)))) (bitsW BinOp.or IntKind.u64 (intV (Value.int IntKind.u64 b))
(wr IntKind.u64 (1 * 2 ^ min i.toNat 64)))) ∧ K (Value.int IntKind.u64 (comeF f (stsAt cs n) (intV (Value.int IntKind.i64 (intV ((getO cs (0 + i.toNat * 7 + 1 + 1 + 1 + 1 + 1)).getD undef)))) (bitsW BinOp.or IntKind.u64
(intV (Value.int IntKind.u64 b)) (wr IntKind.u64 (1 * 2 ^ min i.toNat 64)))).fst) (hp [Blk.cells cs 7 own, Blk.cells [Value.int IntKind.u64 (comeF f (stsAt cs n) (intV (Value.int IntKind.i64 (intV ((getO cs (0 + i.toNat
* 7 + 1 + 1 + 1 + 1 + 1)).getD undef)))) (bitsW BinOp.or IntKind.u64 (intV (Value.int IntKind.u64 b)) (wr IntKind.u64 (1 * 2 ^ min i.toNat 64)))).snd] 1 true])) (Need (leI 0 i) (K (Value.int IntKind.u64 (wr IntKind.u64
(1 * 2 ^ min i.toNat 64))) (hp [Blk.cells cs 7 own, Blk.cells [Value.int IntKind.u64 (bitsW BinOp.or IntKind.u64 (intV (Value.int IntKind.u64 b)) (wr IntKind.u64 (1 * 2 ^ min i.toNat 64)))] 1 true]))))))))))))))))) := by kernel_rfl

end Go.Proofs.Ytfgiifppapopnaa

namespace Go.Proofs.Ytfgiifppapopnaa
open Go.RowKit Go.Proofs.Ytfgiifppapopnaa.AM
set_option maxRecDepth 100000
set_option maxHeartbeats 4000000
theorem orN (a c : Nat) (ha : a < 18446744073709551616) (hc : c < 18446744073709551616) : bitsW .or .u64 (a : Int) (c : Int) = ((a ||| c : Nat) : Int) := by
  have e : ((BitVec.ofInt 64 (a : Int)) ||| BitVec.ofInt 64 (c : Int)).toNat = a ||| c := by
    rw [ofInt_nat, ofInt_nat, BitVec.toNat_or, BitVec.toNat_ofNat, BitVec.toNat_ofNat, Nat.mod_eq_of_lt (show a < 2 ^ 64 by omega), Nat.mod_eq_of_lt (show c < 2 ^ 64 by omega)]
  have hl : a ||| c < 2 ^ 64 := Nat.or_lt_two_pow (by omega) (by omega)
  show wr .u64 (((BitVec.ofInt 64 (a : Int)) ||| BitVec.ofInt 64 (c : Int)).toNat : Int) = _
  rw [e, wr_u64 _ (by omega) (by omega)]
theorem and1 (a : Nat) (ha : a < 18446744073709551616) : bitsW .and .u64 (a : Int) 1 = ((a % 2 : Nat) : Int) := by
  have e : ((BitVec.ofInt 64 (a : Int)) &&& BitVec.ofInt 64 1).toNat = a % 2 := by
    rw [ofInt_nat, show (1 : Int) = ((1 : Nat) : Int) from rfl, ofInt_nat, BitVec.toNat_and, BitVec.toNat_ofNat, BitVec.toNat_ofNat, Nat.mod_eq_of_lt (show a < 2 ^ 64 by omega), show 1 % 2 ^ 64 = 2 ^ 1 - 1 by decide, Nat.and_two_pow_sub_one_eq_mod]
  show wr .u64 (((BitVec.ofInt 64 (a : Int)) &&& BitVec.ofInt 64 1).toNat : Int) = _
  rw [e, wr_u64 _ (by omega) (by omega)]
theorem bit_eq (b i : Nat) (hb : b < 18446744073709551616) (hi : i < 64) : eqI (bitsW .and .u64 ((b : Int).fdiv (2 ^ min i 64)) 1) 1 = bitS b i := by
  rw [Nat.min_eq_left (by omega), Int.fdiv_eq_ediv_of_nonneg _ (Int.le_of_lt (Int.pow_pos (by decide)))]
  rw [show (b : Int) / 2 ^ i = ((b / 2 ^ i : Nat) : Int) by simp]
  rw [and1 _ (Nat.lt_of_le_of_lt (Nat.div_le_self _ _) hb)]
  unfold bitS
  rw [Int.toNat_natCast, Int.toNat_natCast, Nat.testBit_eq_decide_div_mod_eq, Bool.eq_iff_iff, eqI_iff, decide_eq_true_iff]
  omega
theorem set_one (i : Nat) (hi : i < 64) : wr .u64 (1 * 2 ^ min i 64) = ((2 ^ i : Nat) : Int) := by
  rw [Nat.min_eq_left (by omega), Int.one_mul]
  have h : 2 ^ i < 2 ^ 64 := Nat.pow_lt_pow_right (by decide) hi
  rw [show ((2 : Int) ^ i) = ((2 ^ i : Nat) : Int) by simp]
  generalize 2 ^ i = q at h ⊢
  exact wr_u64 _ (by omega) (by omega)
theorem setS_eq (b i : Nat) : setS b i = ((b ||| 2 ^ i : Nat) : Int) := by
  unfold setS; rw [Int.toNat_natCast, Int.toNat_natCast, Nat.one_shiftLeft]
theorem setS_zero (i : Nat) : setS 0 i = ((2 ^ i : Nat) : Int) := by
  have := setS_eq 0 i
  rw [Nat.zero_or] at this; exact this
theorem orS_eq (a c : Nat) : orS a c = ((a ||| c : Nat) : Int) := rfl
theorem bitS_nat (b i : Nat) : bitS b i = b.testBit i := rfl
theorem bitS_set (b i j : Nat) : bitS ((b ||| 2 ^ i : Nat) : Int) (j : Int) = (bitS b j || decide (i = j)) := by
  rw [bitS_nat, bitS_nat, Nat.testBit_or, Nat.testBit_two_pow]
theorem bitS_or (a c j : Nat) : bitS ((a ||| c : Nat) : Int) (j : Int) = (bitS a j || bitS c j) := by
  rw [bitS_nat, bitS_nat, bitS_nat, Nat.testBit_or]
theorem left_mono (n : Nat) (a c : Int) (h : ∀ j : Nat, j < n → bitS a j = true → bitS c j = true) : left n c ≤ left n a := by
  unfold left
  induction n with
  | zero => exact Nat.le_refl _
  | succ n ih =>
    rw [List.range_succ, List.filter_append, List.filter_append, List.length_append, List.length_append]
    have h1 := ih fun j hj => h j (by omega)
    have h2 := h n (by omega)
    cases hc : bitS c n with
    | true => simp [hc]; omega
    | false =>
      have ha : bitS a n = false := by
        cases ha : bitS a n with
        | false => rfl
        | true => rw [h2 ha] at hc; cases hc
      simp [hc, ha]; omega
theorem left_lt (n : Nat) (a c : Int) (h : ∀ j : Nat, j < n → bitS a j = true → bitS c j = true) (i : Nat) (hi : i < n) (h1 : bitS a i = false) (h2 : bitS c i = true) : left n c < left n a := by
  unfold left
  induction n with
  | zero => omega
  | succ n ih =>
    rw [List.range_succ, List.filter_append, List.filter_append, List.length_append, List.length_append]
    by_cases hin : i = n
    · subst hin
      have hm := left_mono i a c fun j hj => h j (by omega)
      unfold left at hm
      simp [h1, h2]; omega
    · have hl := ih (fun j hj => h j (by omega)) (by omega)
      have h3 := h n (by omega)
      cases hc : bitS c n with
      | true => simp [hc]; omega
      | false =>
        have ha : bitS a n = false := by
          cases ha : bitS a n with
          | false => rfl
          | true => rw [h3 ha] at hc; cases hc
        simp [hc, ha]; omega
/-- what a program's steps are -/
structure StIn (n : Nat) (i : Nat) (x : St) : Prop where
  op : x.fo = 1 ∨ x.fo = 2 ∨ x.fo = 3 ∨ x.fo = 4
  ne : x.fo = 1 → i + 1 < n
  sp : x.fo = 2 → 0 ≤ x.fa ∧ x.fa < n ∧ 0 ≤ x.fb ∧ x.fb < n
  jp : x.fo = 3 → 0 ≤ x.fa ∧ x.fa < n
theorem right_in {n : Nat} {i : Nat} {x : St} {last : Bool} (hl : last = false → i + 1 < n) (h : rightF x n last = true) : StIn n i x := by
  unfold rightF at h
  cases h1 : eqI x.fo 1 with
  | true =>
    rw [h1] at h
    rw [eqI_iff] at h1
    simp at h
    exact ⟨.inl h1, fun _ => hl h.2.2, fun h2 => by omega, fun h2 => by omega⟩
  | false =>
    rw [h1] at h
    have n1 : ¬ x.fo = 1 := fun e => by rw [eqI_iff.2 e] at h1; cases h1
    cases h2 : eqI x.fo 2 with
    | true =>
      rw [h2] at h
      rw [eqI_iff] at h2
      simp [leI_eq, ltI_eq] at h
      exact ⟨.inr (.inl h2), fun e => absurd e n1, fun _ => ⟨h.2.1, h.2.2.1, h.2.2.2.1, h.2.2.2.2⟩, fun e => by omega⟩
    | false =>
      rw [h2] at h
      have n2 : ¬ x.fo = 2 := fun e => by rw [eqI_iff.2 e] at h2; cases h2
      cases h3 : eqI x.fo 3 with
      | true =>
        rw [h3] at h
        rw [eqI_iff] at h3
        simp [leI_eq, ltI_eq] at h
        exact ⟨.inr (.inr (.inl h3)), fun e => absurd e n1, fun e => absurd e n2, fun _ => ⟨h.2.1, h.2.2.1⟩⟩
      | false =>
        rw [h3] at h
        have n3 : ¬ x.fo = 3 := fun e => by rw [eqI_iff.2 e] at h3; cases h3
        simp [eqI_eq] at h
        exact ⟨.inr (.inr (.inr h.2.1)), fun e => absurd e n1, fun e => absurd e n2, fun e => absurd e n3⟩
theorem chkL_in (n : Nat) : ∀ (t : List St) (i : Nat), i + t.length = n → chkL n t = true → ∀ (j : Nat) x, t[j]? = some x → StIn n (i + j) x := by
  intro t
  induction t with
  | nil => intro i _ _ j x h; simp at h
  | cons y t ih =>
    intro i hi h j x hx
    rw [chkL, Bool.and_eq_true] at h
    simp only [List.length_cons] at hi
    cases j with
    | zero =>
      simp at hx; subst hx
      refine right_in (fun hl => ?_) h.1
      cases t with
      | nil => cases hl
      | cons => simp at hi; omega
    | succ j =>
      have := ih (i + 1) (by omega) h.2 j x (by simpa using hx)
      rw [show i + (j + 1) = i + 1 + j by omega]; exact this
theorem chk_in {P : List St} (h : chkF P = true) : P.length ≤ 40 ∧ 1 ≤ P.length ∧ ∀ (j : Nat), j < P.length → StIn P.length j (stAt P j) := by
  unfold chkF at h
  rw [Bool.and_eq_true, decide_eq_true_iff] at h
  refine ⟨h.1.2, h.1.1, fun j hj => ?_⟩
  have hx := List.getElem?_eq_getElem hj
  have := chkL_in P.length P 0 (by omega) h.2 j _ hx
  rw [Nat.zero_add] at this
  unfold stAt
  rw [Int.toNat_natCast, List.getD_eq_getElem?_getD, hx]; exact this
end Go.Proofs.Ytfgiifppapopnaa

namespace Go.Proofs.Ytfgiifppapopnaa
open Go.RowKit Go.Proofs.Ytfgiifppapopnaa.AM
set_option maxRecDepth 100000
set_option maxHeartbeats 4000000
/-- what is met from a place by splits and jumps -/
inductive Rch (P : List St) : Nat → Nat → Prop
  | refl (i : Nat) : Rch P i i
  | sa (i j : Nat) (h : (stAt P i).fo = 2 ∨ (stAt P i).fo = 3) (hr : Rch P (stAt P i).fa.toNat j) : Rch P i j
  | sb (i j : Nat) (h : (stAt P i).fo = 2) (hr : Rch P (stAt P i).fb.toNat j) : Rch P i j
/-- whoever is in a set leads into it -/
structure Cls (P : List St) (c : Nat) (j : Nat) : Prop where
  a : (stAt P j).fo = 2 ∨ (stAt P j).fo = 3 → c.testBit (stAt P j).fa.toNat = true
  b : (stAt P j).fo = 2 → c.testBit (stAt P j).fb.toNat = true
structure Term (P : List St) (j : Nat) : Prop where
  n2 : ¬ (stAt P j).fo = 2
  n3 : ¬ (stAt P j).fo = 3
structure ComeR (P : List St) (i b o c : Nat) : Prop where
  o1 : o < 2 ^ P.length
  c1 : c < 2 ^ P.length
  up : ∀ j, b.testBit j = true → c.testBit j = true
  me : c.testBit i = true
  rc : ∀ j, c.testBit j = true → b.testBit j = false → Rch P i j
  cl : ∀ j, c.testBit j = true → b.testBit j = false → Cls P c j
  tm : ∀ j, c.testBit j = true → b.testBit j = false → Term P j → o.testBit j = true
  ot : ∀ j, o.testBit j = true → Term P j ∧ c.testBit j = true ∧ b.testBit j = false
theorem Cls.mono {P : List St} {c d j : Nat} (h : Cls P c j) (hm : ∀ k, c.testBit k = true → d.testBit k = true) : Cls P d j := ⟨fun e => hm _ (h.a e), fun e => hm _ (h.b e)⟩
theorem tb_set (b i j : Nat) : (b ||| 2 ^ i).testBit j = (b.testBit j || decide (i = j)) := by rw [Nat.testBit_or, Nat.testBit_two_pow]
theorem left_zero (n : Nat) (b : Int) (h : left n b = 0) (i : Nat) (hi : i < n) : bitS b i = true := by
  unfold left at h
  rw [List.length_eq_zero_iff, List.filter_eq_nil_iff] at h
  have := h i (List.mem_range.2 hi)
  simpa using this
theorem come_facts {P : List St} (hP : chkF P = true) : ∀ (f i b : Nat), i < P.length → b < 2 ^ P.length → left P.length b ≤ f → ∃ o c : Nat, comeF f P i b = ((o : Int), (c : Int)) ∧ ComeR P i b o c := by
  obtain ⟨hl, h1, hin⟩ := chk_in hP
  have old : ∀ (i b : Nat), b < 2 ^ P.length → b.testBit i = true → ComeR P i b 0 b := fun i b hb h => ⟨Nat.two_pow_pos _, hb, fun j h => h, h, fun j a c => by rw [a] at c; (cases c), fun j a c => by rw [a] at c; (cases c), fun j a c => by rw [a] at c; (cases c), fun j a => by rw [Nat.zero_testBit] at a; (cases a)⟩
  intro f
  induction f with
  | zero =>
    intro i b hi hb hf
    have := left_zero _ _ (Nat.le_zero.1 hf) i hi
    exact ⟨0, b, rfl, old i b hb this⟩
  | succ f ih =>
    intro i b hi hb hf
    cases hbit : b.testBit i with
    | true =>
      refine ⟨0, b, ?_, old i b hb hbit⟩
      unfold comeF
      rw [if_pos (show bitS b i = true from hbit)]; rfl
    | false =>
      have hx := hin i hi
      have hs : setS b i = ((b ||| 2 ^ i : Nat) : Int) := setS_eq b i
      have hi2 : 2 ^ i < 2 ^ P.length := Nat.pow_lt_pow_right (by decide) hi
      have hb1 : b ||| 2 ^ i < 2 ^ P.length := Nat.or_lt_two_pow hb hi2
      have hup : ∀ j, b.testBit j = true → (b ||| 2 ^ i).testBit j = true := fun j h => by rw [tb_set, h]; rfl
      have hme : (b ||| 2 ^ i).testBit i = true := by rw [tb_set]; simp
      have hlt : left P.length ((b ||| 2 ^ i : Nat) : Int) ≤ f := by
        have := left_lt P.length (b : Int) ((b ||| 2 ^ i : Nat) : Int) (fun j _ h => hup j h) i hi hbit hme
        omega
      have hne : ∀ j, (b ||| 2 ^ i).testBit j = true → b.testBit j = false → j = i := fun j h h2 => by
        rw [tb_set, h2, Bool.false_or, decide_eq_true_iff] at h; exact h.symm
      unfold comeF
      rw [if_neg (show ¬ bitS b i = true by rw [bitS_nat, hbit]; simp), hs]
      by_cases h2 : (stAt P i).fo = 2
      · rw [if_pos h2]
        obtain ⟨a0, a1, b0, b1⟩ := hx.sp h2
        obtain ⟨x, hx1⟩ := Int.eq_ofNat_of_zero_le a0
        obtain ⟨y, hy1⟩ := Int.eq_ofNat_of_zero_le b0
        obtain ⟨o1, c1, e1, r1⟩ := ih x (b ||| 2 ^ i) (by omega) hb1 hlt
        obtain ⟨o2, c2, e2, r2⟩ := ih y c1 (by omega) r1.c1 (Nat.le_trans (left_mono P.length ((b ||| 2 ^ i : Nat) : Int) (c1 : Int) fun j _ h => r1.up j h) hlt)
        rw [hx1, hy1, e1]
        simp only
        rw [e2]
        refine ⟨o1 ||| o2, c2, by rw [orS_eq], ?_⟩
        have fax : (stAt P i).fa.toNat = x := by rw [hx1]; rfl
        have fby : (stAt P i).fb.toNat = y := by rw [hy1]; rfl
        refine ⟨Nat.or_lt_two_pow r1.o1 r2.o1, r2.c1, fun j h => r2.up j (r1.up j (hup j h)), r2.up i (r1.up i hme), fun j h h0 => ?_, fun j h h0 => ?_, fun j h h0 ht => ?_, fun j h => ?_⟩
        · cases hc1 : c1.testBit j with
          | false => exact .sb i j h2 (by rw [fby]; exact r2.rc j h hc1)
          | true =>
            cases hb2 : (b ||| 2 ^ i).testBit j with
            | false => exact .sa i j (.inl h2) (by rw [fax]; exact r1.rc j hc1 hb2)
            | true => rw [hne j hb2 h0]; exact .refl i
        · cases hc1 : c1.testBit j with
          | false => exact r2.cl j h hc1
          | true =>
            cases hb2 : (b ||| 2 ^ i).testBit j with
            | false => exact (r1.cl j hc1 hb2).mono r2.up
            | true =>
              rw [hne j hb2 h0]
              exact ⟨fun _ => by rw [fax]; exact r2.up _ r1.me, fun _ => by rw [fby]; exact r2.me⟩
        · rw [Nat.testBit_or]
          cases hc1 : c1.testBit j with
          | false => rw [r2.tm j h hc1 ht, Bool.or_true]
          | true =>
            cases hb2 : (b ||| 2 ^ i).testBit j with
            | false => rw [r1.tm j hc1 hb2 ht]; rfl
            | true => rw [hne j hb2 h0] at ht; exact absurd h2 ht.n2
        · rw [Nat.testBit_or, Bool.or_eq_true] at h
          have hbf : ∀ j, (b ||| 2 ^ i).testBit j = false → b.testBit j = false := fun j h => by
            rw [tb_set, Bool.or_eq_false_iff] at h; exact h.1
          rcases h with h | h
          · obtain ⟨t1, t2, t3⟩ := r1.ot j h
            exact ⟨t1, r2.up j t2, hbf j t3⟩
          · obtain ⟨t1, t2, t3⟩ := r2.ot j h
            refine ⟨t1, t2, ?_⟩
            cases hbj : b.testBit j with
            | false => rfl
            | true => rw [r1.up j (hup j hbj)] at t3; cases t3
      rw [if_neg h2]
      by_cases h3 : (stAt P i).fo = 3
      · rw [if_pos h3]
        obtain ⟨a0, a1⟩ := hx.jp h3
        obtain ⟨x, hx1⟩ := Int.eq_ofNat_of_zero_le a0
        obtain ⟨o1, c1, e1, r1⟩ := ih x (b ||| 2 ^ i) (by omega) hb1 hlt
        rw [hx1, e1]
        have fax : (stAt P i).fa.toNat = x := by rw [hx1]; rfl
        refine ⟨o1, c1, rfl, r1.o1, r1.c1, fun j h => r1.up j (hup j h), r1.up i hme, fun j h h0 => ?_, fun j h h0 => ?_, fun j h h0 ht => ?_, fun j h => ?_⟩
        · cases hb2 : (b ||| 2 ^ i).testBit j with
          | false => exact .sa i j (.inr h3) (by rw [fax]; exact r1.rc j h hb2)
          | true => rw [hne j hb2 h0]; exact .refl i
        · cases hb2 : (b ||| 2 ^ i).testBit j with
          | false => exact r1.cl j h hb2
          | true =>
            rw [hne j hb2 h0]
            exact ⟨fun _ => by rw [fax]; exact r1.me, fun e => absurd e h2⟩
        · cases hb2 : (b ||| 2 ^ i).testBit j with
          | false => exact r1.tm j h hb2 ht
          | true => rw [hne j hb2 h0] at ht; exact absurd h3 ht.n3
        · obtain ⟨t1, t2, t3⟩ := r1.ot j h
          rw [tb_set, Bool.or_eq_false_iff] at t3
          exact ⟨t1, t2, t3.1⟩
      · rw [if_neg h3, setS_zero]
        refine ⟨2 ^ i, b ||| 2 ^ i, rfl, hi2, hb1, hup, hme, fun j h h0 => ?_, fun j h h0 => ?_, fun j h h0 ht => ?_, fun j h => ?_⟩
        · rw [hne j h h0]; exact .refl i
        · rw [hne j h h0]; exact ⟨fun e => by rcases e with e | e; exact absurd e h2; exact absurd e h3, fun e => absurd e h2⟩
        · rw [hne j h h0, Nat.testBit_two_pow]; simp
        · rw [Nat.testBit_two_pow, decide_eq_true_iff] at h
          subst h
          exact ⟨⟨h2, h3⟩, hme, hbit⟩
end Go.Proofs.Ytfgiifppapopnaa

namespace Go.Proofs.Ytfgiifppapopnaa
open Go.RowKit Go.Proofs.Ytfgiifppapopnaa.AM
set_option maxRecDepth 100000
set_option maxHeartbeats 4000000
theorem u64_flat (b : Int) : FlatL [Value.int .u64 b] := ⟨fun v hv => by simp at hv; subst hv; rfl⟩
theorem come_ok {P : List St} (hP : chkF P = true) {f i b : Nat} (hi : i < P.length) (hb : b < 2 ^ P.length) (hf : left P.length b < f) : ComeOk P f i b := ⟨hP, by omega, by omega, by omega, by exact_mod_cast hb, hf⟩
theorem come_says (hm : Try.prog.follows .mixedOrders = true) : ∀ f, (comeW f).Holds Try.prog 45 := by
  intro f
  induction f with
  | zero =>
    intro args blks hf hpre
    simp only [comeW] at hpre
    split at hpre
    · exact absurd hpre.2.lf (Nat.not_lt_zero _)
    · exact hpre.elim
  | succ f ih =>
    intro args blks hf hpre
    simp only [comeW] at hpre ⊢
    split at hpre
    · rename_i sp n k i cs own b
      obtain ⟨⟨L, rfl, hn, ok, hs⟩, hC⟩ := hpre
      have hI : IsSt (stC L) n := .mk L rfl hn ok hs
      rw [stsAt_eq hn] at hC ⊢
      have hP := hC.ck
      have hlen : (L.take n).length = n := by rw [List.length_take]; omega
      obtain ⟨hl40, hl1, hin⟩ := chk_in hP
      have i0 := hC.i0
      have i1 := hC.i1
      have b0 := hC.b0
      have hb1 := hC.b1
      have hlf := hC.lf
      obtain ⟨i, rfl⟩ := Int.eq_ofNat_of_zero_le i0
      obtain ⟨b, rfl⟩ := Int.eq_ofNat_of_zero_le b0
      have hi : i < (L.take n).length := by omega
      have hb : b < 2 ^ (L.take n).length := by exact_mod_cast hb1
      have h64 : 2 ^ (L.take n).length ≤ 18446744073709551616 := by
        have := Nat.pow_le_pow_right (show 0 < 2 by decide) (show (L.take n).length ≤ 64 by omega)
        exact Nat.le_trans this (by decide)
      have s : Sure Try.prog (S746 f) := ⟨hm, plain, bookW_ok sums0 (l := [(45, comeW f)]) ⟨ih, trivial⟩⟩
      refine ⟨⟨rfl, trivial, trivial⟩, ⟨u64_flat _, trivial⟩, ?_⟩
      have hF : ∀ c : Int, FlatD [] (hp [.cells (stC L) 7 own, .cells [.int .u64 c] 1 true]) := fun c => FlatD.hp ⟨stC_flat L, u64_flat c, trivial⟩
      refine s.funX F746 body746 [] [] Try.func45 rfl noLoops ?_
      rw [w746]
      have hx : L[i]? = some (stAt (L.take n) i) := by
        have h1 : (L.take n)[i]? = L[i]? := List.getElem?_take_of_lt (by omega)
        unfold stAt
        rw [Int.toNat_natCast, List.getD_eq_getElem?_getD, h1, List.getElem?_eq_getElem (by omega)]; rfl
      have hS := hin i hi
      obtain ⟨g0, g1, g2, g3, g4, g5, g6⟩ := st_get hx
      have ei : (i : Int).toNat = i := rfl
      have e1 : eqI (bitsW .and .u64 ((b : Int).fdiv (2 ^ min i 64)) 1) 1 = b.testBit i := bit_eq b i (by omega) (by omega)
      have e2 : wr .u64 (1 * 2 ^ min i 64) = ((2 ^ i : Nat) : Int) := set_one i (by omega)
      have hi2 : 2 ^ i < 2 ^ (L.take n).length := Nat.pow_lt_pow_right (by decide) hi
      have e3 : bitsW .or .u64 (b : Int) ((2 ^ i : Nat) : Int) = ((b ||| 2 ^ i : Nat) : Int) := orN b (2 ^ i) (by omega) (by omega)
      have hb2 : b ||| 2 ^ i < 2 ^ (L.take n).length := Nat.or_lt_two_pow hb hi2
      simp only [intV, ei, e1, e2, e3, Nat.zero_add, g0, g1, g2, g3, g4, g5, g6, Option.getD_some, isInt, kindEq, stsAt_eq hn]
      have hcf : comeF (f + 1) (L.take n) i b = if bitS b i then (0, (b : Int)) else
          if (stAt (L.take n) i).fo = 2 then (orS (comeF f (L.take n) (stAt (L.take n) i).fa (setS b i)).1 (comeF f (L.take n) (stAt (L.take n) i).fb (comeF f (L.take n) (stAt (L.take n) i).fa (setS b i)).2).1, (comeF f (L.take n) (stAt (L.take n) i).fb (comeF f (L.take n) (stAt (L.take n) i).fa (setS b i)).2).2) else
          if (stAt (L.take n) i).fo = 3 then comeF f (L.take n) (stAt (L.take n) i).fa (setS b i) else (setS 0 i, setS b i) := rfl
      rw [hcf, setS_eq, setS_zero]
      generalize L.take n = P at *
      have p0 : leI 0 (i : Int) = true := leI_iff.2 (by omega)
      have p1 : ltI (i : Int) (n : Int) = true := ltI_iff.2 (by omega)
      have ned : ∀ (A : Prop), A → Need true A := fun A h => Need_iff.2 ⟨rfl, h⟩
      rw [p0, p1]
      refine ned _ ?_
      cases hbit : b.testBit i with
      | true =>
        rw [if_pos (show bitS b i = true from hbit)]
        exact ⟨hF _, rfl, rfl, rfl⟩
      | false =>
        rw [if_neg (show ¬ bitS b i = true by rw [bitS_nat, hbit]; simp)]
        have hup : ∀ j, b.testBit j = true → (b ||| 2 ^ i).testBit j = true := fun j h => by rw [tb_set, h]; rfl
        have hme : (b ||| 2 ^ i).testBit i = true := by rw [tb_set]; simp
        have hlt : left P.length ((b ||| 2 ^ i : Nat) : Int) < f := by
          have := left_lt P.length (b : Int) ((b ||| 2 ^ i : Nat) : Int) (fun j _ h => hup j h) i hi hbit hme
          omega
        refine ned _ (ned _ (ned _ (ned _ (ned _ (ned _ (ned _ (ned _ (ned _ (ned _ ?_)))))))))
        by_cases h2 : (stAt P i).fo = 2
        · rw [if_pos h2, eqI_iff.2 h2]
          obtain ⟨a0, a1, c0, c1⟩ := hS.sp h2
          obtain ⟨x, hx1⟩ := Int.eq_ofNat_of_zero_le a0
          obtain ⟨y, hy1⟩ := Int.eq_ofNat_of_zero_le c0
          rw [hx1, hy1]
          obtain ⟨o1, d1, z1, r1⟩ := come_facts hP f x (b ||| 2 ^ i) (by omega) hb2 (by omega)
          have hlt2 : left P.length (d1 : Int) < f := Nat.lt_of_le_of_lt (left_mono P.length ((b ||| 2 ^ i : Nat) : Int) (d1 : Int) fun j _ h => r1.up j h) hlt
          obtain ⟨o2, d2, z2, r2⟩ := come_facts hP f y d1 (by omega) r1.c1 (by omega)
          have q1 := r1.o1
          have q2 := r2.o1
          rw [z1]
          simp only
          rw [z2]
          simp only
          rw [orN o1 o2 (by omega) (by omega), orS_eq]
          refine ⟨⟨stC_flat L, u64_flat _, trivial⟩, ⟨hI, come_ok hP (by omega) hb2 hlt⟩, ⟨stC_flat L, u64_flat _, trivial⟩, ⟨hI, come_ok hP (by omega) r1.c1 hlt2⟩, ?_⟩
          rw [beqV_int, beqV_sl]
          exact ned _ (ned _ ⟨hF _, rfl, rfl, trivial⟩)
        rw [if_neg h2, show eqI (stAt P i).fo 2 = false by rw [eqI_eq, decide_eq_false h2]]
        by_cases h3 : (stAt P i).fo = 3
        · rw [if_pos h3, eqI_iff.2 h3]
          obtain ⟨a0, a1⟩ := hS.jp h3
          obtain ⟨x, hx1⟩ := Int.eq_ofNat_of_zero_le a0
          rw [hx1]
          exact ⟨⟨stC_flat L, u64_flat _, trivial⟩, ⟨hI, come_ok hP (by omega) hb2 hlt⟩, hF _, rfl, rfl, rfl⟩
        · rw [if_neg h3, show eqI (stAt P i).fo 3 = false by rw [eqI_eq, decide_eq_false h3]]
          exact ned _ ⟨hF _, rfl, rfl, rfl⟩
    · exact hpre.elim
end Go.Proofs.Ytfgiifppapopnaa

namespace Go.Proofs.Ytfgiifppapopnaa
open Go.RowKit Go.Proofs.Ytfgiifppapopnaa.AM
set_option maxRecDepth 100000
set_option maxHeartbeats 4000000
noncomputable def body730 : Code := (Try.f29.body).getD .skip
def F730 : List Nat → Option (List Nat) := fun p => match p with
  | [1] => some [0, 1]
  | [1, 1] => some [0, 5]
  | [1, 0, 1, 1] => some [0, 5, 6]
  | [1, 0, 0, 0, 1, 0, 1, 1] => some [0, 5, 6, 16]
  | [1, 1, 0, 0, 0, 1, 0, 1, 1] => some [0, 5]
  | [1, 0, 0, 1, 0, 1, 1] => some [0, 5, 6]
  | [1, 0, 0, 1, 0, 0, 1, 0, 1, 1] => some [0, 5, 6, 7]
  | [1, 0, 0, 0, 1, 0, 0, 1, 0, 0, 1, 0, 1, 1] => some [0, 5, 6, 7, 22]
  | [1, 1, 0, 0, 0, 1, 0, 0, 1, 0, 0, 1, 0, 1, 1] => some [0, 5, 6]
  | [1, 0, 0, 1, 0, 0, 1, 0, 0, 1, 0, 1, 1] => some [0, 5, 6, 7]
  | [1, 0, 0, 0, 1, 0, 0, 1, 0, 0, 1, 0, 0, 1, 0, 1, 1] => some [0, 5, 6, 7, 30]
  | [0, 1, 0, 0, 0, 1, 0, 0, 1, 0, 0, 1, 0, 0, 1, 0, 1, 1] => some [0, 5, 6, 7]
  | [1, 0, 0, 1, 0, 0, 1, 0, 0, 1, 0, 0, 1, 0, 1, 1] => some [0, 5, 6, 7]
  | [1, 0, 1, 0, 0, 1, 0, 0, 1, 0, 0, 1, 0, 0, 1, 0, 1, 1] => some [0, 5, 6, 7, 36]
  | [1, 1, 0, 0, 1, 0, 0, 1, 0, 0, 1, 0, 0, 1, 0, 1, 1] => some [0, 5, 6, 7]
  | [1, 1, 1, 0, 0, 1, 0, 0, 1, 0, 0, 1, 0, 0, 1, 0, 1, 1] => some [0, 5, 6, 7, 59]
  | [1, 1, 0, 0, 1, 0, 0, 1, 0, 0, 1, 0, 1, 1] => some [0, 5, 6, 7]
  | [1, 1, 0, 0, 1, 0, 1, 1] => some [0, 5, 6]
  | [1, 1, 1] => some [0, 5]
  | [1, 1, 1, 1] => some [0, 5, 8]
  | [1, 0, 1, 1, 1, 1] => some [0, 5, 8, 9]
  | [1, 0, 0, 0, 1, 0, 1, 1, 1, 1] => some [0, 5, 8, 9, 72]
  | [1, 1, 0, 0, 0, 1, 0, 1, 1, 1, 1] => some [8]
  | [1, 0, 0, 1, 0, 1, 1, 1, 1] => some [0, 5, 8, 9]
  | [1, 0, 0, 1, 0, 0, 1, 0, 1, 1, 1, 1] => some [0, 5, 8, 9, 96]
  | [1, 1, 0, 0, 1, 0, 1, 1, 1, 1] => some [0, 5, 8, 9]
  | [1, 1, 1, 1, 1] => some [8]
  | [1, 1, 1, 1, 1, 1] => some [4]
  | _ => none
noncomputable def T730o (sp : Option Nat) (n k : Nat) (m : Int) (j : Nat) : List Value := tmps 103 [(0, .slice (some ⟨0,0,sp⟩) n k), (5, .int .u64 m), (6, .int .i64 j)]
noncomputable def T730i (sp : Option Nat) (n k : Nat) (m : Int) (j i : Nat) : List Value := tmps 103 [(0, .slice (some ⟨0,0,sp⟩) n k), (5, .int .u64 m), (6, .int .i64 j), (7, .int .i64 i)]
noncomputable def T730u (sp : Option Nat) (n k : Nat) (m o : Int) (i : Nat) : List Value := tmps 103 [(0, .slice (some ⟨0,0,sp⟩) n k), (5, .int .u64 m), (8, .int .u64 o), (9, .int .i64 i)]

theorem r730i (sp : Option Nat) (n k : Nat) (m : Int) (j i : Nat) (cs : List Value) (own : Bool) (K : Post) :
  roundX Try.prog S0 noLoop F730 body730 1 [] [] [] [] [0,5,6,7] [0,0,1,0,0,1,0,0,1,0,1,1] (T730i sp n k m j i) (hp [.cells cs 7 own]) K = (
Alt (ltI (↑i : Int) (↑n : Int)) (Alt (eqI (bitsW BinOp.and IntKind.u64 (m.fdiv (2 ^ min (wr IntKind.u64 (↑i : Int)).toNat 64)) 1) 0) (K AE.normal (tmps 103 [(0, Value.slice (some
{ block := 0, off := 0, spot := sp : Addr }) n k), (5, Value.int IntKind.u64 m), (6, Value.int IntKind.i64 (↑j : Int)), (7, Value.int IntKind.i64 (wr IntKind.i64 ((↑i : Int) + 1)))]) (hp [Blk.cells cs 7 own])) (Need (ltI
(↑i : Int) (↑n : Int)) (Need (isInt IntKind.i64 ((getO cs (0 + (↑i : Int).toNat * 7 + 0)).getD undef)) (Alt (eqI (intV ((getO cs (0 + (↑i : Int).toNat * 7 + 0)).getD undef)) 2) (Need (ltI (↑i : Int) (↑n : Int)) (Need
(isInt IntKind.i64 ((getO cs (0 + (↑i : Int).toNat * 7 + 5)).getD undef)) (Need (leI 0 (wr IntKind.u64 (intV ((getO cs (0 + (↑i : Int).toNat * 7 + 5)).getD undef)))) (Need (ltI (↑i : Int) (↑n : Int)) (Need (isInt
IntKind.i64 ((getO cs (0 + (↑i : Int).toNat * 7 + 6)).getD undef)) (Need (leI 0 (wr IntKind.u64 (intV ((getO cs (0 + (↑i : Int).toNat * 7 + 6)).getD undef)))) (Need (ltI (↑i : Int) (↑n : Int)) (Need (isInt IntKind.i64
((getO cs (0 + (↑i : Int).toNat * 7 + 0)).getD undef)) (Alt (eqI (intV ((getO cs (0 + (↑i : Int).toNat * 7 + 0)).getD undef)) 3) (Need (ltI (↑i : Int) (↑n : Int)) (Need (isInt IntKind.i64 ((getO cs (0 + (↑i : Int).toNat
* 7 + 5)).getD undef)) (Need (leI 0 (wr IntKind.u64 (intV ((getO cs (0 + (↑i : Int).toNat * 7 + 5)).getD undef)))) (K AE.normal (tmps 103 [(0, Value.slice (some { block := 0, off := 0, spot := sp : Addr }) n k), (5,
Value.int IntKind.u64 (bitsW BinOp.or IntKind.u64 (bitsW BinOp.or IntKind.u64 (bitsW BinOp.or IntKind.u64 m (wr IntKind.u64 (1 * 2 ^ min (wr IntKind.u64 (intV ((getO cs (0 + (↑i : Int).toNat * 7 + 5)).getD undef))).toNat
64))) (wr IntKind.u64 (1 * 2 ^ min (wr IntKind.u64 (intV ((getO cs (0 + (↑i : Int).toNat * 7 + 6)).getD undef))).toNat 64))) (wr IntKind.u64 (1 * 2 ^ min (wr IntKind.u64 (intV ((getO cs (0 + (↑i : Int).toNat * 7 +
5)).getD undef))).toNat 64)))), (6, Value.int IntKind.i64 (↑j : Int)), (7, Value.int IntKind.i64 (wr IntKind.i64 ((↑i : Int) + 1)))]) (hp [Blk.cells cs 7 own]))))) (K AE.normal (tmps 103 [(0, Value.slice (some
{ block := 0, off := 0, spot := sp : Addr }) n k), (5, Value.int IntKind.u64 (bitsW BinOp.or IntKind.u64 (bitsW BinOp.or IntKind.u64 m (wr IntKind.u64 (1 * 2 ^ min (wr IntKind.u64 (intV ((getO cs (0 + (↑i : Int).toNat *
7 + 5)).getD undef))).toNat 64))) (wr IntKind.u64 (1 * 2 ^ min (wr IntKind.u64 (intV ((getO cs (0 + (↑i : Int).toNat * 7 + 6)).getD undef))).toNat 64)))), (6, Value.int IntKind.i64 (↑j : Int)), (7, Value.int IntKind.i64
(wr IntKind.i64 ((↑i : Int) + 1)))]) (hp [Blk.cells cs 7 own]))))))))))) (Need (ltI (↑i : Int) (↑n : Int)) (Need (isInt IntKind.i64 ((getO cs (0 + (↑i : Int).toNat * 7 + 0)).getD undef)) (Alt (eqI (intV ((getO cs (0 +
(↑i : Int).toNat * 7 + 0)).getD undef)) 3) (Need (ltI (↑i : Int) (↑n : Int)) (Need (isInt IntKind.i64 ((getO cs (0 + (↑i : Int).toNat * 7 + 5)).getD undef)) (Need (leI 0 (wr IntKind.u64 (intV ((getO cs (0 + (↑i :
Int).toNat * 7 + 5)).getD undef)))) (K AE.normal (tmps 103 [(0, Value.slice (some { block := 0, off := 0, spot := sp : Addr }) n k), (5, Value.int IntKind.u64 (bitsW BinOp.or IntKind.u64 m (wr IntKind.u64 (1 * 2 ^ min
(wr IntKind.u64 (intV ((getO cs (0 + (↑i : Int).toNat * 7 + 5)).getD undef))).toNat 64)))), (6, Value.int IntKind.i64 (↑j : Int)), (7, Value.int IntKind.i64 (wr IntKind.i64 ((↑i : Int) + 1)))]) (hp [Blk.cells cs 7
own]))))) (K AE.normal (tmps 103 [(0, Value.slice (some { block := 0, off := 0, spot := sp : Addr }) n k), (5, Value.int IntKind.u64 m), (6, Value.int IntKind.i64 (↑j : Int)), (7, Value.int IntKind.i64 (wr IntKind.i64
((↑i : Int) + 1)))]) (hp [Blk.cells cs 7 own]))))))))) (K (AE.exit 2) (tmps 103 [(0, Value.slice (some { block := 0, off := 0, spot := sp : Addr }) n k), (5, Value.int IntKind.u64 m), (6, Value.int IntKind.i64 (↑j :
Int))]) (hp [Blk.cells cs 7 own]))) := by kernel_rfl

theorem r730u (sp : Option Nat) (n k : Nat) (m o : Int) (i : Nat) (cs : List Value) (own : Bool) (K : Post) :
  roundX Try.prog S0 noLoop F730 body730 1 [] [] [] [] [0,5,8,9] [0,0,1,0,1,1,1,1] (T730u sp n k m o i) (hp [.cells cs 7 own]) K = (
Alt (ltI (↑i : Int) (↑n : Int)) (Alt (eqI (bitsW BinOp.and IntKind.u64 (m.fdiv (2 ^ min (wr IntKind.u64 (↑i : Int)).toNat 64)) 1) 1) (Need (ltI (↑i : Int) (↑n : Int)) (Need (isInt IntKind.i64 ((getO cs (0 + (↑i :
Int).toNat * 7 + 0)).getD undef)) (Alt (eqI (intV ((getO cs (0 + (↑i : Int).toNat * 7 + 0)).getD undef)) 1) (K AE.normal (tmps 103 [(0, Value.slice (some { block := 0, off := 0, spot := sp : Addr }) n k), (5, Value.int
IntKind.u64 m), (8, Value.int IntKind.u64 (bitsW BinOp.or IntKind.u64 o (wr IntKind.u64 (1 * 2 ^ min (wr IntKind.u64 (↑i : Int)).toNat 64)))), (9, Value.int IntKind.i64 (wr IntKind.i64 ((↑i : Int) + 1)))]) (hp [Blk.cells
cs 7 own])) (Need (ltI (↑i : Int) (↑n : Int)) (Need (isInt IntKind.i64 ((getO cs (0 + (↑i : Int).toNat * 7 + 0)).getD undef)) (Alt (eqI (intV ((getO cs (0 + (↑i : Int).toNat * 7 + 0)).getD undef)) 4) (K AE.normal (tmps
103 [(0, Value.slice (some { block := 0, off := 0, spot := sp : Addr }) n k), (5, Value.int IntKind.u64 m), (8, Value.int IntKind.u64 (bitsW BinOp.or IntKind.u64 o (wr IntKind.u64 (1 * 2 ^ min (wr IntKind.u64 (↑i :
Int)).toNat 64)))), (9, Value.int IntKind.i64 (wr IntKind.i64 ((↑i : Int) + 1)))]) (hp [Blk.cells cs 7 own])) (K AE.normal (tmps 103 [(0, Value.slice (some { block := 0, off := 0, spot := sp : Addr }) n k), (5, Value.int
IntKind.u64 m), (8, Value.int IntKind.u64 o), (9, Value.int IntKind.i64 (wr IntKind.i64 ((↑i : Int) + 1)))]) (hp [Blk.cells cs 7 own])))))))) (K AE.normal (tmps 103 [(0, Value.slice (some
{ block := 0, off := 0, spot := sp : Addr }) n k), (5, Value.int IntKind.u64 m), (8, Value.int IntKind.u64 o), (9, Value.int IntKind.i64 (wr IntKind.i64 ((↑i : Int) + 1)))]) (hp [Blk.cells cs 7 own]))) (K (AE.exit 4)
(tmps 103 [(8, Value.int IntKind.u64 o)]) (hp [Blk.cells cs 7 own]))) := by kernel_rfl

noncomputable def cut730i (sp : Option Nat) (n k : Nat) (m m2 : Int) (j : Nat) (cs : List Value) (own : Bool) : CutE where
  β := Nat
  p := [0,1,0,0,1,0,0,1,0,1,1]
  t := fun _ => T730i sp n k m j 0
  h := fun _ => hp [.cells cs 7 own]
  Q := fun _ K => K (.exit 2) (T730o sp n k m2 j) (hp [.cells cs 7 own])

theorem r730o (sp : Option Nat) (n k : Nat) (m m2 : Int) (j : Nat) (cs : List Value) (own : Bool) (K : Post) :
  roundX Try.prog S0 (gcLKX (at0 []) (at0 []) 1 (cutE [cut730i sp n k m m2 j cs own])) F730 body730 1 [] [] [] [] [0,5,6] [0,0,1,0,1,1] (T730o sp n k m j) (hp [.cells cs 7 own]) K = (
Alt (ltI (↑j : Int) (↑n : Int)) (FlatD [] (hp [Blk.cells cs 7 own]) ∧ ∃ (b : Nat), tmps 103 [(0, Value.slice (some { block := 0, off := 0, spot := sp : Addr }) n k), (5, Value.int IntKind.u64 m), (6, Value.int
IntKind.i64 (↑j : Int)), (7, Value.int IntKind.i64 0)] = tmps 103 [(0, Value.slice (some { block := 0, off := 0, spot := sp : Addr }) n k), (5, Value.int IntKind.u64 m), (6, Value.int IntKind.i64 (↑j : Int)), (7,
Value.int IntKind.i64 0)] ∧ hp [Blk.cells cs 7 own] = hp [Blk.cells cs 7 own] ∧ K AE.normal (tmps 103 [(0, Value.slice (some { block := 0, off := 0, spot := sp : Addr }) n k), (5, Value.int IntKind.u64 m2), (6, Value.int
IntKind.i64 (wr IntKind.i64 ((↑j : Int) + 1)))]) (hp [Blk.cells cs 7 own])) (K (AE.exit 0) (tmps 103 [(0, Value.slice (some { block := 0, off := 0, spot := sp : Addr }) n k), (5, Value.int IntKind.u64 m)]) (hp [Blk.cells
cs 7 own]))) := by kernel_rfl

end Go.Proofs.Ytfgiifppapopnaa

namespace Go.Proofs.Ytfgiifppapopnaa
open Go.RowKit Go.Proofs.Ytfgiifppapopnaa.AM
set_option maxRecDepth 100000
set_option maxHeartbeats 4000000
/-- what a place adds to what is met -/
def stepM (P : List St) (m i : Nat) : Nat := if m.testBit i then (if (stAt P i).fo = 2 then m ||| 2 ^ (stAt P i).fa.toNat ||| 2 ^ (stAt P i).fb.toNat else if (stAt P i).fo = 3 then m ||| 2 ^ (stAt P i).fa.toNat else m) else m
/-- a pass from a place on -/
def passM (P : List St) : Nat → Nat → Nat → Nat
  | 0, _, m => m
  | k + 1, i, m => passM P k (i + 1) (stepM P m i)
/-- so many passes -/
def passes (P : List St) : Nat → Nat → Nat
  | 0, m => m
  | k + 1, m => passes P k (passM P P.length 0 m)
/-- those of them that stand for themselves -/
def outM (P : List St) (m : Nat) : Nat → Nat → Nat → Nat
  | 0, _, o => o
  | k + 1, i, o => outM P m k (i + 1) (if m.testBit i ∧ ((stAt P i).fo = 1 ∨ (stAt P i).fo = 4) then o ||| 2 ^ i else o)
structure ChkP (P : List St) : Prop where
  ck : chkF P = true
theorem stepM_lt {P : List St} (hP : chkF P = true) {m i : Nat} (hm : m < 2 ^ P.length) (hi : i < P.length) : stepM P m i < 2 ^ P.length := by
  obtain ⟨_, _, hin⟩ := chk_in hP
  have hx := hin i hi
  unfold stepM
  split
  · split
    · rename_i h2
      obtain ⟨a0, a1, b0, b1⟩ := hx.sp h2
      exact Nat.or_lt_two_pow (Nat.or_lt_two_pow hm (Nat.pow_lt_pow_right (by decide) (by omega))) (Nat.pow_lt_pow_right (by decide) (by omega))
    · split
      · rename_i h3
        obtain ⟨a0, a1⟩ := hx.jp h3
        exact Nat.or_lt_two_pow hm (Nat.pow_lt_pow_right (by decide) (by omega))
      · exact hm
  · exact hm
theorem passM_lt {P : List St} (hP : chkF P = true) : ∀ (k i m : Nat), m < 2 ^ P.length → i + k = P.length → passM P k i m < 2 ^ P.length := by
  intro k
  induction k with
  | zero => intro i m hm _; exact hm
  | succ k ih => intro i m hm hi; exact ih (i + 1) _ (stepM_lt hP hm (by omega)) (by omega)
theorem pow64 {n : Nat} (h : n ≤ 40) : 2 ^ n ≤ 18446744073709551616 := Nat.le_trans (Nat.pow_le_pow_right (show 0 < 2 by decide) (show n ≤ 64 by omega)) (by decide)
theorem st_at {L : List St} {n i : Nat} (hn : n ≤ L.length) (hi : i < n) : L[i]? = some (stAt (L.take n) i) := by
  have h1 : (L.take n)[i]? = L[i]? := List.getElem?_take_of_lt (by omega)
  unfold stAt
  rw [Int.toNat_natCast, List.getD_eq_getElem?_getD, h1, List.getElem?_eq_getElem (by omega)]; rfl
theorem wru (i : Nat) (hi : i < 1000000) : wr .u64 (i : Int) = (i : Int) := wr_u64 _ (by omega) (by omega)
theorem bit0 (b i : Nat) (hb : b < 18446744073709551616) (hi : i < 64) : eqI (bitsW .and .u64 ((b : Int).fdiv (2 ^ min i 64)) 1) 0 = !b.testBit i := by
  have h := bit_eq b i hb hi
  rw [bitS_nat] at h
  rw [← h]
  have : ∀ x : Int, x = 0 ∨ x = 1 → eqI x 0 = !eqI x 1 := fun x hx => by rcases hx with rfl | rfl <;> rfl
  apply this
  rw [Nat.min_eq_left (by omega), Int.fdiv_eq_ediv_of_nonneg _ (Int.le_of_lt (Int.pow_pos (by decide)))]
  rw [show (b : Int) / 2 ^ i = ((b / 2 ^ i : Nat) : Int) by simp]
  rw [and1 _ (Nat.lt_of_le_of_lt (Nat.div_le_self _ _) hb)]
  omega
theorem reach_in (hm : Try.prog.follows .mixedOrders = true) (L : List St) (sp : Option Nat) (n k : Nat) (own : Bool) (hn : n ≤ L.length) (hP : chkF (L.take n) = true) (j : Nat) (r : Nat) (K : Post) (hK : K (.exit 2) (T730o sp n k r j) (hp [.cells (stC L) 7 own])) : ∀ (q i m : Nat), i + q = n → m < 2 ^ n → passM (L.take n) q i m = r →
    LSays Try.prog 1 (sub body730 [0,0,1,0,0,1,0,0,1,0,1,1]) (T730i sp n k m j i) (hp [.cells (stC L) 7 own]) K := by
  have hF : FlatD [] (hp [.cells (stC L) 7 own]) := FlatD.hp ⟨stC_flat L, trivial⟩
  have hlen : (L.take n).length = n := by rw [List.length_take]; omega
  obtain ⟨h40, h1, hin⟩ := chk_in hP
  rw [hlen] at h40 h1 hin
  have h64 := pow64 h40
  have ned : ∀ (A : Prop), A → Need true A := fun A h => Need_iff.2 ⟨rfl, h⟩
  intro q
  induction q with
  | zero =>
    intro i m hq hml hr
    refine (sure0 hm).roundX F730 noLoops [] [] [] [] [0,5,6,7] ?_
    rw [r730i, show ltI (i : Int) (n : Int) = false by rw [ltI_eq, decide_eq_false (by omega)]]
    have : m = r := hr
    subst this
    exact ⟨hF, hK⟩
  | succ q ih =>
    intro i m hq hml hr
    have hx := st_at (L := L) hn (show i < n by omega)
    have hS := hin i (by omega)
    obtain ⟨g0, g1, g2, g3, g4, g5, g6⟩ := st_get hx
    have g5' : getO (stC L) (i * 7 + 5) = some (.int .i64 (stAt (L.take n) i).fa) := g5
    have g6' : getO (stC L) (i * 7 + 6) = some (.int .i64 (stAt (L.take n) i).fb) := g6
    have hw : wr .i64 ((i : Int) + 1) = ((i + 1 : Nat) : Int) := by rw [wr_eq]; simp [IntKind.wrap, IntKind.bits, IntKind.signed]; omega
    have e1 := bit0 m i (by omega) (by omega)
    have next := fun m2 (h1 : m2 < 2 ^ n) (h2 : stepM (L.take n) m i = m2) => ih (i + 1) m2 (by omega) h1 (by rw [← h2]; exact hr)
    unfold T730i at next
    refine (sure0 hm).roundX F730 noLoops [] [] [] [] [0,5,6,7] ?_
    rw [r730i]
    simp only [hw, wru i (by omega), Int.toNat_natCast, e1, Nat.zero_add, Nat.add_zero, g0, g5', g6', Option.getD_some, isInt, kindEq, intV]
    rw [show ltI (i : Int) (n : Int) = true from ltI_iff.2 (by omega)]
    have hst : stepM (L.take n) m i = if m.testBit i then (if (stAt (L.take n) i).fo = 2 then m ||| 2 ^ (stAt (L.take n) i).fa.toNat ||| 2 ^ (stAt (L.take n) i).fb.toNat else if (stAt (L.take n) i).fo = 3 then m ||| 2 ^ (stAt (L.take n) i).fa.toNat else m) else m := rfl
    generalize stAt (L.take n) i = x at *
    cases hb : m.testBit i with
    | false =>
      rw [hb] at hst
      exact ⟨hF, next m hml hst⟩
    | true =>
      rw [hb] at hst
      simp only [if_true] at hst
      refine ned _ (ned _ ?_)
      by_cases h2 : x.fo = 2
      · rw [if_pos h2] at hst
        rw [eqI_iff.2 h2, show eqI x.fo 3 = false by rw [eqI_eq, decide_eq_false (by omega)]]
        obtain ⟨a0, a1, b0, b1⟩ := hS.sp h2
        obtain ⟨a, ha⟩ := Int.eq_ofNat_of_zero_le a0
        obtain ⟨b, hb'⟩ := Int.eq_ofNat_of_zero_le b0
        rw [ha, hb', Int.toNat_natCast, Int.toNat_natCast] at hst
        have pa : 2 ^ a < 2 ^ n := Nat.pow_lt_pow_right (by decide) (by omega)
        have pb : 2 ^ b < 2 ^ n := Nat.pow_lt_pow_right (by decide) (by omega)
        have pm : m ||| 2 ^ a < 2 ^ n := Nat.or_lt_two_pow hml pa
        rw [ha, hb', wru a (by omega), wru b (by omega), Int.toNat_natCast, Int.toNat_natCast, set_one a (by omega), set_one b (by omega), orN m (2 ^ a) (by omega) (by omega), orN _ (2 ^ b) (by omega) (by omega)]
        rw [show leI 0 (a : Int) = true from leI_iff.2 (by omega), show leI 0 (b : Int) = true from leI_iff.2 (by omega)]
        exact ned _ (ned _ (ned _ (ned _ (ned _ (ned _ (ned _ (ned _ ⟨hF, next _ (Nat.or_lt_two_pow pm pb) hst⟩)))))))
      · rw [if_neg h2] at hst
        rw [show eqI x.fo 2 = false by rw [eqI_eq, decide_eq_false h2]]
        refine ned _ (ned _ ?_)
        by_cases h3 : x.fo = 3
        · rw [if_pos h3] at hst
          rw [eqI_iff.2 h3]
          obtain ⟨a0, a1⟩ := hS.jp h3
          obtain ⟨a, ha⟩ := Int.eq_ofNat_of_zero_le a0
          rw [ha, Int.toNat_natCast] at hst
          have pa : 2 ^ a < 2 ^ n := Nat.pow_lt_pow_right (by decide) (by omega)
          rw [ha, wru a (by omega), Int.toNat_natCast, set_one a (by omega), orN m (2 ^ a) (by omega) (by omega)]
          rw [show leI 0 (a : Int) = true from leI_iff.2 (by omega)]
          exact ned _ (ned _ (ned _ ⟨hF, next _ (Nat.or_lt_two_pow hml pa) hst⟩))
        · rw [if_neg h3] at hst
          rw [show eqI x.fo 3 = false by rw [eqI_eq, decide_eq_false h3]]
          exact ⟨hF, next m hml hst⟩
end Go.Proofs.Ytfgiifppapopnaa

namespace Go.Proofs.Ytfgiifppapopnaa
open Go.RowKit Go.Proofs.Ytfgiifppapopnaa.AM
set_option maxRecDepth 100000
set_option maxHeartbeats 4000000
/-- what is met from a place: those that stand for themselves -/
def reachM (P : List St) (i : Nat) : Nat := outM P (passes P P.length (2 ^ i)) P.length 0 0
noncomputable def cut730o (sp : Option Nat) (n k : Nat) (m m2 : Int) (cs : List Value) (own : Bool) : CutE where
  β := Nat
  p := [0,1,0,1,1]
  t := fun _ => T730o sp n k m 0
  h := fun _ => hp [.cells cs 7 own]
  Q := fun _ K => K (.exit 0) (tmps 103 [(0, .slice (some ⟨0,0,sp⟩) n k), (5, .int .u64 m2)]) (hp [.cells cs 7 own])
noncomputable def cut730u (sp : Option Nat) (n k : Nat) (m o : Int) (cs : List Value) (own : Bool) : CutE where
  β := Nat
  p := [0,1,0,1,1,1,1]
  t := fun _ => T730u sp n k m 0 0
  h := fun _ => hp [.cells cs 7 own]
  Q := fun _ K => K (.exit 4) (tmps 103 [(8, .int .u64 o)]) (hp [.cells cs 7 own])

theorem w730 (sp : Option Nat) (n k : Nat) (i : Nat) (m o : Int) (cs : List Value) (own : Bool) (K : Value → Heap → Prop) :
  funX Try.prog S0 (gcLKX (at0 []) (at0 []) 1 (cutE [cut730o sp n k ((2 ^ i : Nat) : Int) m cs own, cut730u sp n k m o cs own])) F730 body730 Try.f29 [] [] [.slice (some ⟨0,0,sp⟩) n k, .int .i64 (i : Int)] (hp [.cells cs 7 own]) K = (
FlatD [] (hp [Blk.cells cs 7 own]) ∧ ∃ (b : Nat), tmps 103 [(0, Value.slice (some { block := 0, off := 0, spot := sp : Addr }) n k), (5, Value.int IntKind.u64 (wr IntKind.u64 (1 * 2 ^ min (wr IntKind.u64 (↑i :
Int)).toNat 64))), (6, Value.int IntKind.i64 0)] = tmps 103 [(0, Value.slice (some { block := 0, off := 0, spot := sp : Addr }) n k), (5, Value.int IntKind.u64 (↑(2 ^ i) : Int)), (6, Value.int IntKind.i64 0)] ∧ hp
[Blk.cells cs 7 own] = hp [Blk.cells cs 7 own] ∧ FlatD [] (hp [Blk.cells cs 7 own]) ∧ ∃ (b : Nat), tmps 103 [(0, Value.slice (some { block := 0, off := 0, spot := sp : Addr }) n k), (5, Value.int IntKind.u64 m), (8,
Value.int IntKind.u64 0), (9, Value.int IntKind.i64 0)] = tmps 103 [(0, Value.slice (some { block := 0, off := 0, spot := sp : Addr }) n k), (5, Value.int IntKind.u64 m), (8, Value.int IntKind.u64 0), (9, Value.int
IntKind.i64 0)] ∧ hp [Blk.cells cs 7 own] = hp [Blk.cells cs 7 own] ∧ K (Value.int IntKind.u64 o) (hp [Blk.cells cs 7 own])) := by kernel_rfl

theorem reach_out (hm : Try.prog.follows .mixedOrders = true) (L : List St) (sp : Option Nat) (n k : Nat) (own : Bool) (hn : n ≤ L.length) (hP : chkF (L.take n) = true) (r : Nat) (K : Post) (hK : K (.exit 0) (tmps 103 [(0, .slice (some ⟨0,0,sp⟩) n k), (5, .int .u64 r)]) (hp [.cells (stC L) 7 own])) : ∀ (q j m : Nat), j + q = n → m < 2 ^ n → passes (L.take n) q m = r →
    LSays Try.prog 1 (sub body730 [0,0,1,0,1,1]) (T730o sp n k m j) (hp [.cells (stC L) 7 own]) K := by
  have hF : FlatD [] (hp [.cells (stC L) 7 own]) := FlatD.hp ⟨stC_flat L, trivial⟩
  have hlen : (L.take n).length = n := by rw [List.length_take]; omega
  obtain ⟨h40, h1, hin⟩ := chk_in hP
  rw [hlen] at h40 h1 hin
  intro q
  induction q with
  | zero =>
    intro j m hq hml hr
    have : m = r := hr
    subst this
    refine (sure0 hm).roundX F730 (((Loops.noneE (P := Try.prog) (root := body730) (k := 1)).moreE (cut730i sp n k m (passM (L.take n) n 0 m : Nat) j (stC L) own) fun x K hQ => ?_).gcX (at0 []) (at0 [])) [] [] [] [] [0,5,6] ?_
    · exact reach_in hm L sp n k own hn hP j (passM (L.take n) n 0 m) K hQ n 0 m (by omega) hml rfl
    rw [r730o, show ltI (j : Int) (n : Int) = false by rw [ltI_eq, decide_eq_false (by omega)]]
    exact ⟨hF, hK⟩
  | succ q ih =>
    intro j m hq hml hr
    have hw : wr .i64 ((j : Int) + 1) = ((j + 1 : Nat) : Int) := by rw [wr_eq]; simp [IntKind.wrap, IntKind.bits, IntKind.signed]; omega
    have hp2 : passM (L.take n) n 0 m < 2 ^ n := by
      have := passM_lt hP n 0 m (by rw [hlen]; exact hml) (by omega)
      rw [hlen] at this; exact this
    refine (sure0 hm).roundX F730 (((Loops.noneE (P := Try.prog) (root := body730) (k := 1)).moreE (cut730i sp n k m (passM (L.take n) n 0 m : Nat) j (stC L) own) fun x K hQ => ?_).gcX (at0 []) (at0 [])) [] [] [] [] [0,5,6] ?_
    · exact reach_in hm L sp n k own hn hP j (passM (L.take n) n 0 m) K hQ n 0 m (by omega) hml rfl
    rw [r730o, show ltI (j : Int) (n : Int) = true from ltI_iff.2 (by omega), hw]
    refine ⟨hF, 0, rfl, rfl, hF, ih (j + 1) _ (by omega) hp2 ?_⟩
    rw [passes, hlen] at hr; exact hr
theorem reach_u (hm : Try.prog.follows .mixedOrders = true) (L : List St) (sp : Option Nat) (n k : Nat) (own : Bool) (hn : n ≤ L.length) (hP : chkF (L.take n) = true) (m : Nat) (hml : m < 2 ^ n) (r : Nat) (K : Post) (hK : K (.exit 4) (tmps 103 [(8, .int .u64 r)]) (hp [.cells (stC L) 7 own])) : ∀ (q i o : Nat), i + q = n → o < 2 ^ n → outM (L.take n) m q i o = r →
    LSays Try.prog 1 (sub body730 [0,0,1,0,1,1,1,1]) (T730u sp n k m o i) (hp [.cells (stC L) 7 own]) K := by
  have hF : FlatD [] (hp [.cells (stC L) 7 own]) := FlatD.hp ⟨stC_flat L, trivial⟩
  have hlen : (L.take n).length = n := by rw [List.length_take]; omega
  obtain ⟨h40, h1, hin⟩ := chk_in hP
  rw [hlen] at h40 h1 hin
  have h64 := pow64 h40
  have ned : ∀ (A : Prop), A → Need true A := fun A h => Need_iff.2 ⟨rfl, h⟩
  intro q
  induction q with
  | zero =>
    intro i o hq hol hr
    refine (sure0 hm).roundX F730 noLoops [] [] [] [] [0,5,8,9] ?_
    rw [r730u, show ltI (i : Int) (n : Int) = false by rw [ltI_eq, decide_eq_false (by omega)]]
    have : o = r := hr
    subst this
    exact ⟨hF, hK⟩
  | succ q ih =>
    intro i o hq hol hr
    have hx := st_at (L := L) hn (show i < n by omega)
    obtain ⟨g0, g1, g2, g3, g4, g5, g6⟩ := st_get hx
    have hw : wr .i64 ((i : Int) + 1) = ((i + 1 : Nat) : Int) := by rw [wr_eq]; simp [IntKind.wrap, IntKind.bits, IntKind.signed]; omega
    have e1 : eqI (bitsW .and .u64 ((m : Int).fdiv (2 ^ min i 64)) 1) 1 = m.testBit i := bit_eq m i (by omega) (by omega)
    have pi : 2 ^ i < 2 ^ n := Nat.pow_lt_pow_right (by decide) (by omega)
    have next := fun o2 (h1 : o2 < 2 ^ n) (h2 : (if m.testBit i ∧ ((stAt (L.take n) i).fo = 1 ∨ (stAt (L.take n) i).fo = 4) then o ||| 2 ^ i else o) = o2) => ih (i + 1) o2 (by omega) h1 (by rw [← h2]; exact hr)
    unfold T730u at next
    refine (sure0 hm).roundX F730 noLoops [] [] [] [] [0,5,8,9] ?_
    rw [r730u]
    simp only [hw, wru i (by omega), Int.toNat_natCast, e1, set_one i (by omega), orN o (2 ^ i) (by omega) (by omega), Nat.zero_add, Nat.add_zero, g0, Option.getD_some, isInt, kindEq, intV]
    rw [show ltI (i : Int) (n : Int) = true from ltI_iff.2 (by omega)]
    generalize stAt (L.take n) i = x at *
    cases hb : m.testBit i with
    | false => exact ⟨hF, next o hol (by rw [if_neg (by rw [hb]; simp)])⟩
    | true =>
      refine ned _ (ned _ ?_)
      by_cases h1 : x.fo = 1
      · rw [eqI_iff.2 h1]
        exact ⟨hF, next _ (Nat.or_lt_two_pow hol pi) (by rw [if_pos ⟨hb, .inl h1⟩])⟩
      rw [show eqI x.fo 1 = false by rw [eqI_eq, decide_eq_false h1]]
      refine ned _ (ned _ ?_)
      by_cases h4 : x.fo = 4
      · rw [eqI_iff.2 h4]
        exact ⟨hF, next _ (Nat.or_lt_two_pow hol pi) (by rw [if_pos ⟨hb, .inr h4⟩])⟩
      rw [show eqI x.fo 4 = false by rw [eqI_eq, decide_eq_false h4]]
      exact ⟨hF, next o hol (by rw [if_neg (by rintro ⟨_, h | h⟩; exact h1 h; exact h4 h)])⟩
end Go.Proofs.Ytfgiifppapopnaa

namespace Go.Proofs.Ytfgiifppapopnaa
open Go.RowKit Go.Proofs.Ytfgiifppapopnaa.AM
set_option maxRecDepth 100000
set_option maxHeartbeats 4000000
structure RchOk (P : List St) (i : Int) : Prop where
  ck : chkF P = true
  i0 : 0 ≤ i
  i1 : i < P.length
noncomputable def reachC : Ctr where
  pre := fun args blks => match args, blks with
    | [.slice (some ⟨0,0,_⟩) n k, .int .i64 i], [.cells cs 7 _] => IsSt cs n ∧ RchOk (stsAt cs n) i
    | _, _ => False
  val := fun args blks => match args, blks with
    | [.slice (some ⟨0,0,_⟩) n k, .int .i64 i], [.cells cs 7 _] => .int .u64 (reachM (stsAt cs n) i.toNat : Nat)
    | _, _ => undef
  new := fun _ _ => []
theorem passes_lt {P : List St} (hP : chkF P = true) : ∀ (k m : Nat), m < 2 ^ P.length → passes P k m < 2 ^ P.length := by
  intro k
  induction k with
  | zero => intro m hm; exact hm
  | succ k ih => intro m hm; exact ih _ (passM_lt hP _ _ _ hm (by omega))
theorem reach_says (hm : Try.prog.follows .mixedOrders = true) : reachC.Holds Try.prog 29 := by
  intro args blks hf hpre
  refine ⟨trivial, ?_⟩
  simp only [reachC] at hpre ⊢
  split at hpre
  · rename_i sp n k i cs own
    obtain ⟨⟨L, rfl, hn, ok, hs⟩, hC⟩ := hpre
    rw [stsAt_eq hn] at hC ⊢
    have hP := hC.ck
    have i0 := hC.i0
    have i1 := hC.i1
    obtain ⟨i, rfl⟩ := Int.eq_ofNat_of_zero_le i0
    have hlen : (L.take n).length = n := by rw [List.length_take]; omega
    rw [hlen] at i1
    obtain ⟨h40, h1, hin⟩ := chk_in hP
    rw [hlen] at h40 h1 hin
    have hF : FlatD [] (hp [.cells (stC L) 7 own]) := FlatD.hp ⟨stC_flat L, trivial⟩
    have pi : 2 ^ i < 2 ^ n := Nat.pow_lt_pow_right (by decide) (by omega)
    have hm1 : passes (L.take n) n (2 ^ i) < 2 ^ n := by
      have := passes_lt hP n (2 ^ i) (by rw [hlen]; exact pi)
      rw [hlen] at this; exact this
    have hr : reachM (L.take n) (i : Int).toNat = outM (L.take n) (passes (L.take n) n (2 ^ i)) n 0 0 := by unfold reachM; rw [hlen, Int.toNat_natCast]
    have hL : Loops Try.prog body730 1 (cutE [cut730o sp n k ((2 ^ i : Nat) : Int) (passes (L.take n) n (2 ^ i) : Nat) (stC L) own, cut730u sp n k (passes (L.take n) n (2 ^ i) : Nat) (reachM (L.take n) (i : Int).toNat : Nat) (stC L) own]) := by
      refine Loops.moreE (Loops.moreE Loops.noneE _ fun x K hQ => ?_) _ fun x K hQ => ?_
      · show LSays Try.prog 1 (sub body730 [0,0,1,0,1,1,1,1]) (T730u sp n k (passes (L.take n) n (2 ^ i) : Nat) (0 : Nat) (0 : Nat)) (hp [.cells (stC L) 7 own]) K
        exact reach_u hm L sp n k own hn hP _ hm1 _ K hQ n 0 0 (by omega) (Nat.two_pow_pos _) hr.symm
      · show LSays Try.prog 1 (sub body730 [0,0,1,0,1,1]) (T730o sp n k ((2 ^ i : Nat) : Int) (0 : Nat)) (hp [.cells (stC L) 7 own]) K
        exact reach_out hm L sp n k own hn hP _ K hQ n 0 (2 ^ i) (by omega) pi rfl
    refine (sure0 hm).funX F730 body730 [] [] Try.func29 rfl (hL.gcX (at0 []) (at0 [])) ?_
    rw [w730, wru i (by omega), Int.toNat_natCast, set_one i (by omega)]
    exact ⟨hF, 0, rfl, rfl, hF, 0, rfl, rfl, hF, rfl, rfl, rfl⟩
  · exact hpre.elim
end Go.Proofs.Ytfgiifppapopnaa

namespace Go.Proofs.Ytfgiifppapopnaa
open Go.RowKit Go.Proofs.Ytfgiifppapopnaa.AM
set_option maxRecDepth 100000
set_option maxHeartbeats 4000000
theorem tb_pow (i j : Nat) : (2 ^ i).testBit j = decide (i = j) := Nat.testBit_two_pow
theorem stepM_up (P : List St) (m i j : Nat) (h : m.testBit j = true) : (stepM P m i).testBit j = true := by
  unfold stepM
  split
  · split
    · rw [Nat.testBit_or, Nat.testBit_or, h]; rfl
    · split
      · rw [Nat.testBit_or, h]; rfl
      · exact h
  · exact h
theorem passM_up (P : List St) : ∀ (k i m j : Nat), m.testBit j = true → (passM P k i m).testBit j = true := by
  intro k
  induction k with
  | zero => intro i m j h; exact h
  | succ k ih => intro i m j h; exact ih _ _ _ (stepM_up P m i j h)
/-- what is met is met from the beginning -/
theorem Rch.trans {P : List St} {i j k : Nat} (h : Rch P i j) (h2 : Rch P j k) : Rch P i k := by
  induction h with
  | refl => exact h2
  | sa i j e _ ih => exact .sa i k e (ih h2)
  | sb i j e _ ih => exact .sb i k e (ih h2)
theorem stepM_rc {P : List St} {s m i : Nat} (hm : ∀ j, m.testBit j = true → Rch P s j) : ∀ j, (stepM P m i).testBit j = true → Rch P s j := by
  intro j h
  unfold stepM at h
  split at h
  · rename_i hb
    split at h
    · rename_i h2
      rw [tb_set, tb_set, Bool.or_eq_true, Bool.or_eq_true, decide_eq_true_iff, decide_eq_true_iff] at h
      rcases h with (h | h) | h
      · exact hm j h
      · subst h; exact (hm i hb).trans (.sa i _ (.inl h2) (.refl _))
      · subst h; exact (hm i hb).trans (.sb i _ h2 (.refl _))
    · split at h
      · rename_i h3
        rw [tb_set, Bool.or_eq_true, decide_eq_true_iff] at h
        rcases h with h | h
        · exact hm j h
        · subst h; exact (hm i hb).trans (.sa i _ (.inr h3) (.refl _))
      · exact hm j h
  · exact hm j h
theorem passM_rc {P : List St} {s : Nat} : ∀ (k i m : Nat), (∀ j, m.testBit j = true → Rch P s j) → ∀ j, (passM P k i m).testBit j = true → Rch P s j := by
  intro k
  induction k with
  | zero => intro i m hm; exact hm
  | succ k ih => intro i m hm; exact ih _ _ (stepM_rc hm)
theorem passes_rc {P : List St} {s : Nat} : ∀ (k m : Nat), (∀ j, m.testBit j = true → Rch P s j) → ∀ j, (passes P k m).testBit j = true → Rch P s j := by
  intro k
  induction k with
  | zero => intro m hm; exact hm
  | succ k ih => intro m hm; exact ih _ (passM_rc _ _ _ hm)
/-- a pass takes in what each place that is met leads to -/
theorem stepM_cl {P : List St} {m i : Nat} (h : m.testBit i = true) : Cls P (stepM P m i) i := by
  unfold stepM
  rw [if_pos h]
  refine ⟨fun e => ?_, fun e => ?_⟩
  · split
    · rw [tb_set, tb_set]; simp
    · rcases e with e | e
      · rename_i h2; exact absurd e h2
      · rw [if_pos e, tb_set]; simp
  · rw [if_pos e, tb_set]; simp
theorem passM_cl {P : List St} : ∀ (k i m j : Nat), m.testBit j = true → i ≤ j → j < i + k → Cls P (passM P k i m) j := by
  intro k
  induction k with
  | zero => intro i m j h h1 h2; omega
  | succ k ih =>
    intro i m j h h1 h2
    rw [passM]
    by_cases hij : i = j
    · subst hij
      exact (stepM_cl h).mono fun q hq => passM_up P k (i + 1) _ q hq
    · exact ih (i + 1) _ j (stepM_up P m i j h) (by omega) (by omega)
def AllCls (P : List St) (m : Nat) : Prop := ∀ j, m.testBit j = true → j < P.length → Cls P m j
theorem tb_lt {m n j : Nat} (h : m < 2 ^ n) (hj : m.testBit j = true) : j < n := by
  rcases Nat.lt_or_ge j n with h1 | h1
  · exact h1
  · rw [Nat.testBit_lt_two_pow (Nat.lt_of_lt_of_le h (Nat.pow_le_pow_right (by decide) h1))] at hj; cases hj
/-- a set that a pass leaves as it is -/
theorem fix_cl {P : List St} {m : Nat} (h : ∀ j, (passM P P.length 0 m).testBit j = true → m.testBit j = true) : AllCls P m := fun j hj hl => (passM_cl P.length 0 m j hj (by omega) (by omega)).mono h
theorem stepM_id {P : List St} {m i : Nat} (h : AllCls P m) (hi : i < P.length) (q : Nat) (hq : (stepM P m i).testBit q = true) : m.testBit q = true := by
  unfold stepM at hq
  split at hq
  · rename_i hb
    have hc := h i hb hi
    split at hq
    · rename_i h2
      rw [tb_set, tb_set, Bool.or_eq_true, Bool.or_eq_true, decide_eq_true_iff, decide_eq_true_iff] at hq
      rcases hq with (hq | hq) | hq
      · exact hq
      · subst hq; exact hc.a (.inl h2)
      · subst hq; exact hc.b h2
    · split at hq
      · rename_i h3
        rw [tb_set, Bool.or_eq_true, decide_eq_true_iff] at hq
        rcases hq with hq | hq
        · exact hq
        · subst hq; exact hc.a (.inr h3)
      · exact hq
  · exact hq
end Go.Proofs.Ytfgiifppapopnaa

namespace Go.Proofs.Ytfgiifppapopnaa
open Go.RowKit Go.Proofs.Ytfgiifppapopnaa.AM
set_option maxRecDepth 100000
set_option maxHeartbeats 4000000
theorem stepM_eq {P : List St} {m i : Nat} (h : AllCls P m) (hi : i < P.length) : stepM P m i = m := by
  apply Nat.eq_of_testBit_eq
  intro q
  rw [Bool.eq_iff_iff]
  exact ⟨stepM_id h hi q, stepM_up P m i q⟩
theorem passM_eq {P : List St} {m : Nat} (h : AllCls P m) : ∀ (k i : Nat), i + k = P.length → passM P k i m = m := by
  intro k
  induction k with
  | zero => intro i _; rfl
  | succ k ih => intro i hi; rw [passM, stepM_eq h (by omega)]; exact ih (i + 1) (by omega)
theorem passes_eq {P : List St} {m : Nat} (h : AllCls P m) : ∀ k, passes P k m = m := by
  intro k
  induction k with
  | zero => rfl
  | succ k ih => rw [passes, passM_eq h _ _ (by omega)]; exact ih
theorem passes_cl {P : List St} (hP : chkF P = true) : ∀ (k m : Nat), m < 2 ^ P.length → left P.length m ≤ k → AllCls P (passes P k m) := by
  obtain ⟨_, _, hin⟩ := chk_in hP
  intro k
  induction k with
  | zero =>
    intro m hm hk j hj hl
    have all := left_zero _ _ (Nat.le_zero.1 hk)
    have hx := hin j hl
    refine ⟨fun e => ?_, fun e => ?_⟩
    · have : 0 ≤ (stAt P j).fa ∧ (stAt P j).fa < P.length := by
        rcases e with e | e
        · exact ⟨(hx.sp e).1, (hx.sp e).2.1⟩
        · exact hx.jp e
      exact all (stAt P j).fa.toNat (by omega)
    · have := hx.sp e
      exact all (stAt P j).fb.toNat (by omega)
  | succ k ih =>
    intro m hm hk
    by_cases hq : ∀ j, (passM P P.length 0 m).testBit j = true → m.testBit j = true
    · have hc := fix_cl hq
      rw [passes_eq hc]; exact hc
    · obtain ⟨j, hj⟩ := Classical.not_forall.1 hq
      obtain ⟨h1, h2⟩ := Classical.not_imp.1 hj
      have hlt := passM_lt hP P.length 0 m hm (by omega)
      have hjn := tb_lt hlt h1
      have := left_lt P.length (m : Int) ((passM P P.length 0 m : Nat) : Int) (fun q _ h => passM_up P _ _ m q h) j hjn (by rw [bitS_nat]; simpa using h2) h1
      rw [passes]
      exact ih _ hlt (by omega)
theorem left_le (n : Nat) (b : Int) : left n b ≤ n := by
  unfold left
  exact Nat.le_trans (List.length_filter_le _ _) (by simp)
theorem passes_up (P : List St) : ∀ (k m j : Nat), m.testBit j = true → (passes P k m).testBit j = true := by
  intro k
  induction k with
  | zero => intro m j h; exact h
  | succ k ih => intro m j h; exact ih _ _ (passM_up P _ _ m j h)
/-- a set that is closed holds all that is met from its places -/
theorem cls_rch {P : List St} (hP : chkF P = true) {m : Nat} (h : AllCls P m) {i j : Nat} (hr : Rch P i j) : i < P.length → m.testBit i = true → j < P.length ∧ m.testBit j = true := by
  obtain ⟨_, _, hin⟩ := chk_in hP
  induction hr with
  | refl i => intro hi hb; exact ⟨hi, hb⟩
  | sa i j e _ ih =>
    intro hi hb
    have hx := hin i hi
    have : 0 ≤ (stAt P i).fa ∧ (stAt P i).fa < P.length := by
      rcases e with e | e
      · exact ⟨(hx.sp e).1, (hx.sp e).2.1⟩
      · exact hx.jp e
    exact ih (by omega) ((h i hb hi).a e)
  | sb i j e _ ih =>
    intro hi hb
    have hx := (hin i hi).sp e
    exact ih (by omega) ((h i hb hi).b e)
theorem outM_bit (P : List St) (m : Nat) : ∀ (k i o j : Nat), (outM P m k i o).testBit j = (o.testBit j || (decide (i ≤ j) && decide (j < i + k) && (m.testBit j && decide ((stAt P j).fo = 1 ∨ (stAt P j).fo = 4)))) := by
  intro k
  induction k with
  | zero => intro i o j; simp [outM]; intro _ h; omega
  | succ k ih =>
    intro i o j
    rw [outM, ih]
    by_cases hij : i = j
    · subst hij
      rw [decide_eq_false (show ¬ i + 1 ≤ i by omega), decide_eq_true (show i ≤ i by omega), decide_eq_true (show i < i + (k + 1) by omega)]
      by_cases hc : m.testBit i ∧ ((stAt P i).fo = 1 ∨ (stAt P i).fo = 4)
      · rw [if_pos hc, tb_set, hc.1, decide_eq_true hc.2]; simp
      · rw [if_neg hc]
        have : (m.testBit i && decide ((stAt P i).fo = 1 ∨ (stAt P i).fo = 4)) = false := by
          rw [Bool.eq_false_iff]
          intro h
          rw [Bool.and_eq_true, decide_eq_true_iff] at h
          exact hc h
        rw [this]; simp
    · have e1 : decide (i + 1 ≤ j) = decide (i ≤ j) := by
        rw [Bool.eq_iff_iff, decide_eq_true_iff, decide_eq_true_iff]; omega
      have e2 : decide (j < i + 1 + k) = decide (j < i + (k + 1)) := by
        rw [Bool.eq_iff_iff, decide_eq_true_iff, decide_eq_true_iff]; omega
      rw [e1, e2]
      split
      · rw [tb_set, decide_eq_false hij, Bool.or_false]
      · rfl
/-- what the reference comes to -/
theorem reachM_bit {P : List St} (hP : chkF P = true) {i : Nat} (hi : i < P.length) (j : Nat) : (reachM P i).testBit j = true ↔ Term P j ∧ j < P.length ∧ Rch P i j := by
  obtain ⟨_, _, hin⟩ := chk_in hP
  have pi : 2 ^ i < 2 ^ P.length := Nat.pow_lt_pow_right (by decide) hi
  have hc := passes_cl hP P.length (2 ^ i) pi (left_le _ _)
  have hup := passes_up P P.length (2 ^ i) i (by rw [tb_pow]; simp)
  have hrc := passes_rc (P := P) (s := i) P.length (2 ^ i) (fun j h => by rw [tb_pow, decide_eq_true_iff] at h; subst h; exact .refl i)
  unfold reachM
  rw [outM_bit, Nat.zero_testBit, Bool.false_or, Nat.zero_add, Bool.and_eq_true, Bool.and_eq_true, Bool.and_eq_true, decide_eq_true_iff, decide_eq_true_iff, decide_eq_true_iff]
  constructor
  · rintro ⟨⟨_, h2⟩, h3, h4⟩
    exact ⟨⟨by omega, by omega⟩, h2, hrc j h3⟩
  · rintro ⟨ht, hl, hr⟩
    obtain ⟨q1, q2⟩ := cls_rch hP hc hr hi hup
    have hx := (hin j hl).op
    have := ht.n2
    have := ht.n3
    exact ⟨⟨Nat.zero_le _, hl⟩, q2, by omega⟩
end Go.Proofs.Ytfgiifppapopnaa

namespace Go.Proofs.Ytfgiifppapopnaa
open Go.RowKit Go.Proofs.Ytfgiifppapopnaa.AM
set_option maxRecDepth 100000
set_option maxHeartbeats 4000000
noncomputable def body727 : Code := (Try.f26.body).getD .skip
def F727 : List Nat → Option (List Nat) := fun p => match p with
  | [1] => some [0]
  | [1, 1] => some [0, 3]
  | [1, 1, 1] => some [2]
  | _ => none
noncomputable def body712 : Code := (Try.f11.body).getD .skip
def F712 : List Nat → Option (List Nat) := fun p => match p with
  | [1] => some [0]
  | [1, 0, 1] => some [0, 5]
  | [1, 0, 1, 0, 1] => some [2]
  | [1, 1] => some [0]
  | [1, 1, 1] => some [2]
  | _ => none
noncomputable def body715 : Code := (Try.f14.body).getD .skip
def F715 : List Nat → Option (List Nat) := fun p => match p with
  | [1] => some [0]
  | [1, 0, 1] => some [0, 5]
  | [1, 0, 1, 0, 1] => some [2]
  | [1, 1] => some [0]
  | [1, 1, 1] => some [2]
  | _ => none
noncomputable def S727 : Book := bookW [(45, comeW 100)] S0
theorem sure727 (hm : Try.prog.follows .mixedOrders = true) : Sure Try.prog S727 := ⟨hm, plain, bookW_ok sums0 (l := [(45, comeW 100)]) ⟨come_says hm 100, trivial⟩⟩

theorem w727 (sp : Option Nat) (n k : Nat) (cs : List Value) (own : Bool) (K : Value → Heap → Prop) :
  funX Try.prog S727 noLoop F727 body727 Try.f26 [] [] [.slice (some ⟨0,0,sp⟩) n k] (hp [.cells cs 7 own]) K = (
(FlatL cs ∧ FlatL [Value.int IntKind.u64 0] ∧ True) ∧ (IsSt cs n ∧ ComeOk (stsAt cs n) 100 0 0) ∧ K (Value.int IntKind.u64 (comeF 100 (stsAt cs n) 0 0).fst) (hp [Blk.cells cs 7 own])) := by kernel_rfl

/-- the set that a program begins with -/
def startF (P : List St) : Int := if chkF P then (reachM P 0 : Nat) else 0
noncomputable def startC : Ctr where
  pre := fun args blks => match args, blks with
    | [.slice (some ⟨0,0,_⟩) n k], [.cells cs 7 _] => IsSt cs n ∧ ChkP (stsAt cs n)
    | _, _ => False
  val := fun args blks => match args, blks with
    | [.slice (some ⟨0,0,_⟩) n k], [.cells cs 7 _] => .int .u64 (reachM (stsAt cs n) 0 : Nat)
    | _, _ => undef
  new := fun _ _ => []
noncomputable def S712 : Book := bookOf [(25, checkC), (26, startC)]

theorem w712 (sp : Option Nat) (n k : Nat) (cs : List Value) (own : Bool) (K : Value → Heap → Prop) :
  funX Try.prog S712 noLoop F712 body712 Try.f11 [] [] [.slice (some ⟨0,0,sp⟩) n k] (hp [.cells cs 7 own]) K = (
(FlatL cs ∧ True) ∧ (IsSt cs n ∧ Need (leN n k) True) ∧ Alt (!chkF (stsAt cs n)) (K (Value.int IntKind.u64 0) (hp [Blk.cells cs 7 own])) ((FlatL cs ∧ True) ∧ (IsSt cs n ∧ ChkP (stsAt cs n)) ∧ K (Value.int IntKind.u64
(↑(reachM (stsAt cs n) 0) : Int)) (hp [Blk.cells cs 7 own]))) := by kernel_rfl

noncomputable def S715 : Book := bookOf [(28, checkC), (29, reachC)]

theorem w715 (sp : Option Nat) (n k : Nat) (cs : List Value) (own : Bool) (K : Value → Heap → Prop) :
  funX Try.prog S715 noLoop F715 body715 Try.f14 [] [] [.slice (some ⟨0,0,sp⟩) n k] (hp [.cells cs 7 own]) K = (
(FlatL cs ∧ True) ∧ (IsSt cs n ∧ Need (leN n k) True) ∧ Alt (!chkF (stsAt cs n)) (K (Value.int IntKind.u64 0) (hp [Blk.cells cs 7 own])) ((FlatL cs ∧ True) ∧ (IsSt cs n ∧ RchOk (stsAt cs n) 0) ∧ K (Value.int IntKind.u64
(↑(reachM (stsAt cs n) 0) : Int)) (hp [Blk.cells cs 7 own]))) := by kernel_rfl

end Go.Proofs.Ytfgiifppapopnaa

namespace Go.Proofs.Ytfgiifppapopnaa
open Go.RowKit Go.Proofs.Ytfgiifppapopnaa.AM
set_option maxRecDepth 100000
set_option maxHeartbeats 4000000
/-- from nothing passed: what the walk comes to is what the passes come to -/
theorem come_zero {P : List St} (hP : chkF P = true) {i : Nat} (hi : i < P.length) : (comeF 100 P i 0).1 = ((reachM P i : Nat) : Int) := by
  obtain ⟨h40, h1, hin⟩ := chk_in hP
  have hl := left_le P.length (0 : Int)
  obtain ⟨o, c, e, r⟩ := come_facts hP 100 i 0 hi (Nat.two_pow_pos _) (by exact Nat.le_trans hl (by omega))
  have e' : comeF 100 P i 0 = ((o : Int), (c : Int)) := e
  rw [e']
  show (o : Int) = _
  congr 1
  apply Nat.eq_of_testBit_eq
  intro j
  rw [Bool.eq_iff_iff, reachM_bit hP hi]
  constructor
  · intro h
    obtain ⟨t1, t2, t3⟩ := r.ot j h
    exact ⟨t1, tb_lt r.c1 t2, r.rc j t2 t3⟩
  · rintro ⟨ht, hl, hr⟩
    have hc : AllCls P c := fun j hj _ => r.cl j hj (Nat.zero_testBit j)
    obtain ⟨q1, q2⟩ := cls_rch hP hc hr hi r.me
    exact r.tm j q2 (Nat.zero_testBit j) ht
theorem start_says (hm : Try.prog.follows .mixedOrders = true) : startC.Holds Try.prog 26 := by
  intro args blks hf hpre
  refine ⟨trivial, ?_⟩
  simp only [startC] at hpre ⊢
  split at hpre
  · rename_i sp n k cs own
    obtain ⟨⟨L, rfl, hn, ok, hs⟩, hC⟩ := hpre
    have hI : IsSt (stC L) n := .mk L rfl hn ok hs
    have hF : FlatD [] (hp [.cells (stC L) 7 own]) := FlatD.hp ⟨stC_flat L, trivial⟩
    have hP := hC.ck
    obtain ⟨h40, h1, hin⟩ := chk_in hP
    have hl := left_le (stsAt (stC L) n).length (0 : Int)
    have hk := come_ok hP (f := 100) (i := 0) (b := 0) (by omega) (Nat.two_pow_pos _) (by exact Nat.lt_of_le_of_lt hl (by omega))
    refine (sure727 hm).funX F727 body727 [] [] Try.func26 rfl noLoops ?_
    rw [w727]
    have hz := come_zero hP (i := 0) (by omega)
    have hz' : (comeF 100 (stsAt (stC L) n) 0 0).1 = ((reachM (stsAt (stC L) n) 0 : Nat) : Int) := hz
    rw [hz']
    exact ⟨⟨stC_flat L, u64_flat 0, trivial⟩, ⟨hI, hk⟩, hF, rfl, rfl, rfl⟩
  · exact hpre.elim
noncomputable def beginC : Ctr where
  pre := fun args blks => match args, blks with
    | [.slice (some ⟨0,0,_⟩) n k], [.cells cs 7 _] => IsSt cs n ∧ Need (leN n k) True
    | _, _ => False
  val := fun args blks => match args, blks with
    | [.slice (some ⟨0,0,_⟩) n k], [.cells cs 7 _] => .int .u64 (startF (stsAt cs n))
    | _, _ => undef
  new := fun _ _ => []
theorem begin_says (hm : Try.prog.follows .mixedOrders = true) : beginC.Holds Try.prog 11 := by
  intro args blks hf hpre
  refine ⟨trivial, ?_⟩
  simp only [beginC] at hpre ⊢
  split at hpre
  · rename_i sp n k cs own
    obtain ⟨⟨L, rfl, hn, ok, hs⟩, hnk⟩ := hpre
    have hI : IsSt (stC L) n := .mk L rfl hn ok hs
    have hF : FlatD [] (hp [.cells (stC L) 7 own]) := FlatD.hp ⟨stC_flat L, trivial⟩
    have s : Sure Try.prog S712 := ⟨hm, plain, bookOf_ok (l := [(25, checkC), (26, startC)]) ⟨check_says hm, start_says hm, trivial⟩⟩
    refine s.funX F712 body712 [] [] Try.func11 rfl noLoops ?_
    rw [w712]
    refine ⟨⟨stC_flat L, trivial⟩, ⟨hI, hnk⟩, ?_⟩
    unfold startF
    cases hP : chkF (stsAt (stC L) n) with
    | false => exact ⟨hF, rfl, rfl, rfl⟩
    | true => exact ⟨⟨stC_flat L, trivial⟩, ⟨hI, ⟨hP⟩⟩, hF, rfl, rfl, rfl⟩
  · exact hpre.elim
theorem rbegin_says (hm : Try.prog.follows .mixedOrders = true) : beginC.Holds Try.prog 14 := by
  intro args blks hf hpre
  refine ⟨trivial, ?_⟩
  simp only [beginC] at hpre ⊢
  split at hpre
  · rename_i sp n k cs own
    obtain ⟨⟨L, rfl, hn, ok, hs⟩, hnk⟩ := hpre
    have hI : IsSt (stC L) n := .mk L rfl hn ok hs
    have hF : FlatD [] (hp [.cells (stC L) 7 own]) := FlatD.hp ⟨stC_flat L, trivial⟩
    have s : Sure Try.prog S715 := ⟨hm, plain, bookOf_ok (l := [(28, checkC), (29, reachC)]) ⟨rcheck_says hm, reach_says hm, trivial⟩⟩
    refine s.funX F715 body715 [] [] Try.func14 rfl noLoops ?_
    rw [w715]
    refine ⟨⟨stC_flat L, trivial⟩, ⟨hI, hnk⟩, ?_⟩
    unfold startF
    cases hP : chkF (stsAt (stC L) n) with
    | false => exact ⟨hF, rfl, rfl, rfl⟩
    | true =>
      obtain ⟨h40, h1, hin⟩ := chk_in hP
      exact ⟨⟨stC_flat L, trivial⟩, ⟨hI, ⟨hP, by decide, by omega⟩⟩, hF, rfl, rfl, rfl⟩
  · exact hpre.elim
end Go.Proofs.Ytfgiifppapopnaa

namespace Go.Proofs.Ytfgiifppapopnaa
open Go.RowKit Go.Proofs.Ytfgiifppapopnaa.AM
set_option maxRecDepth 100000
set_option maxHeartbeats 4000000
noncomputable def body728 : Code := (Try.f27.body).getD .skip
def F728 : List Nat → Option (List Nat) := fun p => match p with
  | [1] => some [0, 1, 2]
  | [1, 1] => some [0, 1, 2, 7, 8]
  | [1, 0, 1, 1] => some [0, 1, 2, 7, 8, 11, 12, 13]
  | [1, 0, 0, 1, 0, 1, 1] => some [0, 1, 2, 7, 8, 11, 12, 13, 14]
  | [1, 0, 1, 0, 0, 1, 0, 1, 1] => some [8]
  | [1, 1, 0, 0, 1, 0, 1, 1] => some [0, 1, 2, 7, 8, 11, 12, 13]
  | [1, 0, 0, 1, 1, 0, 0, 1, 0, 1, 1] => some [0, 1, 2, 7, 8, 9, 10, 11, 12, 13]
  | [1, 1, 0, 0, 1, 1, 0, 0, 1, 0, 1, 1] => some [0, 1, 2, 7, 8, 9, 11, 12, 13, 39]
  | [1, 1, 1, 0, 0, 1, 0, 1, 1] => some [0, 1, 2, 7, 8, 11, 12, 13]
  | [1, 1, 1] => some [8]
  | [1, 1, 1, 1] => some [6]
  | _ => none
noncomputable def body716 : Code := (Try.f15.body).getD .skip
def F716 : List Nat → Option (List Nat) := fun p => match p with
  | [1] => some [0, 1, 2]
  | [1, 0, 1] => some [0, 1, 2, 11]
  | [1, 0, 1, 0, 1] => some [6]
  | [1, 1] => some [0, 1, 2]
  | [1, 1, 1] => some [0, 1, 2, 7]
  | [1, 0, 1, 1, 1] => some [0, 1, 2, 7, 8]
  | [1, 0, 0, 0, 1, 0, 1, 1, 1] => some [0, 1, 2, 7, 8, 15]
  | [1, 1, 0, 0, 0, 1, 0, 1, 1, 1] => some [7]
  | [1, 0, 0, 1, 0, 1, 1, 1] => some [0, 1, 2, 7, 8]
  | [1, 0, 0, 1, 0, 0, 1, 0, 1, 1, 1] => some [0, 1, 2, 7, 8, 40]
  | [1, 1, 0, 0, 1, 0, 1, 1, 1] => some [0, 1, 2, 7, 8]
  | [1, 1, 1, 1] => some [7]
  | [1, 1, 1, 1, 1] => some [6]
  | _ => none
noncomputable def body731 : Code := (Try.f30.body).getD .skip
def F731 : List Nat → Option (List Nat) := fun p => match p with
  | [1] => some [1, 2]
  | [1, 1] => some [4]
  | _ => none
noncomputable def T728 (sp : Option Nat) (n k : Nat) (now c t : Int) (i : Nat) : List Value := tmps 48 [(0, .slice (some ⟨0,0,sp⟩) n k), (1, .int .u64 now), (2, .int .u8 c), (7, .pointer (some ⟨1,0,none⟩)), (8, .int .u64 t), (11, .slice (some ⟨0,0,sp⟩) n k), (12, .int .i64 n), (13, .int .i64 i)]

theorem r728 (sp : Option Nat) (n k : Nat) (now c b t : Int) (i : Nat) (cs : List Value) (own : Bool) (K : Post) :
  roundX Try.prog S727 noLoop F728 body728 1 [] [] [] [] [0,1,2,7,8,11,12,13] [0,0,1,0,1,1] (T728 sp n k now c t i) (hp [.cells cs 7 own, .cells [.int .u64 b] 1 true]) K = (
Alt (ltI (↑i : Int) (↑n : Int)) (Need (ltI (↑i : Int) (↑n : Int)) (Need (isInt IntKind.i64 ((getO cs (0 + (↑i : Int).toNat * 7)).getD undef)) (Need (isInt IntKind.u64 ((getO cs (0 + (↑i : Int).toNat * 7 + 1)).getD
undef)) (Need (isInt IntKind.u64 ((getO cs (0 + (↑i : Int).toNat * 7 + 1 + 1)).getD undef)) (Need (isInt IntKind.u64 ((getO cs (0 + (↑i : Int).toNat * 7 + 1 + 1 + 1)).getD undef)) (Need (isInt IntKind.u64 ((getO cs (0 +
(↑i : Int).toNat * 7 + 1 + 1 + 1 + 1)).getD undef)) (Need (isInt IntKind.i64 ((getO cs (0 + (↑i : Int).toNat * 7 + 1 + 1 + 1 + 1 + 1)).getD undef)) (Need (isInt IntKind.i64 ((getO cs (0 + (↑i : Int).toNat * 7 + 1 + 1 + 1
+ 1 + 1 + 1)).getD undef)) (Alt (eqI (bitsW BinOp.and IntKind.u64 (now.fdiv (2 ^ min (↑i : Int).toNat 64)) 1) 1) (Alt (eqI (intV (Value.int IntKind.i64 (intV ((getO cs (0 + (↑i : Int).toNat * 7)).getD undef)))) 1) (Need
(leI 0 (wr IntKind.u8 (c.tdiv 64))) (Need (ltI (wr IntKind.u8 (c.tdiv 64)) 4) (Need (isInt IntKind.u64 ((getO [Value.int IntKind.i64 (intV ((getO cs (0 + (↑i : Int).toNat * 7)).getD undef)), Value.int IntKind.u64 (intV
((getO cs (0 + (↑i : Int).toNat * 7 + 1)).getD undef)), Value.int IntKind.u64 (intV ((getO cs (0 + (↑i : Int).toNat * 7 + 1 + 1)).getD undef)), Value.int IntKind.u64 (intV ((getO cs (0 + (↑i : Int).toNat * 7 + 1 + 1 +
1)).getD undef)), Value.int IntKind.u64 (intV ((getO cs (0 + (↑i : Int).toNat * 7 + 1 + 1 + 1 + 1)).getD undef)), Value.int IntKind.i64 (intV ((getO cs (0 + (↑i : Int).toNat * 7 + 1 + 1 + 1 + 1 + 1)).getD undef)),
Value.int IntKind.i64 (intV ((getO cs (0 + (↑i : Int).toNat * 7 + 1 + 1 + 1 + 1 + 1 + 1)).getD undef))] (1 + (wr IntKind.u8 (c.tdiv 64)).toNat * 1)).getD undef)) (Need (leI 0 (c.tmod 64)) (Alt (eqI (bitsW BinOp.and
IntKind.u64 ((intV ((getO [Value.int IntKind.i64 (intV ((getO cs (0 + (↑i : Int).toNat * 7)).getD undef)), Value.int IntKind.u64 (intV ((getO cs (0 + (↑i : Int).toNat * 7 + 1)).getD undef)), Value.int IntKind.u64 (intV
((getO cs (0 + (↑i : Int).toNat * 7 + 1 + 1)).getD undef)), Value.int IntKind.u64 (intV ((getO cs (0 + (↑i : Int).toNat * 7 + 1 + 1 + 1)).getD undef)), Value.int IntKind.u64 (intV ((getO cs (0 + (↑i : Int).toNat * 7 + 1
+ 1 + 1 + 1)).getD undef)), Value.int IntKind.i64 (intV ((getO cs (0 + (↑i : Int).toNat * 7 + 1 + 1 + 1 + 1 + 1)).getD undef)), Value.int IntKind.i64 (intV ((getO cs (0 + (↑i : Int).toNat * 7 + 1 + 1 + 1 + 1 + 1 +
1)).getD undef))] (1 + (wr IntKind.u8 (c.tdiv 64)).toNat * 1)).getD undef)).fdiv (2 ^ min (c.tmod 64).toNat 64)) 1) 1) ((FlatL cs ∧ FlatL [Value.int IntKind.u64 b] ∧ True) ∧ (IsSt cs n ∧ ComeOk (stsAt cs n) 100 (wr
IntKind.i64 ((↑i : Int) + 1)) b) ∧ K AE.normal (tmps 48 [(0, Value.slice (some { block := 0, off := 0, spot := sp : Addr }) n k), (1, Value.int IntKind.u64 now), (2, Value.int IntKind.u8 c), (7, Value.pointer (some
{ block := 1, off := 0 : Addr })), (8, Value.int IntKind.u64 (bitsW BinOp.or IntKind.u64 t (comeF 100 (stsAt cs n) (wr IntKind.i64 ((↑i : Int) + 1)) b).fst)), (11, Value.slice (some
{ block := 0, off := 0, spot := sp : Addr }) n k), (12, Value.int IntKind.i64 (↑n : Int)), (13, Value.int IntKind.i64 (wr IntKind.i64 ((↑i : Int) + 1)))]) (hp [Blk.cells cs 7 own, Blk.cells [Value.int IntKind.u64 (comeF
100 (stsAt cs n) (wr IntKind.i64 ((↑i : Int) + 1)) b).snd] 1 true])) (K AE.normal (tmps 48 [(0, Value.slice (some { block := 0, off := 0, spot := sp : Addr }) n k), (1, Value.int IntKind.u64 now), (2, Value.int
IntKind.u8 c), (7, Value.pointer (some { block := 1, off := 0 : Addr })), (8, Value.int IntKind.u64 t), (11, Value.slice (some { block := 0, off := 0, spot := sp : Addr }) n k), (12, Value.int IntKind.i64 (↑n : Int)),
(13, Value.int IntKind.i64 (wr IntKind.i64 ((↑i : Int) + 1)))]) (hp [Blk.cells cs 7 own, Blk.cells [Value.int IntKind.u64 b] 1 true]))))))) (K AE.normal (tmps 48 [(0, Value.slice (some
{ block := 0, off := 0, spot := sp : Addr }) n k), (1, Value.int IntKind.u64 now), (2, Value.int IntKind.u8 c), (7, Value.pointer (some { block := 1, off := 0 : Addr })), (8, Value.int IntKind.u64 t), (11, Value.slice
(some { block := 0, off := 0, spot := sp : Addr }) n k), (12, Value.int IntKind.i64 (↑n : Int)), (13, Value.int IntKind.i64 (wr IntKind.i64 ((↑i : Int) + 1)))]) (hp [Blk.cells cs 7 own, Blk.cells [Value.int IntKind.u64
b] 1 true]))) (K AE.normal (tmps 48 [(0, Value.slice (some { block := 0, off := 0, spot := sp : Addr }) n k), (1, Value.int IntKind.u64 now), (2, Value.int IntKind.u8 c), (7, Value.pointer (some
{ block := 1, off := 0 : Addr })), (8, Value.int IntKind.u64 t), (11, Value.slice (some { block := 0, off := 0, spot := sp : Addr }) n k), (12, Value.int IntKind.i64 (↑n : Int)), (13, Value.int IntKind.i64 (wr
IntKind.i64 ((↑i : Int) + 1)))]) (hp [Blk.cells cs 7 own, Blk.cells [Value.int IntKind.u64 b] 1 true]))))))))))) (K (AE.exit 0) (tmps 48 [(8, Value.int IntKind.u64 t)]) (hp [Blk.cells cs 7 own]))) := by kernel_rfl

theorem w731 (s0 s1 s2 s3 c : Int) (K : Value → Heap → Prop) :
  funX Try.prog S0 noLoop F731 body731 Try.f30 [] [] [.agg #[.int .u64 s0, .int .u64 s1, .int .u64 s2, .int .u64 s3], .int .u8 c] (hp []) K = (
Need (leI 0 (wr IntKind.u8 (c.tdiv 64))) (Need (ltI (wr IntKind.u8 (c.tdiv 64)) 4) (Need (isInt IntKind.u64 ((getO [Value.int IntKind.u64 s0, Value.int IntKind.u64 s1, Value.int IntKind.u64 s2, Value.int IntKind.u64 s3]
(0 + (wr IntKind.u8 (c.tdiv 64)).toNat * 1)).getD undef)) (Need (leI 0 (wr IntKind.u64 (c.tmod 64))) (K (Value.bool (eqI (bitsW BinOp.and IntKind.u64 ((intV ((getO [Value.int IntKind.u64 s0, Value.int IntKind.u64 s1,
Value.int IntKind.u64 s2, Value.int IntKind.u64 s3] (0 + (wr IntKind.u8 (c.tdiv 64)).toNat * 1)).getD undef)).fdiv (2 ^ min (wr IntKind.u64 (c.tmod 64)).toNat 64)) 1) 1)) (hp [])))))) := by kernel_rfl

end Go.Proofs.Ytfgiifppapopnaa

namespace Go.Proofs.Ytfgiifppapopnaa
open Go.RowKit Go.Proofs.Ytfgiifppapopnaa.AM
set_option maxRecDepth 100000
set_option maxHeartbeats 4000000
/-- a word of a step's set -/
def wdS (x : St) : Nat → Int
  | 0 => x.f0
  | 1 => x.f1
  | 2 => x.f2
  | _ => x.f3
/-- is a byte in a step's set? -/
def hasS (x : St) (c : Nat) : Bool := bitS (wdS x (c / 64)) ((c % 64 : Nat) : Int)
theorem wdS_in {x : St} (h : StOk x) (q : Nat) : 0 ≤ wdS x q ∧ wdS x q < 18446744073709551616 := by
  have h0 := h.k0
  have h1 := h.k1
  have h2 := h.k2
  have h3 := h.k3
  unfold wdS
  split <;> assumption
theorem c_div (c : Nat) (hc : c < 256) : wr .u8 ((c : Int).tdiv 64) = ((c / 64 : Nat) : Int) := by
  rw [Int.tdiv_eq_ediv_of_nonneg (by omega), wr_eq]; simp [IntKind.wrap, IntKind.bits, IntKind.signed]; omega
theorem c_mod (c : Nat) : (c : Int).tmod 64 = ((c % 64 : Nat) : Int) := by
  rw [Int.tmod_eq_emod_of_nonneg (by omega)]; omega
theorem wd_get (x : St) (q : Nat) (hq : q < 4) : getO [Value.int .i64 x.fo, .int .u64 x.f0, .int .u64 x.f1, .int .u64 x.f2, .int .u64 x.f3, .int .i64 x.fa, .int .i64 x.fb] (1 + ((q : Nat) : Int).toNat * 1) = some (.int .u64 (wdS x q)) := by
  have : q = 0 ∨ q = 1 ∨ q = 2 ∨ q = 3 := by omega
  rcases this with rfl | rfl | rfl | rfl <;> rfl
theorem wd_get4 (x : St) (q : Nat) (hq : q < 4) : getO [Value.int .u64 x.f0, .int .u64 x.f1, .int .u64 x.f2, .int .u64 x.f3] (0 + ((q : Nat) : Int).toNat * 1) = some (.int .u64 (wdS x q)) := by
  have : q = 0 ∨ q = 1 ∨ q = 2 ∨ q = 3 := by omega
  rcases this with rfl | rfl | rfl | rfl <;> rfl
theorem has_eq {x : St} (h : StOk x) (c : Nat) : eqI (bitsW .and .u64 ((wdS x (c / 64)).fdiv (2 ^ min (c % 64) 64)) 1) 1 = hasS x c := by
  obtain ⟨h0, h1⟩ := wdS_in h (c / 64)
  unfold hasS
  obtain ⟨w, hw⟩ := Int.eq_ofNat_of_zero_le h0
  rw [hw]
  exact bit_eq w (c % 64) (by omega) (by omega)
/-- four words and a byte -/
inductive IsW4 (cs : Array Value) (c : Int) : Prop
  | mk (x : St) (ok : StOk x) (h : cs = #[Value.int .u64 x.f0, .int .u64 x.f1, .int .u64 x.f2, .int .u64 x.f3]) (c0 : 0 ≤ c) (c1 : c < 256)
noncomputable def w4D (cs : List Value) : St := ⟨1, intV ((getO cs 0).getD undef), intV ((getO cs 1).getD undef), intV ((getO cs 2).getD undef), intV ((getO cs 3).getD undef), 0, 0⟩
noncomputable def hasC : Ctr where
  pre := fun args blks => match args, blks with
    | [.agg cs, .int .u8 c], [] => IsW4 cs c
    | _, _ => False
  val := fun args blks => match args, blks with
    | [.agg cs, .int .u8 c], [] => .bool (hasS (w4D cs.toList) c.toNat)
    | _, _ => undef
  new := fun _ _ => []
theorem has_says (hm : Try.prog.follows .mixedOrders = true) : hasC.Holds Try.prog 30 := by
  intro args blks hf hpre
  refine ⟨trivial, ?_⟩
  simp only [hasC] at hpre ⊢
  split at hpre
  · rename_i cs c
    obtain ⟨x, ok, rfl, c0, c1⟩ := hpre
    have hF : FlatD [] (hp []) := FlatD.hp trivial
    obtain ⟨c, rfl⟩ := Int.eq_ofNat_of_zero_le c0
    have hc : c < 256 := by omega
    refine (sure0 hm).funX F731 body731 [] [] Try.func30 rfl noLoops ?_
    rw [w731, c_div c hc, c_mod, wru _ (by omega), wd_get4 x _ (by omega)]
    have ned : ∀ (A : Prop), A → Need true A := fun A h => Need_iff.2 ⟨rfl, h⟩
    rw [show leI 0 ((c / 64 : Nat) : Int) = true from leI_iff.2 (by omega), show ltI ((c / 64 : Nat) : Int) 4 = true from ltI_iff.2 (by omega), show leI 0 ((c % 64 : Nat) : Int) = true from leI_iff.2 (by omega)]
    refine ned _ (ned _ (ned _ (ned _ ⟨hF, rfl, ?_, rfl⟩)))
    have := has_eq ok c
    simp only [Option.getD_some, intV, Int.toNat_natCast]
    rw [this]
    have hs : hasS (w4D #[Value.int .u64 x.f0, .int .u64 x.f1, .int .u64 x.f2, .int .u64 x.f3].toList) c = hasS x c := by
      unfold hasS
      have : c / 64 = 0 ∨ c / 64 = 1 ∨ c / 64 = 2 ∨ c / 64 = 3 := by omega
      rcases this with h | h | h | h <;> rw [h] <;> rfl
    rw [hs]
  · exact hpre.elim
end Go.Proofs.Ytfgiifppapopnaa

namespace Go.Proofs.Ytfgiifppapopnaa
open Go.RowKit Go.Proofs.Ytfgiifppapopnaa.AM
set_option maxRecDepth 100000
set_option maxHeartbeats 4000000
/-- is a step in a set, and takes it a byte? -/
def sel (P : List St) (now c i : Nat) : Bool := now.testBit i && (decide ((stAt P i).fo = 1) && hasS (stAt P i) c)
/-- what is come to behind a byte, from a place on -/
def nextL (P : List St) (now c : Nat) : Nat → Nat → Nat → Nat
  | 0, _, o => o
  | k + 1, i, o => nextL P now c k (i + 1) (if sel P now c i then o ||| reachM P (i + 1) else o)
def nextR (P : List St) (now c : Nat) : Nat := nextL P now c P.length 0 0
def nextF (P : List St) (now c : Int) : Int := if chkF P then (nextR P now.toNat c.toNat : Nat) else 0
structure NextOk (now c : Int) : Prop where
  n0 : 0 ≤ now
  n1 : now < 18446744073709551616
  c0 : 0 ≤ c
  c1 : c < 256
/-- what was come to so far: what is passed is closed, its bytes and matches are told -/
structure NextI (P : List St) (b t : Nat) : Prop where
  bl : b < 2 ^ P.length
  tl : t < 2 ^ P.length
  cl : AllCls P b
  bt : ∀ j, t.testBit j = true ↔ Term P j ∧ b.testBit j = true
theorem next_zero (P : List St) : NextI P 0 0 := ⟨Nat.two_pow_pos _, Nat.two_pow_pos _, fun j h => by rw [Nat.zero_testBit] at h; (cases h), fun j => by rw [Nat.zero_testBit]; simp⟩
theorem next_step {P : List St} (hP : chkF P = true) {b t i : Nat} (h : NextI P b t) (hi : i < P.length) : ∃ o c : Nat, comeF 100 P i b = ((o : Int), (c : Int)) ∧ o < 2 ^ P.length ∧ NextI P c (t ||| o) ∧ t ||| o = t ||| reachM P i := by
  obtain ⟨h40, h1, hin⟩ := chk_in hP
  have hl := left_le P.length (b : Int)
  obtain ⟨o, c, e, r⟩ := come_facts hP 100 i b hi h.bl (by exact Nat.le_trans hl (by omega))
  have hc : AllCls P c := fun j hj hl => by
    cases hb : b.testBit j with
    | true => exact (h.cl j hb hl).mono r.up
    | false => exact r.cl j hj hb
  have hbt : ∀ j, (t ||| o).testBit j = true ↔ Term P j ∧ c.testBit j = true := fun j => by
    rw [Nat.testBit_or, Bool.or_eq_true]
    constructor
    · rintro (q | q)
      · exact ⟨((h.bt j).1 q).1, r.up j ((h.bt j).1 q).2⟩
      · exact ⟨(r.ot j q).1, (r.ot j q).2.1⟩
    · rintro ⟨q1, q2⟩
      cases hb : b.testBit j with
      | true => exact .inl ((h.bt j).2 ⟨q1, hb⟩)
      | false => exact .inr (r.tm j q2 hb q1)
  refine ⟨o, c, e, r.o1, ⟨r.c1, Nat.or_lt_two_pow h.tl r.o1, hc, hbt⟩, ?_⟩
  apply Nat.eq_of_testBit_eq
  intro j
  rw [Bool.eq_iff_iff, hbt, Nat.testBit_or, Bool.or_eq_true, reachM_bit hP hi]
  constructor
  · rintro ⟨q1, q2⟩
    cases hb : b.testBit j with
    | true => exact .inl ((h.bt j).2 ⟨q1, hb⟩)
    | false => exact .inr ⟨q1, tb_lt r.c1 q2, r.rc j q2 hb⟩
  · rintro (q | ⟨q1, q2, q3⟩)
    · exact ⟨((h.bt j).1 q).1, r.up j ((h.bt j).1 q).2⟩
    · exact ⟨q1, (cls_rch hP hc q3 hi r.me).2⟩
noncomputable def cut728 (sp : Option Nat) (n k : Nat) (now c r : Int) (cs : List Value) (own : Bool) : CutE where
  β := Nat
  p := [0,1,0,1,1]
  t := fun _ => T728 sp n k now c 0 0
  h := fun _ => hp [.cells cs 7 own, .cells [.int .u64 0] 1 true]
  Q := fun _ K => K (.exit 0) (tmps 48 [(8, .int .u64 r)]) (hp [.cells cs 7 own])

theorem w728 (sp : Option Nat) (n k : Nat) (now c r : Int) (cs : List Value) (own : Bool) (K : Value → Heap → Prop) :
  funX Try.prog S727 (gcLKX (at0 []) (at0 []) 1 (cutE [cut728 sp n k now c r cs own])) F728 body728 Try.f27 [] [] [.slice (some ⟨0,0,sp⟩) n k, .int .u64 now, .int .u8 c] (hp [.cells cs 7 own]) K = (
FlatD [] (hp [Blk.cells cs 7 own, Blk.cells [Value.int IntKind.u64 0] 1 true]) ∧ ∃ (b : Nat), tmps 48 [(0, Value.slice (some { block := 0, off := 0, spot := sp : Addr }) n k), (1, Value.int IntKind.u64 now), (2,
Value.int IntKind.u8 c), (7, Value.pointer (some { block := 1, off := 0 : Addr })), (8, Value.int IntKind.u64 0), (11, Value.slice (some { block := 0, off := 0, spot := sp : Addr }) n k), (12, Value.int IntKind.i64 (↑n :
Int)), (13, Value.int IntKind.i64 0)] = tmps 48 [(0, Value.slice (some { block := 0, off := 0, spot := sp : Addr }) n k), (1, Value.int IntKind.u64 now), (2, Value.int IntKind.u8 c), (7, Value.pointer (some
{ block := 1, off := 0 : Addr })), (8, Value.int IntKind.u64 0), (11, Value.slice (some { block := 0, off := 0, spot := sp : Addr }) n k), (12, Value.int IntKind.i64 (↑n : Int)), (13, Value.int IntKind.i64 0)] ∧ hp
[Blk.cells cs 7 own, Blk.cells [Value.int IntKind.u64 0] 1 true] = hp [Blk.cells cs 7 own, Blk.cells [Value.int IntKind.u64 0] 1 true] ∧ K (Value.int IntKind.u64 r) (hp [Blk.cells cs 7 own])) := by kernel_rfl

noncomputable def S716 : Book := bookOf [(28, checkC), (30, hasC), (29, reachC)]
noncomputable def T716 (sp : Option Nat) (n k : Nat) (now c o : Int) (i : Nat) : List Value := tmps 48 [(0, .slice (some ⟨0,0,sp⟩) n k), (1, .int .u64 now), (2, .int .u8 c), (7, .int .u64 o), (8, .int .i64 i)]

theorem r716 (sp : Option Nat) (n k : Nat) (now c o : Int) (i : Nat) (cs : List Value) (own : Bool) (K : Post) :
  roundX Try.prog S716 noLoop F716 body716 1 [] [] [] [] [0,1,2,7,8] [0,0,1,0,1,1,1] (T716 sp n k now c o i) (hp [.cells cs 7 own]) K = (
Alt (ltI (↑i : Int) (↑n : Int)) (Alt (eqI (bitsW BinOp.and IntKind.u64 (now.fdiv (2 ^ min (wr IntKind.u64 (↑i : Int)).toNat 64)) 1) 1) (Need (ltI (↑i : Int) (↑n : Int)) (Need (isInt IntKind.i64 ((getO cs (0 + (↑i :
Int).toNat * 7 + 0)).getD undef)) (Alt (eqI (intV ((getO cs (0 + (↑i : Int).toNat * 7 + 0)).getD undef)) 1) (Need (ltI (↑i : Int) (↑n : Int)) (Need (isInt IntKind.u64 ((getO cs (0 + (↑i : Int).toNat * 7 + 1)).getD
undef)) (Need (isInt IntKind.u64 ((getO cs (0 + (↑i : Int).toNat * 7 + 1 + 1)).getD undef)) (Need (isInt IntKind.u64 ((getO cs (0 + (↑i : Int).toNat * 7 + 1 + 1 + 1)).getD undef)) (Need (isInt IntKind.u64 ((getO cs (0 +
(↑i : Int).toNat * 7 + 1 + 1 + 1 + 1)).getD undef)) (True ∧ IsW4 #[Value.int IntKind.u64 (intV ((getO cs (0 + (↑i : Int).toNat * 7 + 1)).getD undef)), Value.int IntKind.u64 (intV ((getO cs (0 + (↑i : Int).toNat * 7 + 1 +
1)).getD undef)), Value.int IntKind.u64 (intV ((getO cs (0 + (↑i : Int).toNat * 7 + 1 + 1 + 1)).getD undef)), Value.int IntKind.u64 (intV ((getO cs (0 + (↑i : Int).toNat * 7 + 1 + 1 + 1 + 1)).getD undef))] c ∧ Alt (hasS
(w4D [Value.int IntKind.u64 (intV ((getO cs (0 + (↑i : Int).toNat * 7 + 1)).getD undef)), Value.int IntKind.u64 (intV ((getO cs (0 + (↑i : Int).toNat * 7 + 1 + 1)).getD undef)), Value.int IntKind.u64 (intV ((getO cs (0 +
(↑i : Int).toNat * 7 + 1 + 1 + 1)).getD undef)), Value.int IntKind.u64 (intV ((getO cs (0 + (↑i : Int).toNat * 7 + 1 + 1 + 1 + 1)).getD undef))]) c.toNat) ((FlatL cs ∧ True) ∧ (IsSt cs n ∧ RchOk (stsAt cs n) (wr
IntKind.i64 ((↑i : Int) + 1))) ∧ K AE.normal (tmps 48 [(0, Value.slice (some { block := 0, off := 0, spot := sp : Addr }) n k), (1, Value.int IntKind.u64 now), (2, Value.int IntKind.u8 c), (7, Value.int IntKind.u64
(bitsW BinOp.or IntKind.u64 o (↑(reachM (stsAt cs n) (wr IntKind.i64 ((↑i : Int) + 1)).toNat) : Int))), (8, Value.int IntKind.i64 (wr IntKind.i64 ((↑i : Int) + 1)))]) (hp [Blk.cells cs 7 own])) (K AE.normal (tmps 48 [(0,
Value.slice (some { block := 0, off := 0, spot := sp : Addr }) n k), (1, Value.int IntKind.u64 now), (2, Value.int IntKind.u8 c), (7, Value.int IntKind.u64 o), (8, Value.int IntKind.i64 (wr IntKind.i64 ((↑i : Int) +
1)))]) (hp [Blk.cells cs 7 own])))))))) (K AE.normal (tmps 48 [(0, Value.slice (some { block := 0, off := 0, spot := sp : Addr }) n k), (1, Value.int IntKind.u64 now), (2, Value.int IntKind.u8 c), (7, Value.int
IntKind.u64 o), (8, Value.int IntKind.i64 (wr IntKind.i64 ((↑i : Int) + 1)))]) (hp [Blk.cells cs 7 own]))))) (K AE.normal (tmps 48 [(0, Value.slice (some { block := 0, off := 0, spot := sp : Addr }) n k), (1, Value.int
IntKind.u64 now), (2, Value.int IntKind.u8 c), (7, Value.int IntKind.u64 o), (8, Value.int IntKind.i64 (wr IntKind.i64 ((↑i : Int) + 1)))]) (hp [Blk.cells cs 7 own]))) (K (AE.exit 0) (tmps 48 [(7, Value.int IntKind.u64
o)]) (hp [Blk.cells cs 7 own]))) := by kernel_rfl

noncomputable def cut716 (sp : Option Nat) (n k : Nat) (now c r : Int) (cs : List Value) (own : Bool) : CutE where
  β := Nat
  p := [0,1,0,1,1,1]
  t := fun _ => T716 sp n k now c 0 0
  h := fun _ => hp [.cells cs 7 own]
  Q := fun _ K => ChkP (stsAt cs n) ∧ K (.exit 0) (tmps 48 [(7, .int .u64 r)]) (hp [.cells cs 7 own])

theorem w716 (sp : Option Nat) (n k : Nat) (now c r : Int) (cs : List Value) (own : Bool) (K : Value → Heap → Prop) :
  funX Try.prog S716 (gcLKX (at0 []) (at0 []) 1 (cutE [cut716 sp n k now c r cs own])) F716 body716 Try.f15 [] [] [.slice (some ⟨0,0,sp⟩) n k, .int .u64 now, .int .u8 c] (hp [.cells cs 7 own]) K = (
(FlatL cs ∧ True) ∧ (IsSt cs n ∧ Need (leN n k) True) ∧ Alt (!chkF (stsAt cs n)) (K (Value.int IntKind.u64 0) (hp [Blk.cells cs 7 own])) (FlatD [] (hp [Blk.cells cs 7 own]) ∧ ∃ (b : Nat), tmps 48 [(0, Value.slice (some
{ block := 0, off := 0, spot := sp : Addr }) n k), (1, Value.int IntKind.u64 now), (2, Value.int IntKind.u8 c), (7, Value.int IntKind.u64 0), (8, Value.int IntKind.i64 0)] = tmps 48 [(0, Value.slice (some
{ block := 0, off := 0, spot := sp : Addr }) n k), (1, Value.int IntKind.u64 now), (2, Value.int IntKind.u8 c), (7, Value.int IntKind.u64 0), (8, Value.int IntKind.i64 0)] ∧ hp [Blk.cells cs 7 own] = hp [Blk.cells cs 7
own] ∧ ChkP (stsAt cs n) ∧ K (Value.int IntKind.u64 r) (hp [Blk.cells cs 7 own]))) := by kernel_rfl

noncomputable def body713 : Code := (Try.f12.body).getD .skip
def F713 : List Nat → Option (List Nat) := fun p => match p with
  | [1] => some [0, 1, 2]
  | [1, 0, 1] => some [0, 1, 2, 9]
  | [1, 0, 1, 0, 1] => some [6]
  | [1, 1] => some [0, 1, 2]
  | [1, 1, 1] => some [6]
  | _ => none
noncomputable def nextInC : Ctr where
  pre := fun args blks => match args, blks with
    | [.slice (some ⟨0,0,_⟩) n k, .int .u64 now, .int .u8 c], [.cells cs 7 _] => IsSt cs n ∧ ChkP (stsAt cs n) ∧ NextOk now c
    | _, _ => False
  val := fun args blks => match args, blks with
    | [.slice (some ⟨0,0,_⟩) n k, .int .u64 now, .int .u8 c], [.cells cs 7 _] => .int .u64 (nextR (stsAt cs n) now.toNat c.toNat : Nat)
    | _, _ => undef
  new := fun _ _ => []
noncomputable def nextC : Ctr where
  pre := fun args blks => match args, blks with
    | [.slice (some ⟨0,0,_⟩) n k, .int .u64 now, .int .u8 c], [.cells cs 7 _] => IsSt cs n ∧ NextOk now c ∧ Need (leN n k) True
    | _, _ => False
  val := fun args blks => match args, blks with
    | [.slice (some ⟨0,0,_⟩) n k, .int .u64 now, .int .u8 c], [.cells cs 7 _] => .int .u64 (nextF (stsAt cs n) now c)
    | _, _ => undef
  new := fun _ _ => []
noncomputable def S713 : Book := bookOf [(25, checkC), (27, nextInC)]

theorem w713 (sp : Option Nat) (n k : Nat) (now c : Int) (cs : List Value) (own : Bool) (K : Value → Heap → Prop) :
  funX Try.prog S713 noLoop F713 body713 Try.f12 [] [] [.slice (some ⟨0,0,sp⟩) n k, .int .u64 now, .int .u8 c] (hp [.cells cs 7 own]) K = (
(FlatL cs ∧ True) ∧ (IsSt cs n ∧ Need (leN n k) True) ∧ Alt (!chkF (stsAt cs n)) (K (Value.int IntKind.u64 0) (hp [Blk.cells cs 7 own])) ((FlatL cs ∧ True) ∧ (IsSt cs n ∧ ChkP (stsAt cs n) ∧ NextOk now c) ∧ K (Value.int
IntKind.u64 (↑(nextR (stsAt cs n) now.toNat c.toNat) : Int)) (hp [Blk.cells cs 7 own]))) := by kernel_rfl

end Go.Proofs.Ytfgiifppapopnaa

namespace Go.Proofs.Ytfgiifppapopnaa
open Go.RowKit Go.Proofs.Ytfgiifppapopnaa.AM
set_option maxRecDepth 100000
set_option maxHeartbeats 4000000
theorem w4_has (x : St) (c : Nat) (hc : c < 256) : hasS (w4D [Value.int .u64 x.f0, .int .u64 x.f1, .int .u64 x.f2, .int .u64 x.f3]) c = hasS x c := by
  unfold hasS
  have : c / 64 = 0 ∨ c / 64 = 1 ∨ c / 64 = 2 ∨ c / 64 = 3 := by omega
  rcases this with h | h | h | h <;> rw [h] <;> rfl
theorem st_ok {L : List St} {n i : Nat} (hn : n ≤ L.length) (ok : ∀ x ∈ L, StOk x) (hi : i < n) : StOk (stAt (L.take n) i) := ok _ (List.mem_of_getElem? (st_at hn hi))
theorem wri (i : Nat) (hi : i < 1000000) : wr .i64 ((i : Int) + 1) = ((i + 1 : Nat) : Int) := by rw [wr_eq]; simp [IntKind.wrap, IntKind.bits, IntKind.signed]; omega
theorem next_in (hm : Try.prog.follows .mixedOrders = true) (L : List St) (sp : Option Nat) (n k : Nat) (own : Bool) (hn : n ≤ L.length) (ok : ∀ x ∈ L, StOk x) (hs : n ≤ 1000000) (hP : chkF (L.take n) = true) (now c : Nat) (hnow : now < 18446744073709551616) (hc : c < 256) (r : Nat) (K : Post) (hK : K (.exit 0) (tmps 48 [(8, .int .u64 r)]) (hp [.cells (stC L) 7 own])) : ∀ (q i b t : Nat), i + q = n → NextI (L.take n) b t → nextL (L.take n) now c q i t = r →
    LSays Try.prog 1 (sub body728 [0,0,1,0,1,1]) (T728 sp n k now c t i) (hp [.cells (stC L) 7 own, .cells [.int .u64 b] 1 true]) K := by
  have hF : FlatD [] (hp [.cells (stC L) 7 own]) := FlatD.hp ⟨stC_flat L, trivial⟩
  have hF2 : ∀ b : Int, FlatD [] (hp [.cells (stC L) 7 own, .cells [.int .u64 b] 1 true]) := fun b => FlatD.hp ⟨stC_flat L, u64_flat b, trivial⟩
  have hI : IsSt (stC L) n := .mk L rfl hn ok hs
  have hlen : (L.take n).length = n := by rw [List.length_take]; omega
  obtain ⟨h40, h1, hin⟩ := chk_in hP
  rw [hlen] at h40 h1 hin
  have h64 := pow64 h40
  have ned : ∀ (A : Prop), A → Need true A := fun A h => Need_iff.2 ⟨rfl, h⟩
  intro q
  induction q with
  | zero =>
    intro i b t hq hN hr
    refine (sure727 hm).roundX F728 noLoops [] [] [] [] [0,1,2,7,8,11,12,13] ?_
    rw [r728, show ltI (i : Int) (n : Int) = false by rw [ltI_eq, decide_eq_false (by omega)]]
    have : t = r := hr
    subst this
    exact ⟨hF, hK⟩
  | succ q ih =>
    intro i b t hq hN hr
    have hx := st_at (L := L) hn (show i < n by omega)
    have hS := hin i (by omega)
    have hO := st_ok hn ok (show i < n by omega)
    obtain ⟨g0, g1, g2, g3, g4, g5, g6⟩ := st_get hx
    have e1 : eqI (bitsW .and .u64 ((now : Int).fdiv (2 ^ min i 64)) 1) 1 = now.testBit i := bit_eq now i hnow (by omega)
    have hh := has_eq hO c
    have e4 : ltI (i : Int) (n : Int) = true := ltI_iff.2 (by omega)
    have e5 : leI 0 ((c / 64 : Nat) : Int) = true := leI_iff.2 (by omega)
    have e6 : ltI ((c / 64 : Nat) : Int) 4 = true := ltI_iff.2 (by omega)
    have e7 : leI 0 ((c % 64 : Nat) : Int) = true := leI_iff.2 (by omega)
    rw [nextL] at hr
    have next := fun b2 t2 (h : NextI (L.take n) b2 t2) (h2 : (if sel (L.take n) now c i then t ||| reachM (L.take n) (i + 1) else t) = t2) => ih (i + 1) b2 t2 (by omega) h (by rw [← h2]; exact hr)
    unfold T728 at next
    refine (sure727 hm).roundX F728 noLoops [] [] [] [] [0,1,2,7,8,11,12,13] ?_
    rw [r728]
    simp only [wri i (by omega), stsAt_eq hn, Int.toNat_natCast, e1, e4, c_div c hc, c_mod, Nat.zero_add, g0, g1, g2, g3, g4, g5, g6, intV, Option.getD_some, isInt, kindEq]
    have hwd := wd_get (stAt (L.take n) i) (c / 64) (by omega)
    rw [Int.toNat_natCast] at hwd
    simp only [hwd, Option.getD_some, intV, isInt, kindEq, hh, e5, e6, e7]
    refine ned _ (ned _ (ned _ (ned _ (ned _ (ned _ (ned _ (ned _ ?_)))))))
    have hsel : sel (L.take n) now c i = (now.testBit i && (decide ((stAt (L.take n) i).fo = 1) && hasS (stAt (L.take n) i) c)) := rfl
    cases hb : now.testBit i with
    | false =>
      rw [hb] at hsel
      exact ⟨hF2 _, next b t hN (by rw [hsel]; rfl)⟩
    | true =>
      by_cases h1 : (stAt (L.take n) i).fo = 1
      · rw [eqI_iff.2 h1]
        refine ned _ (ned _ (ned _ (ned _ ?_)))
        rw [hb, decide_eq_true h1] at hsel
        have hi1 := hS.ne h1
        cases hh2 : hasS (stAt (L.take n) i) c with
        | false =>
          rw [hh2] at hsel
          exact ⟨hF2 _, next b t hN (by rw [hsel]; rfl)⟩
        | true =>
          rw [hh2] at hsel
          obtain ⟨o, d, z, ol, hN2, he⟩ := next_step hP hN (i := i + 1) (by omega)
          have htl := hN.tl
          rw [hlen] at ol htl
          have hl := left_le (L.take n).length (b : Int)
          have hk := come_ok hP (f := 100) (i := i + 1) (b := b) (by omega) hN.bl (by rw [hlen] at hl ⊢; omega)
          rw [z]
          simp only
          rw [orN t o (by omega) (by omega)]
          exact ⟨⟨stC_flat L, u64_flat _, trivial⟩, ⟨hI, hk⟩, hF2 _, next d (t ||| o) hN2 (by rw [hsel]; exact he.symm)⟩
      · rw [show eqI (stAt (L.take n) i).fo 1 = false by rw [eqI_eq, decide_eq_false h1]]
        rw [hb, decide_eq_false h1] at hsel
        exact ⟨hF2 _, next b t hN (by rw [hsel]; rfl)⟩
theorem nextIn_says (hm : Try.prog.follows .mixedOrders = true) : nextInC.Holds Try.prog 27 := by
  intro args blks hf hpre
  refine ⟨trivial, ?_⟩
  simp only [nextInC] at hpre ⊢
  split at hpre
  · rename_i sp n k now c cs own
    obtain ⟨⟨L, rfl, hn, ok, hs⟩, hC, hN⟩ := hpre
    have hF : FlatD [] (hp [.cells (stC L) 7 own]) := FlatD.hp ⟨stC_flat L, trivial⟩
    have n0 := hN.n0
    have n1 := hN.n1
    have c0 := hN.c0
    have c1 := hN.c1
    obtain ⟨now, rfl⟩ := Int.eq_ofNat_of_zero_le n0
    obtain ⟨c, rfl⟩ := Int.eq_ofNat_of_zero_le c0
    rw [stsAt_eq hn] at hC ⊢
    have hP := hC.ck
    have hlen : (L.take n).length = n := by rw [List.length_take]; omega
    have hr : nextL (L.take n) now c n 0 0 = nextR (L.take n) (now : Int).toNat (c : Int).toNat := by unfold nextR; rw [hlen]; rfl
    have hL : Loops Try.prog body728 1 (cutE [cut728 sp n k now c (nextR (L.take n) (now : Int).toNat (c : Int).toNat : Nat) (stC L) own]) := Loops.noneE.moreE _ fun x K hQ => by
      show LSays Try.prog 1 (sub body728 [0,0,1,0,1,1]) (T728 sp n k now c (0 : Nat) (0 : Nat)) (hp [.cells (stC L) 7 own, .cells [.int .u64 (0 : Nat)] 1 true]) K
      exact next_in hm L sp n k own hn ok hs hP now c (by omega) (by omega) _ K hQ n 0 0 0 (by omega) (next_zero _) hr
    refine (sure727 hm).funX F728 body728 [] [] Try.func27 rfl (hL.gcX (at0 []) (at0 [])) ?_
    rw [w728]
    exact ⟨FlatD.hp ⟨stC_flat L, u64_flat _, trivial⟩, 0, rfl, rfl, hF, rfl, rfl, rfl⟩
  · exact hpre.elim
theorem next_says (hm : Try.prog.follows .mixedOrders = true) : nextC.Holds Try.prog 12 := by
  intro args blks hf hpre
  refine ⟨trivial, ?_⟩
  simp only [nextC] at hpre ⊢
  split at hpre
  · rename_i sp n k now c cs own
    obtain ⟨⟨L, rfl, hn, ok, hs⟩, hN, hnk⟩ := hpre
    have hI : IsSt (stC L) n := .mk L rfl hn ok hs
    have hF : FlatD [] (hp [.cells (stC L) 7 own]) := FlatD.hp ⟨stC_flat L, trivial⟩
    have s : Sure Try.prog S713 := ⟨hm, plain, bookOf_ok (l := [(25, checkC), (27, nextInC)]) ⟨check_says hm, nextIn_says hm, trivial⟩⟩
    refine s.funX F713 body713 [] [] Try.func12 rfl noLoops ?_
    rw [w713]
    refine ⟨⟨stC_flat L, trivial⟩, ⟨hI, hnk⟩, ?_⟩
    unfold nextF
    cases hP : chkF (stsAt (stC L) n) with
    | false => exact ⟨hF, rfl, rfl, rfl⟩
    | true => exact ⟨⟨stC_flat L, trivial⟩, ⟨hI, ⟨hP⟩, hN⟩, hF, rfl, rfl, rfl⟩
  · exact hpre.elim
theorem sure716 (hm : Try.prog.follows .mixedOrders = true) : Sure Try.prog S716 := ⟨hm, plain, bookOf_ok (l := [(28, checkC), (30, hasC), (29, reachC)]) ⟨rcheck_says hm, has_says hm, reach_says hm, trivial⟩⟩
theorem reachM_lt {P : List St} (hP : chkF P = true) {i : Nat} (hi : i < P.length) : reachM P i < 2 ^ P.length := by
  apply Nat.lt_pow_two_of_testBit
  intro j hj
  cases hb : (reachM P i).testBit j with
  | false => rfl
  | true =>
    have := ((reachM_bit hP hi j).1 hb).2.1
    omega
theorem rnext_in (hm : Try.prog.follows .mixedOrders = true) (L : List St) (sp : Option Nat) (n k : Nat) (own : Bool) (hn : n ≤ L.length) (ok : ∀ x ∈ L, StOk x) (hs : n ≤ 1000000) (hP : chkF (L.take n) = true) (now c : Nat) (hnow : now < 18446744073709551616) (hc : c < 256) (r : Nat) (K : Post) (hK : K (.exit 0) (tmps 48 [(7, .int .u64 r)]) (hp [.cells (stC L) 7 own])) : ∀ (q i t : Nat), i + q = n → t < 2 ^ n → nextL (L.take n) now c q i t = r →
    LSays Try.prog 1 (sub body716 [0,0,1,0,1,1,1]) (T716 sp n k now c t i) (hp [.cells (stC L) 7 own]) K := by
  have hF : FlatD [] (hp [.cells (stC L) 7 own]) := FlatD.hp ⟨stC_flat L, trivial⟩
  have hI : IsSt (stC L) n := .mk L rfl hn ok hs
  have hlen : (L.take n).length = n := by rw [List.length_take]; omega
  obtain ⟨h40, h1, hin⟩ := chk_in hP
  rw [hlen] at h40 h1 hin
  have h64 := pow64 h40
  have ned : ∀ (A : Prop), A → Need true A := fun A h => Need_iff.2 ⟨rfl, h⟩
  intro q
  induction q with
  | zero =>
    intro i t hq hN hr
    refine (sure716 hm).roundX F716 noLoops [] [] [] [] [0,1,2,7,8] ?_
    rw [r716, show ltI (i : Int) (n : Int) = false by rw [ltI_eq, decide_eq_false (by omega)]]
    have : t = r := hr
    subst this
    exact ⟨hF, hK⟩
  | succ q ih =>
    intro i t hq hN hr
    have hx := st_at (L := L) hn (show i < n by omega)
    have hS := hin i (by omega)
    have hO := st_ok hn ok (show i < n by omega)
    obtain ⟨g0, g1, g2, g3, g4, g5, g6⟩ := st_get hx
    have e1 : eqI (bitsW .and .u64 ((now : Int).fdiv (2 ^ min i 64)) 1) 1 = now.testBit i := bit_eq now i hnow (by omega)
    have e4 : ltI (i : Int) (n : Int) = true := ltI_iff.2 (by omega)
    rw [nextL] at hr
    have next := fun t2 (h : t2 < 2 ^ n) (h2 : (if sel (L.take n) now c i then t ||| reachM (L.take n) (i + 1) else t) = t2) => ih (i + 1) t2 (by omega) h (by rw [← h2]; exact hr)
    unfold T716 at next
    refine (sure716 hm).roundX F716 noLoops [] [] [] [] [0,1,2,7,8] ?_
    rw [r716]
    simp only [wri i (by omega), wru i (by omega), stsAt_eq hn, Int.toNat_natCast, e1, e4, Nat.zero_add, Nat.add_zero, g0, g1, g2, g3, g4, g5, g6, intV, Option.getD_some, isInt, kindEq, w4_has _ c hc]
    have hsel : sel (L.take n) now c i = (now.testBit i && (decide ((stAt (L.take n) i).fo = 1) && hasS (stAt (L.take n) i) c)) := rfl
    cases hb : now.testBit i with
    | false =>
      rw [hb] at hsel
      exact ⟨hF, next t hN (by rw [hsel]; rfl)⟩
    | true =>
      refine ned _ (ned _ ?_)
      by_cases h1 : (stAt (L.take n) i).fo = 1
      · rw [eqI_iff.2 h1]
        refine ned _ (ned _ (ned _ (ned _ (ned _ ⟨trivial, .mk (stAt (L.take n) i) hO rfl (by omega) (by omega), ?_⟩))))
        rw [hb, decide_eq_true h1] at hsel
        have hi1 := hS.ne h1
        cases hh2 : hasS (stAt (L.take n) i) c with
        | false =>
          rw [hh2] at hsel
          exact ⟨hF, next t hN (by rw [hsel]; rfl)⟩
        | true =>
          rw [hh2] at hsel
          have hrl := reachM_lt hP (i := i + 1) (by omega)
          rw [hlen] at hrl
          rw [orN t _ (by omega) (by omega)]
          exact ⟨⟨stC_flat L, trivial⟩, ⟨hI, ⟨hP, by omega, by omega⟩⟩, hF, next (t ||| reachM (L.take n) (i + 1)) (Nat.or_lt_two_pow hN hrl) (by rw [hsel]; rfl)⟩
      · rw [show eqI (stAt (L.take n) i).fo 1 = false by rw [eqI_eq, decide_eq_false h1]]
        rw [hb, decide_eq_false h1] at hsel
        exact ⟨hF, next t hN (by rw [hsel]; rfl)⟩
theorem rnext_says (hm : Try.prog.follows .mixedOrders = true) : nextC.Holds Try.prog 15 := by
  intro args blks hf hpre
  refine ⟨trivial, ?_⟩
  simp only [nextC] at hpre ⊢
  split at hpre
  · rename_i sp n k now c cs own
    obtain ⟨⟨L, rfl, hn, ok, hs⟩, hN, hnk⟩ := hpre
    have hI : IsSt (stC L) n := .mk L rfl hn ok hs
    have hF : FlatD [] (hp [.cells (stC L) 7 own]) := FlatD.hp ⟨stC_flat L, trivial⟩
    have n0 := hN.n0
    have n1 := hN.n1
    have c0 := hN.c0
    have c1 := hN.c1
    obtain ⟨now, rfl⟩ := Int.eq_ofNat_of_zero_le n0
    obtain ⟨c, rfl⟩ := Int.eq_ofNat_of_zero_le c0
    rw [stsAt_eq hn]
    have hlen : (L.take n).length = n := by rw [List.length_take]; omega
    have hr : nextL (L.take n) now c n 0 0 = nextR (L.take n) (now : Int).toNat (c : Int).toNat := by unfold nextR; rw [hlen]; rfl
    have hL : Loops Try.prog body716 1 (cutE [cut716 sp n k now c (nextR (L.take n) (now : Int).toNat (c : Int).toNat : Nat) (stC L) own]) := Loops.noneE.moreE _ fun x K hQ => by
      show LSays Try.prog 1 (sub body716 [0,0,1,0,1,1,1]) (T716 sp n k now c (0 : Nat) (0 : Nat)) (hp [.cells (stC L) 7 own]) K
      obtain ⟨hP, hQ⟩ := hQ
      rw [stsAt_eq hn] at hP
      exact rnext_in hm L sp n k own hn ok hs hP.ck now c (by omega) (by omega) _ K hQ n 0 0 (by omega) (Nat.two_pow_pos _) hr
    refine (sure716 hm).funX F716 body716 [] [] Try.func15 rfl (hL.gcX (at0 []) (at0 [])) ?_
    rw [w716, stsAt_eq hn]
    unfold nextF
    cases hP : chkF (L.take n) with
    | false => exact ⟨⟨stC_flat L, trivial⟩, ⟨hI, hnk⟩, hF, rfl, rfl, rfl⟩
    | true => exact ⟨⟨stC_flat L, trivial⟩, ⟨hI, hnk⟩, hF, 0, rfl, rfl, ⟨hP⟩, hF, rfl, rfl, rfl⟩
  · exact hpre.elim
end Go.Proofs.Ytfgiifppapopnaa

namespace Go.Proofs.Ytfgiifppapopnaa
open Go.RowKit Go.Proofs.Ytfgiifppapopnaa.AM
set_option maxRecDepth 100000
set_option maxHeartbeats 4000000
noncomputable def trueC : Ctr where
  pre := fun args blks => match args, blks with
    | [], [] => True
    | _, _ => False
  val := fun _ _ => .bool true
  new := fun _ _ => []
theorem runs_run : isTrueR (acall Try.prog (fun _ => none) 1000 3 [] Heap.empty) = true := by decide +kernel
theorem runs_holds (hmix : Try.prog.follows .mixedOrders = true) : trueC.Holds Try.prog 3 := by
  intro args blks hf hp
  refine ⟨trivial, ?_⟩
  simp only [trueC] at hp ⊢
  split at hp
  · exact FunSays.of_run hmix plain Try.func3 rfl runs_run
  · exact hp.elim
noncomputable def S704 : Book := bookOf [(3, trueC), (11, beginC), (14, beginC), (12, nextC), (15, nextC)]
theorem sure704 (hm : Try.prog.follows .mixedOrders = true) : Sure Try.prog S704 := ⟨hm, plain, bookOf_ok (l := [(3, trueC), (11, beginC), (14, beginC), (12, nextC), (15, nextC)]) ⟨runs_holds hm, begin_says hm, rbegin_says hm, next_says hm, rnext_says hm, trivial⟩⟩
noncomputable def body704 : Code := (Try.f4.body).getD .skip
def F704 : List Nat → Option (List Nat) := fun p => match p with
  | [1] => some [0, 1, 2]
  | [1, 0, 1] => some [0, 1, 2, 9]
  | [1, 0, 1, 0, 1] => some [6]
  | [1, 1] => some [0, 1, 2]
  | [1, 1, 1] => some [6]
  | _ => none

theorem w704 (sp : Option Nat) (n k : Nat) (now c : Int) (cs : List Value) (own : Bool) (K : Value → Heap → Prop) :
  funX Try.prog S704 noLoop F704 body704 Try.f4 [] [] [.slice (some ⟨0,0,sp⟩) n k, .int .u64 now, .int .u8 c] (hp [.cells cs 7 own]) K = (
Alt (ltI 60 (↑n : Int)) (True ∧ True ∧ K (Value.bool true) (hp [Blk.cells cs 7 own])) ((FlatL cs ∧ True) ∧ (IsSt cs n ∧ Need (leN n k) True) ∧ (FlatL cs ∧ True) ∧ (IsSt cs n ∧ Need (leN n k) True) ∧ Alt (eqI (startF
(stsAt cs n)) (startF (stsAt cs n))) ((FlatL cs ∧ True) ∧ (IsSt cs n ∧ NextOk now c ∧ Need (leN n k) True) ∧ (FlatL cs ∧ True) ∧ (IsSt cs n ∧ NextOk now c ∧ Need (leN n k) True) ∧ Alt (eqI (nextF (stsAt cs n) now c)
(nextF (stsAt cs n) now c)) (True ∧ True ∧ K (Value.bool true) (hp [Blk.cells cs 7 own])) (K (Value.bool false) (hp [Blk.cells cs 7 own]))) (K (Value.bool false) (hp [Blk.cells cs 7 own])))) := by kernel_rfl

end Go.Proofs.Ytfgiifppapopnaa

namespace Go.Proofs.Ytfgiifppapopnaa
open Go.RowKit Go.Proofs.Ytfgiifppapopnaa.AM
set_option maxRecDepth 100000
set_option maxHeartbeats 4000000
/-! ### trees -/
structure S4 where
  x0 : Nat
  x1 : Nat
  x2 : Nat
  x3 : Nat
  deriving DecidableEq
inductive Rx where
  | mk (op : Nat) (s : S4) (kids : List Rx)
def Rx.op : Rx → Nat | .mk o _ _ => o
def Rx.set : Rx → S4 | .mk _ s _ => s
def Rx.kids : Rx → List Rx | .mk _ _ k => k
mutual
noncomputable def Rx.kv : Rx → Value
  | .mk _ _ k => .iface 0 (.agg #[.int .i64 6, .int .i64 (k.length : Int), .agg (rxL k).toArray])
noncomputable def rxL : List Rx → List Value
  | [] => []
  | x :: l => .int .i64 (x.op : Int) :: .int .u64 (x.set.x0 : Int) :: .int .u64 (x.set.x1 : Int) :: .int .u64 (x.set.x2 : Int) :: .int .u64 (x.set.x3 : Int) :: x.kv :: rxL l
end
noncomputable def kvV (x : Rx) : Value := .iface 0 (.agg #[.int .i64 6, .int .i64 (x.kids.length : Int), .agg (rxL x.kids).toArray])
noncomputable def rxV (x : Rx) : Value := .agg #[.int .i64 (x.op : Int), .int .u64 (x.set.x0 : Int), .int .u64 (x.set.x1 : Int), .int .u64 (x.set.x2 : Int), .int .u64 (x.set.x3 : Int), kvV x]
theorem kv_mk (o : Nat) (s : S4) (k : List Rx) : (Rx.mk o s k).kv = .iface 0 (.agg #[.int .i64 6, .int .i64 (k.length : Int), .agg (rxL k).toArray]) := by rw [Rx.kv]
theorem kv_eq (x : Rx) : x.kv = kvV x := by cases x; rw [Rx.kv]; rfl
theorem rxL_nil : rxL [] = [] := by rw [rxL]
theorem rxL_cons (x : Rx) (l : List Rx) : rxL (x :: l) = .int .i64 (x.op : Int) :: .int .u64 (x.set.x0 : Int) :: .int .u64 (x.set.x1 : Int) :: .int .u64 (x.set.x2 : Int) :: .int .u64 (x.set.x3 : Int) :: x.kv :: rxL l := by rw [rxL]
theorem kv_fz (x : Rx) : fz x.kv = true := by rw [kv_eq]; rfl
theorem kv_one (x : Rx) : oneV x.kv = true := by rw [kv_eq]; rfl
theorem kv_junk (x : Rx) : isJunk x.kv = false := by rw [kv_eq]; rfl
theorem rxL_len (l : List Rx) : (rxL l).length = l.length * 6 := by
  induction l with
  | nil => rw [rxL_nil]; rfl
  | cons x l ih => rw [rxL_cons]; simp only [List.length_cons, ih]; omega
theorem rxL_append (l m : List Rx) : rxL (l ++ m) = rxL l ++ rxL m := by
  induction l with
  | nil => rw [rxL_nil]; rfl
  | cons x l ih => rw [List.cons_append, rxL_cons, rxL_cons, ih]; rfl
theorem rxL_flat (l : List Rx) : FlatL (rxL l) := by
  refine ⟨fun v hv => ?_⟩
  induction l with
  | nil => rw [rxL_nil] at hv; simp at hv
  | cons x l ih =>
    rw [rxL_cons] at hv
    simp only [List.mem_cons] at hv
    rcases hv with rfl | rfl | rfl | rfl | rfl | rfl | hv
    · rfl
    · rfl
    · rfl
    · rfl
    · rfl
    · exact kv_fz x
    · exact ih hv
theorem rxL_one (l : List Rx) : (rxL l).all oneV = true := by
  induction l with
  | nil => rw [rxL_nil]; rfl
  | cons x l ih => rw [rxL_cons]; simp only [List.all_cons, ih, kv_one, Bool.and_true]; rfl
theorem rxL_one1 (x : Rx) : rxL [x] = [.int .i64 (x.op : Int), .int .u64 (x.set.x0 : Int), .int .u64 (x.set.x1 : Int), .int .u64 (x.set.x2 : Int), .int .u64 (x.set.x3 : Int), x.kv] := by rw [rxL_cons, rxL_nil]
/-- a byte of a text -/
def bt (s : ByteArray) (n : Nat) : Nat := (s.data.toList.getD n 0).toNat
theorem bt_lt (s : ByteArray) (n : Nat) : bt s n < 256 := (s.data.toList.getD n 0).toNat_lt
/-- a set with a byte more; all other bytes -/
def addS (s : S4) (c : Nat) : S4 :=
  if c / 64 = 0 then { s with x0 := s.x0 ||| 2 ^ (c % 64) } else if c / 64 = 1 then { s with x1 := s.x1 ||| 2 ^ (c % 64) } else
  if c / 64 = 2 then { s with x2 := s.x2 ||| 2 ^ (c % 64) } else { s with x3 := s.x3 ||| 2 ^ (c % 64) }
def turnS (s : S4) : S4 := ⟨18446744073709551615 - s.x0, 18446744073709551615 - s.x1, 18446744073709551615 - s.x2, 18446744073709551615 - s.x3⟩
def nilS : S4 := ⟨0, 0, 0, 0⟩
structure S4.ok (s : S4) : Prop where
  h0 : s.x0 < 18446744073709551616
  h1 : s.x1 < 18446744073709551616
  h2 : s.x2 < 18446744073709551616
  h3 : s.x3 < 18446744073709551616
theorem nilS_ok : nilS.ok := ⟨by decide, by decide, by decide, by decide⟩
theorem or_lt64 {a c : Nat} (h : a < 18446744073709551616) (hc : c < 64) : a ||| 2 ^ c < 18446744073709551616 :=
  Nat.or_lt_two_pow (n := 64) h (Nat.pow_lt_pow_right (by decide) hc)
theorem addS_ok {s : S4} (h : s.ok) (c : Nat) : (addS s c).ok := by
  have hm : c % 64 < 64 := Nat.mod_lt _ (by decide)
  unfold addS
  split
  · exact ⟨or_lt64 h.h0 hm, h.h1, h.h2, h.h3⟩
  split
  · exact ⟨h.h0, or_lt64 h.h1 hm, h.h2, h.h3⟩
  split
  · exact ⟨h.h0, h.h1, or_lt64 h.h2 hm, h.h3⟩
  · exact ⟨h.h0, h.h1, h.h2, or_lt64 h.h3 hm⟩
theorem turnS_ok {s : S4} (h : s.ok) : (turnS s).ok := ⟨by unfold turnS; simp only; omega, by unfold turnS; simp only; omega, by unfold turnS; simp only; omega, by unfold turnS; simp only; omega⟩
mutual
def Rx.ok : Rx → Prop
  | .mk o s k => o < 9223372036854775808 ∧ s.ok ∧ k.length < 9223372036854775808 ∧ okL k
def okL : List Rx → Prop
  | [] => True
  | x :: l => x.ok ∧ okL l
end
theorem okL_append {l m : List Rx} (h : okL l) (k : okL m) : okL (l ++ m) := by
  induction l with
  | nil => exact k
  | cons x l ih => rw [okL] at h; rw [List.cons_append, okL]; exact ⟨h.1, ih h.2⟩
/-! ### the library's search for a byte -/
def idxF (s : ByteArray) (c : Int) : Int := match (List.range s.size).find? fun i => s[i]! == c.toNat.toUInt8 with
  | some i => (i : Int)
  | none => -1
noncomputable def ixbS : Summ where
  f := fun args h => match args with
    | [.string s, .int .u8 c] => some (.int .i64 (idxF s c), h)
    | _ => none
  K := fun args h K => match args with
    | [.string s, .int .u8 c] => K (.int .i64 (idxF s c)) h
    | _ => False
  ok := fun args h K' hk => by
    split at hk
    · exact ⟨_, _, rfl, hk⟩
    · exact hk.elim
theorem ixb_ok : SumOk Try.prog 117 ixbS := by
  intro args h v h' he ρ w args' hfr r ha
  simp only [ixbS] at he
  split at he
  case h_2 => cases he
  rename_i s c
  injection he with he
  injection he with e1 e2
  subst e1 e2
  right
  refine ⟨rfl, rfl, ?_⟩
  obtain ⟨y1, ys, rfl, v1, hys⟩ := ha.of_cons
  obtain ⟨y2, zs, rfl, v2, hzs⟩ := hys.of_cons
  obtain rfl := hzs.of_nil
  rw [v1.string, v2.int, run_callFunc_extern Try.func117 (by kernel_rfl) (by kernel_rfl) (by kernel_rfl) (e := Extern.BytealgIndexByte.indexByte) (by kernel_rfl)]
  have : (Extern.BytealgIndexByte.indexByte ([.string s, .int .u8 c] : List Value).toArray).run Try.prog w = .ok (.int .i64 (idxF s c)) w := by
    show ((match (List.range s.size).find? fun i => s[i]! == c.toNat.toUInt8 with | some i => (pure (goInt i) : Sem Value) | none => pure (goInt (-1))).run Try.prog w) = _
    unfold idxF
    split <;> rfl
  rw [this]; rfl
noncomputable def S539 : Book := bookS [(117, ixbS)] S0
theorem sure539 (hm : Try.prog.follows .mixedOrders = true) : Sure Try.prog S539 := Sure.withS (sure0 hm) (l := [(117, ixbS)]) ⟨ixb_ok, trivial⟩
noncomputable abbrev pB (s : ByteArray) (a : Int) (b : Bool) : Heap := hp [.cells [.string s, .int .i64 a, .bool b] 3 true]
noncomputable abbrev pA : Value := .pointer (some ⟨0,0,none⟩)
/-! ### contracts of functions over a parser: its place, and whether it is bad -/
structure PS where
  a : Nat
  b : Bool
structure POk (s : ByteArray) (a : Int) : Prop where
  a0 : 0 ≤ a
  a1 : a ≤ s.size
  sz : s.size ≤ 140737488351232
noncomputable def pW (ok : ByteArray → PS → List Value → Prop) (v : ByteArray → PS → List Value → Value) (o : ByteArray → PS → List Value → PS) : CtrW where
  D := []
  W := [0]
  E := []
  pre := fun args blks => match args, blks with
    | .pointer (some ⟨0,0,none⟩) :: r, [.cells [.string s, .int .i64 a, .bool b] 3 true] => POk s a ∧ ok s ⟨a.toNat, b⟩ r
    | _, _ => False
  val := fun args blks => match args, blks with
    | .pointer (some ⟨0,0,none⟩) :: r, [.cells [.string s, .int .i64 a, .bool b] 3 true] => v s ⟨a.toNat, b⟩ r
    | _, _ => undef
  out := fun args blks => match args, blks with
    | .pointer (some ⟨0,0,none⟩) :: r, [.cells [.string s, .int .i64 a, .bool b] 3 true] => [.cells [.string s, .int .i64 ((o s ⟨a.toNat, b⟩ r).a : Int), .bool (o s ⟨a.toNat, b⟩ r).b] 3 true]
    | _, _ => []
theorem pB_flat (s : ByteArray) (a : Int) (b : Bool) : FlatL [.string s, .int .i64 a, .bool b] := ⟨fun v hv => by
  simp only [List.mem_cons, List.not_mem_nil, or_false] at hv
  rcases hv with rfl | rfl | rfl <;> rfl⟩
theorem pB_D (s : ByteArray) (a : Int) (b : Bool) : FlatD [] (pB s a b) := FlatD.hp ⟨pB_flat s a b, trivial⟩
theorem pW_holds {f : FuncId} {ok : ByteArray → PS → List Value → Prop} {v : ByteArray → PS → List Value → Value} {o : ByteArray → PS → List Value → PS}
    (h : ∀ s (a : Nat) b r, a ≤ s.size → s.size ≤ 140737488351232 → ok s ⟨a, b⟩ r → FunSays Try.prog f (pA :: r) (pB s a b) fun u h' => u = v s ⟨a, b⟩ r ∧ h' = pB s (o s ⟨a, b⟩ r).a (o s ⟨a, b⟩ r).b) : (pW ok v o).Holds Try.prog f := by
  intro args blks hf hpre
  simp only [pW] at hpre ⊢
  split at hpre
  · rename_i r s a b
    obtain ⟨⟨a0, a1, sz⟩, hok⟩ := hpre
    obtain ⟨a, rfl⟩ := Int.eq_ofNat_of_zero_le a0
    rw [Int.toNat_natCast] at hok ⊢
    exact ⟨⟨trivial, trivial⟩, ⟨pB_flat _ _ _, trivial⟩, h s a b r (by omega) sz hok⟩
  · exact hpre.elim
end Go.Proofs.Ytfgiifppapopnaa

namespace Go.Proofs.Ytfgiifppapopnaa
open Go.RowKit Go.Proofs.Ytfgiifppapopnaa.AM
set_option maxRecDepth 100000
set_option maxHeartbeats 4000000
noncomputable def body539 : Code := (Try.f65.body).getD .skip
def F539 : List Nat → Option (List Nat) := fun p => match p with
  | [1] => some [0]
  | [1, 1] => some [2]
  | _ => none
noncomputable def body561 : Code := (Try.f96.body).getD .skip
def F561 : List Nat → Option (List Nat) := fun p => match p with
  | [1] => some [0, 1]
  | [1, 1] => some [4]
  | _ => none
noncomputable def body586 : Code := (Try.f111.body).getD .skip
def F586 : List Nat → Option (List Nat) := fun p => match p with
  | [1] => some [0, 1]
  | [1, 1] => some [4]
  | _ => none
noncomputable def body540 : Code := (Try.f66.body).getD .skip
def F540 : List Nat → Option (List Nat) := fun p => match p with
  | [1] => some [0, 1]
  | [1, 1] => some [4]
  | _ => none
noncomputable def body531 : Code := (Try.f55.body).getD .skip
def F531 : List Nat → Option (List Nat) := fun p => match p with
  | [1] => some [0, 1]
  | [1, 0, 1] => some [0, 8]
  | [1, 0, 1, 0, 1] => some [4]
  | [1, 1] => some [0]
  | [1, 1, 1] => some []
  | [1, 1, 1, 1] => some [4]
  | _ => none
noncomputable def body556 : Code := (Try.f91.body).getD .skip
def F556 : List Nat → Option (List Nat) := fun p => match p with
  | [1] => some [0]
  | [1, 0, 1] => some [0, 4]
  | [1, 0, 1, 0, 1] => some []
  | [1, 1, 0, 1, 0, 1] => some [2]
  | [1, 1] => some [0]
  | [1, 1, 1] => some [0]
  | [1, 1, 1, 1] => some [2]
  | _ => none
noncomputable def body559 : Code := (Try.f94.body).getD .skip
def F559 : List Nat → Option (List Nat) := fun p => match p with
  | _ => none
noncomputable def S540 : Book := addI Try.prog [(65, Try.f65, body539)] S539

theorem r540 (s : ByteArray) (a : Int) (b : Bool) (c : Int) (K : Value → Heap → Prop) :
  funX Try.prog S540 noLoop F540 body540 Try.f66 [] [] [pA, .int .u8 c] (pB s a b) K = (
Alt (boolV (Value.bool b)) (K (Value.bool false) (hp [Blk.cells [Value.string s, Value.int IntKind.i64 a, Value.bool b] 3 true])) (Alt (!leI (↑(strV (Value.string s)).size : Int) (intV (Value.int IntKind.i64 a))) (Need
(leI 0 (intV (Value.int IntKind.i64 a))) (Need (ltI (intV (Value.int IntKind.i64 a)) (↑(strV (Value.string s)).size : Int)) (K (Value.bool (eqI (↑((strV (Value.string s)).data.toList.getD (intV (Value.int IntKind.i64
a)).toNat (OfNat.ofNat 0)).toNat : Int) c)) (hp [Blk.cells [Value.string s, Value.int IntKind.i64 a, Value.bool b] 3 true])))) (K (Value.bool false) (hp [Blk.cells [Value.string s, Value.int IntKind.i64 a, Value.bool b]
3 true])))) := by kernel_rfl

theorem r556 (s : ByteArray) (a : Int) (b : Bool) (K : Value → Heap → Prop) :
  funX Try.prog S540 noLoop F556 body556 Try.f91 [] [] [pA] (pB s a b) K = (
Alt (boolV (Value.bool b)) (K (Value.int IntKind.u8 0) (hp [Blk.cells [Value.string s, Value.int IntKind.i64 a, Value.bool true] 3 true])) (Alt (leI (↑(strV (Value.string s)).size : Int) (intV (Value.int IntKind.i64 a)))
(K (Value.int IntKind.u8 0) (hp [Blk.cells [Value.string s, Value.int IntKind.i64 a, Value.bool true] 3 true])) (Need (leI 0 (wr IntKind.i64 (intV (Value.int IntKind.i64 (wr IntKind.i64 (intV (Value.int IntKind.i64 a) +
1))) - 1))) (Need (ltI (wr IntKind.i64 (intV (Value.int IntKind.i64 (wr IntKind.i64 (intV (Value.int IntKind.i64 a) + 1))) - 1)) (↑(strV (Value.string s)).size : Int)) (K (Value.int IntKind.u8 (↑((strV (Value.string
s)).data.toList.getD (wr IntKind.i64 (intV (Value.int IntKind.i64 (wr IntKind.i64 (intV (Value.int IntKind.i64 a) + 1))) - 1)).toNat (OfNat.ofNat 0)).toNat : Int)) (hp [Blk.cells [Value.string s, Value.int IntKind.i64
(wr IntKind.i64 (intV (Value.int IntKind.i64 a) + 1)), Value.bool b] 3 true])))))) := by kernel_rfl

/-- is there nothing more to read? -/
def ovF (s : ByteArray) (p : PS) : Bool := p.b || decide (s.size ≤ p.a)
def seF (s : ByteArray) (p : PS) (c : Int) : Bool := !ovF s p && eqI (bt s p.a : Int) c
def nxF (s : ByteArray) (p : PS) (c : Int) : PS := bif seF s p c then ⟨p.a + 1, p.b⟩ else p
def byV (s : ByteArray) (p : PS) : Nat := bif ovF s p then 0 else bt s p.a
def byF (s : ByteArray) (p : PS) : PS := bif ovF s p then ⟨p.a, true⟩ else ⟨p.a + 1, p.b⟩
inductive RN : List Value → Prop
  | mk : RN []
inductive RC : List Value → Prop
  | mk (c : Int) : RC [.int .u8 c]
noncomputable def seesC : CtrW := pW (fun _ _ r => RC r) (fun s p r => match r with | [.int .u8 c] => .bool (seF s p c) | _ => undef) (fun _ p _ => p)
noncomputable def nxtC : CtrW := pW (fun _ _ r => RC r) (fun s p r => match r with | [.int .u8 c] => .bool (seF s p c) | _ => undef) (fun s p r => match r with | [.int .u8 c] => nxF s p c | _ => p)
noncomputable def byteC : CtrW := pW (fun _ _ r => RN r) (fun s p r => .int .u8 (byV s p : Int)) (fun s p r => byF s p)
section
variable (hm : Try.prog.follows .mixedOrders = true)
include hm
theorem sure540 : Sure Try.prog S540 := (sure539 hm).addI ⟨⟨Try.func65, rfl⟩, trivial⟩
theorem sees_says : seesC.Holds Try.prog 66 := by
  refine pW_holds ?_
  rintro s a b r ha hs ⟨c⟩
  refine (sure540 hm).funX F540 body540 [] [] Try.func66 rfl noLoops ?_
  rw [r540]
  simp only [boolV, strV, intV]
  cases b with
  | true => exact ⟨pB_D _ _ _, rfl, rfl, by trivial⟩
  | false =>
    by_cases h : a < s.size
    · have h1 : leI (s.size : Int) (a : Int) = false := by rw [leI_eq]; simp; omega
      have h2 : leI 0 (a : Int) = true := leI_iff.2 (by omega)
      have h3 : ltI (a : Int) (s.size : Int) = true := ltI_iff.2 (by omega)
      have h4 : ovF s ⟨a, false⟩ = false := by simp [ovF]; omega
      rw [h1, h2, h3]
      refine ⟨pB_D _ _ _, rfl, ?_, by trivial⟩
      simp only [seF, h4, Int.toNat_natCast, Bool.not_false, Bool.true_and]; rfl
    · have h1 : leI (s.size : Int) (a : Int) = true := leI_iff.2 (by omega)
      have h4 : ovF s ⟨a, false⟩ = true := by simp [ovF]; omega
      rw [h1]
      refine ⟨pB_D _ _ _, rfl, ?_, by trivial⟩
      simp only [seF, h4, Bool.not_true, Bool.false_and]
theorem byte_says : byteC.Holds Try.prog 91 := by
  refine pW_holds ?_
  rintro s a b r ha hs ⟨⟩
  refine (sure540 hm).funX F556 body556 [] [] Try.func91 rfl noLoops ?_
  rw [r556]
  simp only [boolV, strV, intV]
  cases b with
  | true => exact ⟨pB_D _ _ _, rfl, rfl, rfl⟩
  | false =>
    by_cases h : a < s.size
    · have e1 : wr .i64 ((a : Int) + 1) = ((a + 1 : Nat) : Int) := nx a (by omega)
      have e2 : wr .i64 (((a + 1 : Nat) : Int) - 1) = (a : Int) := pv a (by omega)
      have h1 : leI (s.size : Int) (a : Int) = false := by rw [leI_eq]; simp; omega
      have h2 : leI 0 (a : Int) = true := leI_iff.2 (by omega)
      have h3 : ltI (a : Int) (s.size : Int) = true := ltI_iff.2 (by omega)
      have h4 : ovF s ⟨a, false⟩ = false := by simp [ovF]; omega
      rw [e1, e2, h1, h2, h3]
      refine ⟨pB_D _ _ _, rfl, ?_, ?_⟩
      · simp only [byV, h4, Int.toNat_natCast, cond_false]; rfl
      · simp only [byF, h4, cond_false]
    · have h1 : leI (s.size : Int) (a : Int) = true := leI_iff.2 (by omega)
      have h4 : ovF s ⟨a, false⟩ = true := by simp [ovF]; omega
      rw [h1]
      refine ⟨pB_D _ _ _, rfl, ?_, ?_⟩
      · simp only [byV, h4, cond_true]; rfl
      · simp only [byF, h4, cond_true]
end
noncomputable def S531 : Book := bookW [(66, seesC), (91, byteC)] S539

theorem r531 (s : ByteArray) (a : Int) (b : Bool) (c : Int) (K : Value → Heap → Prop) :
  funX Try.prog S531 noLoop F531 body531 Try.f55 [] [] [pA, .int .u8 c] (pB s a b) K = (
(FlatL [Value.string s, Value.int IntKind.i64 a, Value.bool b] ∧ True) ∧ (POk s a ∧ RC [Value.int IntKind.u8 c]) ∧ Alt (!seF s { a := a.toNat, b := b : PS } c) (K (Value.bool false) (hp [Blk.cells [Value.string s,
Value.int IntKind.i64 (↑{ a := a.toNat, b := b : PS }.a : Int), Value.bool { a := a.toNat, b := b : PS }.b] 3 true])) (K (Value.bool true) (hp [Blk.cells [Value.string s, Value.int IntKind.i64 (wr IntKind.i64 (intV
(Value.int IntKind.i64 (↑{ a := a.toNat, b := b : PS }.a : Int)) + 1)), Value.bool { a := a.toNat, b := b : PS }.b] 3 true]))) := by kernel_rfl

theorem lt_nx {s : ByteArray} {p : PS} {c : Int} (h : seF s p c = true) : p.a < s.size ∧ p.b = false := by
  simp only [seF, ovF, Bool.and_eq_true, Bool.not_eq_true', Bool.or_eq_false_iff, decide_eq_false_iff_not] at h
  exact ⟨by omega, h.1.1⟩
theorem nxt_says (hm : Try.prog.follows .mixedOrders = true) : nxtC.Holds Try.prog 55 := by
  refine pW_holds ?_
  rintro s a b r ha hs ⟨c⟩
  have su : Sure Try.prog S531 := ⟨hm, plain, bookW_ok (sure539 hm).sums (l := [(66, seesC), (91, byteC)]) ⟨sees_says hm, byte_says hm, trivial⟩⟩
  refine su.funX F531 body531 [] [] Try.func55 rfl noLoops ?_
  rw [r531]
  refine ⟨⟨pB_flat _ _ _, trivial⟩, ⟨⟨by omega, by omega, hs⟩, ⟨c⟩⟩, ?_⟩
  simp only [Int.toNat_natCast, intV]
  cases h : seF s ⟨a, b⟩ c with
  | false => exact ⟨pB_D _ _ _, rfl, rfl, by simp only [nxF, h, cond_false]⟩
  | true =>
    have e1 : wr .i64 ((a : Int) + 1) = ((a + 1 : Nat) : Int) := nx a (by have := (lt_nx h).1; simp only at this; omega)
    rw [e1]
    exact ⟨pB_D _ _ _, rfl, rfl, by simp only [nxF, h, cond_true]⟩

/-! ### contracts whose results bear a name -/
noncomputable def pX {β : Type} (ok : ByteArray → PS → List Value → Prop) (R : ByteArray → PS → List Value → PS × β) (enc : β → Value) : CtrX (PS × β) where
  D := []
  W := [0]
  E := []
  pre := fun args blks => match args, blks with
    | .pointer (some ⟨0,0,none⟩) :: r, [.cells [.string s, .int .i64 a, .bool b] 3 true] => POk s a ∧ ok s ⟨a.toNat, b⟩ r
    | _, _ => False
  rel := fun args blks x => match args, blks with
    | .pointer (some ⟨0,0,none⟩) :: r, [.cells [.string s, .int .i64 a, .bool b] 3 true] => x = R s ⟨a.toNat, b⟩ r
    | _, _ => False
  val := fun _ _ x => enc x.2
  out := fun args blks x => match args, blks with
    | .pointer (some ⟨0,0,none⟩) :: r, [.cells [.string s, .int .i64 a, .bool b] 3 true] => [.cells [.string s, .int .i64 (x.1.a : Int), .bool x.1.b] 3 true]
    | _, _ => []
theorem pX_holds {β : Type} {f : FuncId} {ok : ByteArray → PS → List Value → Prop} {R : ByteArray → PS → List Value → PS × β} {enc : β → Value}
    (h : ∀ s (a : Nat) b r, a ≤ s.size → s.size ≤ 140737488351232 → ok s ⟨a, b⟩ r → FunSays Try.prog f (pA :: r) (pB s a b) fun u h' => u = enc (R s ⟨a, b⟩ r).2 ∧ h' = pB s (R s ⟨a, b⟩ r).1.a (R s ⟨a, b⟩ r).1.b) : (pX ok R enc).Holds Try.prog f := by
  intro args blks hf hpre
  simp only [pX] at hpre ⊢
  split at hpre
  · rename_i r s a b
    obtain ⟨⟨a0, a1, sz⟩, hok⟩ := hpre
    obtain ⟨a, rfl⟩ := Int.eq_ofNat_of_zero_le a0
    rw [Int.toNat_natCast] at hok
    refine ⟨R s ⟨a, b⟩ r, by rw [Int.toNat_natCast], ⟨trivial, trivial⟩, ⟨pB_flat _ _ _, trivial⟩, h s a b r (by omega) sz hok⟩
  · exact hpre.elim
noncomputable abbrev u8E : Nat → Value := fun n => .int .u8 (n : Int)
noncomputable def byteX : CtrX (PS × Nat) := pX (fun _ _ r => RN r) (fun s p _ => (byF s p, byV s p)) u8E
theorem byteX_says (hm : Try.prog.follows .mixedOrders = true) : byteX.Holds Try.prog 91 := by
  refine pX_holds ?_
  rintro s a b r ha hs ⟨⟩
  have := (byte_says hm) (pA :: []) [.cells [.string s, .int .i64 (a : Int), .bool b] 3 true] ⟨pB_flat _ _ _, trivial⟩ ⟨⟨by omega, by omega, hs⟩, ⟨⟩⟩
  obtain ⟨_, _, h⟩ := this
  refine h.mono fun v h' ⟨h1, h2⟩ => ⟨?_, ?_⟩
  · rw [h1]; simp only [byteC, pW, Int.toNat_natCast]
  · rw [h2]; simp only [byteC, pW, Int.toNat_natCast]

end Go.Proofs.Ytfgiifppapopnaa

namespace Go.Proofs.Ytfgiifppapopnaa
open Go.RowKit Go.Proofs.Ytfgiifppapopnaa.AM
set_option maxRecDepth 100000
set_option maxHeartbeats 4000000
noncomputable def body560 : Code := (Try.f95.body).getD .skip
def F560 : List Nat → Option (List Nat) := fun p => match p with
  | [1] => some [0]
  | [1, 1] => some [0, 3]
  | [1, 1, 1] => some [3]
  | [1, 1, 1, 1] => some [2]
  | _ => none
noncomputable def body585 : Code := (Try.f110.body).getD .skip
def F585 : List Nat → Option (List Nat) := fun p => match p with
  | [1] => some [0]
  | [1, 1] => some [0, 3]
  | [1, 0, 1, 1] => some [0, 3, 7]
  | [1, 0, 1, 0, 1, 1] => some [2]
  | [1, 1, 1] => some [0, 3]
  | [1, 1, 1, 1] => some [3]
  | [1, 1, 1, 1, 1] => some [2]
  | _ => none
noncomputable def body558 : Code := (Try.f93.body).getD .skip
def F558 : List Nat → Option (List Nat) := fun p => match p with
  | [1] => some [1, 2]
  | [1, 0, 1] => some [1, 2, 4]
  | [1, 0, 0, 1, 0, 1] => some [1, 2, 4, 5]
  | [1, 0, 1, 0, 0, 1, 0, 1] => some [1, 2]
  | [1, 1, 0, 0, 1, 0, 1] => some [1, 2, 4]
  | [1, 0, 0, 1, 1, 0, 0, 1, 0, 1] => some [1, 2, 3, 4]
  | [1, 1, 1, 0, 0, 1, 0, 1] => some [1, 2, 4]
  | [1, 1] => some [1, 2]
  | [1, 1, 1] => some [2]
  | _ => none
noncomputable def S560 (hm : Try.prog.follows .mixedOrders = true) : Book := addI Try.prog [(55, Try.f55, body531), (65, Try.f65, body539), (96, Try.f96, body561), (111, Try.f111, body586)] (bookS [(91, byteX.summ (byteX_says hm))] (bookW [(66, seesC)] S539))

theorem r560 (hm : Try.prog.follows .mixedOrders = true) (s : ByteArray) (a : Int) (b : Bool) (K : Value → Heap → Prop) :
  funX Try.prog (S560 hm) noLoop F560 body560 Try.f95 [] [] [pA] (pB s a b) K = (
(FlatL [Value.string s, Value.int IntKind.i64 a, Value.bool b] ∧ True) ∧ (POk s a ∧ RN []) ∧ ∀ (x : PS × Nat), x = (byF s { a := a.toNat, b := b : PS }, byV s { a := a.toNat, b := b : PS }) → Alt (boolV (Value.bool
x.fst.b)) (K (Value.int IntKind.u8 (↑x.snd : Int)) (hp [Blk.cells [Value.string s, Value.int IntKind.i64 (↑x.fst.a : Int), Value.bool true] 3 true])) (K (Value.int IntKind.u8 (↑x.snd : Int)) (hp [Blk.cells [Value.string
s, Value.int IntKind.i64 (↑x.fst.a : Int), Value.bool (ltI (idxF
{ data := #[OfNat.ofNat 124, OfNat.ofNat 42, OfNat.ofNat 43, OfNat.ofNat 63, OfNat.ofNat 40, OfNat.ofNat 41, OfNat.ofNat 91, OfNat.ofNat 93, OfNat.ofNat 46, OfNat.ofNat 92, OfNat.ofNat 94, OfNat.ofNat 45] : ByteArray }
(↑x.snd : Int)) 0)] 3 true]))) := by kernel_rfl

theorem r558 (s0 s1 s2 s3 : Int) (K : Value → Heap → Prop) :
  funX Try.prog S540 (unrK Try.prog S540 noLoop F558 body558 8) F558 body558 Try.f93 [] [] [.agg #[.int .u64 s0, .int .u64 s1, .int .u64 s2, .int .u64 s3]] (hp []) K = (
K (Value.agg #[Value.int IntKind.u64 (intV (Value.int IntKind.u64 (IntKind.u64.wrap (↑(BitVec.ofInt 64 18446744073709551615 ^^^ BitVec.ofInt 64 (intV (Value.int IntKind.u64 s0))).toNat : Int)))), Value.int IntKind.u64
(intV (Value.int IntKind.u64 (IntKind.u64.wrap (↑(BitVec.ofInt 64 18446744073709551615 ^^^ BitVec.ofInt 64 (intV (Value.int IntKind.u64 s1))).toNat : Int)))), Value.int IntKind.u64 (intV (Value.int IntKind.u64
(IntKind.u64.wrap (↑(BitVec.ofInt 64 18446744073709551615 ^^^ BitVec.ofInt 64 (intV (Value.int IntKind.u64 s2))).toNat : Int)))), Value.int IntKind.u64 (intV (Value.int IntKind.u64 (IntKind.u64.wrap (↑(BitVec.ofInt 64
18446744073709551615 ^^^ BitVec.ofInt 64 (intV (Value.int IntKind.u64 s3))).toNat : Int))))]) (hp [])) := by kernel_rfl

/-- signs that may stand behind a \, and those that a byte within brackets is not -/
def isSg (c : Nat) : Bool := [124, 42, 43, 63, 40, 41, 91, 93, 46, 92, 94, 45].contains c
def isWi (c : Nat) : Bool := [92, 93, 91, 94, 45].contains c
def isRp (c : Nat) : Bool := [42, 43, 63, 93].contains c
theorem find_lt {s : ByteArray} {c : Nat} : ltI (idxF s (c : Int)) 0 = !(s.data.toList.contains c.toUInt8) := by
  have key : ((List.range s.size).find? fun i => s[i]! == (c : Int).toNat.toUInt8).isSome = s.data.toList.contains c.toUInt8 := by
    rw [Bool.eq_iff_iff, List.find?_isSome]
    simp only [List.mem_range, List.contains_iff_mem, Int.toNat_natCast]
    rw [List.mem_iff_getElem?]
    constructor
    · rintro ⟨i, hi, h⟩
      refine ⟨i, ?_⟩
      have : s[i]! = s.data[i]'hi := by rw [getElem!_pos s i hi]; rfl
      rw [this, beq_iff_eq] at h
      rw [Array.getElem?_toList, ← h]
      exact Array.getElem?_eq_getElem hi
    · rintro ⟨i, h⟩
      rw [Array.getElem?_toList] at h
      obtain ⟨hi, h⟩ := Array.getElem?_eq_some_iff.1 h
      refine ⟨i, hi, ?_⟩
      have : s[i]! = s.data[i]'hi := by rw [getElem!_pos s i hi]; rfl
      rw [this, h]; exact beq_self_eq_true _
  rw [← key]
  unfold idxF
  cases h : (List.range s.size).find? fun i => s[i]! == (c : Int).toNat.toUInt8 with
  | none => simp only [Option.isSome_none, Bool.not_false]; rfl
  | some i => simp only [Option.isSome_some, Bool.not_true]; rw [ltI_eq, decide_eq_false]; omega
theorem find_le {s : ByteArray} {c : Nat} : leI 0 (idxF s (c : Int)) = s.data.toList.contains c.toUInt8 := by
  have h := find_lt (s := s) (c := c)
  have e : leI 0 (idxF s (c : Int)) = !(ltI (idxF s (c : Int)) 0) := by rw [leI_eq, ltI_eq, ← decide_not]; exact decide_eq_decide.2 (by omega)
  rw [e, h, Bool.not_not]
theorem all256 {f g : Nat → Bool} (h : (List.range 256).all (fun c => f c == g c) = true) {c : Nat} (hc : c < 256) : f c = g c := by
  have := List.all_eq_true.1 h c (List.mem_range.2 hc)
  exact eq_of_beq this
theorem sg_idx {c : Nat} (h : c < 256) : ltI (idxF ⟨#[124, 42, 43, 63, 40, 41, 91, 93, 46, 92, 94, 45]⟩ (c : Int)) 0 = !isSg c := by
  rw [find_lt]
  exact congrArg (!·) (all256 (f := fun c => ([124, 42, 43, 63, 40, 41, 91, 93, 46, 92, 94, 45] : List UInt8).contains c.toUInt8) (g := isSg) (by decide +kernel) h)
theorem wi_idx {c : Nat} (h : c < 256) : leI 0 (idxF ⟨#[92, 93, 91, 94, 45]⟩ (c : Int)) = isWi c := by
  rw [find_le]
  exact all256 (f := fun c => ([92, 93, 91, 94, 45] : List UInt8).contains c.toUInt8) (g := isWi) (by decide +kernel) h
theorem rp_idx {c : Nat} (h : c < 256) : leI 0 (idxF ⟨#[42, 43, 63, 93]⟩ (c : Int)) = isRp c := by
  rw [find_le]
  exact all256 (f := fun c => ([42, 43, 63, 93] : List UInt8).contains c.toUInt8) (g := isRp) (by decide +kernel) h
theorem byV_lt (s : ByteArray) (p : PS) : byV s p < 256 := by
  unfold byV
  cases ovF s p with
  | true => exact Nat.zero_lt_succ _
  | false => exact bt_lt s p.a
theorem byF_le (s : ByteArray) (p : PS) (h : p.a ≤ s.size) : p.a ≤ (byF s p).a ∧ (byF s p).a ≤ s.size := by
  unfold byF
  cases hv : ovF s p with
  | true => exact ⟨Nat.le_refl _, h⟩
  | false =>
    simp only [ovF, Bool.or_eq_false_iff, decide_eq_false_iff_not] at hv
    exact ⟨Nat.le_succ _, by simp only [cond_false]; omega⟩
def sgF (s : ByteArray) (p : PS) : PS := ⟨(byF s p).a, (byF s p).b || !isSg (byV s p)⟩
noncomputable def signX : CtrX (PS × Nat) := pX (fun _ _ r => RN r) (fun s p _ => (sgF s p, byV s p)) u8E
noncomputable def turnedC : Ctr where
  pre := fun args blks => match args, blks with
    | [.agg cs], [] => ∃ S : S4, S.ok ∧ cs = #[.int .u64 (S.x0 : Int), .int .u64 (S.x1 : Int), .int .u64 (S.x2 : Int), .int .u64 (S.x3 : Int)]
    | _, _ => False
  val := fun args blks => match args, blks with
    | [.agg cs], [] => match cs.toList with
      | [.int .u64 a, .int .u64 b, .int .u64 c, .int .u64 d] => .agg #[.int .u64 ((turnS ⟨a.toNat, b.toNat, c.toNat, d.toNat⟩).x0 : Int), .int .u64 ((turnS ⟨a.toNat, b.toNat, c.toNat, d.toNat⟩).x1 : Int), .int .u64 ((turnS ⟨a.toNat, b.toNat, c.toNat, d.toNat⟩).x2 : Int), .int .u64 ((turnS ⟨a.toNat, b.toNat, c.toNat, d.toNat⟩).x3 : Int)]
      | _ => undef
    | _, _ => undef
  new := fun _ _ => []
section
variable (hm : Try.prog.follows .mixedOrders = true)
include hm
theorem sure560 : Sure Try.prog (S560 hm) := Sure.addI (Sure.withS ⟨hm, plain, bookW_ok (sure539 hm).sums (l := [(66, seesC)]) ⟨sees_says hm, trivial⟩⟩ (l := [(91, byteX.summ (byteX_says hm))]) ⟨byteX.sum_ok _, trivial⟩) ⟨⟨Try.func55, rfl⟩, ⟨Try.func65, rfl⟩, ⟨Try.func96, rfl⟩, ⟨Try.func111, rfl⟩, trivial⟩
theorem signX_says : signX.Holds Try.prog 95 := by
  refine pX_holds ?_
  rintro s a b r ha hs ⟨⟩
  refine (sure560 hm).funX F560 body560 [] [] Try.func95 rfl noLoops ?_
  rw [r560]
  refine ⟨⟨pB_flat _ _ _, trivial⟩, ⟨⟨by omega, by omega, hs⟩, ⟨⟩⟩, ?_⟩
  rintro x hx
  rw [Int.toNat_natCast] at hx
  subst hx
  simp only [boolV]
  have e := sg_idx (byV_lt s ⟨a, b⟩)
  cases h : (byF s ⟨a, b⟩).b with
  | true => exact ⟨pB_D _ _ _, rfl, by first | exact trivial | exact rfl, by simp only [sgF, h, Bool.true_or]⟩
  | false => exact ⟨pB_D _ _ _, rfl, by first | exact trivial | exact rfl, by simp only [sgF, h, Bool.false_or, ← e]; first | rfl | done⟩
theorem turned_says : turnedC.Holds Try.prog 93 := by
  intro args blks hf hpre
  simp only [turnedC] at hpre ⊢
  split at hpre
  · rename_i cs
    obtain ⟨S, hS, rfl⟩ := hpre
    refine ⟨trivial, ?_⟩
    refine (sure540 hm).funX F558 body558 [] [] Try.func93 rfl (Loops.unr (sure540 hm) F558 noLoops 8) ?_
    rw [r558]
    have e : ∀ n : Nat, n < 18446744073709551616 → IntKind.u64.wrap ((BitVec.ofInt 64 18446744073709551615 ^^^ BitVec.ofInt 64 (n : Int)).toNat : Int) = ((18446744073709551615 - n : Nat) : Int) := fun n hn => by
      rw [not_all n hn, ← wr_eq, wr_u64 _ (by omega) (by omega)]
    revert e
    generalize BitVec.ofInt 64 18446744073709551615 = M
    intro e
    simp only [intV, e _ hS.h0, e _ hS.h1, e _ hS.h2, e _ hS.h3, Int.toNat_natCast]
    refine ⟨FlatD.hp trivial, rfl, ?_, by trivial⟩
    simp only [List.toList_toArray, turnS, Int.toNat_natCast]
  · exact hpre.elim
end
end Go.Proofs.Ytfgiifppapopnaa

namespace Go.Proofs.Ytfgiifppapopnaa
open Go.RowKit Go.Proofs.Ytfgiifppapopnaa.AM
set_option maxRecDepth 100000
set_option maxHeartbeats 4000000
noncomputable def S585 (hm : Try.prog.follows .mixedOrders = true) : Book := addI Try.prog [(96, Try.f96, body561), (111, Try.f111, body586)] (bookS [(91, byteX.summ (byteX_says hm)), (95, signX.summ (signX_says hm))] S539)

theorem r585 (hm : Try.prog.follows .mixedOrders = true) (s : ByteArray) (a : Int) (b : Bool) (K : Value → Heap → Prop) :
  funX Try.prog (S585 hm) noLoop F585 body585 Try.f110 [] [] [pA] (pB s a b) K = (
(FlatL [Value.string s, Value.int IntKind.i64 a, Value.bool b] ∧ True) ∧ (POk s a ∧ RN []) ∧ ∀ (x : PS × Nat), x = (byF s { a := a.toNat, b := b : PS }, byV s { a := a.toNat, b := b : PS }) → Alt (eqI (↑x.snd : Int) 92)
((FlatL [Value.string s, Value.int IntKind.i64 (↑x.fst.a : Int), Value.bool x.fst.b] ∧ True) ∧ (POk s (↑x.fst.a : Int) ∧ RN []) ∧ ∀ (x_1 : PS × Nat), x_1 = (sgF s { a := (↑x.fst.a : Int).toNat, b := x.fst.b : PS }, byV s
{ a := (↑x.fst.a : Int).toNat, b := x.fst.b : PS }) → K (Value.int IntKind.u8 (↑x_1.snd : Int)) (hp [Blk.cells [Value.string s, Value.int IntKind.i64 (↑x_1.fst.a : Int), Value.bool x_1.fst.b] 3 true])) (Alt (boolV
(Value.bool x.fst.b)) (K (Value.int IntKind.u8 (↑x.snd : Int)) (hp [Blk.cells [Value.string s, Value.int IntKind.i64 (↑x.fst.a : Int), Value.bool true] 3 true])) (K (Value.int IntKind.u8 (↑x.snd : Int)) (hp [Blk.cells
[Value.string s, Value.int IntKind.i64 (↑x.fst.a : Int), Value.bool (leI 0 (idxF { data := #[OfNat.ofNat 92, OfNat.ofNat 93, OfNat.ofNat 91, OfNat.ofNat 94, OfNat.ofNat 45] : ByteArray } (↑x.snd : Int)))] 3 true])))) := by kernel_rfl

noncomputable abbrev s4C (S : S4) : List Value := [.int .u64 (S.x0 : Int), .int .u64 (S.x1 : Int), .int .u64 (S.x2 : Int), .int .u64 (S.x3 : Int)]

theorem r559 (S : S4) (c : Nat) (K : Value → Heap → Prop) :
  funX Try.prog S540 noLoop F559 body559 Try.f94 [] [] [pA, .int .u8 (c : Int)] (hp [.cells (s4C S) 4 true]) K = (
Need (ltI (wr IntKind.u8 ((↑c : Int).tdiv 64)) 4) (Need (isInt IntKind.u64 ((getO [Value.int IntKind.u64 (↑S.x0 : Int), Value.int IntKind.u64 (↑S.x1 : Int), Value.int IntKind.u64 (↑S.x2 : Int), Value.int IntKind.u64
(↑S.x3 : Int)] (0 + (wr IntKind.u8 ((↑c : Int).tdiv 64)).toNat * 1)).getD undef)) (Need (ltI (wr IntKind.u8 ((↑c : Int).tdiv 64)) 4) (Need (leN (0 + (wr IntKind.u8 ((↑c : Int).tdiv 64)).toNat * 1 + 1) 4) (K undef (hp
[Blk.cells (setAll [Value.int IntKind.u64 (↑S.x0 : Int), Value.int IntKind.u64 (↑S.x1 : Int), Value.int IntKind.u64 (↑S.x2 : Int), Value.int IntKind.u64 (↑S.x3 : Int)] (0 + (wr IntKind.u8 ((↑c : Int).tdiv 64)).toNat * 1)
[Value.int IntKind.u64 (bitsW BinOp.or IntKind.u64 (intV ((getO [Value.int IntKind.u64 (↑S.x0 : Int), Value.int IntKind.u64 (↑S.x1 : Int), Value.int IntKind.u64 (↑S.x2 : Int), Value.int IntKind.u64 (↑S.x3 : Int)] (0 +
(wr IntKind.u8 ((↑c : Int).tdiv 64)).toNat * 1)).getD undef)) (wr IntKind.u64 (1 * 2 ^ min ((↑c : Int).tmod 64).toNat 64)))]) 4 true])))))) := by kernel_rfl

structure AddOk (x0 x1 x2 x3 c : Int) : Prop where
  h0 : 0 ≤ x0 ∧ x0 < 18446744073709551616
  h1 : 0 ≤ x1 ∧ x1 < 18446744073709551616
  h2 : 0 ≤ x2 ∧ x2 < 18446744073709551616
  h3 : 0 ≤ x3 ∧ x3 < 18446744073709551616
  hc : 0 ≤ c ∧ c < 256
noncomputable def addC : CtrW where
  D := []
  W := [0]
  E := []
  pre := fun args blks => match args, blks with
    | [.pointer (some ⟨0,0,none⟩), .int .u8 c], [.cells [.int .u64 a, .int .u64 b, .int .u64 d, .int .u64 e] 4 true] => AddOk a b d e c
    | _, _ => False
  val := fun _ _ => undef
  out := fun args blks => match args, blks with
    | [.pointer (some ⟨0,0,none⟩), .int .u8 c], [.cells [.int .u64 a, .int .u64 b, .int .u64 d, .int .u64 e] 4 true] => [.cells (s4C (addS ⟨a.toNat, b.toNat, d.toNat, e.toNat⟩ c.toNat)) 4 true]
    | _, _ => []
theorem s4_flat (S : S4) : FlatL (s4C S) := ⟨fun v hv => by
  simp only [List.mem_cons, List.not_mem_nil, or_false] at hv
  rcases hv with rfl | rfl | rfl | rfl <;> rfl⟩
theorem c_div64 (c : Nat) (hc : c < 256) : wr .u8 ((c : Int).tdiv 64) = ((c / 64 : Nat) : Int) := by
  rw [show (c : Int).tdiv 64 = ((c / 64 : Nat) : Int) from rfl, wr_eq]
  simp [IntKind.wrap, IntKind.bits, IntKind.signed]; omega
theorem c_mod64 (c : Nat) : (c : Int).tmod 64 = ((c % 64 : Nat) : Int) := rfl
theorem or64 (x c : Nat) (hx : x < 18446744073709551616) (hc : c < 64) : bitsW .or .u64 (x : Int) (wr .u64 (1 * 2 ^ min c 64)) = ((x ||| 2 ^ c : Nat) : Int) := by
  have h2 : (2 : Nat) ^ c < 18446744073709551616 := Nat.lt_of_lt_of_eq (Nat.pow_lt_pow_right (by decide) hc : 2 ^ c < 2 ^ 64) (by decide)
  have h3 := or_lt64 hx hc
  have e1 : wr .u64 (1 * 2 ^ min c 64) = ((2 ^ c : Nat) : Int) := by
    rw [Nat.min_eq_left (by omega), Int.one_mul, show (2 : Int) ^ c = ((2 ^ c : Nat) : Int) from (Int.natCast_pow 2 c).symm, wr_u64 _ (Int.natCast_nonneg _) (by omega)]
  rw [e1]
  show wr .u64 ((BitVec.ofInt 64 (x : Int) ||| BitVec.ofInt 64 ((2 ^ c : Nat) : Int)).toNat : Int) = _
  rw [ofInt_nat, ofInt_nat, BitVec.toNat_or, BitVec.toNat_ofNat, BitVec.toNat_ofNat, Nat.mod_eq_of_lt (Nat.lt_of_lt_of_eq hx (by decide)), Nat.mod_eq_of_lt (Nat.lt_of_lt_of_eq h2 (by decide)), wr_u64 _ (Int.natCast_nonneg _) (by omega)]
section
variable (hm : Try.prog.follows .mixedOrders = true)
include hm
theorem add_says : addC.Holds Try.prog 94 := by
  intro args blks hf hpre
  simp only [addC] at hpre ⊢
  split at hpre
  · rename_i c a b d e
    obtain ⟨⟨h0, h0'⟩, ⟨h1, h1'⟩, ⟨h2, h2'⟩, ⟨h3, h3'⟩, ⟨hc, hc'⟩⟩ := hpre
    obtain ⟨a, rfl⟩ := Int.eq_ofNat_of_zero_le h0
    obtain ⟨b, rfl⟩ := Int.eq_ofNat_of_zero_le h1
    obtain ⟨d, rfl⟩ := Int.eq_ofNat_of_zero_le h2
    obtain ⟨e, rfl⟩ := Int.eq_ofNat_of_zero_le h3
    obtain ⟨c, rfl⟩ := Int.eq_ofNat_of_zero_le hc
    simp only [Int.toNat_natCast]
    refine ⟨⟨trivial, trivial⟩, ⟨s4_flat _, trivial⟩, ?_⟩
    refine (sure540 hm).funX F559 body559 [] [] Try.func94 rfl noLoops ?_
    rw [show ([Value.int .u64 (a : Int), .int .u64 (b : Int), .int .u64 (d : Int), .int .u64 (e : Int)] : List Value) = s4C ⟨a, b, d, e⟩ from rfl, r559]
    have hc4 : c / 64 = 0 ∨ c / 64 = 1 ∨ c / 64 = 2 ∨ c / 64 = 3 := by omega
    have hm : c % 64 < 64 := Nat.mod_lt _ (by decide)
    have p1 : leI 0 ((c % 64 : Nat) : Int) = true := leI_iff.2 (by omega)
    have oa := or64 a (c % 64) (by omega) hm
    have ob := or64 b (c % 64) (by omega) hm
    have od := or64 d (c % 64) (by omega) hm
    have oe := or64 e (c % 64) (by omega) hm
    simp only [c_div64 c (by omega), c_mod64, p1, Int.toNat_natCast]
    rcases hc4 with h | h | h | h
    · have hadd : addS ⟨a, b, d, e⟩ c = ⟨a ||| 2 ^ (c % 64), b, d, e⟩ := by unfold addS; rw [if_pos h]
      have e0 : setAll (s4C ⟨a, b, d, e⟩) (0 + 0 * 1) [.int .u64 (bitsW .or .u64 (intV ((getO (s4C ⟨a, b, d, e⟩) (0 + 0 * 1)).getD undef)) (wr .u64 (1 * 2 ^ min (c % 64) 64)))] = s4C (addS ⟨a, b, d, e⟩ c) := by rw [hadd]; show _ = [_, _, _, _]; simp only [← oa, ← ob, ← od, ← oe]; rfl
      rw [h, e0]
      exact ⟨FlatD.hp ⟨s4_flat _, trivial⟩, rfl, by first | exact trivial | exact rfl, by first | exact trivial | exact rfl⟩
    · have hadd : addS ⟨a, b, d, e⟩ c = ⟨a, b ||| 2 ^ (c % 64), d, e⟩ := by unfold addS; rw [if_neg (by omega), if_pos h]
      have e0 : setAll (s4C ⟨a, b, d, e⟩) (0 + 1 * 1) [.int .u64 (bitsW .or .u64 (intV ((getO (s4C ⟨a, b, d, e⟩) (0 + 1 * 1)).getD undef)) (wr .u64 (1 * 2 ^ min (c % 64) 64)))] = s4C (addS ⟨a, b, d, e⟩ c) := by rw [hadd]; show _ = [_, _, _, _]; simp only [← oa, ← ob, ← od, ← oe]; rfl
      rw [h, e0]
      exact ⟨FlatD.hp ⟨s4_flat _, trivial⟩, rfl, by first | exact trivial | exact rfl, by first | exact trivial | exact rfl⟩
    · have hadd : addS ⟨a, b, d, e⟩ c = ⟨a, b, d ||| 2 ^ (c % 64), e⟩ := by unfold addS; rw [if_neg (by omega), if_neg (by omega), if_pos h]
      have e0 : setAll (s4C ⟨a, b, d, e⟩) (0 + 2 * 1) [.int .u64 (bitsW .or .u64 (intV ((getO (s4C ⟨a, b, d, e⟩) (0 + 2 * 1)).getD undef)) (wr .u64 (1 * 2 ^ min (c % 64) 64)))] = s4C (addS ⟨a, b, d, e⟩ c) := by rw [hadd]; show _ = [_, _, _, _]; simp only [← oa, ← ob, ← od, ← oe]; rfl
      rw [h, e0]
      exact ⟨FlatD.hp ⟨s4_flat _, trivial⟩, rfl, by first | exact trivial | exact rfl, by first | exact trivial | exact rfl⟩
    · have hadd : addS ⟨a, b, d, e⟩ c = ⟨a, b, d, e ||| 2 ^ (c % 64)⟩ := by unfold addS; rw [if_neg (by omega), if_neg (by omega), if_neg (by omega)]
      have e0 : setAll (s4C ⟨a, b, d, e⟩) (0 + 3 * 1) [.int .u64 (bitsW .or .u64 (intV ((getO (s4C ⟨a, b, d, e⟩) (0 + 3 * 1)).getD undef)) (wr .u64 (1 * 2 ^ min (c % 64) 64)))] = s4C (addS ⟨a, b, d, e⟩ c) := by rw [hadd]; show _ = [_, _, _, _]; simp only [← oa, ← ob, ← od, ← oe]; rfl
      rw [h, e0]
      exact ⟨FlatD.hp ⟨s4_flat _, trivial⟩, rfl, by first | exact trivial | exact rfl, by first | exact trivial | exact rfl⟩
  · exact hpre.elim
end
end Go.Proofs.Ytfgiifppapopnaa

namespace Go.Proofs.Ytfgiifppapopnaa
open Go.RowKit Go.Proofs.Ytfgiifppapopnaa.AM
set_option maxRecDepth 100000
set_option maxHeartbeats 4000000
/-- a member of what stands in brackets -/
def mbP (s : ByteArray) (p : PS) : PS := if byV s p = 92 then sgF s (byF s p) else ⟨(byF s p).a, (byF s p).b || isWi (byV s p)⟩
def mbV (s : ByteArray) (p : PS) : Nat := if byV s p = 92 then byV s (byF s p) else byV s p
theorem mbV_lt (s : ByteArray) (p : PS) : mbV s p < 256 := by
  unfold mbV
  split
  · exact byV_lt _ _
  · exact byV_lt _ _
theorem sgF_le (s : ByteArray) (p : PS) (h : p.a ≤ s.size) : p.a ≤ (sgF s p).a ∧ (sgF s p).a ≤ s.size := byF_le s p h
theorem mbP_le (s : ByteArray) (p : PS) (h : p.a ≤ s.size) : p.a ≤ (mbP s p).a ∧ (mbP s p).a ≤ s.size := by
  obtain ⟨h1, h2⟩ := byF_le s p h
  unfold mbP
  split
  · obtain ⟨h3, h4⟩ := sgF_le s (byF s p) h2
    exact ⟨by omega, h4⟩
  · exact ⟨h1, h2⟩
noncomputable def memX : CtrX (PS × Nat) := pX (fun _ _ r => RN r) (fun s p _ => (mbP s p, mbV s p)) u8E
section
variable (hm : Try.prog.follows .mixedOrders = true)
include hm
theorem sure585 : Sure Try.prog (S585 hm) := Sure.addI (Sure.withS (sure539 hm) (l := [(91, byteX.summ (byteX_says hm)), (95, signX.summ (signX_says hm))]) ⟨byteX.sum_ok _, signX.sum_ok _, trivial⟩) ⟨⟨Try.func96, rfl⟩, ⟨Try.func111, rfl⟩, trivial⟩
theorem memX_says : memX.Holds Try.prog 110 := by
  refine pX_holds ?_
  rintro s a b r ha hs ⟨⟩
  refine (sure585 hm).funX F585 body585 [] [] Try.func110 rfl noLoops ?_
  rw [r585]
  obtain ⟨l1, l2⟩ := byF_le s ⟨a, b⟩ ha
  refine ⟨⟨pB_flat _ _ _, trivial⟩, ⟨⟨by omega, by omega, hs⟩, ⟨⟩⟩, ?_⟩
  rintro x hx
  rw [Int.toNat_natCast] at hx
  subst hx
  simp only [boolV]
  have e := wi_idx (byV_lt s ⟨a, b⟩)
  by_cases h92 : byV s ⟨a, b⟩ = 92
  · rw [eqI_iff.2 (show (byV s ⟨a, b⟩ : Int) = 92 by omega)]
    have e1 : mbV s ⟨a, b⟩ = byV s (byF s ⟨a, b⟩) := if_pos h92
    have e2 : mbP s ⟨a, b⟩ = sgF s (byF s ⟨a, b⟩) := if_pos h92
    rw [e1, e2]
    refine ⟨⟨pB_flat _ _ _, trivial⟩, ⟨⟨by omega, by omega, hs⟩, ⟨⟩⟩, ?_⟩
    rintro x hx
    rw [Int.toNat_natCast] at hx
    subst hx
    exact ⟨pB_D _ _ _, rfl, by first | exact trivial | exact rfl, by first | exact trivial | exact rfl⟩
  · rw [show eqI (byV s ⟨a, b⟩ : Int) 92 = false by rw [eqI_eq, decide_eq_false]; omega]
    have e1 : mbV s ⟨a, b⟩ = byV s ⟨a, b⟩ := if_neg h92
    have e2 : mbP s ⟨a, b⟩ = ⟨(byF s ⟨a, b⟩).a, (byF s ⟨a, b⟩).b || isWi (byV s ⟨a, b⟩)⟩ := if_neg h92
    rw [e1, e2]
    cases h : (byF s ⟨a, b⟩).b with
    | true => exact ⟨pB_D _ _ _, rfl, by first | exact trivial | exact rfl, by simp only [Bool.true_or]⟩
    | false => exact ⟨pB_D _ _ _, rfl, by first | exact trivial | exact rfl, by simp only [Bool.false_or, ← e]; first | rfl | done⟩
end
end Go.Proofs.Ytfgiifppapopnaa

namespace Go.Proofs.Ytfgiifppapopnaa
open Go.RowKit Go.Proofs.Ytfgiifppapopnaa.AM
set_option maxRecDepth 100000
set_option maxHeartbeats 4000000
noncomputable def body557 : Code := (Try.f92.body).getD .skip
def F557 : List Nat → Option (List Nat) := fun p => match p with
  | [1] => some [0, 2]
  | [1, 1] => some [0, 2, 3]
  | [1, 1, 1] => some [0, 2, 3, 4]
  | [1, 0, 1, 1, 1] => some [0, 2, 3, 4, 5]
  | [1, 0, 0, 0, 1, 0, 1, 1, 1] => some [0, 2, 3, 4, 21]
  | [1, 1, 0, 0, 0, 1, 0, 1, 1, 1] => some [0, 2, 3, 4]
  | [1, 0, 0, 1, 0, 1, 1, 1] => some [0, 2, 3, 4]
  | [1, 0, 0, 1, 0, 0, 1, 0, 1, 1, 1] => some [0, 2, 3, 4, 6]
  | [1, 1, 0, 0, 1, 0, 0, 1, 0, 1, 1, 1] => some [0, 2, 3, 4, 6, 7]
  | [1, 0, 1, 1, 0, 0, 1, 0, 0, 1, 0, 1, 1, 1] => some [0, 2, 3, 4, 6, 7, 26]
  | [1, 1, 1, 0, 0, 1, 0, 0, 1, 0, 1, 1, 1] => some [0, 2, 3, 4, 6, 7]
  | [1, 1, 1, 1, 0, 0, 1, 0, 0, 1, 0, 1, 1, 1] => some [0, 2, 3, 4, 6, 7]
  | [1, 1, 1, 1, 1, 0, 0, 1, 0, 0, 1, 0, 1, 1, 1] => some [0, 2, 3, 4, 7, 8]
  | [1, 0, 0, 0, 1, 1, 1, 1, 1, 0, 0, 1, 0, 0, 1, 0, 1, 1, 1] => some [0, 2, 3, 4, 7, 8, 46]
  | [1, 1, 0, 0, 0, 1, 1, 1, 1, 1, 0, 0, 1, 0, 0, 1, 0, 1, 1, 1] => some [0, 2, 3, 4]
  | [1, 0, 0, 1, 1, 1, 1, 1, 0, 0, 1, 0, 0, 1, 0, 1, 1, 1] => some [0, 2, 3, 4, 7, 8]
  | [1, 1, 0, 0, 1, 1, 1, 1, 1, 0, 0, 1, 0, 0, 1, 0, 1, 1, 1] => some [0, 2, 3, 4, 7, 8]
  | [1, 1, 0, 0, 1, 0, 1, 1, 1] => some [0, 2, 3, 4]
  | [1, 1, 1, 1] => some [0, 2, 3, 4]
  | [1, 1, 1, 1, 1] => some [2, 3, 4]
  | [1, 0, 1, 1, 1, 1, 1] => some [2, 3, 64]
  | [1, 0, 1, 0, 1, 1, 1, 1, 1] => some [2]
  | [1, 1, 1, 1, 1, 1] => some [2, 3]
  | [1, 1, 1, 1, 1, 1, 1] => some [2]
  | _ => none
/-- bytes from one to another put into a set -/
def rngA (S : S4) (c t : Nat) : S4 := (List.range' c (t + 1 - c)).foldl addS S
theorem rngA_more {S : S4} {c t : Nat} (h : c ≤ t) : rngA S c t = rngA (addS S c) (c + 1) t := by
  unfold rngA
  rw [show t + 1 - c = (t + 1 - (c + 1)) + 1 by omega, List.range'_succ, List.foldl_cons]
theorem rngA_end {S : S4} {c t : Nat} (h : t < c) : rngA S c t = S := by
  unfold rngA
  rw [show t + 1 - c = 0 by omega]; rfl
theorem foldl_ok : ∀ (l : List Nat) {S : S4}, S.ok → (l.foldl addS S).ok := by
  intro l
  induction l with
  | nil => intro S h; exact h
  | cons c l ih => intro S h; exact ih (addS_ok h c)
theorem rngA_ok {S : S4} (h : S.ok) (c t : Nat) : (rngA S c t).ok := foldl_ok _ h
/-- one round: its first byte, its last, and what is passed -/
def rdA (s : ByteArray) (p : PS) : Nat := mbV s p
def rdB' (s : ByteArray) (p : PS) : Nat := if seF s (mbP s p) 45 then mbV s (nxF s (mbP s p) 45) else mbV s p
def rdQ (s : ByteArray) (p : PS) : PS := if seF s (mbP s p) 45 then mbP s (nxF s (mbP s p) 45) else mbP s p
def rdP (s : ByteArray) (p : PS) : PS := ⟨(rdQ s p).a, (rdQ s p).b || decide (rdB' s p < rdA s p)⟩
/-- rounds up to the bracket's end -/
def clsR (s : ByteArray) : Nat → PS → S4 → PS × S4
  | 0, p, S => (p, S)
  | m + 1, p, S => if ovF s (rdP s p) || seF s (rdP s p) 93 then (rdP s p, rngA S (rdA s p) (rdB' s p)) else clsR s m (rdP s p) (rngA S (rdA s p) (rdB' s p))
noncomputable def S557 (hm : Try.prog.follows .mixedOrders = true) : Book := addI Try.prog [(55, Try.f55, body531), (65, Try.f65, body539)] (bookS [(110, memX.summ (memX_says hm))] (bookW [(66, seesC), (94, addC)] (bookOf [(93, turnedC)])))
noncomputable abbrev H557 (s : ByteArray) (p : PS) (S : S4) : Heap := hp [.cells [.string s, .int .i64 (p.a : Int), .bool p.b] 3 true, .cells [.int .u64 0, .int .u64 0, .int .u64 0, .int .u64 0] 4 true, .cells (s4C S) 4 true]
noncomputable abbrev p1 : Value := .pointer (some ⟨1,0,none⟩)
noncomputable abbrev p2 : Value := .pointer (some ⟨2,0,none⟩)
noncomputable abbrev T557o (n f : Bool) : List Value := tmps 68 [(0, pA), (2, p1), (3, p2), (4, .bool n), (5, .bool f)]
noncomputable abbrev T557i (n : Bool) (t c : Nat) : List Value := tmps 68 [(0, pA), (2, p1), (3, p2), (4, .bool n), (7, .int .u8 (t : Int)), (8, .int .i64 (c : Int))]
noncomputable abbrev T557e (n : Bool) : List Value := tmps 68 [(0, pA), (2, p1), (3, p2), (4, .bool n)]
noncomputable def cut557i (s : ByteArray) (n : Bool) : CutE where
  β := PS × S4 × Nat × Nat
  p := [0, 1, 1, 1, 1, 1, 0, 0, 1, 0, 0, 1, 0, 1, 1, 1]
  t := fun x => T557i n x.2.2.2 x.2.2.1
  h := fun x => H557 s x.1 x.2.1
  Q := fun x K => x.2.1.ok ∧ x.2.2.1 < 257 ∧ x.2.2.2 < 256 ∧ K (.exit 2) (T557e n) (H557 s x.1 (rngA x.2.1 x.2.2.1 x.2.2.2))

theorem r557i (hm : Try.prog.follows .mixedOrders = true) (s : ByteArray) (n : Bool) (p : PS) (S : S4) (t c : Nat) (K : Post) :
  roundX Try.prog (S557 hm) noLoop F557 body557 1 [] [] [] [] [0,2,3,4,7,8] [0, 0, 1, 1, 1, 1, 1, 0, 0, 1, 0, 0, 1, 0, 1, 1, 1] (T557i n t c) (H557 s p S) K = (
Alt (leI (↑c : Int) (wr IntKind.i64 (↑t : Int))) ((FlatL [Value.int IntKind.u64 (↑S.x0 : Int), Value.int IntKind.u64 (↑S.x1 : Int), Value.int IntKind.u64 (↑S.x2 : Int), Value.int IntKind.u64 (↑S.x3 : Int)] ∧ True) ∧
AddOk (↑S.x0 : Int) (↑S.x1 : Int) (↑S.x2 : Int) (↑S.x3 : Int) (wr IntKind.u8 (↑c : Int)) ∧ K AE.normal (tmps 68 [(0, Value.pointer (some { block := 0, off := 0 : Addr })), (2, Value.pointer (some
{ block := 1, off := 0 : Addr })), (3, Value.pointer (some { block := 2, off := 0 : Addr })), (4, Value.bool n), (7, Value.int IntKind.u8 (↑t : Int)), (8, Value.int IntKind.i64 (wr IntKind.i64 ((↑c : Int) + 1)))]) (hp
[Blk.cells [Value.string s, Value.int IntKind.i64 (↑p.a : Int), Value.bool p.b] 3 true, Blk.cells [Value.int IntKind.u64 0, Value.int IntKind.u64 0, Value.int IntKind.u64 0, Value.int IntKind.u64 0] 4 true, Blk.cells
[Value.int IntKind.u64 (↑(addS { x0 := (↑S.x0 : Int).toNat, x1 := (↑S.x1 : Int).toNat, x2 := (↑S.x2 : Int).toNat, x3 := (↑S.x3 : Int).toNat : S4 } (wr IntKind.u8 (↑c : Int)).toNat).x0 : Int), Value.int IntKind.u64
(↑(addS { x0 := (↑S.x0 : Int).toNat, x1 := (↑S.x1 : Int).toNat, x2 := (↑S.x2 : Int).toNat, x3 := (↑S.x3 : Int).toNat : S4 } (wr IntKind.u8 (↑c : Int)).toNat).x1 : Int), Value.int IntKind.u64 (↑(addS
{ x0 := (↑S.x0 : Int).toNat, x1 := (↑S.x1 : Int).toNat, x2 := (↑S.x2 : Int).toNat, x3 := (↑S.x3 : Int).toNat : S4 } (wr IntKind.u8 (↑c : Int)).toNat).x2 : Int), Value.int IntKind.u64 (↑(addS
{ x0 := (↑S.x0 : Int).toNat, x1 := (↑S.x1 : Int).toNat, x2 := (↑S.x2 : Int).toNat, x3 := (↑S.x3 : Int).toNat : S4 } (wr IntKind.u8 (↑c : Int)).toNat).x3 : Int)] 4 true])) (K (AE.exit 2) (tmps 68 [(0, Value.pointer (some
{ block := 0, off := 0 : Addr })), (2, Value.pointer (some { block := 1, off := 0 : Addr })), (3, Value.pointer (some { block := 2, off := 0 : Addr })), (4, Value.bool n)]) (hp [Blk.cells [Value.string s, Value.int
IntKind.i64 (↑p.a : Int), Value.bool p.b] 3 true, Blk.cells [Value.int IntKind.u64 0, Value.int IntKind.u64 0, Value.int IntKind.u64 0, Value.int IntKind.u64 0] 4 true, Blk.cells [Value.int IntKind.u64 (↑S.x0 : Int),
Value.int IntKind.u64 (↑S.x1 : Int), Value.int IntKind.u64 (↑S.x2 : Int), Value.int IntKind.u64 (↑S.x3 : Int)] 4 true]))) := by kernel_rfl

theorem r557t (hm : Try.prog.follows .mixedOrders = true) (s : ByteArray) (n : Bool) (p : PS) (S : S4) (K : Post) :
  roundX Try.prog (S557 hm) (gcLKX (at0 []) (at0 []) 1 (cutE [cut557i s n])) F557 body557 1 [] [] [] [] [0,2,3,4,5] [0, 0, 1, 0, 1, 1, 1] (T557o n true) (H557 s p S) K = (
(FlatL [Value.string s, Value.int IntKind.i64 (↑p.a : Int), Value.bool p.b] ∧ True) ∧ (POk s (↑p.a : Int) ∧ RN []) ∧ ∀ (x : PS × Nat), x = (mbP s { a := (↑p.a : Int).toNat, b := p.b : PS }, mbV s
{ a := (↑p.a : Int).toNat, b := p.b : PS }) → (FlatL [Value.string s, Value.int IntKind.i64 (↑x.fst.a : Int), Value.bool x.fst.b] ∧ True) ∧ (POk s (↑x.fst.a : Int) ∧ RC [Value.int IntKind.u8 45]) ∧ Alt (!seF s
{ a := (↑x.fst.a : Int).toNat, b := x.fst.b : PS } 45) (Alt (boolV (Value.bool { a := (↑x.fst.a : Int).toNat, b := x.fst.b : PS }.b)) (FlatD [] (hp [Blk.cells [Value.string s, Value.int IntKind.i64
(↑{ a := (↑x.fst.a : Int).toNat, b := x.fst.b : PS }.a : Int), Value.bool true] 3 true, Blk.cells [Value.int IntKind.u64 0, Value.int IntKind.u64 0, Value.int IntKind.u64 0, Value.int IntKind.u64 0] 4 true, Blk.cells
[Value.int IntKind.u64 (↑S.x0 : Int), Value.int IntKind.u64 (↑S.x1 : Int), Value.int IntKind.u64 (↑S.x2 : Int), Value.int IntKind.u64 (↑S.x3 : Int)] 4 true]) ∧ ∃ (b : PS × S4 × Nat × Nat), tmps 68 [(0, Value.pointer
(some { block := 0, off := 0 : Addr })), (2, Value.pointer (some { block := 1, off := 0 : Addr })), (3, Value.pointer (some { block := 2, off := 0 : Addr })), (4, Value.bool n), (7, Value.int IntKind.u8 (↑x.snd : Int)),
(8, Value.int IntKind.i64 (wr IntKind.i64 (↑x.snd : Int)))] = tmps 68 [(0, Value.pointer (some { block := 0, off := 0 : Addr })), (2, Value.pointer (some { block := 1, off := 0 : Addr })), (3, Value.pointer (some
{ block := 2, off := 0 : Addr })), (4, Value.bool n), (7, Value.int IntKind.u8 (↑b.snd.snd.snd : Int)), (8, Value.int IntKind.i64 (↑b.snd.snd.fst : Int))] ∧ hp [Blk.cells [Value.string s, Value.int IntKind.i64
(↑{ a := (↑x.fst.a : Int).toNat, b := x.fst.b : PS }.a : Int), Value.bool true] 3 true, Blk.cells [Value.int IntKind.u64 0, Value.int IntKind.u64 0, Value.int IntKind.u64 0, Value.int IntKind.u64 0] 4 true, Blk.cells
[Value.int IntKind.u64 (↑S.x0 : Int), Value.int IntKind.u64 (↑S.x1 : Int), Value.int IntKind.u64 (↑S.x2 : Int), Value.int IntKind.u64 (↑S.x3 : Int)] 4 true] = hp [Blk.cells [Value.string s, Value.int IntKind.i64
(↑b.fst.a : Int), Value.bool b.fst.b] 3 true, Blk.cells [Value.int IntKind.u64 0, Value.int IntKind.u64 0, Value.int IntKind.u64 0, Value.int IntKind.u64 0] 4 true, Blk.cells [Value.int IntKind.u64 (↑b.snd.fst.x0 : Int),
Value.int IntKind.u64 (↑b.snd.fst.x1 : Int), Value.int IntKind.u64 (↑b.snd.fst.x2 : Int), Value.int IntKind.u64 (↑b.snd.fst.x3 : Int)] 4 true] ∧ b.snd.fst.ok ∧ b.snd.snd.fst.succ.le 257 ∧ b.snd.snd.snd.succ.le 256 ∧ K
AE.normal (tmps 68 [(0, Value.pointer (some { block := 0, off := 0 : Addr })), (2, Value.pointer (some { block := 1, off := 0 : Addr })), (3, Value.pointer (some { block := 2, off := 0 : Addr })), (4, Value.bool n), (5,
Value.bool false)]) (hp [Blk.cells [Value.string s, Value.int IntKind.i64 (↑b.fst.a : Int), Value.bool b.fst.b] 3 true, Blk.cells [Value.int IntKind.u64 0, Value.int IntKind.u64 0, Value.int IntKind.u64 0, Value.int
IntKind.u64 0] 4 true, Blk.cells [Value.int IntKind.u64 (↑(rngA b.snd.fst b.snd.snd.fst b.snd.snd.snd).x0 : Int), Value.int IntKind.u64 (↑(rngA b.snd.fst b.snd.snd.fst b.snd.snd.snd).x1 : Int), Value.int IntKind.u64
(↑(rngA b.snd.fst b.snd.snd.fst b.snd.snd.snd).x2 : Int), Value.int IntKind.u64 (↑(rngA b.snd.fst b.snd.snd.fst b.snd.snd.snd).x3 : Int)] 4 true])) (FlatD [] (hp [Blk.cells [Value.string s, Value.int IntKind.i64
(↑{ a := (↑x.fst.a : Int).toNat, b := x.fst.b : PS }.a : Int), Value.bool (ltI (↑x.snd : Int) (↑x.snd : Int))] 3 true, Blk.cells [Value.int IntKind.u64 0, Value.int IntKind.u64 0, Value.int IntKind.u64 0, Value.int
IntKind.u64 0] 4 true, Blk.cells [Value.int IntKind.u64 (↑S.x0 : Int), Value.int IntKind.u64 (↑S.x1 : Int), Value.int IntKind.u64 (↑S.x2 : Int), Value.int IntKind.u64 (↑S.x3 : Int)] 4 true]) ∧ ∃ (b : PS × S4 × Nat ×
Nat), tmps 68 [(0, Value.pointer (some { block := 0, off := 0 : Addr })), (2, Value.pointer (some { block := 1, off := 0 : Addr })), (3, Value.pointer (some { block := 2, off := 0 : Addr })), (4, Value.bool n), (7,
Value.int IntKind.u8 (↑x.snd : Int)), (8, Value.int IntKind.i64 (wr IntKind.i64 (↑x.snd : Int)))] = tmps 68 [(0, Value.pointer (some { block := 0, off := 0 : Addr })), (2, Value.pointer (some
{ block := 1, off := 0 : Addr })), (3, Value.pointer (some { block := 2, off := 0 : Addr })), (4, Value.bool n), (7, Value.int IntKind.u8 (↑b.snd.snd.snd : Int)), (8, Value.int IntKind.i64 (↑b.snd.snd.fst : Int))] ∧ hp
[Blk.cells [Value.string s, Value.int IntKind.i64 (↑{ a := (↑x.fst.a : Int).toNat, b := x.fst.b : PS }.a : Int), Value.bool (ltI (↑x.snd : Int) (↑x.snd : Int))] 3 true, Blk.cells [Value.int IntKind.u64 0, Value.int
IntKind.u64 0, Value.int IntKind.u64 0, Value.int IntKind.u64 0] 4 true, Blk.cells [Value.int IntKind.u64 (↑S.x0 : Int), Value.int IntKind.u64 (↑S.x1 : Int), Value.int IntKind.u64 (↑S.x2 : Int), Value.int IntKind.u64
(↑S.x3 : Int)] 4 true] = hp [Blk.cells [Value.string s, Value.int IntKind.i64 (↑b.fst.a : Int), Value.bool b.fst.b] 3 true, Blk.cells [Value.int IntKind.u64 0, Value.int IntKind.u64 0, Value.int IntKind.u64 0, Value.int
IntKind.u64 0] 4 true, Blk.cells [Value.int IntKind.u64 (↑b.snd.fst.x0 : Int), Value.int IntKind.u64 (↑b.snd.fst.x1 : Int), Value.int IntKind.u64 (↑b.snd.fst.x2 : Int), Value.int IntKind.u64 (↑b.snd.fst.x3 : Int)] 4
true] ∧ b.snd.fst.ok ∧ b.snd.snd.fst.succ.le 257 ∧ b.snd.snd.snd.succ.le 256 ∧ K AE.normal (tmps 68 [(0, Value.pointer (some { block := 0, off := 0 : Addr })), (2, Value.pointer (some { block := 1, off := 0 : Addr })),
(3, Value.pointer (some { block := 2, off := 0 : Addr })), (4, Value.bool n), (5, Value.bool false)]) (hp [Blk.cells [Value.string s, Value.int IntKind.i64 (↑b.fst.a : Int), Value.bool b.fst.b] 3 true, Blk.cells
[Value.int IntKind.u64 0, Value.int IntKind.u64 0, Value.int IntKind.u64 0, Value.int IntKind.u64 0] 4 true, Blk.cells [Value.int IntKind.u64 (↑(rngA b.snd.fst b.snd.snd.fst b.snd.snd.snd).x0 : Int), Value.int
IntKind.u64 (↑(rngA b.snd.fst b.snd.snd.fst b.snd.snd.snd).x1 : Int), Value.int IntKind.u64 (↑(rngA b.snd.fst b.snd.snd.fst b.snd.snd.snd).x2 : Int), Value.int IntKind.u64 (↑(rngA b.snd.fst b.snd.snd.fst
b.snd.snd.snd).x3 : Int)] 4 true]))) ((FlatL [Value.string s, Value.int IntKind.i64 (wr IntKind.i64 (intV (Value.int IntKind.i64 (↑{ a := (↑x.fst.a : Int).toNat, b := x.fst.b : PS }.a : Int)) + 1)), Value.bool
{ a := (↑x.fst.a : Int).toNat, b := x.fst.b : PS }.b] ∧ True) ∧ (POk s (wr IntKind.i64 (intV (Value.int IntKind.i64 (↑{ a := (↑x.fst.a : Int).toNat, b := x.fst.b : PS }.a : Int)) + 1)) ∧ RN []) ∧ ∀ (x_1 : PS × Nat), x_1
= (mbP s { a := (wr IntKind.i64 (intV (Value.int IntKind.i64 (↑{ a := (↑x.fst.a : Int).toNat, b := x.fst.b : PS }.a : Int)) + 1)).toNat, b := { a := (↑x.fst.a : Int).toNat, b := x.fst.b : PS }.b : PS }, mbV s
{ a := (wr IntKind.i64 (intV (Value.int IntKind.i64 (↑{ a := (↑x.fst.a : Int).toNat, b := x.fst.b : PS }.a : Int)) + 1)).toNat, b := { a := (↑x.fst.a : Int).toNat, b := x.fst.b : PS }.b : PS }) → Alt (boolV (Value.bool
x_1.fst.b)) (FlatD [] (hp [Blk.cells [Value.string s, Value.int IntKind.i64 (↑x_1.fst.a : Int), Value.bool true] 3 true, Blk.cells [Value.int IntKind.u64 0, Value.int IntKind.u64 0, Value.int IntKind.u64 0, Value.int
IntKind.u64 0] 4 true, Blk.cells [Value.int IntKind.u64 (↑S.x0 : Int), Value.int IntKind.u64 (↑S.x1 : Int), Value.int IntKind.u64 (↑S.x2 : Int), Value.int IntKind.u64 (↑S.x3 : Int)] 4 true]) ∧ ∃ (b : PS × S4 × Nat ×
Nat), tmps 68 [(0, Value.pointer (some { block := 0, off := 0 : Addr })), (2, Value.pointer (some { block := 1, off := 0 : Addr })), (3, Value.pointer (some { block := 2, off := 0 : Addr })), (4, Value.bool n), (7,
Value.int IntKind.u8 (↑x_1.snd : Int)), (8, Value.int IntKind.i64 (wr IntKind.i64 (↑x.snd : Int)))] = tmps 68 [(0, Value.pointer (some { block := 0, off := 0 : Addr })), (2, Value.pointer (some
{ block := 1, off := 0 : Addr })), (3, Value.pointer (some { block := 2, off := 0 : Addr })), (4, Value.bool n), (7, Value.int IntKind.u8 (↑b.snd.snd.snd : Int)), (8, Value.int IntKind.i64 (↑b.snd.snd.fst : Int))] ∧ hp
[Blk.cells [Value.string s, Value.int IntKind.i64 (↑x_1.fst.a : Int), Value.bool true] 3 true, Blk.cells [Value.int IntKind.u64 0, Value.int IntKind.u64 0, Value.int IntKind.u64 0, Value.int IntKind.u64 0] 4 true,
Blk.cells [Value.int IntKind.u64 (↑S.x0 : Int), Value.int IntKind.u64 (↑S.x1 : Int), Value.int IntKind.u64 (↑S.x2 : Int), Value.int IntKind.u64 (↑S.x3 : Int)] 4 true] = hp [Blk.cells [Value.string s, Value.int
IntKind.i64 (↑b.fst.a : Int), Value.bool b.fst.b] 3 true, Blk.cells [Value.int IntKind.u64 0, Value.int IntKind.u64 0, Value.int IntKind.u64 0, Value.int IntKind.u64 0] 4 true, Blk.cells [Value.int IntKind.u64
(↑b.snd.fst.x0 : Int), Value.int IntKind.u64 (↑b.snd.fst.x1 : Int), Value.int IntKind.u64 (↑b.snd.fst.x2 : Int), Value.int IntKind.u64 (↑b.snd.fst.x3 : Int)] 4 true] ∧ b.snd.fst.ok ∧ b.snd.snd.fst.succ.le 257 ∧
b.snd.snd.snd.succ.le 256 ∧ K AE.normal (tmps 68 [(0, Value.pointer (some { block := 0, off := 0 : Addr })), (2, Value.pointer (some { block := 1, off := 0 : Addr })), (3, Value.pointer (some
{ block := 2, off := 0 : Addr })), (4, Value.bool n), (5, Value.bool false)]) (hp [Blk.cells [Value.string s, Value.int IntKind.i64 (↑b.fst.a : Int), Value.bool b.fst.b] 3 true, Blk.cells [Value.int IntKind.u64 0,
Value.int IntKind.u64 0, Value.int IntKind.u64 0, Value.int IntKind.u64 0] 4 true, Blk.cells [Value.int IntKind.u64 (↑(rngA b.snd.fst b.snd.snd.fst b.snd.snd.snd).x0 : Int), Value.int IntKind.u64 (↑(rngA b.snd.fst
b.snd.snd.fst b.snd.snd.snd).x1 : Int), Value.int IntKind.u64 (↑(rngA b.snd.fst b.snd.snd.fst b.snd.snd.snd).x2 : Int), Value.int IntKind.u64 (↑(rngA b.snd.fst b.snd.snd.fst b.snd.snd.snd).x3 : Int)] 4 true])) (FlatD []
(hp [Blk.cells [Value.string s, Value.int IntKind.i64 (↑x_1.fst.a : Int), Value.bool (ltI (↑x_1.snd : Int) (↑x.snd : Int))] 3 true, Blk.cells [Value.int IntKind.u64 0, Value.int IntKind.u64 0, Value.int IntKind.u64 0,
Value.int IntKind.u64 0] 4 true, Blk.cells [Value.int IntKind.u64 (↑S.x0 : Int), Value.int IntKind.u64 (↑S.x1 : Int), Value.int IntKind.u64 (↑S.x2 : Int), Value.int IntKind.u64 (↑S.x3 : Int)] 4 true]) ∧ ∃ (b : PS × S4 ×
Nat × Nat), tmps 68 [(0, Value.pointer (some { block := 0, off := 0 : Addr })), (2, Value.pointer (some { block := 1, off := 0 : Addr })), (3, Value.pointer (some { block := 2, off := 0 : Addr })), (4, Value.bool n), (7,
Value.int IntKind.u8 (↑x_1.snd : Int)), (8, Value.int IntKind.i64 (wr IntKind.i64 (↑x.snd : Int)))] = tmps 68 [(0, Value.pointer (some { block := 0, off := 0 : Addr })), (2, Value.pointer (some
{ block := 1, off := 0 : Addr })), (3, Value.pointer (some { block := 2, off := 0 : Addr })), (4, Value.bool n), (7, Value.int IntKind.u8 (↑b.snd.snd.snd : Int)), (8, Value.int IntKind.i64 (↑b.snd.snd.fst : Int))] ∧ hp
[Blk.cells [Value.string s, Value.int IntKind.i64 (↑x_1.fst.a : Int), Value.bool (ltI (↑x_1.snd : Int) (↑x.snd : Int))] 3 true, Blk.cells [Value.int IntKind.u64 0, Value.int IntKind.u64 0, Value.int IntKind.u64 0,
Value.int IntKind.u64 0] 4 true, Blk.cells [Value.int IntKind.u64 (↑S.x0 : Int), Value.int IntKind.u64 (↑S.x1 : Int), Value.int IntKind.u64 (↑S.x2 : Int), Value.int IntKind.u64 (↑S.x3 : Int)] 4 true] = hp [Blk.cells
[Value.string s, Value.int IntKind.i64 (↑b.fst.a : Int), Value.bool b.fst.b] 3 true, Blk.cells [Value.int IntKind.u64 0, Value.int IntKind.u64 0, Value.int IntKind.u64 0, Value.int IntKind.u64 0] 4 true, Blk.cells
[Value.int IntKind.u64 (↑b.snd.fst.x0 : Int), Value.int IntKind.u64 (↑b.snd.fst.x1 : Int), Value.int IntKind.u64 (↑b.snd.fst.x2 : Int), Value.int IntKind.u64 (↑b.snd.fst.x3 : Int)] 4 true] ∧ b.snd.fst.ok ∧
b.snd.snd.fst.succ.le 257 ∧ b.snd.snd.snd.succ.le 256 ∧ K AE.normal (tmps 68 [(0, Value.pointer (some { block := 0, off := 0 : Addr })), (2, Value.pointer (some { block := 1, off := 0 : Addr })), (3, Value.pointer (some
{ block := 2, off := 0 : Addr })), (4, Value.bool n), (5, Value.bool false)]) (hp [Blk.cells [Value.string s, Value.int IntKind.i64 (↑b.fst.a : Int), Value.bool b.fst.b] 3 true, Blk.cells [Value.int IntKind.u64 0,
Value.int IntKind.u64 0, Value.int IntKind.u64 0, Value.int IntKind.u64 0] 4 true, Blk.cells [Value.int IntKind.u64 (↑(rngA b.snd.fst b.snd.snd.fst b.snd.snd.snd).x0 : Int), Value.int IntKind.u64 (↑(rngA b.snd.fst
b.snd.snd.fst b.snd.snd.snd).x1 : Int), Value.int IntKind.u64 (↑(rngA b.snd.fst b.snd.snd.fst b.snd.snd.snd).x2 : Int), Value.int IntKind.u64 (↑(rngA b.snd.fst b.snd.snd.fst b.snd.snd.snd).x3 : Int)] 4 true])))) := by kernel_rfl

theorem r557f (hm : Try.prog.follows .mixedOrders = true) (s : ByteArray) (n : Bool) (p : PS) (S : S4) (K : Post) :
  roundX Try.prog (S557 hm) (gcLKX (at0 []) (at0 []) 1 (cutE [cut557i s n])) F557 body557 1 [] [] [] [] [0,2,3,4,5] [0, 0, 1, 0, 1, 1, 1] (T557o n false) (H557 s p S) K = (
Alt (boolV (Value.bool p.b)) (K (AE.exit 0) (tmps 68 [(0, Value.pointer (some { block := 0, off := 0 : Addr })), (2, Value.pointer (some { block := 1, off := 0 : Addr })), (3, Value.pointer (some
{ block := 2, off := 0 : Addr })), (4, Value.bool n)]) (hp [Blk.cells [Value.string s, Value.int IntKind.i64 (↑p.a : Int), Value.bool p.b] 3 true, Blk.cells [Value.int IntKind.u64 0, Value.int IntKind.u64 0, Value.int
IntKind.u64 0, Value.int IntKind.u64 0] 4 true, Blk.cells [Value.int IntKind.u64 (↑S.x0 : Int), Value.int IntKind.u64 (↑S.x1 : Int), Value.int IntKind.u64 (↑S.x2 : Int), Value.int IntKind.u64 (↑S.x3 : Int)] 4 true]))
(Alt (!leI (↑(strV (Value.string s)).size : Int) (intV (Value.int IntKind.i64 (↑p.a : Int)))) ((FlatL [Value.string s, Value.int IntKind.i64 (↑p.a : Int), Value.bool p.b] ∧ True) ∧ (POk s (↑p.a : Int) ∧ RC [Value.int
IntKind.u8 93]) ∧ Alt (!seF s { a := (↑p.a : Int).toNat, b := p.b : PS } 93) ((FlatL [Value.string s, Value.int IntKind.i64 (↑{ a := (↑p.a : Int).toNat, b := p.b : PS }.a : Int), Value.bool
{ a := (↑p.a : Int).toNat, b := p.b : PS }.b] ∧ True) ∧ (POk s (↑{ a := (↑p.a : Int).toNat, b := p.b : PS }.a : Int) ∧ RN []) ∧ ∀ (x : PS × Nat), x = (mbP s
{ a := (↑{ a := (↑p.a : Int).toNat, b := p.b : PS }.a : Int).toNat, b := { a := (↑p.a : Int).toNat, b := p.b : PS }.b : PS }, mbV s
{ a := (↑{ a := (↑p.a : Int).toNat, b := p.b : PS }.a : Int).toNat, b := { a := (↑p.a : Int).toNat, b := p.b : PS }.b : PS }) → (FlatL [Value.string s, Value.int IntKind.i64 (↑x.fst.a : Int), Value.bool x.fst.b] ∧ True)
∧ (POk s (↑x.fst.a : Int) ∧ RC [Value.int IntKind.u8 45]) ∧ Alt (!seF s { a := (↑x.fst.a : Int).toNat, b := x.fst.b : PS } 45) (Alt (boolV (Value.bool { a := (↑x.fst.a : Int).toNat, b := x.fst.b : PS }.b)) (FlatD [] (hp
[Blk.cells [Value.string s, Value.int IntKind.i64 (↑{ a := (↑x.fst.a : Int).toNat, b := x.fst.b : PS }.a : Int), Value.bool true] 3 true, Blk.cells [Value.int IntKind.u64 0, Value.int IntKind.u64 0, Value.int IntKind.u64
0, Value.int IntKind.u64 0] 4 true, Blk.cells [Value.int IntKind.u64 (↑S.x0 : Int), Value.int IntKind.u64 (↑S.x1 : Int), Value.int IntKind.u64 (↑S.x2 : Int), Value.int IntKind.u64 (↑S.x3 : Int)] 4 true]) ∧ ∃ (b : PS × S4
× Nat × Nat), tmps 68 [(0, Value.pointer (some { block := 0, off := 0 : Addr })), (2, Value.pointer (some { block := 1, off := 0 : Addr })), (3, Value.pointer (some { block := 2, off := 0 : Addr })), (4, Value.bool n),
(7, Value.int IntKind.u8 (↑x.snd : Int)), (8, Value.int IntKind.i64 (wr IntKind.i64 (↑x.snd : Int)))] = tmps 68 [(0, Value.pointer (some { block := 0, off := 0 : Addr })), (2, Value.pointer (some
{ block := 1, off := 0 : Addr })), (3, Value.pointer (some { block := 2, off := 0 : Addr })), (4, Value.bool n), (7, Value.int IntKind.u8 (↑b.snd.snd.snd : Int)), (8, Value.int IntKind.i64 (↑b.snd.snd.fst : Int))] ∧ hp
[Blk.cells [Value.string s, Value.int IntKind.i64 (↑{ a := (↑x.fst.a : Int).toNat, b := x.fst.b : PS }.a : Int), Value.bool true] 3 true, Blk.cells [Value.int IntKind.u64 0, Value.int IntKind.u64 0, Value.int IntKind.u64
0, Value.int IntKind.u64 0] 4 true, Blk.cells [Value.int IntKind.u64 (↑S.x0 : Int), Value.int IntKind.u64 (↑S.x1 : Int), Value.int IntKind.u64 (↑S.x2 : Int), Value.int IntKind.u64 (↑S.x3 : Int)] 4 true] = hp [Blk.cells
[Value.string s, Value.int IntKind.i64 (↑b.fst.a : Int), Value.bool b.fst.b] 3 true, Blk.cells [Value.int IntKind.u64 0, Value.int IntKind.u64 0, Value.int IntKind.u64 0, Value.int IntKind.u64 0] 4 true, Blk.cells
[Value.int IntKind.u64 (↑b.snd.fst.x0 : Int), Value.int IntKind.u64 (↑b.snd.fst.x1 : Int), Value.int IntKind.u64 (↑b.snd.fst.x2 : Int), Value.int IntKind.u64 (↑b.snd.fst.x3 : Int)] 4 true] ∧ b.snd.fst.ok ∧
b.snd.snd.fst.succ.le 257 ∧ b.snd.snd.snd.succ.le 256 ∧ K AE.normal (tmps 68 [(0, Value.pointer (some { block := 0, off := 0 : Addr })), (2, Value.pointer (some { block := 1, off := 0 : Addr })), (3, Value.pointer (some
{ block := 2, off := 0 : Addr })), (4, Value.bool n), (5, Value.bool false)]) (hp [Blk.cells [Value.string s, Value.int IntKind.i64 (↑b.fst.a : Int), Value.bool b.fst.b] 3 true, Blk.cells [Value.int IntKind.u64 0,
Value.int IntKind.u64 0, Value.int IntKind.u64 0, Value.int IntKind.u64 0] 4 true, Blk.cells [Value.int IntKind.u64 (↑(rngA b.snd.fst b.snd.snd.fst b.snd.snd.snd).x0 : Int), Value.int IntKind.u64 (↑(rngA b.snd.fst
b.snd.snd.fst b.snd.snd.snd).x1 : Int), Value.int IntKind.u64 (↑(rngA b.snd.fst b.snd.snd.fst b.snd.snd.snd).x2 : Int), Value.int IntKind.u64 (↑(rngA b.snd.fst b.snd.snd.fst b.snd.snd.snd).x3 : Int)] 4 true])) (FlatD []
(hp [Blk.cells [Value.string s, Value.int IntKind.i64 (↑{ a := (↑x.fst.a : Int).toNat, b := x.fst.b : PS }.a : Int), Value.bool (ltI (↑x.snd : Int) (↑x.snd : Int))] 3 true, Blk.cells [Value.int IntKind.u64 0, Value.int
IntKind.u64 0, Value.int IntKind.u64 0, Value.int IntKind.u64 0] 4 true, Blk.cells [Value.int IntKind.u64 (↑S.x0 : Int), Value.int IntKind.u64 (↑S.x1 : Int), Value.int IntKind.u64 (↑S.x2 : Int), Value.int IntKind.u64
(↑S.x3 : Int)] 4 true]) ∧ ∃ (b : PS × S4 × Nat × Nat), tmps 68 [(0, Value.pointer (some { block := 0, off := 0 : Addr })), (2, Value.pointer (some { block := 1, off := 0 : Addr })), (3, Value.pointer (some
{ block := 2, off := 0 : Addr })), (4, Value.bool n), (7, Value.int IntKind.u8 (↑x.snd : Int)), (8, Value.int IntKind.i64 (wr IntKind.i64 (↑x.snd : Int)))] = tmps 68 [(0, Value.pointer (some
{ block := 0, off := 0 : Addr })), (2, Value.pointer (some { block := 1, off := 0 : Addr })), (3, Value.pointer (some { block := 2, off := 0 : Addr })), (4, Value.bool n), (7, Value.int IntKind.u8 (↑b.snd.snd.snd :
Int)), (8, Value.int IntKind.i64 (↑b.snd.snd.fst : Int))] ∧ hp [Blk.cells [Value.string s, Value.int IntKind.i64 (↑{ a := (↑x.fst.a : Int).toNat, b := x.fst.b : PS }.a : Int), Value.bool (ltI (↑x.snd : Int) (↑x.snd :
Int))] 3 true, Blk.cells [Value.int IntKind.u64 0, Value.int IntKind.u64 0, Value.int IntKind.u64 0, Value.int IntKind.u64 0] 4 true, Blk.cells [Value.int IntKind.u64 (↑S.x0 : Int), Value.int IntKind.u64 (↑S.x1 : Int),
Value.int IntKind.u64 (↑S.x2 : Int), Value.int IntKind.u64 (↑S.x3 : Int)] 4 true] = hp [Blk.cells [Value.string s, Value.int IntKind.i64 (↑b.fst.a : Int), Value.bool b.fst.b] 3 true, Blk.cells [Value.int IntKind.u64 0,
Value.int IntKind.u64 0, Value.int IntKind.u64 0, Value.int IntKind.u64 0] 4 true, Blk.cells [Value.int IntKind.u64 (↑b.snd.fst.x0 : Int), Value.int IntKind.u64 (↑b.snd.fst.x1 : Int), Value.int IntKind.u64 (↑b.snd.fst.x2
: Int), Value.int IntKind.u64 (↑b.snd.fst.x3 : Int)] 4 true] ∧ b.snd.fst.ok ∧ b.snd.snd.fst.succ.le 257 ∧ b.snd.snd.snd.succ.le 256 ∧ K AE.normal (tmps 68 [(0, Value.pointer (some { block := 0, off := 0 : Addr })), (2,
Value.pointer (some { block := 1, off := 0 : Addr })), (3, Value.pointer (some { block := 2, off := 0 : Addr })), (4, Value.bool n), (5, Value.bool false)]) (hp [Blk.cells [Value.string s, Value.int IntKind.i64 (↑b.fst.a
: Int), Value.bool b.fst.b] 3 true, Blk.cells [Value.int IntKind.u64 0, Value.int IntKind.u64 0, Value.int IntKind.u64 0, Value.int IntKind.u64 0] 4 true, Blk.cells [Value.int IntKind.u64 (↑(rngA b.snd.fst b.snd.snd.fst
b.snd.snd.snd).x0 : Int), Value.int IntKind.u64 (↑(rngA b.snd.fst b.snd.snd.fst b.snd.snd.snd).x1 : Int), Value.int IntKind.u64 (↑(rngA b.snd.fst b.snd.snd.fst b.snd.snd.snd).x2 : Int), Value.int IntKind.u64 (↑(rngA
b.snd.fst b.snd.snd.fst b.snd.snd.snd).x3 : Int)] 4 true]))) ((FlatL [Value.string s, Value.int IntKind.i64 (wr IntKind.i64 (intV (Value.int IntKind.i64 (↑{ a := (↑x.fst.a : Int).toNat, b := x.fst.b : PS }.a : Int)) +
1)), Value.bool { a := (↑x.fst.a : Int).toNat, b := x.fst.b : PS }.b] ∧ True) ∧ (POk s (wr IntKind.i64 (intV (Value.int IntKind.i64 (↑{ a := (↑x.fst.a : Int).toNat, b := x.fst.b : PS }.a : Int)) + 1)) ∧ RN []) ∧ ∀ (x_1 :
PS × Nat), x_1 = (mbP s { a := (wr IntKind.i64 (intV (Value.int IntKind.i64 (↑{ a := (↑x.fst.a : Int).toNat, b := x.fst.b : PS }.a : Int)) + 1)).toNat, b := { a := (↑x.fst.a : Int).toNat, b := x.fst.b : PS }.b : PS },
mbV s { a := (wr IntKind.i64 (intV (Value.int IntKind.i64 (↑{ a := (↑x.fst.a : Int).toNat, b := x.fst.b : PS }.a : Int)) + 1)).toNat, b := { a := (↑x.fst.a : Int).toNat, b := x.fst.b : PS }.b : PS }) → Alt (boolV
(Value.bool x_1.fst.b)) (FlatD [] (hp [Blk.cells [Value.string s, Value.int IntKind.i64 (↑x_1.fst.a : Int), Value.bool true] 3 true, Blk.cells [Value.int IntKind.u64 0, Value.int IntKind.u64 0, Value.int IntKind.u64 0,
Value.int IntKind.u64 0] 4 true, Blk.cells [Value.int IntKind.u64 (↑S.x0 : Int), Value.int IntKind.u64 (↑S.x1 : Int), Value.int IntKind.u64 (↑S.x2 : Int), Value.int IntKind.u64 (↑S.x3 : Int)] 4 true]) ∧ ∃ (b : PS × S4 ×
Nat × Nat), tmps 68 [(0, Value.pointer (some { block := 0, off := 0 : Addr })), (2, Value.pointer (some { block := 1, off := 0 : Addr })), (3, Value.pointer (some { block := 2, off := 0 : Addr })), (4, Value.bool n), (7,
Value.int IntKind.u8 (↑x_1.snd : Int)), (8, Value.int IntKind.i64 (wr IntKind.i64 (↑x.snd : Int)))] = tmps 68 [(0, Value.pointer (some { block := 0, off := 0 : Addr })), (2, Value.pointer (some
{ block := 1, off := 0 : Addr })), (3, Value.pointer (some { block := 2, off := 0 : Addr })), (4, Value.bool n), (7, Value.int IntKind.u8 (↑b.snd.snd.snd : Int)), (8, Value.int IntKind.i64 (↑b.snd.snd.fst : Int))] ∧ hp
[Blk.cells [Value.string s, Value.int IntKind.i64 (↑x_1.fst.a : Int), Value.bool true] 3 true, Blk.cells [Value.int IntKind.u64 0, Value.int IntKind.u64 0, Value.int IntKind.u64 0, Value.int IntKind.u64 0] 4 true,
Blk.cells [Value.int IntKind.u64 (↑S.x0 : Int), Value.int IntKind.u64 (↑S.x1 : Int), Value.int IntKind.u64 (↑S.x2 : Int), Value.int IntKind.u64 (↑S.x3 : Int)] 4 true] = hp [Blk.cells [Value.string s, Value.int
IntKind.i64 (↑b.fst.a : Int), Value.bool b.fst.b] 3 true, Blk.cells [Value.int IntKind.u64 0, Value.int IntKind.u64 0, Value.int IntKind.u64 0, Value.int IntKind.u64 0] 4 true, Blk.cells [Value.int IntKind.u64
(↑b.snd.fst.x0 : Int), Value.int IntKind.u64 (↑b.snd.fst.x1 : Int), Value.int IntKind.u64 (↑b.snd.fst.x2 : Int), Value.int IntKind.u64 (↑b.snd.fst.x3 : Int)] 4 true] ∧ b.snd.fst.ok ∧ b.snd.snd.fst.succ.le 257 ∧
b.snd.snd.snd.succ.le 256 ∧ K AE.normal (tmps 68 [(0, Value.pointer (some { block := 0, off := 0 : Addr })), (2, Value.pointer (some { block := 1, off := 0 : Addr })), (3, Value.pointer (some
{ block := 2, off := 0 : Addr })), (4, Value.bool n), (5, Value.bool false)]) (hp [Blk.cells [Value.string s, Value.int IntKind.i64 (↑b.fst.a : Int), Value.bool b.fst.b] 3 true, Blk.cells [Value.int IntKind.u64 0,
Value.int IntKind.u64 0, Value.int IntKind.u64 0, Value.int IntKind.u64 0] 4 true, Blk.cells [Value.int IntKind.u64 (↑(rngA b.snd.fst b.snd.snd.fst b.snd.snd.snd).x0 : Int), Value.int IntKind.u64 (↑(rngA b.snd.fst
b.snd.snd.fst b.snd.snd.snd).x1 : Int), Value.int IntKind.u64 (↑(rngA b.snd.fst b.snd.snd.fst b.snd.snd.snd).x2 : Int), Value.int IntKind.u64 (↑(rngA b.snd.fst b.snd.snd.fst b.snd.snd.snd).x3 : Int)] 4 true])) (FlatD []
(hp [Blk.cells [Value.string s, Value.int IntKind.i64 (↑x_1.fst.a : Int), Value.bool (ltI (↑x_1.snd : Int) (↑x.snd : Int))] 3 true, Blk.cells [Value.int IntKind.u64 0, Value.int IntKind.u64 0, Value.int IntKind.u64 0,
Value.int IntKind.u64 0] 4 true, Blk.cells [Value.int IntKind.u64 (↑S.x0 : Int), Value.int IntKind.u64 (↑S.x1 : Int), Value.int IntKind.u64 (↑S.x2 : Int), Value.int IntKind.u64 (↑S.x3 : Int)] 4 true]) ∧ ∃ (b : PS × S4 ×
Nat × Nat), tmps 68 [(0, Value.pointer (some { block := 0, off := 0 : Addr })), (2, Value.pointer (some { block := 1, off := 0 : Addr })), (3, Value.pointer (some { block := 2, off := 0 : Addr })), (4, Value.bool n), (7,
Value.int IntKind.u8 (↑x_1.snd : Int)), (8, Value.int IntKind.i64 (wr IntKind.i64 (↑x.snd : Int)))] = tmps 68 [(0, Value.pointer (some { block := 0, off := 0 : Addr })), (2, Value.pointer (some
{ block := 1, off := 0 : Addr })), (3, Value.pointer (some { block := 2, off := 0 : Addr })), (4, Value.bool n), (7, Value.int IntKind.u8 (↑b.snd.snd.snd : Int)), (8, Value.int IntKind.i64 (↑b.snd.snd.fst : Int))] ∧ hp
[Blk.cells [Value.string s, Value.int IntKind.i64 (↑x_1.fst.a : Int), Value.bool (ltI (↑x_1.snd : Int) (↑x.snd : Int))] 3 true, Blk.cells [Value.int IntKind.u64 0, Value.int IntKind.u64 0, Value.int IntKind.u64 0,
Value.int IntKind.u64 0] 4 true, Blk.cells [Value.int IntKind.u64 (↑S.x0 : Int), Value.int IntKind.u64 (↑S.x1 : Int), Value.int IntKind.u64 (↑S.x2 : Int), Value.int IntKind.u64 (↑S.x3 : Int)] 4 true] = hp [Blk.cells
[Value.string s, Value.int IntKind.i64 (↑b.fst.a : Int), Value.bool b.fst.b] 3 true, Blk.cells [Value.int IntKind.u64 0, Value.int IntKind.u64 0, Value.int IntKind.u64 0, Value.int IntKind.u64 0] 4 true, Blk.cells
[Value.int IntKind.u64 (↑b.snd.fst.x0 : Int), Value.int IntKind.u64 (↑b.snd.fst.x1 : Int), Value.int IntKind.u64 (↑b.snd.fst.x2 : Int), Value.int IntKind.u64 (↑b.snd.fst.x3 : Int)] 4 true] ∧ b.snd.fst.ok ∧
b.snd.snd.fst.succ.le 257 ∧ b.snd.snd.snd.succ.le 256 ∧ K AE.normal (tmps 68 [(0, Value.pointer (some { block := 0, off := 0 : Addr })), (2, Value.pointer (some { block := 1, off := 0 : Addr })), (3, Value.pointer (some
{ block := 2, off := 0 : Addr })), (4, Value.bool n), (5, Value.bool false)]) (hp [Blk.cells [Value.string s, Value.int IntKind.i64 (↑b.fst.a : Int), Value.bool b.fst.b] 3 true, Blk.cells [Value.int IntKind.u64 0,
Value.int IntKind.u64 0, Value.int IntKind.u64 0, Value.int IntKind.u64 0] 4 true, Blk.cells [Value.int IntKind.u64 (↑(rngA b.snd.fst b.snd.snd.fst b.snd.snd.snd).x0 : Int), Value.int IntKind.u64 (↑(rngA b.snd.fst
b.snd.snd.fst b.snd.snd.snd).x1 : Int), Value.int IntKind.u64 (↑(rngA b.snd.fst b.snd.snd.fst b.snd.snd.snd).x2 : Int), Value.int IntKind.u64 (↑(rngA b.snd.fst b.snd.snd.fst b.snd.snd.snd).x3 : Int)] 4 true])))) (K
(AE.exit 0) (tmps 68 [(0, Value.pointer (some { block := 0, off := 0 : Addr })), (2, Value.pointer (some { block := 1, off := 0 : Addr })), (3, Value.pointer (some { block := 2, off := 0 : Addr })), (4, Value.bool n)])
(hp [Blk.cells [Value.string s, Value.int IntKind.i64 (↑{ a := (↑p.a : Int).toNat, b := p.b : PS }.a : Int), Value.bool { a := (↑p.a : Int).toNat, b := p.b : PS }.b] 3 true, Blk.cells [Value.int IntKind.u64 0, Value.int
IntKind.u64 0, Value.int IntKind.u64 0, Value.int IntKind.u64 0] 4 true, Blk.cells [Value.int IntKind.u64 (↑S.x0 : Int), Value.int IntKind.u64 (↑S.x1 : Int), Value.int IntKind.u64 (↑S.x2 : Int), Value.int IntKind.u64
(↑S.x3 : Int)] 4 true]))) (K (AE.exit 0) (tmps 68 [(0, Value.pointer (some { block := 0, off := 0 : Addr })), (2, Value.pointer (some { block := 1, off := 0 : Addr })), (3, Value.pointer (some
{ block := 2, off := 0 : Addr })), (4, Value.bool n)]) (hp [Blk.cells [Value.string s, Value.int IntKind.i64 (↑p.a : Int), Value.bool p.b] 3 true, Blk.cells [Value.int IntKind.u64 0, Value.int IntKind.u64 0, Value.int
IntKind.u64 0, Value.int IntKind.u64 0] 4 true, Blk.cells [Value.int IntKind.u64 (↑S.x0 : Int), Value.int IntKind.u64 (↑S.x1 : Int), Value.int IntKind.u64 (↑S.x2 : Int), Value.int IntKind.u64 (↑S.x3 : Int)] 4 true])))) := by kernel_rfl

theorem i64_u8 (c : Nat) (h : c < 257) : wr .i64 (c : Int) = (c : Int) := by rw [wr_eq]; simp [IntKind.wrap, IntKind.bits, IntKind.signed]; omega
theorem u8_i64 (c : Nat) (h : c < 256) : wr .u8 (c : Int) = (c : Int) := by rw [wr_eq]; simp [IntKind.wrap, IntKind.bits, IntKind.signed]; omega
theorem H557_D (s : ByteArray) (a : Int) (b : Bool) (S : S4) : FlatD [] (hp [.cells [.string s, .int .i64 a, .bool b] 3 true, .cells [.int .u64 0, .int .u64 0, .int .u64 0, .int .u64 0] 4 true, .cells (s4C S) 4 true]) := FlatD.hp ⟨pB_flat s a b, s4_flat ⟨0, 0, 0, 0⟩, s4_flat S, trivial⟩
section
variable (hm : Try.prog.follows .mixedOrders = true)
include hm
theorem sure557 : Sure Try.prog (S557 hm) := Sure.addI (Sure.withS ⟨hm, plain, bookW_ok (bookOf_ok (l := [(93, turnedC)]) ⟨turned_says hm, trivial⟩) (l := [(66, seesC), (94, addC)]) ⟨sees_says hm, add_says hm, trivial⟩⟩ (l := [(110, memX.summ (memX_says hm))]) ⟨memX.sum_ok _, trivial⟩) ⟨⟨Try.func55, rfl⟩, ⟨Try.func65, rfl⟩, trivial⟩
theorem inner (s : ByteArray) (n : Bool) (p : PS) (t : Nat) (ht : t < 256) (K : Post) : ∀ (q c : Nat) (S : S4), S.ok → c < 257 → t + 1 - c = q → K (.exit 2) (T557e n) (H557 s p (rngA S c t)) →
    LSays Try.prog 1 (sub body557 [0, 0, 1, 1, 1, 1, 1, 0, 0, 1, 0, 0, 1, 0, 1, 1, 1]) (T557i n t c) (H557 s p S) K := by
  intro q
  induction q with
  | zero =>
    intro c S hS hc hq hK
    refine (sure557 hm).roundX F557 noLoops [] [] [] [] [0,2,3,4,7,8] ?_
    rw [r557i]
    rw [i64_u8 t (by omega), show leI (c : Int) (t : Int) = false by rw [leI_eq, decide_eq_false]; omega]
    rw [rngA_end (by omega)] at hK
    exact ⟨H557_D _ _ _ _, hK⟩
  | succ q ih =>
    intro c S hS hc hq hK
    refine (sure557 hm).roundX F557 noLoops [] [] [] [] [0,2,3,4,7,8] ?_
    rw [r557i]
    rw [i64_u8 t (by omega), show leI (c : Int) (t : Int) = true by rw [leI_iff]; omega, u8_i64 c (by omega), nx c (by omega)]
    rw [rngA_more (by omega)] at hK
    refine ⟨⟨s4_flat S, trivial⟩, ⟨⟨by omega, by have := hS.h0; omega⟩, ⟨by omega, by have := hS.h1; omega⟩, ⟨by omega, by have := hS.h2; omega⟩, ⟨by omega, by have := hS.h3; omega⟩, ⟨by omega, by omega⟩⟩, ?_⟩
    simp only [Int.toNat_natCast]
    exact ⟨H557_D _ _ _ _, ih (c + 1) (addS S c) (addS_ok hS c) (by omega) (by omega) hK⟩
theorem innerL (s : ByteArray) (n : Bool) : Loops Try.prog body557 1 (cutE [cut557i s n]) := Loops.noneE.moreE _ fun x K hq => by
  obtain ⟨q1, q2, q3, q4⟩ := hq
  exact inner hm s n x.1 x.2.2.2 q3 K _ x.2.2.1 x.2.1 q1 q2 rfl q4
end

end Go.Proofs.Ytfgiifppapopnaa
