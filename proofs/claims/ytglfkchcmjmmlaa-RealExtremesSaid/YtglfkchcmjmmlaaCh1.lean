/- Proved: what functions of the program come to, by their conditions over the abstract machine. Conditions: those that each theorem states. -/
import Derived.Test.YtglfkchcmjmmlaaAm4
import Derived.Test.YtglfkchcmjmmlaaProg
import Derived.WalkKit
import Derived.ProofKit
import Derived.Laws.BitsLemmas
set_option linter.unusedVariables false
set_option linter.unusedSimpArgs false
namespace Go.Proofs.Ytglfkchcmjmmlaa
open Go.RowKit Go.Proofs.Ytglfkchcmjmmlaa.AM
set_option maxRecDepth 100000
set_option maxHeartbeats 4000000
noncomputable def S0 : Book := fun _ => none
theorem named : (Try.prog.funcs.toList.all fun fn => !(fn.name == "runtime.NumGoroutine")) = true := by decide +kernel
theorem plain : Plain Try.prog := fun f fn hf _ hn => by
  have h1 := List.all_eq_true.1 named fn (by simpa using Array.mem_of_getElem? hf)
  rw [hn] at h1
  exact absurd h1 (by decide)
theorem sums0 : SumsOk Try.prog S0.sums := fun f s hs => by cases hs
theorem sure0 (hmix : Try.prog.follows .mixedOrders = true) : Sure Try.prog S0 := ⟨hmix, plain, sums0⟩
theorem f64_of {x : Nat} (h : (Lit.float .f64 x).wf = true) : x < 18446744073709551616 := by simpa [Lit.wf] using h
theorem u64_of {x : Int} (h : (Lit.int .u64 x).wf = true) : 0 ≤ x ∧ x < 18446744073709551616 := by
  simp [Lit.wf, IntKind.min, IntKind.max, IntKind.bits, IntKind.signed] at h; omega
theorem wr_u64 (n : Int) (h0 : 0 ≤ n) (h1 : n < 18446744073709551616) : wr .u64 n = n := by
  rw [wr_eq]; simp [IntKind.wrap, IntKind.bits, IntKind.signed]; omega
theorem ofInt_nat (n : Nat) : BitVec.ofInt 64 (n : Int) = BitVec.ofNat 64 n := by simp
/-- the highest bit -/
theorem and_high (n : Nat) (h : n < 18446744073709551616) : bitsW .and .u64 (n : Int) 9223372036854775808 = if n < 9223372036854775808 then 0 else 9223372036854775808 := by
  have e : ((BitVec.ofInt 64 (n : Int)) &&& BitVec.ofInt 64 9223372036854775808).toNat = if n < 9223372036854775808 then 0 else 9223372036854775808 := by
    have e1 : BitVec.ofInt 64 9223372036854775808 = BitVec.twoPow 64 63 := by decide
    rw [ofInt_nat, e1, BitVec.and_twoPow]
    have hg : (BitVec.ofNat 64 n).getLsbD 63 = n.testBit 63 := by
      simp only [BitVec.getLsbD, BitVec.toNat_ofNat]
      rw [Nat.mod_eq_of_lt (by simpa using h)]
    rw [hg]
    by_cases hn : n < 9223372036854775808
    · rw [Nat.testBit_lt_two_pow (by simpa using hn), if_pos hn]; rfl
    · rw [if_neg hn, show n.testBit 63 = true from by
        rw [Nat.testBit_eq_decide_div_mod_eq, decide_eq_true_iff]; omega]
      decide
  show wr .u64 (((BitVec.ofInt 64 (n : Int)) &&& BitVec.ofInt 64 9223372036854775808).toNat : Int) = _
  rw [e]
  split
  · rfl
  · rfl
theorem or_high (n : Nat) (h : n < 9223372036854775808) : bitsW .or .u64 (n : Int) 9223372036854775808 = (n : Int) + 9223372036854775808 := by
  have e : ((BitVec.ofInt 64 (n : Int)) ||| BitVec.ofInt 64 9223372036854775808).toNat = n + 9223372036854775808 := by
    rw [ofInt_nat, show (9223372036854775808 : Int) = ((9223372036854775808 : Nat) : Int) from rfl, ofInt_nat, BitVec.toNat_or, BitVec.toNat_ofNat, BitVec.toNat_ofNat, Nat.mod_eq_of_lt (by simp; omega)]
    rw [show 9223372036854775808 % 2 ^ 64 = 2 ^ 63 * 1 by decide, Nat.or_comm, Nat.two_pow_add_eq_or_of_lt (by simpa using h) 1 |>.symm]
    omega
  show wr .u64 (((BitVec.ofInt 64 (n : Int)) ||| BitVec.ofInt 64 9223372036854775808).toNat : Int) = _
  rw [e, wr_u64 _ (by omega) (by omega)]; rfl
theorem not_all (n : Nat) (h : n < 18446744073709551616) : (BitVec.ofInt 64 18446744073709551615 ^^^ BitVec.ofInt 64 (n : Int)).toNat = 18446744073709551615 - n := by
  have e1 : BitVec.ofInt 64 18446744073709551615 = BitVec.allOnes 64 := by decide
  rw [e1, BitVec.allOnes_xor, BitVec.toNat_not, ofInt_nat, BitVec.toNat_ofNat, Nat.mod_eq_of_lt (by simpa using h)]
end Go.Proofs.Ytglfkchcmjmmlaa

namespace Go.Proofs.Ytglfkchcmjmmlaa
open Go.RowKit Go.Proofs.Ytglfkchcmjmmlaa.AM
set_option maxRecDepth 100000
set_option maxHeartbeats 4000000
/-- a contract of a function that asks no memory -/
noncomputable def flC (ok : List Value → Prop) (g : List Value → Value) : Ctr where
  pre := fun args blks => match blks with
    | [] => ok args
    | _ => False
  val := fun args _ => g args
  new := fun _ _ => []
theorem flC_of {f : FuncId} {ok : List Value → Prop} {g : List Value → Value} (hs : ∀ args, ok args → FunSays Try.prog f args (hp []) fun v h' => v = g args ∧ h' = hp []) : (flC ok g).Holds Try.prog f := by
  intro args blks hf hp
  refine ⟨trivial, ?_⟩
  simp only [flC] at hp ⊢
  split at hp
  · exact hs _ hp
  · exact hp.elim
noncomputable def body342 : Code := (Try.f42.body).getD .skip
def F342 : List Nat → Option (List Nat) := fun p => match p with
  | [1] => some [0]
  | [1, 1] => some [2]
  | _ => none
noncomputable def body330 : Code := (Try.f30.body).getD .skip
def F330 : List Nat → Option (List Nat) := fun p => match p with
  | [1] => some [0]
  | [1, 0, 1] => some [0, 5]
  | [1, 0, 1, 0, 1] => some [2]
  | [1, 1] => some [0]
  | [1, 1, 1] => some [2]
  | _ => none
noncomputable def body344 : Code := (Try.f44.body).getD .skip
def F344 : List Nat → Option (List Nat) := fun p => match p with
  | [1] => some [0]
  | [1, 1] => some [2]
  | _ => none
noncomputable def body315 : Code := (Try.f15.body).getD .skip
def F315 : List Nat → Option (List Nat) := fun p => match p with
  | [1] => some []
  | [1, 1] => some [0]
  | _ => none
noncomputable def body332 : Code := (Try.f32.body).getD .skip
def F332 : List Nat → Option (List Nat) := fun p => match p with
  | [1] => some [0]
  | [1, 1] => some [0]
  | [1, 0, 1, 1] => some [5]
  | [1, 1, 1] => some [3]
  | [1, 1, 1, 1] => some [2]
  | _ => none
noncomputable def body313 : Code := (Try.f13.body).getD .skip
def F313 : List Nat → Option (List Nat) := fun p => match p with
  | [1] => some [0, 1]
  | [1, 1] => some [4]
  | _ => none
noncomputable def body329 : Code := (Try.f29.body).getD .skip
def F329 : List Nat → Option (List Nat) := fun p => match p with
  | [1] => some [0]
  | [1, 1] => some [0, 4]
  | [1, 0, 1, 1] => some [4, 13]
  | [1, 0, 1, 0, 1, 1] => some [2, 3]
  | [1, 1, 1] => some [4]
  | [1, 1, 1, 1] => some [2, 3]
  | _ => none

theorem w342 (a : Nat) (K : Value → Heap → Prop) :
  funK Try.prog S0 noLoop F342 body342 Try.f42 [.float .f64 a] (hp []) K = (
K (Value.bool !fEq a a) (hp [])) := by kernel_rfl

theorem w330 (a : Nat) (K : Value → Heap → Prop) :
  funK Try.prog S0 noLoop F330 body330 Try.f30 [.float .f64 a] (hp []) K = (
Alt (!fEq a a) (K (Value.int IntKind.u64 9221120237041090561) (hp [])) (K (Value.int IntKind.u64 (↑a : Int)) (hp []))) := by kernel_rfl

theorem w344 (a : Nat) (K : Value → Heap → Prop) :
  funK Try.prog S0 noLoop F344 body344 Try.f44 [.float .f64 a] (hp []) K = (
K (Value.bool (ltI (wr IntKind.i64 (↑a : Int)) 0)) (hp [])) := by kernel_rfl

theorem w315 (K : Value → Heap → Prop) :
  funK Try.prog S0 noLoop F315 body315 Try.f15 [] (hp []) K = (
K (Value.float FloatKind.f64 9221120237041090561) (hp [])) := by kernel_rfl

theorem w332 (s : Int) (K : Value → Heap → Prop) :
  funK Try.prog S0 noLoop F332 body332 Try.f32 [.int .i64 s] (hp []) K = (
Alt (leI 0 s) (K (Value.float FloatKind.f64 9218868437227405312) (hp []))
  (K (Value.float FloatKind.f64 18442240474082181120) (hp []))) := by kernel_rfl

theorem w313 (a b : Nat) (K : Value → Heap → Prop) :
  funK Try.prog S0 noLoop F313 body313 Try.f13 [.float .f64 a, .float .f64 b] (hp []) K = (
K
  (Value.float FloatKind.f64
    (bitsW BinOp.or IntKind.u64 (bitsW BinOp.andNot IntKind.u64 (↑a : Int) 9223372036854775808)
        (bitsW BinOp.and IntKind.u64 (↑b : Int) 9223372036854775808)).toNat)
  (hp [])) := by kernel_rfl

theorem w329 (u : Int) (K : Value → Heap → Prop) :
  funK Try.prog S0 noLoop F329 body329 Try.f29 [.int .u64 u] (hp []) K = (
Alt (!fEq u.toNat u.toNat)
  (Alt (!eqI u 9221120237041090561) (K (Value.tuple #[Value.float FloatKind.f64 0, Value.bool false]) (hp []))
    (K (Value.tuple #[Value.float FloatKind.f64 u.toNat, Value.bool true]) (hp [])))
  (K (Value.tuple #[Value.float FloatKind.f64 u.toNat, Value.bool true]) (hp []))) := by kernel_rfl

theorem fEq_self (a : Nat) : fEq a a = !fNan a := by unfold fEq; simp
/-- a float's bits, all that are no number one -/
def fBits (a : Nat) : Int := cond (fNan a) 9221120237041090561 (a : Int)
def okF : List Value → Prop := fun xs => match xs with
  | [.float .f64 a] => Need (leN a 18446744073709551615) True
  | _ => False
noncomputable def fltA (xs : List Value) (i : Nat) : Nat := fltV ((getO xs i).getD (.bool false))
theorem okF_eq {xs : List Value} (h : okF xs) : ∃ a : Nat, xs = [.float .f64 a] ∧ a ≤ 18446744073709551615 := by
  unfold okF at h
  split at h
  · simp only [Alt_iff, Need_iff, ltI_eq, leI_eq, eqI_eq, leN_eq, eqN_eq, decide_eq_true_eq, decide_eq_false_iff_not, decide_true, decide_false, true_and, and_true, Bool.true_eq_false, Bool.false_eq_true, false_implies, true_implies, implies_true, not_true_eq_false, not_false_eq_true, Bool.not_eq_true', Bool.not_eq_false'] at h
    exact ⟨_, rfl, h⟩
  · exact h.elim
def okFF : List Value → Prop := fun xs => match xs with
  | [.float .f64 a, .float .f64 b] => Need (leN a 18446744073709551615) (Need (leN b 18446744073709551615) True)
  | _ => False
theorem okFF_eq {xs : List Value} (h : okFF xs) : ∃ a b : Nat, xs = [.float .f64 a, .float .f64 b] ∧ a ≤ 18446744073709551615 ∧ b ≤ 18446744073709551615 := by
  unfold okFF at h
  split at h
  · simp only [Alt_iff, Need_iff, ltI_eq, leI_eq, eqI_eq, leN_eq, eqN_eq, decide_eq_true_eq, decide_eq_false_iff_not, decide_true, decide_false, true_and, and_true, Bool.true_eq_false, Bool.false_eq_true, false_implies, true_implies, implies_true, not_true_eq_false, not_false_eq_true, Bool.not_eq_true', Bool.not_eq_false'] at h
    exact ⟨_, _, rfl, h⟩
  · exact h.elim
def okU : List Value → Prop := fun xs => match xs with
  | [.int .u64 u] => Need (leI 0 u) (Need (leI u 18446744073709551615) True)
  | _ => False
theorem okU_eq {xs : List Value} (h : okU xs) : ∃ u : Int, xs = [.int .u64 u] ∧ 0 ≤ u ∧ u ≤ 18446744073709551615 := by
  unfold okU at h
  split at h
  · simp only [Alt_iff, Need_iff, ltI_eq, leI_eq, eqI_eq, leN_eq, eqN_eq, decide_eq_true_eq, decide_eq_false_iff_not, decide_true, decide_false, true_and, and_true, Bool.true_eq_false, Bool.false_eq_true, false_implies, true_implies, implies_true, not_true_eq_false, not_false_eq_true, Bool.not_eq_true', Bool.not_eq_false'] at h
    exact ⟨_, rfl, h⟩
  · exact h.elim
noncomputable def noC : Ctr := flC okF fun xs => .bool (fNan (fltA xs 0))
noncomputable def bitsC : Ctr := flC okF fun xs => .int .u64 (fBits (fltA xs 0))
noncomputable def signC : Ctr := flC okF fun xs => .bool (leN 9223372036854775808 (fltA xs 0))
def ok0 : List Value → Prop := fun xs => match xs with
  | [] => True
  | _ => False
noncomputable def nanC : Ctr := flC ok0 fun xs => .float .f64 9221120237041090561
def okI : List Value → Prop := fun xs => match xs with
  | [.int .i64 _] => True
  | _ => False
noncomputable def infC : Ctr := flC okI fun xs => .float .f64 (cond (leI 0 (intV ((getO xs 0).getD (.bool false)))) 9218868437227405312 18442240474082181120)
noncomputable def copyC : Ctr := flC okFF fun xs => .float .f64 (bitsW BinOp.or IntKind.u64 (bitsW BinOp.andNot IntKind.u64 (fltA xs 0 : Int) 9223372036854775808) (bitsW BinOp.and IntKind.u64 (fltA xs 1 : Int) 9223372036854775808)).toNat
def fBad (u : Int) : Bool := fNan u.toNat && !eqI u 9221120237041090561
noncomputable def ofC : Ctr := flC okU fun xs => .tuple #[.float .f64 (cond (fBad (intV ((getO xs 0).getD (.bool false)))) 0 (intV ((getO xs 0).getD (.bool false))).toNat), .bool (!fBad (intV ((getO xs 0).getD (.bool false))))]
theorem no_says (hmix : Try.prog.follows .mixedOrders = true) : noC.Holds Try.prog 42 := flC_of fun xs h => by
  obtain ⟨a, rfl, ha⟩ := okF_eq h
  refine (sure0 hmix).fun F342 body342 Try.func42 rfl noLoops ?_
  rw [w342, fEq_self, Bool.not_not]
  exact ⟨rfl, FlatH.empty, rfl, rfl⟩
theorem rbits_says (hmix : Try.prog.follows .mixedOrders = true) : bitsC.Holds Try.prog 30 := flC_of fun xs h => by
  obtain ⟨a, rfl, ha⟩ := okF_eq h
  refine (sure0 hmix).fun F330 body330 Try.func30 rfl noLoops ?_
  rw [w330, fEq_self, Bool.not_not]
  show Alt _ (_ ∧ _ ∧ _ = Value.int .u64 (fBits a) ∧ _) (_ ∧ _ ∧ _ = Value.int .u64 (fBits a) ∧ _)
  unfold fBits
  cases fNan a <;> exact ⟨rfl, FlatH.empty, rfl, rfl⟩
theorem sign_says (hmix : Try.prog.follows .mixedOrders = true) : signC.Holds Try.prog 44 := flC_of fun xs h => by
  obtain ⟨a, rfl, ha⟩ := okF_eq h
  refine (sure0 hmix).fun F344 body344 Try.func44 rfl noLoops ?_
  rw [w344]
  refine ⟨rfl, FlatH.empty, ?_, rfl⟩
  show Value.bool _ = Value.bool (leN 9223372036854775808 a)
  congr 1
  rw [wr_eq, ltI_eq, leN_eq]
  by_cases h : 9223372036854775808 ≤ a
  · simp only [h, decide_true, decide_eq_true_eq]; simp [IntKind.wrap, IntKind.bits, IntKind.signed]; omega
  · simp only [h, decide_false, decide_eq_false_iff_not]; simp [IntKind.wrap, IntKind.bits, IntKind.signed]; omega
theorem nan_says (hmix : Try.prog.follows .mixedOrders = true) : nanC.Holds Try.prog 15 := flC_of fun xs h => by
  cases xs with
  | cons => exact h.elim
  | nil =>
    refine (sure0 hmix).fun F315 body315 Try.func15 rfl noLoops ?_
    rw [w315]
    exact ⟨rfl, FlatH.empty, rfl, rfl⟩
theorem inf_says (hmix : Try.prog.follows .mixedOrders = true) : infC.Holds Try.prog 32 := flC_of fun xs h => by
  unfold okI at h
  split at h
  · rename_i s
    refine (sure0 hmix).fun F332 body332 Try.func32 rfl noLoops ?_
    rw [w332]
    show Alt _ (_ ∧ _ ∧ _ = Value.float .f64 (cond (leI 0 s) _ _) ∧ _) (_ ∧ _ ∧ _ = Value.float .f64 (cond (leI 0 s) _ _) ∧ _)
    cases leI 0 s <;> exact ⟨rfl, FlatH.empty, rfl, rfl⟩
  · exact h.elim
theorem copy_says (hmix : Try.prog.follows .mixedOrders = true) : copyC.Holds Try.prog 13 := flC_of fun xs h => by
  obtain ⟨a, b, rfl, ha, hb⟩ := okFF_eq h
  refine (sure0 hmix).fun F313 body313 Try.func13 rfl noLoops ?_
  rw [w313]
  exact ⟨rfl, FlatH.empty, rfl, rfl⟩
theorem rof_says (hmix : Try.prog.follows .mixedOrders = true) : ofC.Holds Try.prog 29 := flC_of fun xs h => by
  obtain ⟨u, rfl, h0, h1⟩ := okU_eq h
  refine (sure0 hmix).fun F329 body329 Try.func29 rfl noLoops ?_
  rw [w329, fEq_self, Bool.not_not]
  show Alt _ (Alt _ (_ ∧ _ ∧ _ = Value.tuple #[.float .f64 (cond (fBad u) 0 u.toNat), .bool (!fBad u)] ∧ _) (_ ∧ _ ∧ _ = Value.tuple #[.float .f64 (cond (fBad u) 0 u.toNat), .bool (!fBad u)] ∧ _)) (_ ∧ _ ∧ _ = Value.tuple #[.float .f64 (cond (fBad u) 0 u.toNat), .bool (!fBad u)] ∧ _)
  unfold fBad
  cases fNan u.toNat <;> cases eqI u 9221120237041090561 <;> exact ⟨rfl, FlatH.empty, rfl, rfl⟩
noncomputable def S31 : Book := bookOf [(30, bitsC), (42, noC), (44, signC)]
theorem sure31 (hmix : Try.prog.follows .mixedOrders = true) : Sure Try.prog S31 := ⟨hmix, plain, bookOf_ok ⟨rbits_says hmix, no_says hmix, sign_says hmix, trivial⟩⟩
noncomputable def body320 : Code := (Try.f20.body).getD .skip
def F320 : List Nat → Option (List Nat) := fun p => match p with
  | [1] => some [0]
  | [1, 0, 1] => some [0, 4]
  | [1, 0, 1, 0, 1] => some [2]
  | [1, 1] => some [0]
  | [1, 1, 1] => some [2]
  | _ => none
noncomputable def body326 : Code := (Try.f26.body).getD .skip
def F326 : List Nat → Option (List Nat) := fun p => match p with
  | [1] => some [0]
  | [1, 1] => some [3]
  | [1, 0, 1, 1] => some [3, 8]
  | [1, 0, 1, 0, 1, 1] => some [2]
  | [1, 1, 1] => some [3]
  | [1, 1, 1, 1] => some [2]
  | _ => none
noncomputable def body324 : Code := (Try.f24.body).getD .skip
def F324 : List Nat → Option (List Nat) := fun p => match p with
  | [1] => some [0, 1]
  | [1, 0, 1] => some [0, 1, 12]
  | [1, 0, 1, 0, 1] => some [4]
  | [1, 1] => some [0, 1]
  | [1, 0, 1, 1] => some [0, 1, 23]
  | [1, 0, 1, 0, 1, 1] => some [4]
  | [1, 1, 1] => some [0, 1]
  | [1, 1, 1, 1] => some [4]
  | _ => none

theorem w320 (a : Nat) (K : Value → Heap → Prop) :
  funK Try.prog S31 noLoop F320 body320 Try.f20 [.float .f64 a] (hp []) K = (
True ∧
  Need (leN a 18446744073709551615) True ∧
    Alt (fNan (fltA [Value.float FloatKind.f64 a] 0)) (K (Value.int IntKind.u64 9221120237041090561) (hp []))
      (K (Value.int IntKind.u64 (↑a : Int)) (hp []))) := by kernel_rfl

theorem w326 (a : Nat) (K : Value → Heap → Prop) :
  funK Try.prog S31 noLoop F326 body326 Try.f26 [.float .f64 a] (hp []) K = (
True ∧
  Need (leN a 18446744073709551615) True ∧
    Alt (eqI ((fBits (fltA [Value.float FloatKind.f64 a] 0)).fdiv 9223372036854775808) 1)
      (K
        (Value.int IntKind.u64
          (IntKind.u64.wrap
            (↑(BitVec.ofInt 64 18446744073709551615 ^^^
                    BitVec.ofInt 64 (fBits (fltA [Value.float FloatKind.f64 a] 0))).toNat :
              Int)))
        (hp []))
      (K
        (Value.int IntKind.u64
          (bitsW BinOp.or IntKind.u64 (fBits (fltA [Value.float FloatKind.f64 a] 0)) 9223372036854775808))
        (hp []))) := by kernel_rfl

theorem w324 (a b : Nat) (K : Value → Heap → Prop) :
  funK Try.prog S31 noLoop F324 body324 Try.f24 [.float .f64 a, .float .f64 b] (hp []) K = (
Alt (!fEq a a) (Alt (fEq a a) (K (Value.bool !fEq b b) (hp [])) (K (Value.bool false) (hp [])))
  (Alt (!fEq b b) (Alt (fEq a a) (K (Value.bool !fEq b b) (hp [])) (K (Value.bool false) (hp [])))
    (Alt (!fEq a b) (K (Value.bool (fLt a b)) (hp []))
      (True ∧
        Need (leN a 18446744073709551615) True ∧
          Alt (leN 9223372036854775808 (fltA [Value.float FloatKind.f64 a] 0))
            (True ∧
              Need (leN b 18446744073709551615) True ∧
                K (Value.bool !leN 9223372036854775808 (fltA [Value.float FloatKind.f64 b] 0)) (hp []))
            (K (Value.bool false) (hp [])))))) := by kernel_rfl

theorem flt0 (k : FloatKind) (a : Nat) (t : List Value) : fltA (.float k a :: t) 0 = a := rfl
theorem flt1 (k l : FloatKind) (a b : Nat) (t : List Value) : fltA (.float k a :: .float l b :: t) 1 = b := rfl
theorem bits_says (hmix : Try.prog.follows .mixedOrders = true) : bitsC.Holds Try.prog 20 := flC_of fun xs h => by
  obtain ⟨a, rfl, ha⟩ := okF_eq h
  refine (sure31 hmix).fun F320 body320 Try.func20 rfl noLoops ?_
  rw [w320, flt0]
  refine ⟨trivial, Need_iff.2 ⟨leN_iff.2 ha, trivial⟩, ?_⟩
  show Alt _ (_ ∧ _ ∧ _ = Value.int .u64 (fBits a) ∧ _) (_ ∧ _ ∧ _ = Value.int .u64 (fBits a) ∧ _)
  unfold fBits
  cases fNan a <;> exact ⟨rfl, FlatH.empty, rfl, rfl⟩
/-- the number by which a float stands in the order -/
def fKey (a : Nat) : Int := if fBits a < 9223372036854775808 then fBits a + 9223372036854775808 else 18446744073709551615 - fBits a
theorem fBits_nat (a : Nat) (ha : a ≤ 18446744073709551615) : ∃ b : Nat, fBits a = (b : Int) ∧ b < 18446744073709551616 := by
  unfold fBits
  cases fNan a with
  | true => exact ⟨9221120237041090561, rfl, by decide⟩
  | false => exact ⟨a, rfl, by omega⟩
noncomputable def keyC : Ctr := flC okF fun xs => .int .u64 (fKey (fltA xs 0))
theorem rkey_says (hmix : Try.prog.follows .mixedOrders = true) : keyC.Holds Try.prog 26 := flC_of fun xs h => by
  obtain ⟨a, rfl, ha⟩ := okF_eq h
  refine (sure31 hmix).fun F326 body326 Try.func26 rfl noLoops ?_
  rw [w326, flt0]
  refine ⟨trivial, Need_iff.2 ⟨leN_iff.2 ha, trivial⟩, ?_⟩
  show Alt _ (_ ∧ _ ∧ _ = Value.int .u64 (fKey a) ∧ _) (_ ∧ _ ∧ _ = Value.int .u64 (fKey a) ∧ _)
  unfold fKey
  obtain ⟨b, hb, hb1⟩ := fBits_nat a ha
  rw [hb]
  have e1 : (b : Int).fdiv 9223372036854775808 = (b : Int) / 9223372036854775808 := Int.fdiv_eq_ediv_of_nonneg _ (by decide)
  rw [e1]
  by_cases h1 : b < 9223372036854775808
  · rw [if_pos (by omega), show eqI ((b : Int) / 9223372036854775808) 1 = false by rw [eqI_eq]; simp; omega, or_high b h1]
    exact ⟨rfl, FlatH.empty, rfl, rfl⟩
  · rw [if_neg (by omega), show eqI ((b : Int) / 9223372036854775808) 1 = true by rw [eqI_eq]; simp; omega, not_all b hb1]
    refine ⟨rfl, FlatH.empty, ?_, rfl⟩
    rw [← wr_eq, wr_u64 _ (by omega) (by omega)]
    congr 1
    omega
/-- the reference's order -/
def rLess (a b : Nat) : Bool := cond (fNan a || fNan b) (!fNan a && fNan b) (cond (!fEq a b) (fLt a b) (leN 9223372036854775808 a && !leN 9223372036854775808 b))
/-- the two orders are one -/
theorem rLess_eq (a b : Nat) (ha : a ≤ 18446744073709551615) (hb : b ≤ 18446744073709551615) : rLess a b = ltI (fKey a) (fKey b) := by
  have na : fNan a = decide (9218868437227405312 < a % 9223372036854775808) := by rw [Bool.eq_iff_iff, fNan_iff, decide_eq_true_iff]; rfl
  have nb : fNan b = decide (9218868437227405312 < b % 9223372036854775808) := by rw [Bool.eq_iff_iff, fNan_iff, decide_eq_true_iff]; rfl
  have sa : fSr a = if 9223372036854775808 ≤ a then -((a % 9223372036854775808 : Nat) : Int) else ((a % 9223372036854775808 : Nat) : Int) := by
    unfold fSr sg fNeg fRung
    by_cases h : 9223372036854775808 ≤ a
    · rw [show (a / 9223372036854775808 % 2 == 1) = true by simp; omega, if_pos h]; rfl
    · rw [show (a / 9223372036854775808 % 2 == 1) = false by simp; omega, if_neg h]; rfl
  have sb : fSr b = if 9223372036854775808 ≤ b then -((b % 9223372036854775808 : Nat) : Int) else ((b % 9223372036854775808 : Nat) : Int) := by
    unfold fSr sg fNeg fRung
    by_cases h : 9223372036854775808 ≤ b
    · rw [show (b / 9223372036854775808 % 2 == 1) = true by simp; omega, if_pos h]; rfl
    · rw [show (b / 9223372036854775808 % 2 == 1) = false by simp; omega, if_neg h]; rfl
  unfold rLess fKey fBits fEq fLt
  rw [na, nb, ltI_eq, leN_eq, leN_eq]
  by_cases h1 : 9218868437227405312 < a % 9223372036854775808 <;> by_cases h2 : 9218868437227405312 < b % 9223372036854775808
  · simp [h1, h2]
  · simp only [h1, h2, decide_true, decide_false, Bool.true_or, cond_true, cond_false, Bool.not_true, Bool.false_and, Bool.and_false]
    rw [eq_comm, decide_eq_false_iff_not]
    rw [if_pos (by decide)]
    split <;> omega
  · simp only [h1, h2, decide_true, decide_false, Bool.false_or, cond_true, cond_false, Bool.not_false, Bool.true_and]
    rw [eq_comm, decide_eq_true_iff]
    rw [if_pos (show (9221120237041090561 : Int) < 9223372036854775808 by decide)]
    split <;> omega
  · simp only [h1, h2, decide_false, Bool.false_or, cond_false, Bool.not_false, Bool.true_and]
    rw [sa, sb]
    by_cases h3 : 9223372036854775808 ≤ a <;> by_cases h4 : 9223372036854775808 ≤ b
    all_goals
      simp only [h3, h4, if_true, if_false, decide_true, decide_false, Bool.not_true, Bool.not_false, Bool.true_and, Bool.false_and, Bool.and_true, Bool.and_false]
      first
        | rw [if_neg (show ¬ (a : Int) < 9223372036854775808 by omega)]
        | rw [if_pos (show (a : Int) < 9223372036854775808 by omega)]
      first
        | rw [if_neg (show ¬ (b : Int) < 9223372036854775808 by omega)]
        | rw [if_pos (show (b : Int) < 9223372036854775808 by omega)]
      generalize hu : (a % 9223372036854775808 : Nat) = u at *
      generalize hv : (b % 9223372036854775808 : Nat) = v at *
      rw [Bool.eq_iff_iff]
      simp only [Bool.cond_eq_ite, Bool.not_eq_true', decide_eq_false_iff_not, decide_eq_true_eq]
      split <;> simp <;> omega
end Go.Proofs.Ytglfkchcmjmmlaa

namespace Go.Proofs.Ytglfkchcmjmmlaa
open Go.RowKit Go.Proofs.Ytglfkchcmjmmlaa.AM
set_option maxRecDepth 100000
set_option maxHeartbeats 4000000
noncomputable def lessC : Ctr := flC okFF fun xs => .bool (ltI (fKey (fltA xs 0)) (fKey (fltA xs 1)))
theorem rless_says (hmix : Try.prog.follows .mixedOrders = true) : lessC.Holds Try.prog 24 := flC_of fun xs h => by
  obtain ⟨a, b, rfl, ha, hb⟩ := okFF_eq h
  refine (sure31 hmix).fun F324 body324 Try.func24 rfl noLoops ?_
  rw [w324, flt0, flt0, fEq_self, fEq_self]
  have e : ∀ x : Bool, (Value.bool x = Value.bool (ltI (fKey a) (fKey b))) = (x = rLess a b) := fun x => by rw [rLess_eq a b ha hb]; simp
  show Alt _ (Alt _ (_ ∧ _ ∧ _ = Value.bool (ltI (fKey a) (fKey b)) ∧ _) (_ ∧ _ ∧ _ = Value.bool (ltI (fKey a) (fKey b)) ∧ _)) (Alt _ (Alt _ (_ ∧ _ ∧ _ = Value.bool (ltI (fKey a) (fKey b)) ∧ _) (_ ∧ _ ∧ _ = Value.bool (ltI (fKey a) (fKey b)) ∧ _)) (Alt _ (_ ∧ _ ∧ _ = Value.bool (ltI (fKey a) (fKey b)) ∧ _) (True ∧ Need _ True ∧ Alt _ (True ∧ Need _ True ∧ _ ∧ _ ∧ _ = Value.bool (ltI (fKey a) (fKey b)) ∧ _) (_ ∧ _ ∧ _ = Value.bool (ltI (fKey a) (fKey b)) ∧ _))))
  have ha' := leN_iff.2 ha
  have hb' := leN_iff.2 hb
  simp only [flt0, e, ha', hb', FlatH.empty, isJunk, rLess]
  cases fNan a <;> cases fNan b <;> cases fEq a b <;> cases leN 9223372036854775808 a <;> simp [Alt, Need]
noncomputable def S32 : Book := bookOf [(20, bitsC), (30, bitsC), (42, noC)]
theorem sure32 (hmix : Try.prog.follows .mixedOrders = true) : Sure Try.prog S32 := ⟨hmix, plain, bookOf_ok ⟨bits_says hmix, rbits_says hmix, no_says hmix, trivial⟩⟩
noncomputable def body325 : Code := (Try.f25.body).getD .skip
def F325 : List Nat → Option (List Nat) := fun p => match p with
  | [1] => some [0]
  | [1, 1] => some [3]
  | [1, 0, 1, 1] => some [3, 8]
  | [1, 0, 1, 0, 1, 1] => some [2]
  | [1, 1, 1] => some [3]
  | [1, 1, 1, 1] => some [2]
  | _ => none
noncomputable def body328 : Code := (Try.f28.body).getD .skip
def F328 : List Nat → Option (List Nat) := fun p => match p with
  | [1] => some [0]
  | [1, 1] => some [0, 4]
  | [1, 0, 1, 1] => some [4, 10]
  | [1, 0, 1, 0, 1, 1] => some [2, 3]
  | [1, 1, 1] => some [4]
  | [1, 1, 1, 1] => some [2, 3]
  | _ => none
noncomputable def body321 : Code := (Try.f21.body).getD .skip
def F321 : List Nat → Option (List Nat) := fun p => match p with
  | [1] => some [1]
  | [1, 0, 1] => some [1, 4]
  | [1, 0, 1, 0, 1] => some [2]
  | [1, 1] => some [1]
  | [1, 1, 1] => some [2]
  | _ => none
noncomputable def body322 : Code := (Try.f22.body).getD .skip
def F322 : List Nat → Option (List Nat) := fun p => match p with
  | [1] => some [1]
  | [1, 0, 1] => some [1, 4]
  | [1, 0, 1, 0, 1] => some [2]
  | [1, 1] => some [1]
  | [1, 1, 1] => some [2]
  | _ => none

theorem w325 (a : Nat) (K : Value → Heap → Prop) :
  funK Try.prog S32 noLoop F325 body325 Try.f25 [.float .f64 a] (hp []) K = (
True ∧
  Need (leN a 18446744073709551615) True ∧
    Alt (eqI (bitsW BinOp.and IntKind.u64 (fBits (fltA [Value.float FloatKind.f64 a] 0)) 9223372036854775808) 0)
      (K
        (Value.int IntKind.u64
          (bitsW BinOp.or IntKind.u64 (fBits (fltA [Value.float FloatKind.f64 a] 0)) 9223372036854775808))
        (hp []))
      (K
        (Value.int IntKind.u64
          (IntKind.u64.wrap
            (↑(BitVec.ofInt 64 18446744073709551615 ^^^
                    BitVec.ofInt 64 (fBits (fltA [Value.float FloatKind.f64 a] 0))).toNat :
              Int)))
        (hp []))) := by kernel_rfl

theorem w328 (u : Int) (K : Value → Heap → Prop) :
  funK Try.prog S32 noLoop F328 body328 Try.f28 [.int .u64 u] (hp []) K = (
True ∧
  Need (leN u.toNat 18446744073709551615) True ∧
    Alt (!eqI (fBits (fltA [Value.float FloatKind.f64 u.toNat] 0)) u)
      (K (Value.tuple #[Value.float FloatKind.f64 0, Value.bool false]) (hp []))
      (K (Value.tuple #[Value.float FloatKind.f64 u.toNat, Value.bool true]) (hp []))) := by kernel_rfl

theorem w321 (y : Bool) (a b : Nat) (K : Value → Heap → Prop) :
  funK Try.prog S32 noLoop F321 body321 Try.f21 [.agg #[.bool y, .float .f64 a, .float .f64 b]] (hp []) K = (
Alt (boolV (Value.bool y))
  (True ∧
    Need (leN (fltV (Value.float FloatKind.f64 a)) 18446744073709551615) True ∧
      Alt (eqI (fBits (fltA [Value.float FloatKind.f64 (fltV (Value.float FloatKind.f64 a))] 0)) 0)
        (True ∧
          Need (leN (fltV (Value.float FloatKind.f64 b)) 18446744073709551615) True ∧
            K (Value.bool (eqI (fBits (fltA [Value.float FloatKind.f64 (fltV (Value.float FloatKind.f64 b))] 0)) 0))
              (hp []))
        (K (Value.bool false) (hp [])))
  (K
    (Value.bool
      (fLt (fltV (Value.float FloatKind.f64 a)) (fltV (Value.float FloatKind.f64 b)) ||
        fEq (fltV (Value.float FloatKind.f64 a)) (fltV (Value.float FloatKind.f64 b))))
    (hp []))) := by kernel_rfl

theorem w322 (y : Bool) (a b : Nat) (K : Value → Heap → Prop) :
  funK Try.prog S32 noLoop F322 body322 Try.f22 [.agg #[.bool y, .float .f64 a, .float .f64 b]] (hp []) K = (
Alt (boolV (Value.bool y))
  (True ∧
    Need (leN (fltV (Value.float FloatKind.f64 a)) 18446744073709551615) True ∧
      Alt (eqI (fBits (fltA [Value.float FloatKind.f64 (fltV (Value.float FloatKind.f64 a))] 0)) 0)
        (True ∧
          Need (leN (fltV (Value.float FloatKind.f64 b)) 18446744073709551615) True ∧
            K (Value.bool (eqI (fBits (fltA [Value.float FloatKind.f64 (fltV (Value.float FloatKind.f64 b))] 0)) 0))
              (hp []))
        (K (Value.bool false) (hp [])))
  (K
    (Value.bool
      (fLt (fltV (Value.float FloatKind.f64 a)) (fltV (Value.float FloatKind.f64 b)) ||
        fEq (fltV (Value.float FloatKind.f64 a)) (fltV (Value.float FloatKind.f64 b))))
    (hp []))) := by kernel_rfl

theorem key_says (hmix : Try.prog.follows .mixedOrders = true) : keyC.Holds Try.prog 25 := flC_of fun xs h => by
  obtain ⟨a, rfl, ha⟩ := okF_eq h
  refine (sure32 hmix).fun F325 body325 Try.func25 rfl noLoops ?_
  rw [w325, flt0]
  refine ⟨trivial, Need_iff.2 ⟨leN_iff.2 ha, trivial⟩, ?_⟩
  show Alt _ (_ ∧ _ ∧ _ = Value.int .u64 (fKey a) ∧ _) (_ ∧ _ ∧ _ = Value.int .u64 (fKey a) ∧ _)
  unfold fKey
  obtain ⟨b, hb, hb1⟩ := fBits_nat a ha
  rw [hb, and_high b hb1]
  by_cases h1 : b < 9223372036854775808
  · rw [if_pos (show (b : Int) < 9223372036854775808 by omega), if_pos h1, or_high b h1]
    exact ⟨rfl, FlatH.empty, rfl, rfl⟩
  · rw [if_neg (show ¬ (b : Int) < 9223372036854775808 by omega), if_neg h1, not_all b hb1]
    refine ⟨rfl, FlatH.empty, ?_, rfl⟩
    rw [← wr_eq, wr_u64 _ (by omega) (by omega)]
    congr 1
    omega
theorem of_says (hmix : Try.prog.follows .mixedOrders = true) : ofC.Holds Try.prog 28 := flC_of fun xs h => by
  obtain ⟨u, rfl, h0, h1⟩ := okU_eq h
  refine (sure32 hmix).fun F328 body328 Try.func28 rfl noLoops ?_
  rw [w328, flt0]
  have e : eqI (fBits u.toNat) u = !fBad u := by
    unfold fBits fBad
    cases hn : fNan u.toNat with
    | true => simp only [cond_true, Bool.true_and, Bool.not_not]; rw [eqI_eq, eqI_eq, Bool.eq_iff_iff, decide_eq_true_iff, decide_eq_true_iff]; exact eq_comm
    | false => simp only [cond_false, Bool.false_and, Bool.not_false]; rw [eqI_eq, decide_eq_true_iff]; omega
  rw [e, Bool.not_not]
  refine ⟨trivial, Need_iff.2 ⟨leN_iff.2 (by omega), trivial⟩, ?_⟩
  show Alt _ (_ ∧ _ ∧ _ = Value.tuple #[.float .f64 (cond (fBad u) 0 u.toNat), .bool (!fBad u)] ∧ _) (_ ∧ _ ∧ _ = Value.tuple #[.float .f64 (cond (fBad u) 0 u.toNat), .bool (!fBad u)] ∧ _)
  cases fBad u <;> exact ⟨rfl, FlatH.empty, rfl, rfl⟩
/-- whether a band may be -/
def mayB (y : Bool) (a b : Nat) : Bool := cond y (eqI (fBits a) 0 && eqI (fBits b) 0) (fLt a b || fEq a b)
def inB (y : Bool) (a b f : Nat) : Bool := mayB y a b && (y || ((fLt a f || fEq a f) && (fLt f b || fEq f b)))
noncomputable def bq (xs : List Value) (i : Nat) : Value := match getO xs 0 with
  | some (.agg cs) => (getO cs.toList i).getD (.bool false)
  | _ => .bool false
def isBand (v : Value) : Prop := match v with
  | .agg cs => match cs.toList with
    | [.bool _, .float .f64 a, .float .f64 b] => Need (leN a 18446744073709551615) (Need (leN b 18446744073709551615) True)
    | _ => False
  | _ => False
theorem isBand_eq {v : Value} (h : isBand v) : ∃ (y : Bool) (a b : Nat), v = .agg #[.bool y, .float .f64 a, .float .f64 b] ∧ a ≤ 18446744073709551615 ∧ b ≤ 18446744073709551615 := by
  unfold isBand at h
  split at h
  · rename_i cs
    obtain ⟨cs⟩ := cs
    split at h
    · rename_i y a b e
      simp only at e
      subst e
      simp only [Alt_iff, Need_iff, ltI_eq, leI_eq, eqI_eq, leN_eq, eqN_eq, decide_eq_true_eq, decide_eq_false_iff_not, decide_true, decide_false, true_and, and_true, Bool.true_eq_false, Bool.false_eq_true, false_implies, true_implies, implies_true, not_true_eq_false, not_false_eq_true, Bool.not_eq_true', Bool.not_eq_false'] at h
      exact ⟨_, _, _, rfl, h⟩
    · exact h.elim
  · exact h.elim
def okB : List Value → Prop := fun xs => match xs with
  | [v] => isBand v
  | _ => False
def okBF : List Value → Prop := fun xs => match xs with
  | [v, .float .f64 f] => isBand v ∧ Need (leN f 18446744073709551615) True
  | _ => False
theorem okB_eq {xs : List Value} (h : okB xs) : ∃ (y : Bool) (a b : Nat), xs = [.agg #[.bool y, .float .f64 a, .float .f64 b]] ∧ a ≤ 18446744073709551615 ∧ b ≤ 18446744073709551615 := by
  unfold okB at h
  split at h
  · obtain ⟨y, a, b, rfl, q⟩ := isBand_eq h
    exact ⟨y, a, b, rfl, q⟩
  · exact h.elim
theorem okBF_eq {xs : List Value} (h : okBF xs) : ∃ (y : Bool) (a b f : Nat), xs = [.agg #[.bool y, .float .f64 a, .float .f64 b], .float .f64 f] ∧ a ≤ 18446744073709551615 ∧ b ≤ 18446744073709551615 ∧ f ≤ 18446744073709551615 := by
  unfold okBF at h
  split at h
  · obtain ⟨h, hf⟩ := h
    obtain ⟨y, a, b, rfl, q1, q2⟩ := isBand_eq h
    simp only [Alt_iff, Need_iff, ltI_eq, leI_eq, eqI_eq, leN_eq, eqN_eq, decide_eq_true_eq, decide_eq_false_iff_not, decide_true, decide_false, true_and, and_true, Bool.true_eq_false, Bool.false_eq_true, false_implies, true_implies, implies_true, not_true_eq_false, not_false_eq_true, Bool.not_eq_true', Bool.not_eq_false'] at hf
    exact ⟨y, a, b, _, rfl, q1, q2, hf⟩
  · exact h.elim
noncomputable def mayC : Ctr := flC okB fun xs => .bool (mayB (boolV (bq xs 0)) (fltV (bq xs 1)) (fltV (bq xs 2)))
noncomputable def inC : Ctr := flC okBF fun xs => .bool (inB (boolV (bq xs 0)) (fltV (bq xs 1)) (fltV (bq xs 2)) (fltA xs 1))
theorem may_says (hmix : Try.prog.follows .mixedOrders = true) : mayC.Holds Try.prog 21 := flC_of fun xs h => by
  obtain ⟨y, a, b, rfl, ha, hb⟩ := okB_eq h
  refine (sure32 hmix).fun F321 body321 Try.func21 rfl noLoops ?_
  rw [w321]
  show Alt y (True ∧ Need (leN a _) True ∧ Alt (eqI (fBits a) 0) (True ∧ Need (leN b _) True ∧ _ ∧ _ ∧ _ = Value.bool (mayB y a b) ∧ _) (_ ∧ _ ∧ _ = Value.bool (mayB y a b) ∧ _)) (_ ∧ _ ∧ _ = Value.bool (mayB y a b) ∧ _)
  simp only [leN_iff.2 ha, leN_iff.2 hb, FlatH.empty, mayB]
  cases y <;> cases hh : eqI (fBits a) 0 <;> simp [Alt, Need, flt0, fltV, hh, isJunk]
theorem rmay_says (hmix : Try.prog.follows .mixedOrders = true) : mayC.Holds Try.prog 22 := flC_of fun xs h => by
  obtain ⟨y, a, b, rfl, ha, hb⟩ := okB_eq h
  refine (sure32 hmix).fun F322 body322 Try.func22 rfl noLoops ?_
  rw [w322]
  show Alt y (True ∧ Need (leN a _) True ∧ Alt (eqI (fBits a) 0) (True ∧ Need (leN b _) True ∧ _ ∧ _ ∧ _ = Value.bool (mayB y a b) ∧ _) (_ ∧ _ ∧ _ = Value.bool (mayB y a b) ∧ _)) (_ ∧ _ ∧ _ = Value.bool (mayB y a b) ∧ _)
  simp only [leN_iff.2 ha, leN_iff.2 hb, FlatH.empty, mayB]
  cases y <;> cases hh : eqI (fBits a) 0 <;> simp [Alt, Need, flt0, fltV, hh, isJunk]
noncomputable def S33 : Book := bookOf [(21, mayC), (22, mayC), (25, keyC)]
theorem sure33 (hmix : Try.prog.follows .mixedOrders = true) : Sure Try.prog S33 := ⟨hmix, plain, bookOf_ok ⟨may_says hmix, rmay_says hmix, key_says hmix, trivial⟩⟩
noncomputable def body316 : Code := (Try.f16.body).getD .skip
def F316 : List Nat → Option (List Nat) := fun p => match p with
  | [1] => some [0, 1]
  | [1, 1] => some [4]
  | _ => none
noncomputable def body317 : Code := (Try.f17.body).getD .skip
def F317 : List Nat → Option (List Nat) := fun p => match p with
  | [1] => some [1, 2]
  | [1, 1] => some [4]
  | _ => none
noncomputable def body323 : Code := (Try.f23.body).getD .skip
def F323 : List Nat → Option (List Nat) := fun p => match p with
  | [1] => some [1, 2]
  | [1, 0, 1] => some [1, 2, 7]
  | [1, 0, 1, 0, 1] => some [4]
  | [1, 1] => some [1, 2]
  | [1, 1, 1] => some [4]
  | _ => none

theorem w316 (a b : Nat) (K : Value → Heap → Prop) :
  funK Try.prog S33 noLoop F316 body316 Try.f16 [.float .f64 a, .float .f64 b] (hp []) K = (
True ∧
  Need (leN a 18446744073709551615) True ∧
    True ∧
      Need (leN b 18446744073709551615) True ∧
        K (Value.bool (ltI (fKey (fltA [Value.float FloatKind.f64 a] 0)) (fKey (fltA [Value.float FloatKind.f64 b] 0))))
          (hp [])) := by kernel_rfl

theorem w317 (y : Bool) (a b f : Nat) (K : Value → Heap → Prop) :
  funK Try.prog S33 noLoop F317 body317 Try.f17 [.agg #[.bool y, .float .f64 a, .float .f64 b], .float .f64 f] (hp []) K = (
True ∧
  Need (leN (fltV (Value.float FloatKind.f64 a)) 18446744073709551615)
      (Need (leN (fltV (Value.float FloatKind.f64 b)) 18446744073709551615) True) ∧
    Alt
      (mayB (boolV (Value.bool (boolV (Value.bool y))))
        (fltV (Value.float FloatKind.f64 (fltV (Value.float FloatKind.f64 a))))
        (fltV (Value.float FloatKind.f64 (fltV (Value.float FloatKind.f64 b)))))
      (Alt (boolV (Value.bool y)) (K (Value.bool true) (hp []))
        (Alt (fLt (fltV (Value.float FloatKind.f64 a)) f || fEq (fltV (Value.float FloatKind.f64 a)) f)
          (K (Value.bool (fLt f (fltV (Value.float FloatKind.f64 b)) || fEq f (fltV (Value.float FloatKind.f64 b))))
            (hp []))
          (K (Value.bool false) (hp []))))
      (K (Value.bool false) (hp []))) := by kernel_rfl

theorem w323 (y : Bool) (a b f : Nat) (K : Value → Heap → Prop) :
  funK Try.prog S33 noLoop F323 body323 Try.f23 [.agg #[.bool y, .float .f64 a, .float .f64 b], .float .f64 f] (hp []) K = (
True ∧
  Need (leN (fltV (Value.float FloatKind.f64 a)) 18446744073709551615)
      (Need (leN (fltV (Value.float FloatKind.f64 b)) 18446744073709551615) True) ∧
    Alt
      (!mayB (boolV (Value.bool (boolV (Value.bool y))))
          (fltV (Value.float FloatKind.f64 (fltV (Value.float FloatKind.f64 a))))
          (fltV (Value.float FloatKind.f64 (fltV (Value.float FloatKind.f64 b)))))
      (K (Value.bool false) (hp []))
      (Alt (boolV (Value.bool y)) (K (Value.bool true) (hp []))
        (Alt (fLt (fltV (Value.float FloatKind.f64 a)) f || fEq (fltV (Value.float FloatKind.f64 a)) f)
          (K (Value.bool (fLt f (fltV (Value.float FloatKind.f64 b)) || fEq f (fltV (Value.float FloatKind.f64 b))))
            (hp []))
          (K (Value.bool false) (hp []))))) := by kernel_rfl

theorem less_says (hmix : Try.prog.follows .mixedOrders = true) : lessC.Holds Try.prog 16 := flC_of fun xs h => by
  obtain ⟨a, b, rfl, ha, hb⟩ := okFF_eq h
  refine (sure33 hmix).fun F316 body316 Try.func16 rfl noLoops ?_
  rw [w316]
  simp only [leN_iff.2 ha, leN_iff.2 hb, FlatH.empty, flt0, flt1]
  and_intros <;> first | trivial | rfl
end Go.Proofs.Ytglfkchcmjmmlaa

namespace Go.Proofs.Ytglfkchcmjmmlaa
open Go.RowKit Go.Proofs.Ytglfkchcmjmmlaa.AM
set_option maxRecDepth 100000
set_option maxHeartbeats 4000000
theorem fltV_f (k : FloatKind) (a : Nat) : fltV (.float k a) = a := rfl
theorem boolV_b (b : Bool) : boolV (.bool b) = b := rfl
theorem intV_i (k : IntKind) (n : Int) : intV (.int k n) = n := rfl
theorem in_says (hmix : Try.prog.follows .mixedOrders = true) : inC.Holds Try.prog 17 := flC_of fun xs h => by
  obtain ⟨y, a, b, f, rfl, ha, hb, hf⟩ := okBF_eq h
  refine (sure33 hmix).fun F317 body317 Try.func17 rfl noLoops ?_
  rw [w317]
  simp only [fltV_f, boolV_b, leN_iff.2 ha, leN_iff.2 hb, FlatH.empty]
  show True ∧ _ ∧ Alt _ (Alt y (_ ∧ _ ∧ _ = Value.bool (inB y a b f) ∧ _) (Alt _ (_ ∧ _ ∧ _ = Value.bool (inB y a b f) ∧ _) (_ ∧ _ ∧ _ = Value.bool (inB y a b f) ∧ _))) (_ ∧ _ ∧ _ = Value.bool (inB y a b f) ∧ _)
  unfold inB
  cases mayB y a b <;> cases y <;> cases (fLt a f || fEq a f) <;> simp [Alt, Need, isJunk]
theorem rin_says (hmix : Try.prog.follows .mixedOrders = true) : inC.Holds Try.prog 23 := flC_of fun xs h => by
  obtain ⟨y, a, b, f, rfl, ha, hb, hf⟩ := okBF_eq h
  refine (sure33 hmix).fun F323 body323 Try.func23 rfl noLoops ?_
  rw [w323]
  simp only [fltV_f, boolV_b, leN_iff.2 ha, leN_iff.2 hb, FlatH.empty]
  show True ∧ _ ∧ Alt _ (_ ∧ _ ∧ _ = Value.bool (inB y a b f) ∧ _) (Alt y (_ ∧ _ ∧ _ = Value.bool (inB y a b f) ∧ _) (Alt _ (_ ∧ _ ∧ _ = Value.bool (inB y a b f) ∧ _) (_ ∧ _ ∧ _ = Value.bool (inB y a b f) ∧ _)))
  unfold inB
  cases mayB y a b <;> cases y <;> cases (fLt a f || fEq a f) <;> simp [Alt, Need, isJunk]
/-- a law that says true of itself -/
noncomputable def trueC : Ctr := flC ok0 fun _ => .bool true
theorem runs_run : isTrueR (acall Try.prog (fun _ => none) 300 3 [] Heap.empty) = true := by decide +kernel
theorem runs_holds (hmix : Try.prog.follows .mixedOrders = true) : trueC.Holds Try.prog 3 := flC_of fun xs h => by
  cases xs with
  | cons => exact h.elim
  | nil => exact FunSays.of_run hmix plain Try.func3 rfl runs_run
noncomputable def S34 : Book := bookOf [(3, trueC), (13, copyC), (15, nanC), (16, lessC), (17, inC), (20, bitsC), (21, mayC), (22, mayC), (23, inC), (24, lessC), (25, keyC), (26, keyC), (28, ofC), (29, ofC), (30, bitsC), (32, infC)]
theorem sure34 (hmix : Try.prog.follows .mixedOrders = true) : Sure Try.prog S34 := ⟨hmix, plain, bookOf_ok ⟨runs_holds hmix, copy_says hmix, nan_says hmix, less_says hmix, in_says hmix, bits_says hmix, may_says hmix, rmay_says hmix, rin_says hmix, rless_says hmix, key_says hmix, rkey_says hmix, of_says hmix, rof_says hmix, rbits_says hmix, inf_says hmix, trivial⟩⟩
noncomputable def body305 : Code := (Try.f5.body).getD .skip
def F305 : List Nat → Option (List Nat) := fun p => match p with
  | [1] => some [1, 2]
  | [1, 1] => some [4]
  | _ => none
noncomputable def body307 : Code := (Try.f7.body).getD .skip
def F307 : List Nat → Option (List Nat) := fun p => match p with
  | [1] => some [0, 1]
  | [1, 1] => some [4]
  | _ => none

theorem w305 (y : Bool) (a b f : Nat) (K : Value → Heap → Prop) :
  funK Try.prog S34 noLoop F305 body305 Try.f5 [.agg #[.bool y, .float .f64 a, .float .f64 b], .float .f64 f] (hp []) K = (
True ∧
  Need (leN (fltV (Value.float FloatKind.f64 a)) 18446744073709551615)
      (Need (leN (fltV (Value.float FloatKind.f64 b)) 18446744073709551615) True) ∧
    True ∧
      Need (leN (fltV (Value.float FloatKind.f64 a)) 18446744073709551615)
          (Need (leN (fltV (Value.float FloatKind.f64 b)) 18446744073709551615) True) ∧
        Alt
          (mayB (boolV (Value.bool (boolV (Value.bool y))))
              (fltV (Value.float FloatKind.f64 (fltV (Value.float FloatKind.f64 a))))
              (fltV (Value.float FloatKind.f64 (fltV (Value.float FloatKind.f64 b)))) ==
            mayB (boolV (Value.bool (boolV (Value.bool y))))
              (fltV (Value.float FloatKind.f64 (fltV (Value.float FloatKind.f64 a))))
              (fltV (Value.float FloatKind.f64 (fltV (Value.float FloatKind.f64 b)))))
          (True ∧
            (Need (leN (fltV (Value.float FloatKind.f64 a)) 18446744073709551615)
                  (Need (leN (fltV (Value.float FloatKind.f64 b)) 18446744073709551615) True) ∧
                Need (leN f 18446744073709551615) True) ∧
              True ∧
                (Need (leN (fltV (Value.float FloatKind.f64 a)) 18446744073709551615)
                      (Need (leN (fltV (Value.float FloatKind.f64 b)) 18446744073709551615) True) ∧
                    Need (leN f 18446744073709551615) True) ∧
                  Alt
                    (inB (boolV (Value.bool (boolV (Value.bool y))))
                        (fltV (Value.float FloatKind.f64 (fltV (Value.float FloatKind.f64 a))))
                        (fltV (Value.float FloatKind.f64 (fltV (Value.float FloatKind.f64 b))))
                        (fltA
                          [Value.agg
                              #[Value.bool (boolV (Value.bool y)),
                                Value.float FloatKind.f64 (fltV (Value.float FloatKind.f64 a)),
                                Value.float FloatKind.f64 (fltV (Value.float FloatKind.f64 b))],
                            Value.float FloatKind.f64 f]
                          1) ==
                      inB (boolV (Value.bool (boolV (Value.bool y))))
                        (fltV (Value.float FloatKind.f64 (fltV (Value.float FloatKind.f64 a))))
                        (fltV (Value.float FloatKind.f64 (fltV (Value.float FloatKind.f64 b))))
                        (fltA
                          [Value.agg
                              #[Value.bool (boolV (Value.bool y)),
                                Value.float FloatKind.f64 (fltV (Value.float FloatKind.f64 a)),
                                Value.float FloatKind.f64 (fltV (Value.float FloatKind.f64 b))],
                            Value.float FloatKind.f64 f]
                          1))
                    (True ∧
                      True ∧
                        Need (beqV 64 (Value.float FloatKind.f64 f) (Value.float FloatKind.f64 f))
                          (Need
                            (beqV 64
                              (Value.agg
                                #[Value.bool (boolV (Value.bool y)),
                                  Value.float FloatKind.f64 (fltV (Value.float FloatKind.f64 a)),
                                  Value.float FloatKind.f64 (fltV (Value.float FloatKind.f64 b))])
                              (Value.agg
                                #[Value.bool (boolV (Value.bool y)),
                                  Value.float FloatKind.f64 (fltV (Value.float FloatKind.f64 a)),
                                  Value.float FloatKind.f64 (fltV (Value.float FloatKind.f64 b))]))
                            (Need
                              (beqV 64
                                (Value.agg
                                  #[Value.bool (boolV (Value.bool y)),
                                    Value.float FloatKind.f64 (fltV (Value.float FloatKind.f64 a)),
                                    Value.float FloatKind.f64 (fltV (Value.float FloatKind.f64 b))])
                                (Value.agg
                                  #[Value.bool (boolV (Value.bool y)),
                                    Value.float FloatKind.f64 (fltV (Value.float FloatKind.f64 a)),
                                    Value.float FloatKind.f64 (fltV (Value.float FloatKind.f64 b))]))
                              (K (Value.bool true) (hp [])))))
                    (Need (beqV 64 (Value.float FloatKind.f64 f) (Value.float FloatKind.f64 f))
                      (Need
                        (beqV 64
                          (Value.agg
                            #[Value.bool (boolV (Value.bool y)),
                              Value.float FloatKind.f64 (fltV (Value.float FloatKind.f64 a)),
                              Value.float FloatKind.f64 (fltV (Value.float FloatKind.f64 b))])
                          (Value.agg
                            #[Value.bool (boolV (Value.bool y)),
                              Value.float FloatKind.f64 (fltV (Value.float FloatKind.f64 a)),
                              Value.float FloatKind.f64 (fltV (Value.float FloatKind.f64 b))]))
                        (Need
                          (beqV 64
                            (Value.agg
                              #[Value.bool (boolV (Value.bool y)),
                                Value.float FloatKind.f64 (fltV (Value.float FloatKind.f64 a)),
                                Value.float FloatKind.f64 (fltV (Value.float FloatKind.f64 b))])
                            (Value.agg
                              #[Value.bool (boolV (Value.bool y)),
                                Value.float FloatKind.f64 (fltV (Value.float FloatKind.f64 a)),
                                Value.float FloatKind.f64 (fltV (Value.float FloatKind.f64 b))]))
                          (K (Value.bool false) (hp []))))))
          (Need
            (beqV 64
              (Value.agg
                #[Value.bool (boolV (Value.bool y)), Value.float FloatKind.f64 (fltV (Value.float FloatKind.f64 a)),
                  Value.float FloatKind.f64 (fltV (Value.float FloatKind.f64 b))])
              (Value.agg
                #[Value.bool (boolV (Value.bool y)), Value.float FloatKind.f64 (fltV (Value.float FloatKind.f64 a)),
                  Value.float FloatKind.f64 (fltV (Value.float FloatKind.f64 b))]))
            (K (Value.bool false) (hp [])))) := by kernel_rfl

theorem w307 (a b : Nat) (K : Value → Heap → Prop) :
  funK Try.prog S34 noLoop F307 body307 Try.f7 [.float .f64 a, .float .f64 b] (hp []) K = (
True ∧
  Need (leN a 18446744073709551615) (Need (leN b 18446744073709551615) True) ∧
    True ∧
      Need (leN a 18446744073709551615) (Need (leN b 18446744073709551615) True) ∧
        Alt
          (ltI (fKey (fltA [Value.float FloatKind.f64 a, Value.float FloatKind.f64 b] 0))
              (fKey (fltA [Value.float FloatKind.f64 a, Value.float FloatKind.f64 b] 1)) ==
            ltI (fKey (fltA [Value.float FloatKind.f64 a, Value.float FloatKind.f64 b] 0))
              (fKey (fltA [Value.float FloatKind.f64 a, Value.float FloatKind.f64 b] 1)))
          (True ∧
            Need (leN a 18446744073709551615) True ∧
              True ∧
                Need (leN a 18446744073709551615) True ∧
                  Alt (eqI (fKey (fltA [Value.float FloatKind.f64 a] 0)) (fKey (fltA [Value.float FloatKind.f64 a] 0)))
                    (True ∧
                      Need (leN a 18446744073709551615) True ∧
                        True ∧
                          Need (leN b 18446744073709551615) True ∧
                            True ∧
                              Need (leN a 18446744073709551615) (Need (leN b 18446744073709551615) True) ∧
                                Alt
                                  (ltI (fKey (fltA [Value.float FloatKind.f64 a] 0))
                                      (fKey (fltA [Value.float FloatKind.f64 b] 0)) ==
                                    ltI (fKey (fltA [Value.float FloatKind.f64 a, Value.float FloatKind.f64 b] 0))
                                      (fKey (fltA [Value.float FloatKind.f64 a, Value.float FloatKind.f64 b] 1)))
                                  (True ∧ True ∧ K (Value.bool true) (hp [])) (K (Value.bool false) (hp [])))
                    (K (Value.bool false) (hp [])))
          (K (Value.bool false) (hp []))) := by kernel_rfl

theorem law307 (hmix : Try.prog.follows .mixedOrders = true) (a b : Nat) (ha : a ≤ 18446744073709551615) (hb : b ≤ 18446744073709551615) : FunSays Try.prog 7 [.float .f64 a, .float .f64 b] (hp []) fun v _ => v = .bool true := by
  refine (sure34 hmix).fun F307 body307 Try.func7 rfl noLoops ?_
  rw [w307]
  have e : ∀ x : Int, eqI x x = true := fun x => by rw [eqI_iff]
  simp only [flt0, flt1, leN_iff.2 ha, leN_iff.2 hb, FlatH.empty, beq_self_eq_true, e, Alt_iff, Need_iff, ltI_eq, leI_eq, eqI_eq, leN_eq, eqN_eq, decide_eq_true_eq, decide_eq_false_iff_not, decide_true, decide_false, true_and, and_true, Bool.true_eq_false, Bool.false_eq_true, false_implies, true_implies, implies_true, not_true_eq_false, not_false_eq_true, Bool.not_eq_true', Bool.not_eq_false']
  rfl
theorem law305 (hmix : Try.prog.follows .mixedOrders = true) (y : Bool) (a b f : Nat) (ha : a ≤ 18446744073709551615) (hb : b ≤ 18446744073709551615) (hf : f ≤ 18446744073709551615) : FunSays Try.prog 5 [.agg #[.bool y, .float .f64 a, .float .f64 b], .float .f64 f] (hp []) fun v _ => v = .bool true := by
  refine (sure34 hmix).fun F305 body305 Try.func5 rfl noLoops ?_
  rw [w305]
  simp only [fltV_f, boolV_b, flt0, flt1, leN_iff.2 ha, leN_iff.2 hb, leN_iff.2 hf, FlatH.empty, beq_self_eq_true, Alt_iff, Need_iff, ltI_eq, leI_eq, eqI_eq, leN_eq, eqN_eq, decide_eq_true_eq, decide_eq_false_iff_not, decide_true, decide_false, true_and, and_true, Bool.true_eq_false, Bool.false_eq_true, false_implies, true_implies, implies_true, not_true_eq_false, not_false_eq_true, Bool.not_eq_true', Bool.not_eq_false']
  have hg : beqV 64 (.agg #[.bool y, .float .f64 a, .float .f64 b]) (.agg #[.bool y, .float .f64 a, .float .f64 b]) = true := by simp [beqV]
  and_intros <;> first | exact hg | exact beqV_flt _ _ _ | rfl
end Go.Proofs.Ytglfkchcmjmmlaa

namespace Go.Proofs.Ytglfkchcmjmmlaa
open Go.RowKit Go.Proofs.Ytglfkchcmjmmlaa.AM
set_option maxRecDepth 100000
set_option maxHeartbeats 4000000
noncomputable def body304 : Code := (Try.f4.body).getD .skip
def F304 : List Nat → Option (List Nat) := fun p => match p with
  | [1] => some [0, 1, 2]
  | [1, 1] => some [1000000, 0, 1, 2, 7, 8, 9]
  | [1, 0, 1, 1] => some [0, 1, 2, 7, 48]
  | [1, 0, 1, 0, 1, 1] => some [6]
  | [1, 1, 1] => some [1000000, 0, 1, 2, 7]
  | [1, 0, 1, 1, 1] => some [0, 1, 7, 60]
  | [1, 0, 1, 0, 1, 1, 1] => some [6]
  | [1, 1, 1, 1] => some [1000000, 0, 1, 7]
  | [1, 0, 1, 1, 1, 1] => some [89]
  | [1, 0, 1, 0, 1, 1, 1, 1] => some [6]
  | [1, 1, 1, 1, 1] => some [1000000]
  | [1, 1, 1, 1, 1, 1] => some [6]
  | _ => none
noncomputable def Q304 : Post → Prop := fun K => K .ret (tmps 91 [(6, .bool true)]) (hp [])
noncomputable def c304_0 (a b c : Nat) (x y s : Bool) : Cut := ⟨[1,1], tmps 91 [(0, .float .f64 a), (1, .float .f64 b), (2, .float .f64 c), (7, .bool x), (8, .bool y), (9, .bool s)], hp [], Q304⟩
noncomputable def c304_1 (a b c : Nat) (x : Bool) : Cut := ⟨[1,1,1], tmps 91 [(0, .float .f64 a), (1, .float .f64 b), (2, .float .f64 c), (7, .bool x)], hp [], Q304⟩
noncomputable def c304_2 (a b : Nat) (x : Bool) : Cut := ⟨[1,1,1,1], tmps 91 [(0, .float .f64 a), (1, .float .f64 b), (7, .bool x)], hp [], Q304⟩
noncomputable def c304_3 : Cut := ⟨[1,1,1,1,1], tmps 91 [], hp [], Q304⟩
noncomputable def l304 (a b c : Nat) (x y s : Bool) : List Cut := [c304_0 a b c x y s, c304_1 a b c x, c304_2 a b x, c304_3]

theorem w304 (a b c : Nat) (x y s : Bool) (K : Value → Heap → Prop) :
  funK Try.prog S34 (gcLK 0 (cutLK (l304 a b c x y s))) F304 body304 Try.f4 [.float .f64 a, .float .f64 b, .float .f64 c] (hp []) K = (
True ∧
  Need (leN a 18446744073709551615) (Need (leN b 18446744073709551615) True) ∧
    True ∧
      Need (leN b 18446744073709551615) (Need (leN a 18446744073709551615) True) ∧
        True ∧
          Need (leN a 18446744073709551615) True ∧
            True ∧
              Need (leN b 18446744073709551615) True ∧
                FlatH (hp []) ∧
                  tmps 91
                        [(0, Value.float FloatKind.f64 a), (1, Value.float FloatKind.f64 b),
                          (2, Value.float FloatKind.f64 c),
                          (7,
                            Value.bool
                              (ltI (fKey (fltA [Value.float FloatKind.f64 a, Value.float FloatKind.f64 b] 0))
                                (fKey (fltA [Value.float FloatKind.f64 a, Value.float FloatKind.f64 b] 1)))),
                          (8,
                            Value.bool
                              (ltI (fKey (fltA [Value.float FloatKind.f64 b, Value.float FloatKind.f64 a] 0))
                                (fKey (fltA [Value.float FloatKind.f64 b, Value.float FloatKind.f64 a] 1)))),
                          (9,
                            Value.bool
                              (eqI (fBits (fltA [Value.float FloatKind.f64 a] 0))
                                (fBits (fltA [Value.float FloatKind.f64 b] 0))))] =
                      tmps 91
                        [(0, Value.float FloatKind.f64 a), (1, Value.float FloatKind.f64 b),
                          (2, Value.float FloatKind.f64 c), (7, Value.bool x), (8, Value.bool y), (9, Value.bool s)] ∧
                    hp [] = hp [] ∧ K (Value.bool true) (hp [])) := by kernel_rfl

theorem s304_0A (a b c : Nat) (K : Post) :
  roundK Try.prog S34 (gcLK 0 (cutLK ((l304 a b c true false false).drop 1))) F304 body304 0 [] [1,1] (c304_0 a b c true false false).t (hp []) K = (
FlatH (hp []) ∧
  tmps 91
        [(0, Value.float FloatKind.f64 a), (1, Value.float FloatKind.f64 b), (2, Value.float FloatKind.f64 c),
          (7, Value.bool true)] =
      tmps 91
        [(0, Value.float FloatKind.f64 a), (1, Value.float FloatKind.f64 b), (2, Value.float FloatKind.f64 c),
          (7, Value.bool true)] ∧
    hp [] = hp [] ∧ K AE.ret (tmps 91 [(6, Value.bool true)]) (hp [])) := by kernel_rfl

theorem s304_0B (a b c : Nat) (K : Post) :
  roundK Try.prog S34 (gcLK 0 (cutLK ((l304 a b c false true false).drop 1))) F304 body304 0 [] [1,1] (c304_0 a b c false true false).t (hp []) K = (
FlatH (hp []) ∧
  tmps 91
        [(0, Value.float FloatKind.f64 a), (1, Value.float FloatKind.f64 b), (2, Value.float FloatKind.f64 c),
          (7, Value.bool false)] =
      tmps 91
        [(0, Value.float FloatKind.f64 a), (1, Value.float FloatKind.f64 b), (2, Value.float FloatKind.f64 c),
          (7, Value.bool false)] ∧
    hp [] = hp [] ∧ K AE.ret (tmps 91 [(6, Value.bool true)]) (hp [])) := by kernel_rfl

theorem s304_0C (a b c : Nat) (K : Post) :
  roundK Try.prog S34 (gcLK 0 (cutLK ((l304 a b c false false true).drop 1))) F304 body304 0 [] [1,1] (c304_0 a b c false false true).t (hp []) K = (
FlatH (hp []) ∧
  tmps 91
        [(0, Value.float FloatKind.f64 a), (1, Value.float FloatKind.f64 b), (2, Value.float FloatKind.f64 c),
          (7, Value.bool false)] =
      tmps 91
        [(0, Value.float FloatKind.f64 a), (1, Value.float FloatKind.f64 b), (2, Value.float FloatKind.f64 c),
          (7, Value.bool false)] ∧
    hp [] = hp [] ∧ K AE.ret (tmps 91 [(6, Value.bool true)]) (hp [])) := by kernel_rfl

theorem s304_1A (a b c : Nat) (y s : Bool) (K : Post) :
  roundK Try.prog S34 (gcLK 0 (cutLK ((l304 a b c true y s).drop 2))) F304 body304 0 [] [1,1,1] (c304_1 a b c true).t (hp []) K = (
True ∧
  Need (leN b 18446744073709551615) (Need (leN c 18446744073709551615) True) ∧
    Alt
      (ltI (fKey (fltA [Value.float FloatKind.f64 b, Value.float FloatKind.f64 c] 0))
        (fKey (fltA [Value.float FloatKind.f64 b, Value.float FloatKind.f64 c] 1)))
      (True ∧
        Need (leN a 18446744073709551615) (Need (leN c 18446744073709551615) True) ∧
          Alt
            (!ltI (fKey (fltA [Value.float FloatKind.f64 a, Value.float FloatKind.f64 c] 0))
                (fKey (fltA [Value.float FloatKind.f64 a, Value.float FloatKind.f64 c] 1)))
            (K AE.ret (tmps 91 [(6, Value.bool false)]) (hp []))
            (FlatH (hp []) ∧
              tmps 91 [(0, Value.float FloatKind.f64 a), (1, Value.float FloatKind.f64 b), (7, Value.bool true)] =
                  tmps 91 [(0, Value.float FloatKind.f64 a), (1, Value.float FloatKind.f64 b), (7, Value.bool true)] ∧
                hp [] = hp [] ∧ K AE.ret (tmps 91 [(6, Value.bool true)]) (hp [])))
      (FlatH (hp []) ∧
        tmps 91 [(0, Value.float FloatKind.f64 a), (1, Value.float FloatKind.f64 b), (7, Value.bool true)] =
            tmps 91 [(0, Value.float FloatKind.f64 a), (1, Value.float FloatKind.f64 b), (7, Value.bool true)] ∧
          hp [] = hp [] ∧ K AE.ret (tmps 91 [(6, Value.bool true)]) (hp []))) := by kernel_rfl

theorem s304_2A (a b c : Nat) (y s : Bool) (K : Post) :
  roundK Try.prog S34 (gcLK 0 (cutLK ((l304 a b c true y s).drop 3))) F304 body304 0 [] [1,1,1,1] (c304_2 a b true).t (hp []) K = (
Alt (fLt a b)
  (Alt (!fEq a a) (K AE.ret (tmps 91 [(6, Value.bool false)]) (hp []))
    (Alt (fEq a a)
      (Alt (!fEq b b)
        (FlatH (hp []) ∧ tmps 91 [] = tmps 91 [] ∧ hp [] = hp [] ∧ K AE.ret (tmps 91 [(6, Value.bool true)]) (hp []))
        (FlatH (hp []) ∧ tmps 91 [] = tmps 91 [] ∧ hp [] = hp [] ∧ K AE.ret (tmps 91 [(6, Value.bool true)]) (hp [])))
      (FlatH (hp []) ∧ tmps 91 [] = tmps 91 [] ∧ hp [] = hp [] ∧ K AE.ret (tmps 91 [(6, Value.bool true)]) (hp []))))
  (Alt (!fEq a a) (K AE.ret (tmps 91 [(6, Value.bool false)]) (hp []))
    (Alt (fEq a a)
      (Alt (!fEq b b)
        (FlatH (hp []) ∧ tmps 91 [] = tmps 91 [] ∧ hp [] = hp [] ∧ K AE.ret (tmps 91 [(6, Value.bool true)]) (hp []))
        (FlatH (hp []) ∧ tmps 91 [] = tmps 91 [] ∧ hp [] = hp [] ∧ K AE.ret (tmps 91 [(6, Value.bool true)]) (hp [])))
      (FlatH (hp []) ∧ tmps 91 [] = tmps 91 [] ∧ hp [] = hp [] ∧ K AE.ret (tmps 91 [(6, Value.bool true)]) (hp []))))) := by kernel_rfl

theorem s304_1B (a b c : Nat) (y s : Bool) (K : Post) :
  roundK Try.prog S34 (gcLK 0 (cutLK ((l304 a b c false y s).drop 2))) F304 body304 0 [] [1,1,1] (c304_1 a b c false).t (hp []) K = (
FlatH (hp []) ∧
  tmps 91 [(0, Value.float FloatKind.f64 a), (1, Value.float FloatKind.f64 b), (7, Value.bool false)] =
      tmps 91 [(0, Value.float FloatKind.f64 a), (1, Value.float FloatKind.f64 b), (7, Value.bool false)] ∧
    hp [] = hp [] ∧ K AE.ret (tmps 91 [(6, Value.bool true)]) (hp [])) := by kernel_rfl

theorem s304_2B (a b c : Nat) (y s : Bool) (K : Post) :
  roundK Try.prog S34 (gcLK 0 (cutLK ((l304 a b c false y s).drop 3))) F304 body304 0 [] [1,1,1,1] (c304_2 a b false).t (hp []) K = (
Alt (fLt a b) (K AE.ret (tmps 91 [(6, Value.bool false)]) (hp []))
  (Alt (!fEq a a)
    (Alt (fEq a a)
      (Alt (!fEq b b) (K AE.ret (tmps 91 [(6, Value.bool false)]) (hp []))
        (FlatH (hp []) ∧ tmps 91 [] = tmps 91 [] ∧ hp [] = hp [] ∧ K AE.ret (tmps 91 [(6, Value.bool true)]) (hp [])))
      (FlatH (hp []) ∧ tmps 91 [] = tmps 91 [] ∧ hp [] = hp [] ∧ K AE.ret (tmps 91 [(6, Value.bool true)]) (hp [])))
    (Alt (fEq a a)
      (Alt (!fEq b b) (K AE.ret (tmps 91 [(6, Value.bool false)]) (hp []))
        (FlatH (hp []) ∧ tmps 91 [] = tmps 91 [] ∧ hp [] = hp [] ∧ K AE.ret (tmps 91 [(6, Value.bool true)]) (hp [])))
      (FlatH (hp []) ∧ tmps 91 [] = tmps 91 [] ∧ hp [] = hp [] ∧ K AE.ret (tmps 91 [(6, Value.bool true)]) (hp []))))) := by kernel_rfl

theorem s304_3 (a b c : Nat) (x y s : Bool) (K : Post) :
  roundK Try.prog S34 (gcLK 0 (cutLK ((l304 a b c x y s).drop 4))) F304 body304 0 [] [1,1,1,1,1] (c304_3).t (hp []) K = (
True ∧ True ∧ K AE.ret (tmps 91 [(6, Value.bool true)]) (hp [])) := by kernel_rfl

theorem fLt_facts (a b : Nat) (h : fLt a b = true) : fNan a = false ∧ fNan b = false ∧ fEq a b = false := by
  unfold fLt at h
  simp only [Bool.and_eq_true, Bool.not_eq_true', decide_eq_true_eq] at h
  refine ⟨h.1, h.2.1, ?_⟩
  unfold fEq
  rw [h.1, h.2.1, show decide (fSr a = fSr b) = false by simp; omega]; rfl
theorem key_tri (a b : Nat) (ha : a ≤ 18446744073709551615) (hb : b ≤ 18446744073709551615) :
    (ltI (fKey a) (fKey b) = true ∧ ltI (fKey b) (fKey a) = false ∧ eqI (fBits a) (fBits b) = false) ∨ (ltI (fKey a) (fKey b) = false ∧ ltI (fKey b) (fKey a) = true ∧ eqI (fBits a) (fBits b) = false) ∨ (ltI (fKey a) (fKey b) = false ∧ ltI (fKey b) (fKey a) = false ∧ eqI (fBits a) (fBits b) = true) := by
  obtain ⟨u, hu, hu1⟩ := fBits_nat a ha
  obtain ⟨v, hv, hv1⟩ := fBits_nat b hb
  unfold fKey
  rw [hu, hv]
  simp only [ltI_eq, eqI_eq, decide_eq_true_eq, decide_eq_false_iff_not]
  split <;> split <;> omega
theorem seg304_3 (hmix : Try.prog.follows .mixedOrders = true) (a b c : Nat) (x y s : Bool) (hL : Loops Try.prog body304 0 (gcLK 0 (cutLK ((l304 a b c x y s).drop 4)))) (K : Post) (hK : Q304 K) : Says Try.prog 0 (sub body304 [1,1,1,1,1]) c304_3.t (hp []) K := by
  refine (sure34 hmix).cut F304 hL ?_
  rw [s304_3]
  exact ⟨trivial, trivial, FlatH.empty, hK⟩
theorem seg304_2 (hmix : Try.prog.follows .mixedOrders = true) (a b c : Nat) (x y s : Bool) (ha : a ≤ 18446744073709551615) (hb : b ≤ 18446744073709551615) (hx : x = ltI (fKey a) (fKey b)) (hL : Loops Try.prog body304 0 (gcLK 0 (cutLK ((l304 a b c x y s).drop 3)))) (K : Post) (hK : Q304 K) :
    Says Try.prog 0 (sub body304 [1,1,1,1]) (c304_2 a b x).t (hp []) K := by
  have r : x = rLess a b := by rw [hx, rLess_eq a b ha hb]
  have el := fLt_facts a b
  unfold rLess at r
  simp only [Q304] at hK
  cases x with
  | true =>
    refine (sure34 hmix).cut F304 hL ?_
    rw [s304_2A]
    simp only [fEq_self, FlatH.empty, hK]
    revert r el
    cases fNan a <;> cases fNan b <;> cases fEq a b <;> cases fLt a b <;> simp [Alt]
  | false =>
    refine (sure34 hmix).cut F304 hL ?_
    rw [s304_2B]
    simp only [fEq_self, FlatH.empty, hK]
    revert r el
    cases fNan a <;> cases fNan b <;> cases fEq a b <;> cases fLt a b <;> simp [Alt]
theorem seg304_1 (hmix : Try.prog.follows .mixedOrders = true) (a b c : Nat) (x y s : Bool) (ha : a ≤ 18446744073709551615) (hb : b ≤ 18446744073709551615) (hc : c ≤ 18446744073709551615) (hx : x = ltI (fKey a) (fKey b)) (hL : Loops Try.prog body304 0 (gcLK 0 (cutLK ((l304 a b c x y s).drop 2)))) (K : Post) (hK : Q304 K) :
    Says Try.prog 0 (sub body304 [1,1,1]) (c304_1 a b c x).t (hp []) K := by
  simp only [Q304] at hK
  cases x with
  | true =>
    refine (sure34 hmix).cut F304 hL ?_
    rw [s304_1A]
    have h1 := ltI_iff.1 hx.symm
    simp only [flt0, flt1, leN_iff.2 ha, leN_iff.2 hb, leN_iff.2 hc, FlatH.empty, hK, Alt_iff, Need_iff, ltI_eq, leI_eq, eqI_eq, leN_eq, eqN_eq, decide_eq_true_eq, decide_eq_false_iff_not, decide_true, decide_false, true_and, and_true, Bool.true_eq_false, Bool.false_eq_true, false_implies, true_implies, implies_true, not_true_eq_false, not_false_eq_true, Bool.not_eq_true', Bool.not_eq_false']
    exact fun h h2 => absurd (Int.lt_trans h1 h) h2
  | false =>
    refine (sure34 hmix).cut F304 hL ?_
    rw [s304_1B]
    simp only [flt0, flt1, leN_iff.2 ha, leN_iff.2 hb, leN_iff.2 hc, FlatH.empty, hK, Alt_iff, Need_iff, ltI_eq, leI_eq, eqI_eq, leN_eq, eqN_eq, decide_eq_true_eq, decide_eq_false_iff_not, decide_true, decide_false, true_and, and_true, Bool.true_eq_false, Bool.false_eq_true, false_implies, true_implies, implies_true, not_true_eq_false, not_false_eq_true, Bool.not_eq_true', Bool.not_eq_false']
theorem seg304_0 (hmix : Try.prog.follows .mixedOrders = true) (a b c : Nat) (x y s : Bool) (h : (x = true ∧ y = false ∧ s = false) ∨ (x = false ∧ y = true ∧ s = false) ∨ (x = false ∧ y = false ∧ s = true)) (hL : Loops Try.prog body304 0 (gcLK 0 (cutLK ((l304 a b c x y s).drop 1)))) (K : Post) (hK : Q304 K) :
    Says Try.prog 0 (sub body304 [1,1]) (c304_0 a b c x y s).t (hp []) K := by
  simp only [Q304] at hK
  rcases h with ⟨rfl, rfl, rfl⟩ | ⟨rfl, rfl, rfl⟩ | ⟨rfl, rfl, rfl⟩
  all_goals
    refine (sure34 hmix).cut F304 hL ?_
    first
      | rw [s304_0A]
      | rw [s304_0B]
      | rw [s304_0C]
    and_intros <;> first | exact FlatH.empty | exact hK | rfl
theorem law304 (hmix : Try.prog.follows .mixedOrders = true) (a b c : Nat) (ha : a ≤ 18446744073709551615) (hb : b ≤ 18446744073709551615) (hc : c ≤ 18446744073709551615) : FunSays Try.prog 4 [.float .f64 a, .float .f64 b, .float .f64 c] (hp []) fun v _ => v = .bool true := by
  have tri := key_tri a b ha hb
  generalize hx : ltI (fKey a) (fKey b) = x at tri
  generalize hy : ltI (fKey b) (fKey a) = y at tri
  generalize hs : eqI (fBits a) (fBits b) = s at tri
  have L4 := (show Loops Try.prog body304 0 (cutLK ((l304 a b c x y s).drop 4)) from Loops.none)
  have L3 := (show Loops Try.prog body304 0 (cutLK ((l304 a b c x y s).drop 3)) from L4.more c304_3 fun K hK => seg304_3 hmix a b c x y s L4.gc K hK)
  have L2 := (show Loops Try.prog body304 0 (cutLK ((l304 a b c x y s).drop 2)) from L3.more (c304_2 a b x) fun K hK => seg304_2 hmix a b c x y s ha hb hx.symm L3.gc K hK)
  have L1 := (show Loops Try.prog body304 0 (cutLK ((l304 a b c x y s).drop 1)) from L2.more (c304_1 a b c x) fun K hK => seg304_1 hmix a b c x y s ha hb hc hx.symm L2.gc K hK)
  have L0 := (show Loops Try.prog body304 0 (cutLK (l304 a b c x y s)) from L1.more (c304_0 a b c x y s) fun K hK => seg304_0 hmix a b c x y s tri L1.gc K hK)
  refine (sure34 hmix).fun F304 body304 Try.func4 rfl L0.gc ?_
  rw [w304]
  simp only [flt0, flt1, leN_iff.2 ha, leN_iff.2 hb, leN_iff.2 hc, FlatH.empty, beqV_bool, beqV_int, hx, hy, hs, Alt_iff, Need_iff, ltI_eq, leI_eq, eqI_eq, leN_eq, eqN_eq, decide_eq_true_eq, decide_eq_false_iff_not, decide_true, decide_false, true_and, and_true, Bool.true_eq_false, Bool.false_eq_true, false_implies, true_implies, implies_true, not_true_eq_false, not_false_eq_true, Bool.not_eq_true', Bool.not_eq_false']
  rfl
end Go.Proofs.Ytglfkchcmjmmlaa

namespace Go.Proofs.Ytglfkchcmjmmlaa
open Go.RowKit Go.Proofs.Ytglfkchcmjmmlaa.AM
set_option maxRecDepth 100000
set_option maxHeartbeats 4000000
noncomputable def body309 : Code := (Try.f9.body).getD .skip
def F309 : List Nat → Option (List Nat) := fun p => match p with
  | [1] => some [0, 1]
  | [1, 1] => some [1000000, 0, 1, 5, 6]
  | [1, 1, 1] => some [1000000, 0, 1, 5, 6, 7, 8]
  | [1, 0, 1, 1, 1] => some [0, 1, 5, 6, 37]
  | [1, 0, 1, 0, 1, 1, 1] => some [4]
  | [1, 1, 1, 1] => some [1000000, 0, 1, 5, 6]
  | [1, 1, 1, 1, 1] => some [1000000, 0, 1, 5, 6, 9, 10]
  | [1, 1, 1, 1, 1, 1] => some [4]
  | _ => none
noncomputable def Q309 : Post → Prop := fun K => K .ret (tmps 74 [(4, .bool true)]) (hp [])
noncomputable def c309_0 (f : Nat) (u : Int) (x : Nat) (k : Bool) : Cut := ⟨[1,1], tmps 74 [(0, .float .f64 f), (1, .int .u64 u), (5, .float .f64 x), (6, .bool k)], hp [], Q309⟩
noncomputable def c309_1 (f : Nat) (u : Int) (x : Nat) (k : Bool) : Cut := ⟨[1,1,1], tmps 74 [(0, .float .f64 f), (1, .int .u64 u), (5, .float .f64 x), (6, .bool k), (7, .float .f64 x), (8, .bool k)], hp [], Q309⟩
noncomputable def c309_2 (f : Nat) (u : Int) (x : Nat) (k : Bool) : Cut := ⟨[1,1,1,1], tmps 74 [(0, .float .f64 f), (1, .int .u64 u), (5, .float .f64 x), (6, .bool k)], hp [], Q309⟩
noncomputable def c309_3 (f : Nat) (u : Int) (x z : Nat) (k : Bool) : Cut := ⟨[1,1,1,1,1], tmps 74 [(0, .float .f64 f), (1, .int .u64 u), (5, .float .f64 x), (6, .bool k), (9, .float .f64 z), (10, .bool true)], hp [], Q309⟩
noncomputable def l309 (f : Nat) (u : Int) (x z : Nat) (k : Bool) : List Cut := [c309_0 f u x k, c309_1 f u x k, c309_2 f u x k, c309_3 f u x z k]

theorem w309 (f : Nat) (u : Int) (x z : Nat) (k : Bool) (K : Value → Heap → Prop) :
  funK Try.prog S34 (gcLK 0 (cutLK (l309 f u x z k))) F309 body309 Try.f9 [.float .f64 f, .int .u64 u] (hp []) K = (
True ∧
  Need (leI 0 u) (Need (leI u 18446744073709551615) True) ∧
    FlatH (hp []) ∧
      tmps 74
            [(0, Value.float FloatKind.f64 f), (1, Value.int IntKind.u64 u),
              (5,
                Value.float FloatKind.f64
                  (bif fBad (intV (Value.int IntKind.u64 u)) then 0 else (intV (Value.int IntKind.u64 u)).toNat)),
              (6, Value.bool !fBad (intV (Value.int IntKind.u64 u)))] =
          tmps 74
            [(0, Value.float FloatKind.f64 f), (1, Value.int IntKind.u64 u), (5, Value.float FloatKind.f64 x),
              (6, Value.bool k)] ∧
        hp [] = hp [] ∧ K (Value.bool true) (hp [])) := by kernel_rfl

theorem s309_0 (f : Nat) (u : Int) (x z : Nat) (k : Bool) (K : Post) :
  roundK Try.prog S34 (gcLK 0 (cutLK ((l309 f u x z k).drop 1))) F309 body309 0 [] [1,1] (c309_0 f u x k).t (hp []) K = (
True ∧
  Need (leI 0 u) (Need (leI u 18446744073709551615) True) ∧
    FlatH (hp []) ∧
      tmps 74
            [(0, Value.float FloatKind.f64 f), (1, Value.int IntKind.u64 u), (5, Value.float FloatKind.f64 x),
              (6, Value.bool k),
              (7,
                Value.float FloatKind.f64
                  (bif fBad (intV (Value.int IntKind.u64 u)) then 0 else (intV (Value.int IntKind.u64 u)).toNat)),
              (8, Value.bool !fBad (intV (Value.int IntKind.u64 u)))] =
          tmps 74
            [(0, Value.float FloatKind.f64 f), (1, Value.int IntKind.u64 u), (5, Value.float FloatKind.f64 x),
              (6, Value.bool k), (7, Value.float FloatKind.f64 x), (8, Value.bool k)] ∧
        hp [] = hp [] ∧ K AE.ret (tmps 74 [(4, Value.bool true)]) (hp [])) := by kernel_rfl

theorem s309_2 (f : Nat) (u : Int) (x z : Nat) (k : Bool) (K : Post) :
  roundK Try.prog S34 (gcLK 0 (cutLK ((l309 f u x z k).drop 3))) F309 body309 0 [] [1,1,1,1] (c309_2 f u x k).t (hp []) K = (
True ∧
  Need (leN f 18446744073709551615) True ∧
    True ∧
      Need (leI 0 (fBits (fltA [Value.float FloatKind.f64 f] 0)))
          (Need (leI (fBits (fltA [Value.float FloatKind.f64 f] 0)) 18446744073709551615) True) ∧
        FlatH (hp []) ∧
          tmps 74
                [(0, Value.float FloatKind.f64 f), (1, Value.int IntKind.u64 u), (5, Value.float FloatKind.f64 x),
                  (6, Value.bool k),
                  (9,
                    Value.float FloatKind.f64
                      (bif fBad (intV (Value.int IntKind.u64 (fBits (fltA [Value.float FloatKind.f64 f] 0)))) then 0
                      else (intV (Value.int IntKind.u64 (fBits (fltA [Value.float FloatKind.f64 f] 0)))).toNat)),
                  (10,
                    Value.bool !fBad (intV (Value.int IntKind.u64 (fBits (fltA [Value.float FloatKind.f64 f] 0)))))] =
              tmps 74
                [(0, Value.float FloatKind.f64 f), (1, Value.int IntKind.u64 u), (5, Value.float FloatKind.f64 x),
                  (6, Value.bool k), (9, Value.float FloatKind.f64 z), (10, Value.bool true)] ∧
            hp [] = hp [] ∧ K AE.ret (tmps 74 [(4, Value.bool true)]) (hp [])) := by kernel_rfl

theorem s309_1A (f : Nat) (u : Int) (x z : Nat) (K : Post) :
  roundK Try.prog S34 (gcLK 0 (cutLK ((l309 f u x z true).drop 2))) F309 body309 0 [] [1,1,1] (c309_1 f u x true).t (hp []) K = (
True ∧
  Need (leN f 18446744073709551615) True ∧
    True ∧
      Need (leN f 18446744073709551615) True ∧
        Alt (!eqI (fBits (fltA [Value.float FloatKind.f64 f] 0)) (fBits (fltA [Value.float FloatKind.f64 f] 0)))
          (K AE.ret (tmps 74 [(4, Value.bool false)]) (hp []))
          (True ∧
            Need (leN x 18446744073709551615) True ∧
              True ∧
                Need (leN x 18446744073709551615) True ∧
                  Alt
                    (!eqI (fBits (fltA [Value.float FloatKind.f64 x] 0)) (fBits (fltA [Value.float FloatKind.f64 x] 0)))
                    (K AE.ret (tmps 74 [(4, Value.bool false)]) (hp []))
                    (FlatH (hp []) ∧
                      tmps 74
                            [(0, Value.float FloatKind.f64 f), (1, Value.int IntKind.u64 u),
                              (5, Value.float FloatKind.f64 x), (6, Value.bool true)] =
                          tmps 74
                            [(0, Value.float FloatKind.f64 f), (1, Value.int IntKind.u64 u),
                              (5, Value.float FloatKind.f64 x), (6, Value.bool true)] ∧
                        hp [] = hp [] ∧ K AE.ret (tmps 74 [(4, Value.bool true)]) (hp [])))) := by kernel_rfl

theorem s309_1B (f : Nat) (u : Int) (x z : Nat) (K : Post) :
  roundK Try.prog S34 (gcLK 0 (cutLK ((l309 f u x z false).drop 2))) F309 body309 0 [] [1,1,1] (c309_1 f u x false).t (hp []) K = (
True ∧
  Need (leN f 18446744073709551615) True ∧
    True ∧
      Need (leN f 18446744073709551615) True ∧
        Alt (!eqI (fBits (fltA [Value.float FloatKind.f64 f] 0)) (fBits (fltA [Value.float FloatKind.f64 f] 0)))
          (K AE.ret (tmps 74 [(4, Value.bool false)]) (hp []))
          (True ∧
            Need (leN x 18446744073709551615) True ∧
              True ∧
                Need (leN x 18446744073709551615) True ∧
                  Alt
                    (!eqI (fBits (fltA [Value.float FloatKind.f64 x] 0)) (fBits (fltA [Value.float FloatKind.f64 x] 0)))
                    (K AE.ret (tmps 74 [(4, Value.bool false)]) (hp []))
                    (FlatH (hp []) ∧
                      tmps 74
                            [(0, Value.float FloatKind.f64 f), (1, Value.int IntKind.u64 u),
                              (5, Value.float FloatKind.f64 x), (6, Value.bool false)] =
                          tmps 74
                            [(0, Value.float FloatKind.f64 f), (1, Value.int IntKind.u64 u),
                              (5, Value.float FloatKind.f64 x), (6, Value.bool false)] ∧
                        hp [] = hp [] ∧ K AE.ret (tmps 74 [(4, Value.bool true)]) (hp [])))) := by kernel_rfl

theorem s309_3A (f : Nat) (u : Int) (x z : Nat) (K : Post) :
  roundK Try.prog S34 (gcLK 0 (cutLK ((l309 f u x z true).drop 4))) F309 body309 0 [] [1,1,1,1,1] (c309_3 f u x z true).t (hp []) K = (
True ∧
  Need (leN f 18446744073709551615) True ∧
    Alt (eqI (↑z : Int) (fBits (fltA [Value.float FloatKind.f64 f] 0)))
      (Alt ((!fEq f f) == !fEq z z)
        (Alt (eqI (↑x : Int) u) (True ∧ True ∧ K AE.ret (tmps 74 [(4, Value.bool true)]) (hp []))
          (K AE.ret (tmps 74 [(4, Value.bool false)]) (hp [])))
        (K AE.ret (tmps 74 [(4, Value.bool false)]) (hp [])))
      (K AE.ret (tmps 74 [(4, Value.bool false)]) (hp []))) := by kernel_rfl

theorem s309_3B (f : Nat) (u : Int) (x z : Nat) (K : Post) :
  roundK Try.prog S34 (gcLK 0 (cutLK ((l309 f u x z false).drop 4))) F309 body309 0 [] [1,1,1,1,1] (c309_3 f u x z false).t (hp []) K = (
True ∧
  Need (leN f 18446744073709551615) True ∧
    Alt (eqI (↑z : Int) (fBits (fltA [Value.float FloatKind.f64 f] 0)))
      (Alt ((!fEq f f) == !fEq z z) (True ∧ True ∧ K AE.ret (tmps 74 [(4, Value.bool true)]) (hp []))
        (K AE.ret (tmps 74 [(4, Value.bool false)]) (hp [])))
      (K AE.ret (tmps 74 [(4, Value.bool false)]) (hp []))) := by kernel_rfl

theorem eqI_self (x : Int) : eqI x x = true := by rw [eqI_iff]
structure F309F (f : Nat) (u : Int) (x z : Nat) (k : Bool) : Prop where
  f1 : f ≤ 18446744073709551615
  u0 : 0 ≤ u
  u1 : u ≤ 18446744073709551615
  x1 : x ≤ 18446744073709551615
  xk : k = true → x = u.toNat
  z1 : fBits f = (z : Int)
  zn : fNan z = fNan f
  zb : fBad (z : Int) = false
theorem bits_facts (f : Nat) (hf : f ≤ 18446744073709551615) : ∃ z : Nat, fBits f = (z : Int) ∧ z ≤ 18446744073709551615 ∧ fNan z = fNan f ∧ fBad (z : Int) = false := by
  unfold fBits fBad
  cases h : fNan f with
  | true => exact ⟨9221120237041090561, rfl, by decide, by decide, by decide⟩
  | false => exact ⟨f, rfl, hf, h, by rw [Int.toNat_natCast, h]; rfl⟩
theorem seg309_3 (hmix : Try.prog.follows .mixedOrders = true) (f : Nat) (u : Int) (x z : Nat) (k : Bool) (hF : F309F f u x z k) (hL : Loops Try.prog body309 0 (gcLK 0 (cutLK ((l309 f u x z k).drop 4)))) (K : Post) (hK : Q309 K) : Says Try.prog 0 (sub body309 [1,1,1,1,1]) (c309_3 f u x z k).t (hp []) K := by
  simp only [Q309] at hK
  cases k with
  | true =>
    have e : eqI (x : Int) u = true := by
      rw [eqI_iff, hF.xk rfl]
      have := hF.u0
      omega
    refine (sure34 hmix).cut F309 hL ?_
    rw [s309_3A]
    simp only [flt0, leN_iff.2 hF.f1, hF.z1, eqI_self, fEq_self, hF.zn, beq_self_eq_true, e, FlatH.empty, hK, Alt_iff, Need_iff, ltI_eq, leI_eq, eqI_eq, leN_eq, eqN_eq, decide_eq_true_eq, decide_eq_false_iff_not, decide_true, decide_false, true_and, and_true, Bool.true_eq_false, Bool.false_eq_true, false_implies, true_implies, implies_true, not_true_eq_false, not_false_eq_true, Bool.not_eq_true', Bool.not_eq_false']
  | false =>
    refine (sure34 hmix).cut F309 hL ?_
    rw [s309_3B]
    simp only [flt0, leN_iff.2 hF.f1, hF.z1, eqI_self, fEq_self, hF.zn, beq_self_eq_true, FlatH.empty, hK, Alt_iff, Need_iff, ltI_eq, leI_eq, eqI_eq, leN_eq, eqN_eq, decide_eq_true_eq, decide_eq_false_iff_not, decide_true, decide_false, true_and, and_true, Bool.true_eq_false, Bool.false_eq_true, false_implies, true_implies, implies_true, not_true_eq_false, not_false_eq_true, Bool.not_eq_true', Bool.not_eq_false']
theorem seg309_2 (hmix : Try.prog.follows .mixedOrders = true) (f : Nat) (u : Int) (x z : Nat) (k : Bool) (hF : F309F f u x z k) (hL : Loops Try.prog body309 0 (gcLK 0 (cutLK ((l309 f u x z k).drop 3)))) (K : Post) (hK : Q309 K) : Says Try.prog 0 (sub body309 [1,1,1,1]) (c309_2 f u x k).t (hp []) K := by
  simp only [Q309] at hK
  refine (sure34 hmix).cut F309 hL ?_
  rw [s309_2]
  obtain ⟨b, hb, hb1⟩ := fBits_nat f hF.f1
  have hz := hF.z1
  have hbz : b = z := by omega
  subst hbz
  simp only [flt0, intV_i, leN_iff.2 hF.f1, hF.z1, hF.zb, cond_false, Int.toNat_natCast, Bool.not_false, FlatH.empty, hK, show (0 : Int) ≤ (b : Int) by omega, show (b : Int) ≤ 18446744073709551615 by omega, Alt_iff, Need_iff, ltI_eq, leI_eq, eqI_eq, leN_eq, eqN_eq, decide_eq_true_eq, decide_eq_false_iff_not, decide_true, decide_false, true_and, and_true, Bool.true_eq_false, Bool.false_eq_true, false_implies, true_implies, implies_true, not_true_eq_false, not_false_eq_true, Bool.not_eq_true', Bool.not_eq_false']
theorem seg309_1 (hmix : Try.prog.follows .mixedOrders = true) (f : Nat) (u : Int) (x z : Nat) (k : Bool) (hF : F309F f u x z k) (hL : Loops Try.prog body309 0 (gcLK 0 (cutLK ((l309 f u x z k).drop 2)))) (K : Post) (hK : Q309 K) : Says Try.prog 0 (sub body309 [1,1,1]) (c309_1 f u x k).t (hp []) K := by
  simp only [Q309] at hK
  cases k with
  | true =>
    refine (sure34 hmix).cut F309 hL ?_
    rw [s309_1A]
    simp only [flt0, leN_iff.2 hF.f1, leN_iff.2 hF.x1, eqI_self, FlatH.empty, hK, Alt_iff, Need_iff, ltI_eq, leI_eq, eqI_eq, leN_eq, eqN_eq, decide_eq_true_eq, decide_eq_false_iff_not, decide_true, decide_false, true_and, and_true, Bool.true_eq_false, Bool.false_eq_true, false_implies, true_implies, implies_true, not_true_eq_false, not_false_eq_true, Bool.not_eq_true', Bool.not_eq_false']
  | false =>
    refine (sure34 hmix).cut F309 hL ?_
    rw [s309_1B]
    simp only [flt0, leN_iff.2 hF.f1, leN_iff.2 hF.x1, eqI_self, FlatH.empty, hK, Alt_iff, Need_iff, ltI_eq, leI_eq, eqI_eq, leN_eq, eqN_eq, decide_eq_true_eq, decide_eq_false_iff_not, decide_true, decide_false, true_and, and_true, Bool.true_eq_false, Bool.false_eq_true, false_implies, true_implies, implies_true, not_true_eq_false, not_false_eq_true, Bool.not_eq_true', Bool.not_eq_false']
theorem law309 (hmix : Try.prog.follows .mixedOrders = true) (f : Nat) (u : Int) (hf : f ≤ 18446744073709551615) (h0 : 0 ≤ u) (h1 : u ≤ 18446744073709551615) : FunSays Try.prog 9 [.float .f64 f, .int .u64 u] (hp []) fun v _ => v = .bool true := by
  obtain ⟨z, z1, z2, z3, z4⟩ := bits_facts f hf
  have hF : F309F f u (cond (fBad u) 0 u.toNat) z (!fBad u) := ⟨hf, h0, h1, by cases fBad u <;> simp <;> omega, fun h => by rw [show fBad u = false by simpa using h]; rfl, z1, z3, z4⟩
  generalize hx : cond (fBad u) 0 u.toNat = x at hF
  generalize hk : (!fBad u) = k at hF
  have hL4 : Loops Try.prog body309 0 (cutLK ((l309 f u x z k).drop 4)) := Loops.none
  have hL3 : Loops Try.prog body309 0 (cutLK ((l309 f u x z k).drop 3)) := hL4.more (c309_3 f u x z k) fun K hK => seg309_3 hmix f u x z k hF hL4.gc K hK
  have hL2 : Loops Try.prog body309 0 (cutLK ((l309 f u x z k).drop 2)) := hL3.more (c309_2 f u x k) fun K hK => seg309_2 hmix f u x z k hF hL3.gc K hK
  have hL1 : Loops Try.prog body309 0 (cutLK ((l309 f u x z k).drop 1)) := hL2.more (c309_1 f u x k) fun K hK => seg309_1 hmix f u x z k hF hL2.gc K hK
  have hL0 : Loops Try.prog body309 0 (cutLK (l309 f u x z k)) := hL1.more (c309_0 f u x k) fun K hK => by
    simp only [c309_0, Q309] at hK
    show Says Try.prog 0 (sub body309 [1,1]) (c309_0 f u x k).t (hp []) K
    refine (sure34 hmix).cut F309 hL1.gc ?_
    rw [s309_0]
    simp only [intV_i, hx, hk, leI_iff.2 h0, leI_iff.2 h1, FlatH.empty, hK, Alt_iff, Need_iff, ltI_eq, leI_eq, eqI_eq, leN_eq, eqN_eq, decide_eq_true_eq, decide_eq_false_iff_not, decide_true, decide_false, true_and, and_true, Bool.true_eq_false, Bool.false_eq_true, false_implies, true_implies, implies_true, not_true_eq_false, not_false_eq_true, Bool.not_eq_true', Bool.not_eq_false']
  refine (sure34 hmix).fun F309 body309 Try.func9 rfl hL0.gc ?_
  rw [w309]
  simp only [intV_i, hx, hk, h0, h1, FlatH.empty, Alt_iff, Need_iff, ltI_eq, leI_eq, eqI_eq, leN_eq, eqN_eq, decide_eq_true_eq, decide_eq_false_iff_not, decide_true, decide_false, true_and, and_true, Bool.true_eq_false, Bool.false_eq_true, false_implies, true_implies, implies_true, not_true_eq_false, not_false_eq_true, Bool.not_eq_true', Bool.not_eq_false']
  rfl
end Go.Proofs.Ytglfkchcmjmmlaa

namespace Go.Proofs.Ytglfkchcmjmmlaa
open Go.RowKit Go.Proofs.Ytglfkchcmjmmlaa.AM
set_option maxRecDepth 100000
set_option maxHeartbeats 4000000
noncomputable def body310 : Code := (Try.f10.body).getD .skip
def F310 : List Nat → Option (List Nat) := fun p => match p with
  | [1] => some [0, 1, 2, 3, 4]
  | [1, 1] => some [0, 1, 2, 3, 4, 11]
  | [1, 1, 1] => some [1000000, 0, 1, 2, 3, 4, 11, 12]
  | [1, 0, 1, 1, 1] => some [0, 1, 2, 3, 4, 11, 36]
  | [1, 0, 1, 0, 1, 1, 1] => some [10]
  | [1, 1, 1, 1] => some [1000000, 0, 1, 2, 3, 4, 11]
  | [1, 0, 1, 1, 1, 1] => some [0, 1, 2, 3, 4, 11, 58]
  | [1, 0, 1, 0, 1, 1, 1, 1] => some [10]
  | [1, 1, 1, 1, 1] => some [1000000, 0, 1, 2, 3, 4, 11]
  | [1, 0, 1, 1, 1, 1, 1] => some [0, 1, 11, 82]
  | [1, 0, 1, 0, 1, 1, 1, 1, 1] => some [10]
  | [1, 1, 1, 1, 1, 1] => some [1000000, 0, 1, 11]
  | [1, 1, 1, 1, 1, 1, 1] => some [10]
  | _ => none
noncomputable def Q310 : Post → Prop := fun K => K .ret (tmps 102 [(10, .bool true)]) (hp [])
noncomputable def V310 (a b f g h : Nat) : List (Nat × Value) := [(0, .float .f64 a), (1, .float .f64 b), (2, .float .f64 f), (3, .float .f64 g), (4, .float .f64 h)]
noncomputable def B310 : List (Nat × Value) := [(11, .pointer (some ⟨0,0,none⟩))]
noncomputable def H310 (a b : Nat) : List Blk := [.cells [.bool false, .float .f64 a, .float .f64 b] 3 true]
noncomputable def c310_0 (a b f g h : Nat) : Cut := ⟨[1,1,1], tmps 102 (V310 a b f g h ++ B310 ++ [(12, .pointer (some ⟨1,0,none⟩))]), hp (H310 a b ++ H310 18442240474082181120 9218868437227405312), Q310⟩
noncomputable def c310_1 (a b f g h : Nat) : Cut := ⟨[1,1,1,1], tmps 102 (V310 a b f g h ++ B310), hp (H310 a b), Q310⟩
noncomputable def c310_2 (a b f g h : Nat) : Cut := ⟨[1,1,1,1,1], tmps 102 (V310 a b f g h ++ B310), hp (H310 a b), Q310⟩
noncomputable def c310_3 (a b : Nat) : Cut := ⟨[1,1,1,1,1,1], tmps 102 ([(0, .float .f64 a), (1, .float .f64 b)] ++ B310), hp (H310 a b), Q310⟩
noncomputable def l310 (a b f g h : Nat) : List Cut := [c310_0 a b f g h, c310_1 a b f g h, c310_2 a b f g h, c310_3 a b]

theorem w310 (a b f g h : Nat) (K : Value → Heap → Prop) :
  funK Try.prog S34 (gcLK 0 (cutLK (l310 a b f g h))) F310 body310 Try.f10 [.float .f64 a, .float .f64 b, .float .f64 f, .float .f64 g, .float .f64 h] (hp []) K = (
True ∧
  True ∧
    True ∧
      True ∧
        FlatH
            (hp
              [Blk.cells [Value.bool false, Value.float FloatKind.f64 a, Value.float FloatKind.f64 b] 3 true,
                Blk.cells
                  [Value.bool false, Value.float FloatKind.f64 18442240474082181120,
                    Value.float FloatKind.f64 9218868437227405312]
                  3 true]) ∧
          tmps 102
                [(0, Value.float FloatKind.f64 a), (1, Value.float FloatKind.f64 b), (2, Value.float FloatKind.f64 f),
                  (3, Value.float FloatKind.f64 g), (4, Value.float FloatKind.f64 h),
                  (11, Value.pointer (some { block := 0, off := 0 })),
                  (12, Value.pointer (some { block := 1, off := 0 }))] =
              tmps 102
                [(0, Value.float FloatKind.f64 a), (1, Value.float FloatKind.f64 b), (2, Value.float FloatKind.f64 f),
                  (3, Value.float FloatKind.f64 g), (4, Value.float FloatKind.f64 h),
                  (11, Value.pointer (some { block := 0, off := 0 })),
                  (12, Value.pointer (some { block := 1, off := 0 }))] ∧
            hp
                  [Blk.cells [Value.bool false, Value.float FloatKind.f64 a, Value.float FloatKind.f64 b] 3 true,
                    Blk.cells
                      [Value.bool false, Value.float FloatKind.f64 18442240474082181120,
                        Value.float FloatKind.f64 9218868437227405312]
                      3 true] =
                hp
                  [Blk.cells [Value.bool false, Value.float FloatKind.f64 a, Value.float FloatKind.f64 b] 3 true,
                    Blk.cells
                      [Value.bool false, Value.float FloatKind.f64 18442240474082181120,
                        Value.float FloatKind.f64 9218868437227405312]
                      3 true] ∧
              K (Value.bool true) (hp [])) := by kernel_rfl

theorem s310_0 (a b f g h : Nat) (K : Post) :
  roundK Try.prog S34 (gcLK 0 (cutLK ((l310 a b f g h).drop 1))) F310 body310 0 [] [1,1,1] (c310_0 a b f g h).t (c310_0 a b f g h).h K = (
True ∧
  True ∧
    True ∧
      (Need (leN (fltV (Value.float FloatKind.f64 a)) 18446744073709551615)
            (Need (leN (fltV (Value.float FloatKind.f64 b)) 18446744073709551615) True) ∧
          True) ∧
        Alt
          (inB (boolV (Value.bool (boolV (Value.bool false))))
            (fltV (Value.float FloatKind.f64 (fltV (Value.float FloatKind.f64 a))))
            (fltV (Value.float FloatKind.f64 (fltV (Value.float FloatKind.f64 b)))) 9221120237041090561)
          (Need
            (beqV 64
              (Value.agg
                #[Value.bool (boolV (Value.bool false)), Value.float FloatKind.f64 (fltV (Value.float FloatKind.f64 a)),
                  Value.float FloatKind.f64 (fltV (Value.float FloatKind.f64 b))])
              (Value.agg
                #[Value.bool (boolV (Value.bool false)), Value.float FloatKind.f64 (fltV (Value.float FloatKind.f64 a)),
                  Value.float FloatKind.f64 (fltV (Value.float FloatKind.f64 b))]))
            (K AE.ret (tmps 102 [(10, Value.bool false)]) (hp [])))
          (True ∧
            (True ∧ Need (leN f 18446744073709551615) True) ∧
              True ∧
                (True ∧ Need (leN f 18446744073709551615) True) ∧
                  Need (beqV 64 (Value.bool (fEq f f)) (Value.bool (fEq f f)))
                    (Need (beqV 64 (Value.float FloatKind.f64 f) (Value.float FloatKind.f64 f))
                      (Need (beqV 64 (Value.float FloatKind.f64 f) (Value.float FloatKind.f64 f))
                        (Need
                          (beqV 64
                            (Value.agg
                              #[Value.bool (boolV (Value.bool false)),
                                Value.float FloatKind.f64 (fltV (Value.float FloatKind.f64 a)),
                                Value.float FloatKind.f64 (fltV (Value.float FloatKind.f64 b))])
                            (Value.agg
                              #[Value.bool (boolV (Value.bool false)),
                                Value.float FloatKind.f64 (fltV (Value.float FloatKind.f64 a)),
                                Value.float FloatKind.f64 (fltV (Value.float FloatKind.f64 b))]))
                          (Alt
                            (!inB (boolV (Value.bool false)) 18442240474082181120 9218868437227405312
                                  (fltA
                                    [Value.agg
                                        #[Value.bool false, Value.float FloatKind.f64 18442240474082181120,
                                          Value.float FloatKind.f64 9218868437227405312],
                                      Value.float FloatKind.f64 f]
                                    1) ==
                                fEq f f)
                            (K AE.ret (tmps 102 [(10, Value.bool false)]) (hp []))
                            (FlatH
                                (hp
                                  [Blk.cells
                                      [Value.bool false, Value.float FloatKind.f64 a, Value.float FloatKind.f64 b] 3
                                      true]) ∧
                              tmps 102
                                    [(0, Value.float FloatKind.f64 a), (1, Value.float FloatKind.f64 b),
                                      (2, Value.float FloatKind.f64 f), (3, Value.float FloatKind.f64 g),
                                      (4, Value.float FloatKind.f64 h),
                                      (11, Value.pointer (some { block := 0, off := 0 }))] =
                                  tmps 102
                                    [(0, Value.float FloatKind.f64 a), (1, Value.float FloatKind.f64 b),
                                      (2, Value.float FloatKind.f64 f), (3, Value.float FloatKind.f64 g),
                                      (4, Value.float FloatKind.f64 h),
                                      (11, Value.pointer (some { block := 0, off := 0 }))] ∧
                                hp
                                      [Blk.cells
                                          [Value.bool false, Value.float FloatKind.f64 a, Value.float FloatKind.f64 b] 3
                                          true] =
                                    hp
                                      [Blk.cells
                                          [Value.bool false, Value.float FloatKind.f64 a, Value.float FloatKind.f64 b] 3
                                          true] ∧
                                  K AE.ret (tmps 102 [(10, Value.bool true)]) (hp [])))))))) := by kernel_rfl

theorem s310_1 (a b f g h : Nat) (K : Post) :
  roundK Try.prog S34 (gcLK 0 (cutLK ((l310 a b f g h).drop 2))) F310 body310 0 [] [1,1,1,1] (c310_1 a b f g h).t (c310_1 a b f g h).h K = (
True ∧
  Need (leN (fltV (Value.float FloatKind.f64 a)) 18446744073709551615)
      (Need (leN (fltV (Value.float FloatKind.f64 b)) 18446744073709551615) True) ∧
    True ∧
      (Need (leN (fltV (Value.float FloatKind.f64 a)) 18446744073709551615)
            (Need (leN (fltV (Value.float FloatKind.f64 b)) 18446744073709551615) True) ∧
          Need (leN a 18446744073709551615) True) ∧
        Alt
          (!mayB (boolV (Value.bool (boolV (Value.bool false))))
                (fltV (Value.float FloatKind.f64 (fltV (Value.float FloatKind.f64 a))))
                (fltV (Value.float FloatKind.f64 (fltV (Value.float FloatKind.f64 b)))) ==
              inB (boolV (Value.bool (boolV (Value.bool false))))
                (fltV (Value.float FloatKind.f64 (fltV (Value.float FloatKind.f64 a))))
                (fltV (Value.float FloatKind.f64 (fltV (Value.float FloatKind.f64 b))))
                (fltA
                  [Value.agg
                      #[Value.bool (boolV (Value.bool false)),
                        Value.float FloatKind.f64 (fltV (Value.float FloatKind.f64 a)),
                        Value.float FloatKind.f64 (fltV (Value.float FloatKind.f64 b))],
                    Value.float FloatKind.f64 a]
                  1))
          (Need (beqV 64 (Value.float FloatKind.f64 a) (Value.float FloatKind.f64 a))
            (Need
              (beqV 64
                (Value.agg
                  #[Value.bool (boolV (Value.bool false)),
                    Value.float FloatKind.f64 (fltV (Value.float FloatKind.f64 a)),
                    Value.float FloatKind.f64 (fltV (Value.float FloatKind.f64 b))])
                (Value.agg
                  #[Value.bool (boolV (Value.bool false)),
                    Value.float FloatKind.f64 (fltV (Value.float FloatKind.f64 a)),
                    Value.float FloatKind.f64 (fltV (Value.float FloatKind.f64 b))]))
              (K AE.ret (tmps 102 [(10, Value.bool false)]) (hp []))))
          (True ∧
            Need (leN (fltV (Value.float FloatKind.f64 a)) 18446744073709551615)
                (Need (leN (fltV (Value.float FloatKind.f64 b)) 18446744073709551615) True) ∧
              True ∧
                (Need (leN (fltV (Value.float FloatKind.f64 a)) 18446744073709551615)
                      (Need (leN (fltV (Value.float FloatKind.f64 b)) 18446744073709551615) True) ∧
                    Need (leN b 18446744073709551615) True) ∧
                  Alt
                    (!mayB (boolV (Value.bool (boolV (Value.bool false))))
                          (fltV (Value.float FloatKind.f64 (fltV (Value.float FloatKind.f64 a))))
                          (fltV (Value.float FloatKind.f64 (fltV (Value.float FloatKind.f64 b)))) ==
                        inB (boolV (Value.bool (boolV (Value.bool false))))
                          (fltV (Value.float FloatKind.f64 (fltV (Value.float FloatKind.f64 a))))
                          (fltV (Value.float FloatKind.f64 (fltV (Value.float FloatKind.f64 b))))
                          (fltA
                            [Value.agg
                                #[Value.bool (boolV (Value.bool false)),
                                  Value.float FloatKind.f64 (fltV (Value.float FloatKind.f64 a)),
                                  Value.float FloatKind.f64 (fltV (Value.float FloatKind.f64 b))],
                              Value.float FloatKind.f64 b]
                            1))
                    (Need (beqV 64 (Value.float FloatKind.f64 b) (Value.float FloatKind.f64 b))
                      (Need
                        (beqV 64
                          (Value.agg
                            #[Value.bool (boolV (Value.bool false)),
                              Value.float FloatKind.f64 (fltV (Value.float FloatKind.f64 a)),
                              Value.float FloatKind.f64 (fltV (Value.float FloatKind.f64 b))])
                          (Value.agg
                            #[Value.bool (boolV (Value.bool false)),
                              Value.float FloatKind.f64 (fltV (Value.float FloatKind.f64 a)),
                              Value.float FloatKind.f64 (fltV (Value.float FloatKind.f64 b))]))
                        (Need (beqV 64 (Value.float FloatKind.f64 a) (Value.float FloatKind.f64 a))
                          (Need
                            (beqV 64
                              (Value.agg
                                #[Value.bool (boolV (Value.bool false)),
                                  Value.float FloatKind.f64 (fltV (Value.float FloatKind.f64 a)),
                                  Value.float FloatKind.f64 (fltV (Value.float FloatKind.f64 b))])
                              (Value.agg
                                #[Value.bool (boolV (Value.bool false)),
                                  Value.float FloatKind.f64 (fltV (Value.float FloatKind.f64 a)),
                                  Value.float FloatKind.f64 (fltV (Value.float FloatKind.f64 b))]))
                            (K AE.ret (tmps 102 [(10, Value.bool false)]) (hp []))))))
                    (True ∧
                      (Need (leN (fltV (Value.float FloatKind.f64 a)) 18446744073709551615)
                            (Need (leN (fltV (Value.float FloatKind.f64 b)) 18446744073709551615) True) ∧
                          True) ∧
                        True ∧
                          True ∧
                            True ∧
                              (Need (leN (fltV (Value.float FloatKind.f64 a)) 18446744073709551615)
                                    (Need (leN (fltV (Value.float FloatKind.f64 b)) 18446744073709551615) True) ∧
                                  True) ∧
                                Need
                                  (beqV 64
                                    (Value.agg
                                      #[Value.bool (boolV (Value.bool false)),
                                        Value.float FloatKind.f64 (fltV (Value.float FloatKind.f64 a)),
                                        Value.float FloatKind.f64 (fltV (Value.float FloatKind.f64 b))])
                                    (Value.agg
                                      #[Value.bool (boolV (Value.bool false)),
                                        Value.float FloatKind.f64 (fltV (Value.float FloatKind.f64 a)),
                                        Value.float FloatKind.f64 (fltV (Value.float FloatKind.f64 b))]))
                                  (Need
                                    (beqV 64
                                      (Value.agg
                                        #[Value.bool (boolV (Value.bool false)),
                                          Value.float FloatKind.f64 (fltV (Value.float FloatKind.f64 a)),
                                          Value.float FloatKind.f64 (fltV (Value.float FloatKind.f64 b))])
                                      (Value.agg
                                        #[Value.bool (boolV (Value.bool false)),
                                          Value.float FloatKind.f64 (fltV (Value.float FloatKind.f64 a)),
                                          Value.float FloatKind.f64 (fltV (Value.float FloatKind.f64 b))]))
                                    (Need (beqV 64 (Value.float FloatKind.f64 b) (Value.float FloatKind.f64 b))
                                      (Need
                                        (beqV 64
                                          (Value.agg
                                            #[Value.bool (boolV (Value.bool false)),
                                              Value.float FloatKind.f64 (fltV (Value.float FloatKind.f64 a)),
                                              Value.float FloatKind.f64 (fltV (Value.float FloatKind.f64 b))])
                                          (Value.agg
                                            #[Value.bool (boolV (Value.bool false)),
                                              Value.float FloatKind.f64 (fltV (Value.float FloatKind.f64 a)),
                                              Value.float FloatKind.f64 (fltV (Value.float FloatKind.f64 b))]))
                                        (Need (beqV 64 (Value.float FloatKind.f64 a) (Value.float FloatKind.f64 a))
                                          (Need
                                            (beqV 64
                                              (Value.agg
                                                #[Value.bool (boolV (Value.bool false)),
                                                  Value.float FloatKind.f64 (fltV (Value.float FloatKind.f64 a)),
                                                  Value.float FloatKind.f64 (fltV (Value.float FloatKind.f64 b))])
                                              (Value.agg
                                                #[Value.bool (boolV (Value.bool false)),
                                                  Value.float FloatKind.f64 (fltV (Value.float FloatKind.f64 a)),
                                                  Value.float FloatKind.f64 (fltV (Value.float FloatKind.f64 b))]))
                                            (Alt
                                              (!inB (boolV (Value.bool (boolV (Value.bool false))))
                                                    (fltV
                                                      (Value.float FloatKind.f64 (fltV (Value.float FloatKind.f64 a))))
                                                    (fltV
                                                      (Value.float FloatKind.f64 (fltV (Value.float FloatKind.f64 b))))
                                                    0 ==
                                                  inB (boolV (Value.bool (boolV (Value.bool false))))
                                                    (fltV
                                                      (Value.float FloatKind.f64 (fltV (Value.float FloatKind.f64 a))))
                                                    (fltV
                                                      (Value.float FloatKind.f64 (fltV (Value.float FloatKind.f64 b))))
                                                    9223372036854775808)
                                              (K AE.ret (tmps 102 [(10, Value.bool false)]) (hp []))
                                              (FlatH
                                                  (hp
                                                    [Blk.cells
                                                        [Value.bool false, Value.float FloatKind.f64 a,
                                                          Value.float FloatKind.f64 b]
                                                        3 true]) ∧
                                                tmps 102
                                                      [(0, Value.float FloatKind.f64 a),
                                                        (1, Value.float FloatKind.f64 b),
                                                        (2, Value.float FloatKind.f64 f),
                                                        (3, Value.float FloatKind.f64 g),
                                                        (4, Value.float FloatKind.f64 h),
                                                        (11, Value.pointer (some { block := 0, off := 0 }))] =
                                                    tmps 102
                                                      [(0, Value.float FloatKind.f64 a),
                                                        (1, Value.float FloatKind.f64 b),
                                                        (2, Value.float FloatKind.f64 f),
                                                        (3, Value.float FloatKind.f64 g),
                                                        (4, Value.float FloatKind.f64 h),
                                                        (11, Value.pointer (some { block := 0, off := 0 }))] ∧
                                                  hp
                                                        [Blk.cells
                                                            [Value.bool false, Value.float FloatKind.f64 a,
                                                              Value.float FloatKind.f64 b]
                                                            3 true] =
                                                      hp
                                                        [Blk.cells
                                                            [Value.bool false, Value.float FloatKind.f64 a,
                                                              Value.float FloatKind.f64 b]
                                                            3 true] ∧
                                                    K AE.ret (tmps 102 [(10, Value.bool true)]) (hp []))))))))))) := by kernel_rfl

theorem s310_2 (a b f g h : Nat) (K : Post) :
  roundK Try.prog S34 (gcLK 0 (cutLK ((l310 a b f g h).drop 3))) F310 body310 0 [] [1,1,1,1,1] (c310_2 a b f g h).t (c310_2 a b f g h).h K = (
Alt (fLt f g || fEq f g)
  (Alt (fLt g h || fEq g h)
    (True ∧
      (Need (leN (fltV (Value.float FloatKind.f64 a)) 18446744073709551615)
            (Need (leN (fltV (Value.float FloatKind.f64 b)) 18446744073709551615) True) ∧
          Need (leN f 18446744073709551615) True) ∧
        Alt
          (inB (boolV (Value.bool (boolV (Value.bool false))))
            (fltV (Value.float FloatKind.f64 (fltV (Value.float FloatKind.f64 a))))
            (fltV (Value.float FloatKind.f64 (fltV (Value.float FloatKind.f64 b))))
            (fltA
              [Value.agg
                  #[Value.bool (boolV (Value.bool false)),
                    Value.float FloatKind.f64 (fltV (Value.float FloatKind.f64 a)),
                    Value.float FloatKind.f64 (fltV (Value.float FloatKind.f64 b))],
                Value.float FloatKind.f64 f]
              1))
          (True ∧
            (Need (leN (fltV (Value.float FloatKind.f64 a)) 18446744073709551615)
                  (Need (leN (fltV (Value.float FloatKind.f64 b)) 18446744073709551615) True) ∧
                Need (leN h 18446744073709551615) True) ∧
              Alt
                (inB (boolV (Value.bool (boolV (Value.bool false))))
                  (fltV (Value.float FloatKind.f64 (fltV (Value.float FloatKind.f64 a))))
                  (fltV (Value.float FloatKind.f64 (fltV (Value.float FloatKind.f64 b))))
                  (fltA
                    [Value.agg
                        #[Value.bool (boolV (Value.bool false)),
                          Value.float FloatKind.f64 (fltV (Value.float FloatKind.f64 a)),
                          Value.float FloatKind.f64 (fltV (Value.float FloatKind.f64 b))],
                      Value.float FloatKind.f64 h]
                    1))
                (True ∧
                  (Need (leN (fltV (Value.float FloatKind.f64 a)) 18446744073709551615)
                        (Need (leN (fltV (Value.float FloatKind.f64 b)) 18446744073709551615) True) ∧
                      Need (leN g 18446744073709551615) True) ∧
                    Alt
                      (!inB (boolV (Value.bool (boolV (Value.bool false))))
                          (fltV (Value.float FloatKind.f64 (fltV (Value.float FloatKind.f64 a))))
                          (fltV (Value.float FloatKind.f64 (fltV (Value.float FloatKind.f64 b))))
                          (fltA
                            [Value.agg
                                #[Value.bool (boolV (Value.bool false)),
                                  Value.float FloatKind.f64 (fltV (Value.float FloatKind.f64 a)),
                                  Value.float FloatKind.f64 (fltV (Value.float FloatKind.f64 b))],
                              Value.float FloatKind.f64 g]
                            1))
                      (K AE.ret (tmps 102 [(10, Value.bool false)]) (hp []))
                      (FlatH
                          (hp
                            [Blk.cells [Value.bool false, Value.float FloatKind.f64 a, Value.float FloatKind.f64 b] 3
                                true]) ∧
                        tmps 102
                              [(0, Value.float FloatKind.f64 a), (1, Value.float FloatKind.f64 b),
                                (11, Value.pointer (some { block := 0, off := 0 }))] =
                            tmps 102
                              [(0, Value.float FloatKind.f64 a), (1, Value.float FloatKind.f64 b),
                                (11, Value.pointer (some { block := 0, off := 0 }))] ∧
                          hp
                                [Blk.cells [Value.bool false, Value.float FloatKind.f64 a, Value.float FloatKind.f64 b]
                                    3 true] =
                              hp
                                [Blk.cells [Value.bool false, Value.float FloatKind.f64 a, Value.float FloatKind.f64 b]
                                    3 true] ∧
                            K AE.ret (tmps 102 [(10, Value.bool true)]) (hp [])))
                (FlatH
                    (hp
                      [Blk.cells [Value.bool false, Value.float FloatKind.f64 a, Value.float FloatKind.f64 b] 3 true]) ∧
                  tmps 102
                        [(0, Value.float FloatKind.f64 a), (1, Value.float FloatKind.f64 b),
                          (11, Value.pointer (some { block := 0, off := 0 }))] =
                      tmps 102
                        [(0, Value.float FloatKind.f64 a), (1, Value.float FloatKind.f64 b),
                          (11, Value.pointer (some { block := 0, off := 0 }))] ∧
                    hp [Blk.cells [Value.bool false, Value.float FloatKind.f64 a, Value.float FloatKind.f64 b] 3 true] =
                        hp
                          [Blk.cells [Value.bool false, Value.float FloatKind.f64 a, Value.float FloatKind.f64 b] 3
                              true] ∧
                      K AE.ret (tmps 102 [(10, Value.bool true)]) (hp [])))
          (FlatH (hp [Blk.cells [Value.bool false, Value.float FloatKind.f64 a, Value.float FloatKind.f64 b] 3 true]) ∧
            tmps 102
                  [(0, Value.float FloatKind.f64 a), (1, Value.float FloatKind.f64 b),
                    (11, Value.pointer (some { block := 0, off := 0 }))] =
                tmps 102
                  [(0, Value.float FloatKind.f64 a), (1, Value.float FloatKind.f64 b),
                    (11, Value.pointer (some { block := 0, off := 0 }))] ∧
              hp [Blk.cells [Value.bool false, Value.float FloatKind.f64 a, Value.float FloatKind.f64 b] 3 true] =
                  hp [Blk.cells [Value.bool false, Value.float FloatKind.f64 a, Value.float FloatKind.f64 b] 3 true] ∧
                K AE.ret (tmps 102 [(10, Value.bool true)]) (hp [])))
    (FlatH (hp [Blk.cells [Value.bool false, Value.float FloatKind.f64 a, Value.float FloatKind.f64 b] 3 true]) ∧
      tmps 102
            [(0, Value.float FloatKind.f64 a), (1, Value.float FloatKind.f64 b),
              (11, Value.pointer (some { block := 0, off := 0 }))] =
          tmps 102
            [(0, Value.float FloatKind.f64 a), (1, Value.float FloatKind.f64 b),
              (11, Value.pointer (some { block := 0, off := 0 }))] ∧
        hp [Blk.cells [Value.bool false, Value.float FloatKind.f64 a, Value.float FloatKind.f64 b] 3 true] =
            hp [Blk.cells [Value.bool false, Value.float FloatKind.f64 a, Value.float FloatKind.f64 b] 3 true] ∧
          K AE.ret (tmps 102 [(10, Value.bool true)]) (hp [])))
  (FlatH (hp [Blk.cells [Value.bool false, Value.float FloatKind.f64 a, Value.float FloatKind.f64 b] 3 true]) ∧
    tmps 102
          [(0, Value.float FloatKind.f64 a), (1, Value.float FloatKind.f64 b),
            (11, Value.pointer (some { block := 0, off := 0 }))] =
        tmps 102
          [(0, Value.float FloatKind.f64 a), (1, Value.float FloatKind.f64 b),
            (11, Value.pointer (some { block := 0, off := 0 }))] ∧
      hp [Blk.cells [Value.bool false, Value.float FloatKind.f64 a, Value.float FloatKind.f64 b] 3 true] =
          hp [Blk.cells [Value.bool false, Value.float FloatKind.f64 a, Value.float FloatKind.f64 b] 3 true] ∧
        K AE.ret (tmps 102 [(10, Value.bool true)]) (hp []))) := by kernel_rfl

theorem s310_3 (a b f g h : Nat) (K : Post) :
  roundK Try.prog S34 (gcLK 0 (cutLK ((l310 a b f g h).drop 4))) F310 body310 0 [] [1,1,1,1,1,1] (c310_3 a b).t (c310_3 a b).h K = (
Alt (!fEq a a) (True ∧ True ∧ K AE.ret (tmps 102 [(10, Value.bool true)]) (hp []))
  (Alt (!fEq b b) (True ∧ True ∧ K AE.ret (tmps 102 [(10, Value.bool true)]) (hp []))
    (True ∧
      Need (leN (fltV (Value.float FloatKind.f64 a)) 18446744073709551615)
          (Need (leN (fltV (Value.float FloatKind.f64 b)) 18446744073709551615) True) ∧
        Alt
          (mayB (boolV (Value.bool (boolV (Value.bool false))))
              (fltV (Value.float FloatKind.f64 (fltV (Value.float FloatKind.f64 a))))
              (fltV (Value.float FloatKind.f64 (fltV (Value.float FloatKind.f64 b)))) ==
            (fLt a b || fEq a b))
          (True ∧ True ∧ K AE.ret (tmps 102 [(10, Value.bool true)]) (hp []))
          (K AE.ret (tmps 102 [(10, Value.bool false)]) (hp []))))) := by kernel_rfl

theorem fltx (v : Value) (k : FloatKind) (a : Nat) (t : List Value) : fltA (v :: .float k a :: t) 1 = a := rfl
theorem fLe_iff (a b : Nat) : (fLt a b || fEq a b) = true ↔ fNan a = false ∧ fNan b = false ∧ fSr a ≤ fSr b := by
  unfold fLt fEq
  simp only [Bool.or_eq_true, Bool.and_eq_true, Bool.not_eq_true', decide_eq_true_eq]
  constructor
  · rintro (⟨h1, h2, h3⟩ | ⟨h1, h2, h3⟩)
    · exact ⟨h1, h2, by omega⟩
    · exact ⟨h1, h2, by omega⟩
  · rintro ⟨h1, h2, h3⟩
    rcases Int.lt_or_le (fSr a) (fSr b) with h | h
    · exact .inl ⟨h1, h2, h⟩
    · exact .inr ⟨h1, h2, by omega⟩
theorem in_iff (a b x : Nat) : inB false a b x = true ↔ (fLt a b || fEq a b) = true ∧ (fLt a x || fEq a x) = true ∧ (fLt x b || fEq x b) = true := by
  simp only [inB, mayB, cond_false, Bool.false_or, Bool.and_eq_true]
theorem may_iff (a b : Nat) : mayB false a b = (fLt a b || fEq a b) := rfl
theorem i1 (a b : Nat) : inB false a b 9221120237041090561 = false := by
  rw [Bool.eq_false_iff]
  intro h
  have := ((fLe_iff _ _).1 ((in_iff _ _ _).1 h).2.1).2.1
  revert this
  decide
theorem i3 (f : Nat) (hf : f ≤ 18446744073709551615) : inB false 18442240474082181120 9218868437227405312 f = !fNan f := by
  rw [Bool.eq_iff_iff, in_iff, fLe_iff, fLe_iff, fLe_iff]
  have e1 : fNan 18442240474082181120 = false := by decide
  have e2 : fNan 9218868437227405312 = false := by decide
  have e3 : fSr 18442240474082181120 = -9218868437227405312 := by decide
  have e4 : fSr 9218868437227405312 = 9218868437227405312 := by decide
  simp only [e1, e2, e3, e4, true_and, Bool.not_eq_true']
  refine ⟨fun h => h.2.1.1, fun h => ⟨by omega, ⟨h, ?_⟩, h, ?_⟩⟩
  all_goals
    have hn : ¬ 9218868437227405312 < fRung f := fun h' => by rw [fNan_iff.2 h'] at h; cases h
    unfold fSr sg
    cases fNeg f <;> simp only [cond_true, cond_false] <;> omega
theorem i4 (a b : Nat) : mayB false a b = inB false a b a := by
  rw [Bool.eq_iff_iff, in_iff, may_iff]
  refine ⟨fun h => ⟨h, ?_, h⟩, fun h => h.1⟩
  rw [fLe_iff] at h ⊢
  exact ⟨h.1, h.1, by omega⟩
theorem i5 (a b : Nat) : mayB false a b = inB false a b b := by
  rw [Bool.eq_iff_iff, in_iff, may_iff]
  refine ⟨fun h => ⟨h, h, ?_⟩, fun h => h.1⟩
  rw [fLe_iff] at h ⊢
  exact ⟨h.2.1, h.2.1, by omega⟩
theorem i6 (a b : Nat) : inB false a b 9223372036854775808 = inB false a b 0 := by
  rw [Bool.eq_iff_iff, in_iff, in_iff, fLe_iff, fLe_iff, fLe_iff, fLe_iff, fLe_iff]
  have e1 : fNan 9223372036854775808 = false := by decide
  have e2 : fNan 0 = false := by decide
  have e3 : fSr 9223372036854775808 = 0 := by decide
  have e4 : fSr 0 = 0 := by decide
  simp only [e1, e2, e3, e4]
theorem i7 (a b f g h : Nat) (h1 : (fLt f g || fEq f g) = true) (h2 : (fLt g h || fEq g h) = true) (h3 : inB false a b f = true) (h4 : inB false a b h = true) : inB false a b g = true := by
  rw [in_iff, fLe_iff, fLe_iff, fLe_iff] at h3 h4 ⊢
  rw [fLe_iff] at h1 h2
  exact ⟨h3.1, ⟨h3.1.1, h1.2.1, by omega⟩, h1.2.1, h3.1.2.1, by omega⟩
structure F310F (a b f g h : Nat) : Prop where
  ha : a ≤ 18446744073709551615
  hb : b ≤ 18446744073709551615
  hf : f ≤ 18446744073709551615
  hg : g ≤ 18446744073709551615
  hh : h ≤ 18446744073709551615
theorem band_rfl (a b : Nat) : beqV 64 (.agg #[.bool false, .float .f64 a, .float .f64 b]) (.agg #[.bool false, .float .f64 a, .float .f64 b]) = true := by simp [beqV]
theorem flatB (a b : Nat) : FlatL [Value.bool false, Value.float FloatKind.f64 a, Value.float FloatKind.f64 b] := ⟨fun x hx => by
  simp at hx
  rcases hx with rfl | rfl | rfl <;> rfl⟩
theorem flatB1 (a b : Nat) : FlatH (hp [Blk.cells [Value.bool false, Value.float FloatKind.f64 a, Value.float FloatKind.f64 b] 3 true]) := FlatH.hp ⟨flatB a b, trivial⟩
theorem flatB2 (a b c d : Nat) : FlatH (hp [Blk.cells [Value.bool false, Value.float FloatKind.f64 a, Value.float FloatKind.f64 b] 3 true, Blk.cells [Value.bool false, Value.float FloatKind.f64 c, Value.float FloatKind.f64 d] 3 true]) := FlatH.hp ⟨flatB a b, flatB c d, trivial⟩
theorem seg310_0 (hmix : Try.prog.follows .mixedOrders = true) (a b f g h : Nat) (hF : F310F a b f g h) (hL : Loops Try.prog body310 0 (gcLK 0 (cutLK ((l310 a b f g h).drop 1)))) (K : Post) (hK : Q310 K) : Says Try.prog 0 (sub body310 [1,1,1]) (c310_0 a b f g h).t (c310_0 a b f g h).h K := by
  simp only [Q310] at hK
  refine (sure34 hmix).cut F310 hL ?_
  rw [s310_0]
  simp only [fltV_f, boolV_b, flt0, fltx, leN_iff.2 hF.ha, leN_iff.2 hF.hb, leN_iff.2 hF.hf, i1, i3 f hF.hf, fEq_self, beq_self_eq_true, beqV_bool, beqV_flt, band_rfl, flatB1, flatB2, FlatH.empty, hK, Alt_iff, Need_iff, ltI_eq, leI_eq, eqI_eq, leN_eq, eqN_eq, decide_eq_true_eq, decide_eq_false_iff_not, decide_true, decide_false, true_and, and_true, Bool.true_eq_false, Bool.false_eq_true, false_implies, true_implies, implies_true, not_true_eq_false, not_false_eq_true, Bool.not_eq_true', Bool.not_eq_false']
theorem seg310_1 (hmix : Try.prog.follows .mixedOrders = true) (a b f g h : Nat) (hF : F310F a b f g h) (hL : Loops Try.prog body310 0 (gcLK 0 (cutLK ((l310 a b f g h).drop 2)))) (K : Post) (hK : Q310 K) : Says Try.prog 0 (sub body310 [1,1,1,1]) (c310_1 a b f g h).t (c310_1 a b f g h).h K := by
  simp only [Q310] at hK
  refine (sure34 hmix).cut F310 hL ?_
  rw [s310_1]
  simp only [fltV_f, boolV_b, flt0, fltx, leN_iff.2 hF.ha, leN_iff.2 hF.hb, leN_iff.2 hF.hf, ← i4, ← i5, i6, beq_self_eq_true, beqV_bool, beqV_flt, band_rfl, flatB1, flatB2, FlatH.empty, hK, Alt_iff, Need_iff, ltI_eq, leI_eq, eqI_eq, leN_eq, eqN_eq, decide_eq_true_eq, decide_eq_false_iff_not, decide_true, decide_false, true_and, and_true, Bool.true_eq_false, Bool.false_eq_true, false_implies, true_implies, implies_true, not_true_eq_false, not_false_eq_true, Bool.not_eq_true', Bool.not_eq_false']
theorem seg310_2 (hmix : Try.prog.follows .mixedOrders = true) (a b f g h : Nat) (hF : F310F a b f g h) (hL : Loops Try.prog body310 0 (gcLK 0 (cutLK ((l310 a b f g h).drop 3)))) (K : Post) (hK : Q310 K) : Says Try.prog 0 (sub body310 [1,1,1,1,1]) (c310_2 a b f g h).t (c310_2 a b f g h).h K := by
  simp only [Q310] at hK
  refine (sure34 hmix).cut F310 hL ?_
  rw [s310_2]
  have h7 := i7 a b f g h
  simp only [fltV_f, boolV_b, flt0, fltx, leN_iff.2 hF.ha, leN_iff.2 hF.hb, leN_iff.2 hF.hf, leN_iff.2 hF.hg, leN_iff.2 hF.hh, beq_self_eq_true, beqV_bool, beqV_flt, band_rfl, flatB1, flatB2, FlatH.empty, hK, Alt_iff, Need_iff, ltI_eq, leI_eq, eqI_eq, leN_eq, eqN_eq, decide_eq_true_eq, decide_eq_false_iff_not, decide_true, decide_false, true_and, and_true, Bool.true_eq_false, Bool.false_eq_true, false_implies, true_implies, implies_true, not_true_eq_false, not_false_eq_true, Bool.not_eq_true', Bool.not_eq_false']
  exact fun q1 q2 q3 q4 q5 => by rw [h7 q1 q2 q3 q4] at q5; cases q5
theorem seg310_3 (hmix : Try.prog.follows .mixedOrders = true) (a b f g h : Nat) (hF : F310F a b f g h) (hL : Loops Try.prog body310 0 (gcLK 0 (cutLK ((l310 a b f g h).drop 4)))) (K : Post) (hK : Q310 K) : Says Try.prog 0 (sub body310 [1,1,1,1,1,1]) (c310_3 a b).t (c310_3 a b).h K := by
  simp only [Q310] at hK
  refine (sure34 hmix).cut F310 hL ?_
  rw [s310_3]
  simp only [fltV_f, boolV_b, flt0, fltx, leN_iff.2 hF.ha, leN_iff.2 hF.hb, may_iff, beq_self_eq_true, beqV_bool, beqV_flt, band_rfl, flatB1, flatB2, FlatH.empty, hK, Alt_iff, Need_iff, ltI_eq, leI_eq, eqI_eq, leN_eq, eqN_eq, decide_eq_true_eq, decide_eq_false_iff_not, decide_true, decide_false, true_and, and_true, Bool.true_eq_false, Bool.false_eq_true, false_implies, true_implies, implies_true, not_true_eq_false, not_false_eq_true, Bool.not_eq_true', Bool.not_eq_false']
theorem law310 (hmix : Try.prog.follows .mixedOrders = true) (a b f g h : Nat) (hF : F310F a b f g h) : FunSays Try.prog 10 [.float .f64 a, .float .f64 b, .float .f64 f, .float .f64 g, .float .f64 h] (hp []) fun v _ => v = .bool true := by
  have hL4 : Loops Try.prog body310 0 (cutLK ((l310 a b f g h).drop 4)) := Loops.none
  have hL3 : Loops Try.prog body310 0 (cutLK ((l310 a b f g h).drop 3)) := hL4.more (c310_3 a b) fun K hK => seg310_3 hmix a b f g h hF hL4.gc K hK
  have hL2 : Loops Try.prog body310 0 (cutLK ((l310 a b f g h).drop 2)) := hL3.more (c310_2 a b f g h) fun K hK => seg310_2 hmix a b f g h hF hL3.gc K hK
  have hL1 : Loops Try.prog body310 0 (cutLK ((l310 a b f g h).drop 1)) := hL2.more (c310_1 a b f g h) fun K hK => seg310_1 hmix a b f g h hF hL2.gc K hK
  have hL0 : Loops Try.prog body310 0 (cutLK (l310 a b f g h)) := hL1.more (c310_0 a b f g h) fun K hK => seg310_0 hmix a b f g h hF hL1.gc K hK
  refine (sure34 hmix).fun F310 body310 Try.func10 rfl hL0.gc ?_
  rw [w310]
  and_intros <;> first | trivial | exact flatB2 _ _ _ _ | exact FlatH.empty | rfl
end Go.Proofs.Ytglfkchcmjmmlaa

namespace Go.Proofs.Ytglfkchcmjmmlaa
open Go.RowKit Go.Proofs.Ytglfkchcmjmmlaa.AM
set_option maxRecDepth 100000
set_option maxHeartbeats 4000000
noncomputable def body392 : Code := (Try.f47.body).getD .skip
def F392 : List Nat → Option (List Nat) := fun p => match p with
  | [1] => some [0, 1]
  | [1, 1] => some [4]
  | _ => none
noncomputable def S35 : Book := bookOf [(16, lessC)]

theorem w392 (a b : Nat) (K : Value → Heap → Prop) :
  funK Try.prog S35 noLoop F392 body392 Try.f47 [.float .f64 a, .float .f64 b] (hp []) K = (
True ∧
  Need (leN b 18446744073709551615) (Need (leN a 18446744073709551615) True) ∧
    K
      (Value.bool
        (ltI (fKey (fltA [Value.float FloatKind.f64 b, Value.float FloatKind.f64 a] 0))
          (fKey (fltA [Value.float FloatKind.f64 b, Value.float FloatKind.f64 a] 1))))
      (hp [])) := by kernel_rfl

noncomputable def moreC : Ctr := flC okFF fun xs => .bool (ltI (fKey (fltA xs 1)) (fKey (fltA xs 0)))
theorem sure35 (hmix : Try.prog.follows .mixedOrders = true) : Sure Try.prog S35 := ⟨hmix, plain, bookOf_ok ⟨less_says hmix, trivial⟩⟩
theorem more_says (hmix : Try.prog.follows .mixedOrders = true) : moreC.Holds Try.prog 47 := flC_of fun xs h => by
  obtain ⟨a, b, rfl, ha, hb⟩ := okFF_eq h
  refine (sure35 hmix).fun F392 body392 Try.func47 rfl noLoops ?_
  rw [w392]
  simp only [leN_iff.2 ha, leN_iff.2 hb, FlatH.empty, flt0, flt1]
  and_intros <;> first | trivial | rfl
noncomputable def S36 : Book := bookOf [(16, lessC), (47, moreC), (42, noC), (24, lessC)]
theorem sure36 (hmix : Try.prog.follows .mixedOrders = true) : Sure Try.prog S36 := ⟨hmix, plain, bookOf_ok ⟨less_says hmix, more_says hmix, no_says hmix, rless_says hmix, trivial⟩⟩
noncomputable def body391 : Code := (Try.f46.body).getD .skip
def F391 : List Nat → Option (List Nat) := fun p => match p with
  | [1] => some [0, 1]
  | [1, 0, 1] => some [0, 1, 11]
  | [1, 0, 1, 0, 1] => some [4, 5]
  | [1, 1] => some [0, 1]
  | [1, 1, 1] => some [0, 1, 6]
  | [1, 0, 1, 1, 1] => some [1, 6, 13, 14, 15]
  | [1, 0, 0, 1, 0, 1, 1, 1] => some [1, 6, 13, 14, 15, 16]
  | [1, 0, 1, 0, 0, 1, 0, 1, 1, 1] => some [6]
  | [1, 1, 0, 0, 1, 0, 1, 1, 1] => some [1, 6, 13, 14, 15]
  | [1, 0, 0, 1, 1, 0, 0, 1, 0, 1, 1, 1] => some [1, 6, 8, 13, 14, 15]
  | [1, 1, 0, 0, 1, 1, 0, 0, 1, 0, 1, 1, 1] => some [1, 6, 8, 13, 14, 15, 31]
  | [1, 1, 1, 0, 0, 1, 0, 1, 1, 1] => some [1, 6, 13, 14, 15]
  | [1, 1, 1, 1] => some [6]
  | [1, 1, 1, 1, 1] => some [4, 5]
  | _ => none
noncomputable def body335 : Code := (Try.f35.body).getD .skip
def F335 : List Nat → Option (List Nat) := fun p => match p with
  | [1] => some [0, 1]
  | [1, 1] => some [0, 1, 6]
  | [1, 0, 1, 1] => some [0, 1, 6, 7]
  | [1, 0, 0, 0, 1, 0, 1, 1] => some [0, 1, 6, 7, 11]
  | [1, 1, 0, 0, 0, 1, 0, 1, 1] => some [0, 6]
  | [1, 0, 0, 1, 0, 1, 1] => some [0, 1, 6, 7]
  | [1, 0, 0, 0, 1, 0, 0, 1, 0, 1, 1] => some [0, 1, 6, 7, 22]
  | [0, 1, 0, 0, 0, 1, 0, 0, 1, 0, 1, 1] => some [0, 1, 6, 7]
  | [1, 0, 0, 1, 0, 0, 1, 0, 1, 1] => some [0, 1, 6, 7]
  | [1, 1, 0, 0, 1, 0, 0, 1, 0, 1, 1] => some [0, 1, 6, 7, 53]
  | [1, 1, 0, 0, 1, 0, 1, 1] => some [0, 1, 6, 7]
  | [1, 1, 1] => some [0, 6]
  | [1, 0, 1, 1, 1] => some [0, 6, 56]
  | [1, 0, 1, 0, 1, 1, 1] => some [4, 5]
  | [1, 1, 1, 1] => some [0]
  | [1, 0, 1, 1, 1, 1] => some [63]
  | [1, 0, 1, 0, 1, 1, 1, 1] => some [4, 5]
  | [1, 1, 1, 1, 1] => some []
  | [1, 1, 1, 1, 1, 1] => some [4, 5]
  | _ => none

noncomputable def T391 (g : Nat) (o : Nat) (sp : Option Nat) (len cap i : Nat) (v : Nat) : List Value := tmps 35 [(1, .func (.func g) #[] #[]), (6, .float .f64 v), (13, .slice (some ⟨0,o,sp⟩) len cap), (14, .int .i64 len), (15, .int .i64 i)]
noncomputable def T335 (g : Bool) (o : Nat) (sp : Option Nat) (len cap i : Nat) (a : Int) : List Value := tmps 65 [(0, .slice (some ⟨0,o,sp⟩) len cap), (1, .bool g), (6, .int .i64 a), (7, .int .i64 i)]

theorem r391A (cs : List Value) (own : Bool) (o : Nat) (sp : Option Nat) (len cap i : Nat) (v : Nat) (K : Post) :
  roundK Try.prog S36 noLoop F391 body391 1 [1,6,13,14,15] [0,0,1,0,1,1,1] (T391 16 o sp len cap i v) (hp [.cells cs 1 own]) K = (
Alt (ltI (↑i : Int) (↑len : Int))
  (Need (ltI (↑i : Int) (↑len : Int))
    (Need (isFlt FloatKind.f64 ((getO cs (o + (↑i : Int).toNat * 1)).getD undef))
      (True ∧
        Need (leN (fltV ((getO cs (o + (↑i : Int).toNat * 1)).getD undef)) 18446744073709551615) True ∧
          Alt (!fNan (fltA [Value.float FloatKind.f64 (fltV ((getO cs (o + (↑i : Int).toNat * 1)).getD undef))] 0))
            (True ∧
              Need (leN v 18446744073709551615) True ∧
                Alt (fNan (fltA [Value.float FloatKind.f64 v] 0))
                  (K AE.normal
                    (tmps 35
                      [(1, Value.func (Fn.func 16) #[] #[]),
                        (6, Value.float FloatKind.f64 (fltV ((getO cs (o + (↑i : Int).toNat * 1)).getD undef))),
                        (13, Value.slice (some { block := 0, off := o, spot := sp }) len cap),
                        (14, Value.int IntKind.i64 (↑len : Int)),
                        (15, Value.int IntKind.i64 (wr IntKind.i64 ((↑i : Int) + 1)))])
                    (hp [Blk.cells cs 1 own]))
                  (True ∧
                    Need (leN (fltV ((getO cs (o + (↑i : Int).toNat * 1)).getD undef)) 18446744073709551615)
                        (Need (leN v 18446744073709551615) True) ∧
                      Alt
                        (ltI
                          (fKey
                            (fltA
                              [Value.float FloatKind.f64 (fltV ((getO cs (o + (↑i : Int).toNat * 1)).getD undef)),
                                Value.float FloatKind.f64 v]
                              0))
                          (fKey
                            (fltA
                              [Value.float FloatKind.f64 (fltV ((getO cs (o + (↑i : Int).toNat * 1)).getD undef)),
                                Value.float FloatKind.f64 v]
                              1)))
                        (K AE.normal
                          (tmps 35
                            [(1, Value.func (Fn.func 16) #[] #[]),
                              (6, Value.float FloatKind.f64 (fltV ((getO cs (o + (↑i : Int).toNat * 1)).getD undef))),
                              (13, Value.slice (some { block := 0, off := o, spot := sp }) len cap),
                              (14, Value.int IntKind.i64 (↑len : Int)),
                              (15, Value.int IntKind.i64 (wr IntKind.i64 ((↑i : Int) + 1)))])
                          (hp [Blk.cells cs 1 own]))
                        (K AE.normal
                          (tmps 35
                            [(1, Value.func (Fn.func 16) #[] #[]), (6, Value.float FloatKind.f64 v),
                              (13, Value.slice (some { block := 0, off := o, spot := sp }) len cap),
                              (14, Value.int IntKind.i64 (↑len : Int)),
                              (15, Value.int IntKind.i64 (wr IntKind.i64 ((↑i : Int) + 1)))])
                          (hp [Blk.cells cs 1 own]))))
            (K AE.normal
              (tmps 35
                [(1, Value.func (Fn.func 16) #[] #[]), (6, Value.float FloatKind.f64 v),
                  (13, Value.slice (some { block := 0, off := o, spot := sp }) len cap),
                  (14, Value.int IntKind.i64 (↑len : Int)),
                  (15, Value.int IntKind.i64 (wr IntKind.i64 ((↑i : Int) + 1)))])
              (hp [Blk.cells cs 1 own])))))
  (K (AE.exit 0) (tmps 35 [(6, Value.float FloatKind.f64 v)]) (hp [Blk.cells cs 1 own]))) := by kernel_rfl

theorem r391B (cs : List Value) (own : Bool) (o : Nat) (sp : Option Nat) (len cap i : Nat) (v : Nat) (K : Post) :
  roundK Try.prog S36 noLoop F391 body391 1 [1,6,13,14,15] [0,0,1,0,1,1,1] (T391 47 o sp len cap i v) (hp [.cells cs 1 own]) K = (
Alt (ltI (↑i : Int) (↑len : Int))
  (Need (ltI (↑i : Int) (↑len : Int))
    (Need (isFlt FloatKind.f64 ((getO cs (o + (↑i : Int).toNat * 1)).getD undef))
      (True ∧
        Need (leN (fltV ((getO cs (o + (↑i : Int).toNat * 1)).getD undef)) 18446744073709551615) True ∧
          Alt (!fNan (fltA [Value.float FloatKind.f64 (fltV ((getO cs (o + (↑i : Int).toNat * 1)).getD undef))] 0))
            (True ∧
              Need (leN v 18446744073709551615) True ∧
                Alt (fNan (fltA [Value.float FloatKind.f64 v] 0))
                  (K AE.normal
                    (tmps 35
                      [(1, Value.func (Fn.func 47) #[] #[]),
                        (6, Value.float FloatKind.f64 (fltV ((getO cs (o + (↑i : Int).toNat * 1)).getD undef))),
                        (13, Value.slice (some { block := 0, off := o, spot := sp }) len cap),
                        (14, Value.int IntKind.i64 (↑len : Int)),
                        (15, Value.int IntKind.i64 (wr IntKind.i64 ((↑i : Int) + 1)))])
                    (hp [Blk.cells cs 1 own]))
                  (True ∧
                    Need (leN (fltV ((getO cs (o + (↑i : Int).toNat * 1)).getD undef)) 18446744073709551615)
                        (Need (leN v 18446744073709551615) True) ∧
                      Alt
                        (ltI
                          (fKey
                            (fltA
                              [Value.float FloatKind.f64 (fltV ((getO cs (o + (↑i : Int).toNat * 1)).getD undef)),
                                Value.float FloatKind.f64 v]
                              1))
                          (fKey
                            (fltA
                              [Value.float FloatKind.f64 (fltV ((getO cs (o + (↑i : Int).toNat * 1)).getD undef)),
                                Value.float FloatKind.f64 v]
                              0)))
                        (K AE.normal
                          (tmps 35
                            [(1, Value.func (Fn.func 47) #[] #[]),
                              (6, Value.float FloatKind.f64 (fltV ((getO cs (o + (↑i : Int).toNat * 1)).getD undef))),
                              (13, Value.slice (some { block := 0, off := o, spot := sp }) len cap),
                              (14, Value.int IntKind.i64 (↑len : Int)),
                              (15, Value.int IntKind.i64 (wr IntKind.i64 ((↑i : Int) + 1)))])
                          (hp [Blk.cells cs 1 own]))
                        (K AE.normal
                          (tmps 35
                            [(1, Value.func (Fn.func 47) #[] #[]), (6, Value.float FloatKind.f64 v),
                              (13, Value.slice (some { block := 0, off := o, spot := sp }) len cap),
                              (14, Value.int IntKind.i64 (↑len : Int)),
                              (15, Value.int IntKind.i64 (wr IntKind.i64 ((↑i : Int) + 1)))])
                          (hp [Blk.cells cs 1 own]))))
            (K AE.normal
              (tmps 35
                [(1, Value.func (Fn.func 47) #[] #[]), (6, Value.float FloatKind.f64 v),
                  (13, Value.slice (some { block := 0, off := o, spot := sp }) len cap),
                  (14, Value.int IntKind.i64 (↑len : Int)),
                  (15, Value.int IntKind.i64 (wr IntKind.i64 ((↑i : Int) + 1)))])
              (hp [Blk.cells cs 1 own])))))
  (K (AE.exit 0) (tmps 35 [(6, Value.float FloatKind.f64 v)]) (hp [Blk.cells cs 1 own]))) := by kernel_rfl

theorem r335A (cs : List Value) (own : Bool) (o : Nat) (sp : Option Nat) (len cap i : Nat) (a : Int) (K : Post) :
  roundK Try.prog S36 noLoop F335 body335 1 [0,1,6,7] [0,0,1,0,1,1] (T335 false o sp len cap i a) (hp [.cells cs 1 own]) K = (
Alt (ltI (↑i : Int) (↑len : Int))
  (Need (ltI (↑i : Int) (↑len : Int))
    (Need (isFlt FloatKind.f64 ((getO cs (o + (↑i : Int).toNat * 1)).getD undef))
      (Need (ltI (↑i : Int) (↑len : Int))
        (Need (isFlt FloatKind.f64 ((getO cs (o + (↑i : Int).toNat * 1)).getD undef))
          (Alt
            (!fEq (fltV ((getO cs (o + (↑i : Int).toNat * 1)).getD undef))
                (fltV ((getO cs (o + (↑i : Int).toNat * 1)).getD undef)))
            (K AE.normal
              (tmps 65
                [(0, Value.slice (some { block := 0, off := o, spot := sp }) len cap), (1, Value.bool false),
                  (6, Value.int IntKind.i64 a), (7, Value.int IntKind.i64 (wr IntKind.i64 ((↑i : Int) + 1)))])
              (hp [Blk.cells cs 1 own]))
            (Alt (ltI a 0)
              (K AE.normal
                (tmps 65
                  [(0, Value.slice (some { block := 0, off := o, spot := sp }) len cap), (1, Value.bool false),
                    (6, Value.int IntKind.i64 (↑i : Int)),
                    (7, Value.int IntKind.i64 (wr IntKind.i64 ((↑i : Int) + 1)))])
                (hp [Blk.cells cs 1 own]))
              (Need (ltI (↑i : Int) (↑len : Int))
                (Need (isFlt FloatKind.f64 ((getO cs (o + (↑i : Int).toNat * 1)).getD undef))
                  (Need (leI 0 a)
                    (Need (ltI a (↑len : Int))
                      (Need (isFlt FloatKind.f64 ((getO cs (o + a.toNat * 1)).getD undef))
                        (True ∧
                          Need (leN (fltV ((getO cs (o + (↑i : Int).toNat * 1)).getD undef)) 18446744073709551615)
                              (Need (leN (fltV ((getO cs (o + a.toNat * 1)).getD undef)) 18446744073709551615) True) ∧
                            Alt
                              (ltI
                                (fKey
                                  (fltA
                                    [Value.float FloatKind.f64 (fltV ((getO cs (o + (↑i : Int).toNat * 1)).getD undef)),
                                      Value.float FloatKind.f64 (fltV ((getO cs (o + a.toNat * 1)).getD undef))]
                                    0))
                                (fKey
                                  (fltA
                                    [Value.float FloatKind.f64 (fltV ((getO cs (o + (↑i : Int).toNat * 1)).getD undef)),
                                      Value.float FloatKind.f64 (fltV ((getO cs (o + a.toNat * 1)).getD undef))]
                                    1)))
                              (K AE.normal
                                (tmps 65
                                  [(0, Value.slice (some { block := 0, off := o, spot := sp }) len cap),
                                    (1, Value.bool false), (6, Value.int IntKind.i64 (↑i : Int)),
                                    (7, Value.int IntKind.i64 (wr IntKind.i64 ((↑i : Int) + 1)))])
                                (hp [Blk.cells cs 1 own]))
                              (K AE.normal
                                (tmps 65
                                  [(0, Value.slice (some { block := 0, off := o, spot := sp }) len cap),
                                    (1, Value.bool false), (6, Value.int IntKind.i64 a),
                                    (7, Value.int IntKind.i64 (wr IntKind.i64 ((↑i : Int) + 1)))])
                                (hp [Blk.cells cs 1 own]))))))))))))))
  (K (AE.exit 0)
    (tmps 65 [(0, Value.slice (some { block := 0, off := o, spot := sp }) len cap), (6, Value.int IntKind.i64 a)])
    (hp [Blk.cells cs 1 own]))) := by kernel_rfl

theorem r335B (cs : List Value) (own : Bool) (o : Nat) (sp : Option Nat) (len cap i : Nat) (a : Int) (K : Post) :
  roundK Try.prog S36 noLoop F335 body335 1 [0,1,6,7] [0,0,1,0,1,1] (T335 true o sp len cap i a) (hp [.cells cs 1 own]) K = (
Alt (ltI (↑i : Int) (↑len : Int))
  (Need (ltI (↑i : Int) (↑len : Int))
    (Need (isFlt FloatKind.f64 ((getO cs (o + (↑i : Int).toNat * 1)).getD undef))
      (Need (ltI (↑i : Int) (↑len : Int))
        (Need (isFlt FloatKind.f64 ((getO cs (o + (↑i : Int).toNat * 1)).getD undef))
          (Alt
            (!fEq (fltV ((getO cs (o + (↑i : Int).toNat * 1)).getD undef))
                (fltV ((getO cs (o + (↑i : Int).toNat * 1)).getD undef)))
            (K AE.normal
              (tmps 65
                [(0, Value.slice (some { block := 0, off := o, spot := sp }) len cap), (1, Value.bool true),
                  (6, Value.int IntKind.i64 a), (7, Value.int IntKind.i64 (wr IntKind.i64 ((↑i : Int) + 1)))])
              (hp [Blk.cells cs 1 own]))
            (Alt (ltI a 0)
              (K AE.normal
                (tmps 65
                  [(0, Value.slice (some { block := 0, off := o, spot := sp }) len cap), (1, Value.bool true),
                    (6, Value.int IntKind.i64 (↑i : Int)),
                    (7, Value.int IntKind.i64 (wr IntKind.i64 ((↑i : Int) + 1)))])
                (hp [Blk.cells cs 1 own]))
              (Need (leI 0 a)
                (Need (ltI a (↑len : Int))
                  (Need (isFlt FloatKind.f64 ((getO cs (o + a.toNat * 1)).getD undef))
                    (Need (ltI (↑i : Int) (↑len : Int))
                      (Need (isFlt FloatKind.f64 ((getO cs (o + (↑i : Int).toNat * 1)).getD undef))
                        (True ∧
                          Need (leN (fltV ((getO cs (o + a.toNat * 1)).getD undef)) 18446744073709551615)
                              (Need (leN (fltV ((getO cs (o + (↑i : Int).toNat * 1)).getD undef)) 18446744073709551615)
                                True) ∧
                            Alt
                              (ltI
                                (fKey
                                  (fltA
                                    [Value.float FloatKind.f64 (fltV ((getO cs (o + a.toNat * 1)).getD undef)),
                                      Value.float FloatKind.f64
                                        (fltV ((getO cs (o + (↑i : Int).toNat * 1)).getD undef))]
                                    0))
                                (fKey
                                  (fltA
                                    [Value.float FloatKind.f64 (fltV ((getO cs (o + a.toNat * 1)).getD undef)),
                                      Value.float FloatKind.f64
                                        (fltV ((getO cs (o + (↑i : Int).toNat * 1)).getD undef))]
                                    1)))
                              (K AE.normal
                                (tmps 65
                                  [(0, Value.slice (some { block := 0, off := o, spot := sp }) len cap),
                                    (1, Value.bool true), (6, Value.int IntKind.i64 (↑i : Int)),
                                    (7, Value.int IntKind.i64 (wr IntKind.i64 ((↑i : Int) + 1)))])
                                (hp [Blk.cells cs 1 own]))
                              (K AE.normal
                                (tmps 65
                                  [(0, Value.slice (some { block := 0, off := o, spot := sp }) len cap),
                                    (1, Value.bool true), (6, Value.int IntKind.i64 a),
                                    (7, Value.int IntKind.i64 (wr IntKind.i64 ((↑i : Int) + 1)))])
                                (hp [Blk.cells cs 1 own]))))))))))))))
  (K (AE.exit 0)
    (tmps 65 [(0, Value.slice (some { block := 0, off := o, spot := sp }) len cap), (6, Value.int IntKind.i64 a)])
    (hp [Blk.cells cs 1 own]))) := by kernel_rfl

theorem isFlt_f (k : FloatKind) (a : Nat) : isFlt k (.float k a) = true := by cases k <;> rfl
structure FSl (cs : List Value) (o : Nat) (l : List Nat) : Prop where
  cell : ∀ (j : Nat) x, l[j]? = some x → getO cs (o + j) = some (.float .f64 x)
  rng : ∀ x ∈ l, x ≤ 18446744073709551615
  short : l.length ≤ 9223372036854775807
  flat : FlatL cs
theorem drop_cons {α : Type} {l t : List α} {c : α} {i : Nat} (h : l.drop i = c :: t) : i < l.length ∧ l[i]? = some c ∧ l.drop (i + 1) = t := by
  have hlt : i < l.length := by
    rcases Nat.lt_or_ge i l.length with h' | h'
    · exact h'
    · rw [List.drop_eq_nil_of_le h'] at h; cases h
  refine ⟨hlt, ?_, by rw [← List.drop_drop, h]; rfl⟩
  have := congrArg List.head? h
  rw [List.head?_drop] at this; exact this
theorem next_i (i : Nat) (h : i < 9223372036854775807) : wr .i64 ((i : Int) + 1) = ((i + 1 : Nat) : Int) := by
  rw [wr_eq]; simp [IntKind.wrap, IntKind.bits, IntKind.signed]; omega
def ahead (gr : Bool) (x b : Nat) : Bool := cond gr (ltI (fKey b) (fKey x)) (ltI (fKey x) (fKey b))
def stepI (gr : Bool) (i : Nat) (r : Option (Nat × Nat)) (x : Nat) : Option (Nat × Nat) := if fNan x = true then r else match r with
  | none => some (x, i)
  | some p => if ahead gr x p.1 = true then some (x, i) else some p
theorem step_nan {gr : Bool} {i x : Nat} {r : Option (Nat × Nat)} (h : fNan x = true) : stepI gr i r x = r := by unfold stepI; rw [if_pos h]
theorem step_none {gr : Bool} {i x : Nat} (h : fNan x = false) : stepI gr i none x = some (x, i) := by unfold stepI; rw [if_neg (by rw [h]; decide)]
theorem step_up {gr : Bool} {i x : Nat} {p : Nat × Nat} (h : fNan x = false) (ha : ahead gr x p.1 = true) : stepI gr i (some p) x = some (x, i) := by unfold stepI; rw [if_neg (by rw [h]; decide)]; simp only [ha, if_true]
theorem step_stay {gr : Bool} {i x : Nat} {p : Nat × Nat} (h : fNan x = false) (ha : ahead gr x p.1 = false) : stepI gr i (some p) x = some p := by unfold stepI; rw [if_neg (by rw [h]; decide)]; simp only [ha, Bool.false_eq_true, if_false]
def runI (gr : Bool) : Nat → Option (Nat × Nat) → List Nat → Option (Nat × Nat)
  | _, r, [] => r
  | i, r, x :: t => runI gr (i + 1) (stepI gr i r x) t
def atV (r : Option (Nat × Nat)) : Int := match r with | none => -1 | some p => (p.2 : Int)
def valV (r : Option (Nat × Nat)) : Nat := match r with | none => 9221120237041090561 | some p => p.1
def InvI (l : List Nat) (r : Option (Nat × Nat)) : Prop := ∀ p, r = some p → l[p.2]? = some p.1 ∧ fNan p.1 = false ∧ p.1 ≤ 18446744073709551615
theorem InvI.val_le {l : List Nat} {r : Option (Nat × Nat)} (h : InvI l r) : valV r ≤ 18446744073709551615 := by
  cases r with
  | none => decide
  | some p => exact (h p rfl).2.2
theorem InvI.step {l : List Nat} {r : Option (Nat × Nat)} (h : InvI l r) (gr : Bool) {i x : Nat} (hx : l[i]? = some x) (hx1 : x ≤ 18446744073709551615) : InvI l (stepI gr i r x) := by
  unfold stepI
  by_cases hn : fNan x = true
  · rw [if_pos hn]; exact h
  · rw [if_neg hn]
    rw [Bool.not_eq_true] at hn
    cases r with
    | none => intro p hp; injection hp with hp; subst hp; exact ⟨hx, hn, hx1⟩
    | some q =>
      simp only
      by_cases ha : ahead gr x q.1 = true
      · rw [if_pos ha]; intro p hp; injection hp with hp; subst hp; exact ⟨hx, hn, hx1⟩
      · rw [if_neg ha]; exact h
theorem InvI.run {l : List Nat} (gr : Bool) : ∀ (t : List Nat) (i : Nat) (r : Option (Nat × Nat)), (∀ x ∈ l, x ≤ 18446744073709551615) → l.drop i = t → InvI l r → InvI l (runI gr i r t) := by
  intro t
  induction t with
  | nil => intro i r _ _ h; exact h
  | cons x t ih =>
    intro i r hl ht h
    obtain ⟨_, hx, hd⟩ := drop_cons ht
    exact ih (i + 1) _ hl hd (h.step gr hx (hl x (List.mem_of_getElem? hx)))
theorem pick_loopA (hmix : Try.prog.follows .mixedOrders = true) (l : List Nat) (cs : List Value) (own : Bool) (o : Nat) (sp : Option Nat) (cap : Nat) (hB : FSl cs o l) (K : Post) : ∀ (t : List Nat) (i : Nat) (r : Option (Nat × Nat)), l.drop i = t → i ≤ l.length → InvI l r →
    K (.exit 0) (tmps 35 [(6, .float .f64 (valV (runI false i r t)))]) (hp [.cells cs 1 own]) → LSays Try.prog 1 (sub body391 [0,0,1,0,1,1,1]) (T391 16 o sp l.length cap i (valV r)) (hp [.cells cs 1 own]) K := by
  have hF : FlatH (hp [.cells cs 1 own]) := FlatH.hp ⟨hB.flat, trivial⟩
  have hsh := hB.short
  intro t
  induction t with
  | nil =>
    intro i r ht hi hr hK
    have hge : ¬ ((i : Int) < (l.length : Int)) := by have := List.drop_eq_nil_iff.1 ht; omega
    refine (sure36 hmix).round F391 noLoops [1,6,13,14,15] ?_
    rw [r391A]
    simp only [hge, hF, Alt_iff, Need_iff, ltI_eq, leI_eq, eqI_eq, leN_eq, eqN_eq, decide_eq_true_eq, decide_eq_false_iff_not, decide_true, decide_false, true_and, and_true, Bool.true_eq_false, Bool.false_eq_true, false_implies, true_implies, implies_true, not_true_eq_false, not_false_eq_true, Bool.not_eq_true', Bool.not_eq_false']
    exact hK
  | cons x t ih =>
    intro i r ht hi hr hK
    obtain ⟨hlt, hx, hd⟩ := drop_cons ht
    have hg := hB.cell i x hx
    have hx1 := hB.rng x (List.mem_of_getElem? hx)
    have hr' := hr.step false hx hx1
    have hv := hr.val_le
    have next := ih (i + 1) (stepI false i r x) hd (by omega) hr' hK
    refine (sure36 hmix).round F391 noLoops [1,6,13,14,15] ?_
    rw [r391A]
    simp only [show (i : Int) < (l.length : Int) by omega, hF, Int.toNat_natCast, Nat.mul_one, hg, Option.getD_some, isFlt_f, fltV_f, flt0, flt1, leN_iff.2 hx1, leN_iff.2 hv, next_i i (by omega), Alt_iff, Need_iff, ltI_eq, leI_eq, eqI_eq, leN_eq, eqN_eq, decide_eq_true_eq, decide_eq_false_iff_not, decide_true, decide_false, true_and, and_true, Bool.true_eq_false, Bool.false_eq_true, false_implies, true_implies, implies_true, not_true_eq_false, not_false_eq_true, Bool.not_eq_true', Bool.not_eq_false']
    cases hn : fNan x with
    | true =>
      rw [step_nan hn] at next
      simp only [Bool.not_true, Alt_iff, Need_iff, ltI_eq, leI_eq, eqI_eq, leN_eq, eqN_eq, decide_eq_true_eq, decide_eq_false_iff_not, decide_true, decide_false, true_and, and_true, Bool.true_eq_false, Bool.false_eq_true, false_implies, true_implies, implies_true, not_true_eq_false, not_false_eq_true, Bool.not_eq_true', Bool.not_eq_false']
      exact next
    | false =>
      cases r with
      | none =>
        have hz : fNan (valV none) = true := by decide
        rw [step_none hn] at next
        simp only [hz, Bool.not_false, Alt_iff, Need_iff, ltI_eq, leI_eq, eqI_eq, leN_eq, eqN_eq, decide_eq_true_eq, decide_eq_false_iff_not, decide_true, decide_false, true_and, and_true, Bool.true_eq_false, Bool.false_eq_true, false_implies, true_implies, implies_true, not_true_eq_false, not_false_eq_true, Bool.not_eq_true', Bool.not_eq_false']
        exact next
      | some p =>
        have hz : fNan (valV (some p)) = false := (hr p rfl).2.1
        simp only [hz, Bool.not_false, Alt_iff, Need_iff, ltI_eq, leI_eq, eqI_eq, leN_eq, eqN_eq, decide_eq_true_eq, decide_eq_false_iff_not, decide_true, decide_false, true_and, and_true, Bool.true_eq_false, Bool.false_eq_true, false_implies, true_implies, implies_true, not_true_eq_false, not_false_eq_true, Bool.not_eq_true', Bool.not_eq_false']
        refine ⟨fun h => ?_, fun h => ?_⟩
        · rw [step_up hn (by simp only [ahead, cond_true, cond_false, ltI_eq, decide_eq_true_eq]; exact h)] at next
          exact next
        · rw [step_stay hn (by simp only [ahead, cond_true, cond_false, ltI_eq, decide_eq_false_iff_not]; exact h)] at next
          exact next
theorem pick_loopB (hmix : Try.prog.follows .mixedOrders = true) (l : List Nat) (cs : List Value) (own : Bool) (o : Nat) (sp : Option Nat) (cap : Nat) (hB : FSl cs o l) (K : Post) : ∀ (t : List Nat) (i : Nat) (r : Option (Nat × Nat)), l.drop i = t → i ≤ l.length → InvI l r →
    K (.exit 0) (tmps 35 [(6, .float .f64 (valV (runI true i r t)))]) (hp [.cells cs 1 own]) → LSays Try.prog 1 (sub body391 [0,0,1,0,1,1,1]) (T391 47 o sp l.length cap i (valV r)) (hp [.cells cs 1 own]) K := by
  have hF : FlatH (hp [.cells cs 1 own]) := FlatH.hp ⟨hB.flat, trivial⟩
  have hsh := hB.short
  intro t
  induction t with
  | nil =>
    intro i r ht hi hr hK
    have hge : ¬ ((i : Int) < (l.length : Int)) := by have := List.drop_eq_nil_iff.1 ht; omega
    refine (sure36 hmix).round F391 noLoops [1,6,13,14,15] ?_
    rw [r391B]
    simp only [hge, hF, Alt_iff, Need_iff, ltI_eq, leI_eq, eqI_eq, leN_eq, eqN_eq, decide_eq_true_eq, decide_eq_false_iff_not, decide_true, decide_false, true_and, and_true, Bool.true_eq_false, Bool.false_eq_true, false_implies, true_implies, implies_true, not_true_eq_false, not_false_eq_true, Bool.not_eq_true', Bool.not_eq_false']
    exact hK
  | cons x t ih =>
    intro i r ht hi hr hK
    obtain ⟨hlt, hx, hd⟩ := drop_cons ht
    have hg := hB.cell i x hx
    have hx1 := hB.rng x (List.mem_of_getElem? hx)
    have hr' := hr.step true hx hx1
    have hv := hr.val_le
    have next := ih (i + 1) (stepI true i r x) hd (by omega) hr' hK
    refine (sure36 hmix).round F391 noLoops [1,6,13,14,15] ?_
    rw [r391B]
    simp only [show (i : Int) < (l.length : Int) by omega, hF, Int.toNat_natCast, Nat.mul_one, hg, Option.getD_some, isFlt_f, fltV_f, flt0, flt1, leN_iff.2 hx1, leN_iff.2 hv, next_i i (by omega), Alt_iff, Need_iff, ltI_eq, leI_eq, eqI_eq, leN_eq, eqN_eq, decide_eq_true_eq, decide_eq_false_iff_not, decide_true, decide_false, true_and, and_true, Bool.true_eq_false, Bool.false_eq_true, false_implies, true_implies, implies_true, not_true_eq_false, not_false_eq_true, Bool.not_eq_true', Bool.not_eq_false']
    cases hn : fNan x with
    | true =>
      rw [step_nan hn] at next
      simp only [Bool.not_true, Alt_iff, Need_iff, ltI_eq, leI_eq, eqI_eq, leN_eq, eqN_eq, decide_eq_true_eq, decide_eq_false_iff_not, decide_true, decide_false, true_and, and_true, Bool.true_eq_false, Bool.false_eq_true, false_implies, true_implies, implies_true, not_true_eq_false, not_false_eq_true, Bool.not_eq_true', Bool.not_eq_false']
      exact next
    | false =>
      cases r with
      | none =>
        have hz : fNan (valV none) = true := by decide
        rw [step_none hn] at next
        simp only [hz, Bool.not_false, Alt_iff, Need_iff, ltI_eq, leI_eq, eqI_eq, leN_eq, eqN_eq, decide_eq_true_eq, decide_eq_false_iff_not, decide_true, decide_false, true_and, and_true, Bool.true_eq_false, Bool.false_eq_true, false_implies, true_implies, implies_true, not_true_eq_false, not_false_eq_true, Bool.not_eq_true', Bool.not_eq_false']
        exact next
      | some p =>
        have hz : fNan (valV (some p)) = false := (hr p rfl).2.1
        simp only [hz, Bool.not_false, Alt_iff, Need_iff, ltI_eq, leI_eq, eqI_eq, leN_eq, eqN_eq, decide_eq_true_eq, decide_eq_false_iff_not, decide_true, decide_false, true_and, and_true, Bool.true_eq_false, Bool.false_eq_true, false_implies, true_implies, implies_true, not_true_eq_false, not_false_eq_true, Bool.not_eq_true', Bool.not_eq_false']
        refine ⟨fun h => ?_, fun h => ?_⟩
        · rw [step_up hn (by simp only [ahead, cond_true, cond_false, ltI_eq, decide_eq_true_eq]; exact h)] at next
          exact next
        · rw [step_stay hn (by simp only [ahead, cond_true, cond_false, ltI_eq, decide_eq_false_iff_not]; exact h)] at next
          exact next
theorem ext_loopA (hmix : Try.prog.follows .mixedOrders = true) (l : List Nat) (cs : List Value) (own : Bool) (o : Nat) (sp : Option Nat) (cap : Nat) (hB : FSl cs o l) (K : Post) : ∀ (t : List Nat) (i : Nat) (r : Option (Nat × Nat)), l.drop i = t → i ≤ l.length → InvI l r →
    K (.exit 0) (tmps 65 [(0, .slice (some ⟨0,o,sp⟩) l.length cap), (6, .int .i64 (atV (runI false i r t)))]) (hp [.cells cs 1 own]) → LSays Try.prog 1 (sub body335 [0,0,1,0,1,1]) (T335 false o sp l.length cap i (atV r)) (hp [.cells cs 1 own]) K := by
  have hF : FlatH (hp [.cells cs 1 own]) := FlatH.hp ⟨hB.flat, trivial⟩
  have hsh := hB.short
  intro t
  induction t with
  | nil =>
    intro i r ht hi hr hK
    have hge : ¬ ((i : Int) < (l.length : Int)) := by have := List.drop_eq_nil_iff.1 ht; omega
    refine (sure36 hmix).round F335 noLoops [0,1,6,7] ?_
    rw [r335A]
    simp only [hge, hF, Alt_iff, Need_iff, ltI_eq, leI_eq, eqI_eq, leN_eq, eqN_eq, decide_eq_true_eq, decide_eq_false_iff_not, decide_true, decide_false, true_and, and_true, Bool.true_eq_false, Bool.false_eq_true, false_implies, true_implies, implies_true, not_true_eq_false, not_false_eq_true, Bool.not_eq_true', Bool.not_eq_false']
    exact hK
  | cons x t ih =>
    intro i r ht hi hr hK
    obtain ⟨hlt, hx, hd⟩ := drop_cons ht
    have hg := hB.cell i x hx
    have hx1 := hB.rng x (List.mem_of_getElem? hx)
    have hr' := hr.step false hx hx1
    have next := ih (i + 1) (stepI false i r x) hd (by omega) hr' hK
    refine (sure36 hmix).round F335 noLoops [0,1,6,7] ?_
    rw [r335A]
    cases hn : fNan x with
    | true =>
      rw [step_nan hn] at next
      simp only [show (i : Int) < (l.length : Int) by omega, hF, Int.toNat_natCast, Nat.mul_one, hg, Option.getD_some, isFlt_f, fltV_f, fEq_self, hn, Bool.not_true, Bool.not_false, next_i i (by omega), Alt_iff, Need_iff, ltI_eq, leI_eq, eqI_eq, leN_eq, eqN_eq, decide_eq_true_eq, decide_eq_false_iff_not, decide_true, decide_false, true_and, and_true, Bool.true_eq_false, Bool.false_eq_true, false_implies, true_implies, implies_true, not_true_eq_false, not_false_eq_true, Bool.not_eq_true', Bool.not_eq_false']
      exact next
    | false =>
      cases r with
      | none =>
        rw [step_none hn] at next
        simp only [show (i : Int) < (l.length : Int) by omega, hF, Int.toNat_natCast, Nat.mul_one, hg, Option.getD_some, isFlt_f, fltV_f, fEq_self, hn, Bool.not_true, Bool.not_false, next_i i (by omega), atV, show (-1 : Int) < 0 by omega, Alt_iff, Need_iff, ltI_eq, leI_eq, eqI_eq, leN_eq, eqN_eq, decide_eq_true_eq, decide_eq_false_iff_not, decide_true, decide_false, true_and, and_true, Bool.true_eq_false, Bool.false_eq_true, false_implies, true_implies, implies_true, not_true_eq_false, not_false_eq_true, Bool.not_eq_true', Bool.not_eq_false']
        exact next
      | some p =>
        obtain ⟨h1, h2, h3⟩ := hr p rfl
        have hgp := hB.cell p.2 p.1 h1
        have hpl := (List.getElem?_eq_some_iff.1 h1).1
        simp only [show (i : Int) < (l.length : Int) by omega, hF, Int.toNat_natCast, Nat.mul_one, hg, hgp, Option.getD_some, isFlt_f, fltV_f, flt0, flt1, fEq_self, hn, Bool.not_true, Bool.not_false, next_i i (by omega), atV, show ¬ ((p.2 : Nat) : Int) < 0 by omega, show (0 : Int) ≤ (p.2 : Int) by omega, show (p.2 : Int) < (l.length : Int) by omega, leN_iff.2 hx1, leN_iff.2 h3, Alt_iff, Need_iff, ltI_eq, leI_eq, eqI_eq, leN_eq, eqN_eq, decide_eq_true_eq, decide_eq_false_iff_not, decide_true, decide_false, true_and, and_true, Bool.true_eq_false, Bool.false_eq_true, false_implies, true_implies, implies_true, not_true_eq_false, not_false_eq_true, Bool.not_eq_true', Bool.not_eq_false']
        refine ⟨fun h => ?_, fun h => ?_⟩
        · rw [step_up hn (by simp only [ahead, cond_true, cond_false, ltI_eq, decide_eq_true_eq]; exact h)] at next
          exact next
        · rw [step_stay hn (by simp only [ahead, cond_true, cond_false, ltI_eq, decide_eq_false_iff_not]; exact h)] at next
          exact next
theorem ext_loopB (hmix : Try.prog.follows .mixedOrders = true) (l : List Nat) (cs : List Value) (own : Bool) (o : Nat) (sp : Option Nat) (cap : Nat) (hB : FSl cs o l) (K : Post) : ∀ (t : List Nat) (i : Nat) (r : Option (Nat × Nat)), l.drop i = t → i ≤ l.length → InvI l r →
    K (.exit 0) (tmps 65 [(0, .slice (some ⟨0,o,sp⟩) l.length cap), (6, .int .i64 (atV (runI true i r t)))]) (hp [.cells cs 1 own]) → LSays Try.prog 1 (sub body335 [0,0,1,0,1,1]) (T335 true o sp l.length cap i (atV r)) (hp [.cells cs 1 own]) K := by
  have hF : FlatH (hp [.cells cs 1 own]) := FlatH.hp ⟨hB.flat, trivial⟩
  have hsh := hB.short
  intro t
  induction t with
  | nil =>
    intro i r ht hi hr hK
    have hge : ¬ ((i : Int) < (l.length : Int)) := by have := List.drop_eq_nil_iff.1 ht; omega
    refine (sure36 hmix).round F335 noLoops [0,1,6,7] ?_
    rw [r335B]
    simp only [hge, hF, Alt_iff, Need_iff, ltI_eq, leI_eq, eqI_eq, leN_eq, eqN_eq, decide_eq_true_eq, decide_eq_false_iff_not, decide_true, decide_false, true_and, and_true, Bool.true_eq_false, Bool.false_eq_true, false_implies, true_implies, implies_true, not_true_eq_false, not_false_eq_true, Bool.not_eq_true', Bool.not_eq_false']
    exact hK
  | cons x t ih =>
    intro i r ht hi hr hK
    obtain ⟨hlt, hx, hd⟩ := drop_cons ht
    have hg := hB.cell i x hx
    have hx1 := hB.rng x (List.mem_of_getElem? hx)
    have hr' := hr.step true hx hx1
    have next := ih (i + 1) (stepI true i r x) hd (by omega) hr' hK
    refine (sure36 hmix).round F335 noLoops [0,1,6,7] ?_
    rw [r335B]
    cases hn : fNan x with
    | true =>
      rw [step_nan hn] at next
      simp only [show (i : Int) < (l.length : Int) by omega, hF, Int.toNat_natCast, Nat.mul_one, hg, Option.getD_some, isFlt_f, fltV_f, fEq_self, hn, Bool.not_true, Bool.not_false, next_i i (by omega), Alt_iff, Need_iff, ltI_eq, leI_eq, eqI_eq, leN_eq, eqN_eq, decide_eq_true_eq, decide_eq_false_iff_not, decide_true, decide_false, true_and, and_true, Bool.true_eq_false, Bool.false_eq_true, false_implies, true_implies, implies_true, not_true_eq_false, not_false_eq_true, Bool.not_eq_true', Bool.not_eq_false']
      exact next
    | false =>
      cases r with
      | none =>
        rw [step_none hn] at next
        simp only [show (i : Int) < (l.length : Int) by omega, hF, Int.toNat_natCast, Nat.mul_one, hg, Option.getD_some, isFlt_f, fltV_f, fEq_self, hn, Bool.not_true, Bool.not_false, next_i i (by omega), atV, show (-1 : Int) < 0 by omega, Alt_iff, Need_iff, ltI_eq, leI_eq, eqI_eq, leN_eq, eqN_eq, decide_eq_true_eq, decide_eq_false_iff_not, decide_true, decide_false, true_and, and_true, Bool.true_eq_false, Bool.false_eq_true, false_implies, true_implies, implies_true, not_true_eq_false, not_false_eq_true, Bool.not_eq_true', Bool.not_eq_false']
        exact next
      | some p =>
        obtain ⟨h1, h2, h3⟩ := hr p rfl
        have hgp := hB.cell p.2 p.1 h1
        have hpl := (List.getElem?_eq_some_iff.1 h1).1
        simp only [show (i : Int) < (l.length : Int) by omega, hF, Int.toNat_natCast, Nat.mul_one, hg, hgp, Option.getD_some, isFlt_f, fltV_f, flt0, flt1, fEq_self, hn, Bool.not_true, Bool.not_false, next_i i (by omega), atV, show ¬ ((p.2 : Nat) : Int) < 0 by omega, show (0 : Int) ≤ (p.2 : Int) by omega, show (p.2 : Int) < (l.length : Int) by omega, leN_iff.2 hx1, leN_iff.2 h3, Alt_iff, Need_iff, ltI_eq, leI_eq, eqI_eq, leN_eq, eqN_eq, decide_eq_true_eq, decide_eq_false_iff_not, decide_true, decide_false, true_and, and_true, Bool.true_eq_false, Bool.false_eq_true, false_implies, true_implies, implies_true, not_true_eq_false, not_false_eq_true, Bool.not_eq_true', Bool.not_eq_false']
        refine ⟨fun h => ?_, fun h => ?_⟩
        · rw [step_up hn (by simp only [ahead, cond_true, cond_false, ltI_eq, decide_eq_true_eq]; exact h)] at next
          exact next
        · rw [step_stay hn (by simp only [ahead, cond_true, cond_false, ltI_eq, decide_eq_false_iff_not]; exact h)] at next
          exact next

noncomputable def c391 (g : Nat) (cs : List Value) (own : Bool) (o : Nat) (sp : Option Nat) (len cap v : Nat) : Cut := ⟨[0,1,0,1,1,1], T391 g o sp len cap 0 9221120237041090561, hp [.cells cs 1 own], fun K => K (.exit 0) (tmps 35 [(6, .float .f64 v)]) (hp [.cells cs 1 own])⟩
noncomputable def c335 (g : Bool) (cs : List Value) (own : Bool) (o : Nat) (sp : Option Nat) (len cap : Nat) (a : Int) : Cut := ⟨[0,1,0,1,1], T335 g o sp len cap 0 (-1), hp [.cells cs 1 own], fun K => K (.exit 0) (tmps 65 [(0, .slice (some ⟨0,o,sp⟩) len cap), (6, .int .i64 a)]) (hp [.cells cs 1 own])⟩
noncomputable def c335z (g : Bool) : Cut := ⟨[0,1,0,1,1], tmps 65 [(0, .slice none 0 0), (1, .bool g), (6, .int .i64 (-1)), (7, .int .i64 0)], hp [], fun K => K (.exit 0) (tmps 65 [(0, .slice none 0 0), (6, .int .i64 (-1))]) (hp [])⟩

theorem w391A (cs : List Value) (own : Bool) (o : Nat) (sp : Option Nat) (len cap v : Nat) (K : Value → Heap → Prop) :
  funK Try.prog S36 (gcLK 1 (cutLK [c391 16 cs own o sp len cap v])) F391 body391 Try.f46 [.slice (some ⟨0,o,sp⟩) len cap, .func (.func 16) #[] #[]] (hp [.cells cs 1 own]) K = (
Alt (eqI (↑len : Int) 0) (K (Value.tuple #[Value.float FloatKind.f64 0, Value.bool false]) (hp [Blk.cells cs 1 own]))
  (FlatH (hp [Blk.cells cs 1 own]) ∧
    tmps 35
          [(1, Value.func (Fn.func 16) #[] #[]), (6, Value.float FloatKind.f64 9221120237041090561),
            (13, Value.slice (some { block := 0, off := o, spot := sp }) len cap),
            (14, Value.int IntKind.i64 (↑len : Int)), (15, Value.int IntKind.i64 0)] =
        tmps 35
          [(1, Value.func (Fn.func 16) #[] #[]), (6, Value.float FloatKind.f64 9221120237041090561),
            (13, Value.slice (some { block := 0, off := o, spot := sp }) len cap),
            (14, Value.int IntKind.i64 (↑len : Int)), (15, Value.int IntKind.i64 0)] ∧
      hp [Blk.cells cs 1 own] = hp [Blk.cells cs 1 own] ∧
        K (Value.tuple #[Value.float FloatKind.f64 v, Value.bool true]) (hp [Blk.cells cs 1 own]))) := by kernel_rfl

theorem w391B (cs : List Value) (own : Bool) (o : Nat) (sp : Option Nat) (len cap v : Nat) (K : Value → Heap → Prop) :
  funK Try.prog S36 (gcLK 1 (cutLK [c391 47 cs own o sp len cap v])) F391 body391 Try.f46 [.slice (some ⟨0,o,sp⟩) len cap, .func (.func 47) #[] #[]] (hp [.cells cs 1 own]) K = (
Alt (eqI (↑len : Int) 0) (K (Value.tuple #[Value.float FloatKind.f64 0, Value.bool false]) (hp [Blk.cells cs 1 own]))
  (FlatH (hp [Blk.cells cs 1 own]) ∧
    tmps 35
          [(1, Value.func (Fn.func 47) #[] #[]), (6, Value.float FloatKind.f64 9221120237041090561),
            (13, Value.slice (some { block := 0, off := o, spot := sp }) len cap),
            (14, Value.int IntKind.i64 (↑len : Int)), (15, Value.int IntKind.i64 0)] =
        tmps 35
          [(1, Value.func (Fn.func 47) #[] #[]), (6, Value.float FloatKind.f64 9221120237041090561),
            (13, Value.slice (some { block := 0, off := o, spot := sp }) len cap),
            (14, Value.int IntKind.i64 (↑len : Int)), (15, Value.int IntKind.i64 0)] ∧
      hp [Blk.cells cs 1 own] = hp [Blk.cells cs 1 own] ∧
        K (Value.tuple #[Value.float FloatKind.f64 v, Value.bool true]) (hp [Blk.cells cs 1 own]))) := by kernel_rfl

theorem w391z (fn : Fn) (f c : Array Value) (K : Value → Heap → Prop) :
  funK Try.prog S36 noLoop F391 body391 Try.f46 [.slice none 0 0, .func fn f c] (hp []) K = (
K (Value.tuple #[Value.float FloatKind.f64 0, Value.bool false]) (hp [])) := by kernel_rfl

theorem w335A (cs : List Value) (own : Bool) (o : Nat) (sp : Option Nat) (len cap : Nat) (a : Int) (K : Value → Heap → Prop) :
  funK Try.prog S36 (gcLK 1 (cutLK [c335 false cs own o sp len cap a])) F335 body335 Try.f35 [.slice (some ⟨0,o,sp⟩) len cap, .bool false] (hp [.cells cs 1 own]) K = (
FlatH (hp [Blk.cells cs 1 own]) ∧
  tmps 65
        [(0, Value.slice (some { block := 0, off := o, spot := sp }) len cap), (1, Value.bool false),
          (6, Value.int IntKind.i64 (-1)), (7, Value.int IntKind.i64 0)] =
      tmps 65
        [(0, Value.slice (some { block := 0, off := o, spot := sp }) len cap), (1, Value.bool false),
          (6, Value.int IntKind.i64 (-1)), (7, Value.int IntKind.i64 0)] ∧
    hp [Blk.cells cs 1 own] = hp [Blk.cells cs 1 own] ∧
      Alt (leI 0 a)
        (Need (leI 0 a)
          (Need (ltI a (↑len : Int))
            (Need (isFlt FloatKind.f64 ((getO cs (o + a.toNat * 1)).getD undef))
              (K
                (Value.tuple
                  #[Value.float FloatKind.f64 (fltV ((getO cs (o + a.toNat * 1)).getD undef)), Value.bool true])
                (hp [Blk.cells cs 1 own])))))
        (Alt (ltI 0 (↑len : Int))
          (K (Value.tuple #[Value.float FloatKind.f64 9221120237041090561, Value.bool true]) (hp [Blk.cells cs 1 own]))
          (K (Value.tuple #[Value.float FloatKind.f64 0, Value.bool false]) (hp [Blk.cells cs 1 own])))) := by kernel_rfl

theorem w335B (cs : List Value) (own : Bool) (o : Nat) (sp : Option Nat) (len cap : Nat) (a : Int) (K : Value → Heap → Prop) :
  funK Try.prog S36 (gcLK 1 (cutLK [c335 true cs own o sp len cap a])) F335 body335 Try.f35 [.slice (some ⟨0,o,sp⟩) len cap, .bool true] (hp [.cells cs 1 own]) K = (
FlatH (hp [Blk.cells cs 1 own]) ∧
  tmps 65
        [(0, Value.slice (some { block := 0, off := o, spot := sp }) len cap), (1, Value.bool true),
          (6, Value.int IntKind.i64 (-1)), (7, Value.int IntKind.i64 0)] =
      tmps 65
        [(0, Value.slice (some { block := 0, off := o, spot := sp }) len cap), (1, Value.bool true),
          (6, Value.int IntKind.i64 (-1)), (7, Value.int IntKind.i64 0)] ∧
    hp [Blk.cells cs 1 own] = hp [Blk.cells cs 1 own] ∧
      Alt (leI 0 a)
        (Need (leI 0 a)
          (Need (ltI a (↑len : Int))
            (Need (isFlt FloatKind.f64 ((getO cs (o + a.toNat * 1)).getD undef))
              (K
                (Value.tuple
                  #[Value.float FloatKind.f64 (fltV ((getO cs (o + a.toNat * 1)).getD undef)), Value.bool true])
                (hp [Blk.cells cs 1 own])))))
        (Alt (ltI 0 (↑len : Int))
          (K (Value.tuple #[Value.float FloatKind.f64 9221120237041090561, Value.bool true]) (hp [Blk.cells cs 1 own]))
          (K (Value.tuple #[Value.float FloatKind.f64 0, Value.bool false]) (hp [Blk.cells cs 1 own])))) := by kernel_rfl

theorem r335z (g : Bool) (K : Post) :
  roundK Try.prog S36 noLoop F335 body335 0 [0,1,6,7] [0,0,1,0,1,1] (c335z g).t (hp []) K = (
K (AE.exit 0) (tmps 65 [(0, Value.slice none 0 0), (6, Value.int IntKind.i64 (-1))]) (hp [])) := by kernel_rfl

theorem w335z (g : Bool) (K : Value → Heap → Prop) :
  funK Try.prog S36 (gcLK 0 (cutLK [c335z g])) F335 body335 Try.f35 [.slice none 0 0, .bool g] (hp []) K = (
FlatH (hp []) ∧
  tmps 65
        [(0, Value.slice none 0 0), (1, Value.bool g), (6, Value.int IntKind.i64 (-1)), (7, Value.int IntKind.i64 0)] =
      tmps 65
        [(0, Value.slice none 0 0), (1, Value.bool g), (6, Value.int IntKind.i64 (-1)), (7, Value.int IntKind.i64 0)] ∧
    hp [] = hp [] ∧ K (Value.tuple #[Value.float FloatKind.f64 0, Value.bool false]) (hp [])) := by kernel_rfl

end Go.Proofs.Ytglfkchcmjmmlaa

namespace Go.Proofs.Ytglfkchcmjmmlaa
open Go.RowKit Go.Proofs.Ytglfkchcmjmmlaa.AM
set_option maxRecDepth 100000
set_option maxHeartbeats 4000000
inductive IsFs (cs : List Value) (o len cap : Nat) : Prop
  | mk (l : List Nat) (h : l.length = len) (hc : len ≤ cap) (hb : FSl cs o l) : IsFs cs o len cap
noncomputable def fsAt (cs : List Value) (o len : Nat) : List Nat := (List.range len).map fun j => fltV ((getO cs (o + j)).getD (.bool false))
theorem FSl.fsAt {cs : List Value} {o : Nat} {l : List Nat} (h : FSl cs o l) : fsAt cs o l.length = l := by
  unfold Go.Proofs.Ytglfkchcmjmmlaa.fsAt
  refine List.ext_getElem? fun j => ?_
  rw [List.getElem?_map]
  by_cases hj : j < l.length
  · rw [List.getElem?_range hj, List.getElem?_eq_getElem hj]
    have e := List.getElem?_eq_getElem hj
    rw [Option.map_some, h.cell j _ e]; rfl
  · rw [List.getElem?_eq_none (by simp; omega), List.getElem?_eq_none (by omega)]; rfl
def extN (l : List Nat) (gr : Bool) : Nat := cond (leN 1 l.length) (valV (runI gr 0 none l)) 0
noncomputable def extV (l : List Nat) (gr : Bool) : Value := .tuple #[.float .f64 (extN l gr), .bool (leN 1 l.length)]
theorem extV_nil (gr : Bool) : extV [] gr = .tuple #[.float .f64 0, .bool false] := rfl
theorem extV_some (l : List Nat) (gr : Bool) (h : 0 < l.length) : extV l gr = .tuple #[.float .f64 (valV (runI gr 0 none l)), .bool true] := by
  have : leN 1 l.length = true := leN_iff.2 h
  simp only [extV, extN, this, cond_true]
noncomputable def isP (fn : Fn) (f c : Array Value) : Prop := match fn, f.toList, c.toList with
  | .func g, [], [] => Need (Nat.beq g 16 || Nat.beq g 47) True
  | _, _, _ => False
def grP (fn : Fn) : Bool := match fn with
  | .func g => Nat.beq g 47
  | _ => false
theorem isP_eq {fn : Fn} {f c : Array Value} (h : isP fn f c) : f = #[] ∧ c = #[] ∧ (fn = .func 16 ∨ fn = .func 47) := by
  obtain ⟨f⟩ := f
  obtain ⟨c⟩ := c
  unfold isP at h
  split at h
  · rename_i g h1 h2
    simp only at h1 h2
    subst h1 h2
    obtain ⟨h, _⟩ := Need_iff.1 h
    rw [Bool.or_eq_true] at h
    exact ⟨rfl, rfl, h.imp (fun h => by rw [Nat.eq_of_beq_eq_true h]) (fun h => by rw [Nat.eq_of_beq_eq_true h])⟩
  · exact h.elim
noncomputable def pickC : Ctr where
  pre := fun args blks => match args, blks with
    | [.slice (some ⟨0, o, _⟩) len cap, .func fn f c], [.cells cs 1 _] => IsFs cs o len cap ∧ isP fn f c
    | [.slice none 0 0, .func _ _ _], [] => True
    | _, _ => False
  val := fun args blks => match args, blks with
    | [.slice (some ⟨0, o, _⟩) len _, .func fn _ _], [.cells cs 1 _] => extV (fsAt cs o len) (grP fn)
    | _, _ => .tuple #[.float .f64 0, .bool false]
  new := fun _ _ => []
theorem invI0 (l : List Nat) : InvI l none := fun p hp => by cases hp
theorem pick_says (hmix : Try.prog.follows .mixedOrders = true) : pickC.Holds Try.prog 46 := by
  intro args blks hf hp
  refine ⟨trivial, ?_⟩
  simp only [pickC] at hp ⊢
  split at hp
  · rename_i o sp len cap fn f c cs own
    obtain ⟨⟨l, rfl, hc, hB⟩, hk⟩ := hp
    obtain ⟨rfl, rfl, hg⟩ := isP_eq hk
    simp only [hB.fsAt, List.append_nil]
    have hF : FlatH (AM.hp [.cells cs 1 own]) := FlatH.hp ⟨hB.flat, trivial⟩
    rcases hg with rfl | rfl
    · have hL : Loops Try.prog body391 1 (cutLK [c391 16 cs own o sp l.length cap (valV (runI false 0 none l))]) := Loops.none.more _ fun K hK => pick_loopA hmix l cs own o sp cap hB K l 0 none rfl (by omega) (invI0 l) hK
      refine (sure36 hmix).fun F391 body391 Try.func46 rfl hL.gc ?_
      rw [w391A]
      refine Alt_iff.2 ⟨fun h => ?_, fun h => ?_⟩
      · have h0 : l.length = 0 := by rw [eqI_iff] at h; omega
        obtain rfl := List.eq_nil_of_length_eq_zero h0
        exact ⟨rfl, hF, rfl, rfl⟩
      · have h0 : 0 < l.length := by rw [eqI_eq] at h; simp at h; exact List.length_pos_iff.2 h
        refine ⟨hF, rfl, rfl, rfl, hF, ?_, rfl⟩
        rw [show grP (.func 16) = false from rfl, extV_some l false h0]
    · have hL : Loops Try.prog body391 1 (cutLK [c391 47 cs own o sp l.length cap (valV (runI true 0 none l))]) := Loops.none.more _ fun K hK => pick_loopB hmix l cs own o sp cap hB K l 0 none rfl (by omega) (invI0 l) hK
      refine (sure36 hmix).fun F391 body391 Try.func46 rfl hL.gc ?_
      rw [w391B]
      refine Alt_iff.2 ⟨fun h => ?_, fun h => ?_⟩
      · have h0 : l.length = 0 := by rw [eqI_iff] at h; omega
        obtain rfl := List.eq_nil_of_length_eq_zero h0
        exact ⟨rfl, hF, rfl, rfl⟩
      · have h0 : 0 < l.length := by rw [eqI_eq] at h; simp at h; exact List.length_pos_iff.2 h
        refine ⟨hF, rfl, rfl, rfl, hF, ?_, rfl⟩
        rw [show grP (.func 47) = true from rfl, extV_some l true h0]
  · refine (sure36 hmix).fun F391 body391 Try.func46 rfl noLoops ?_
    rw [w391z]
    exact ⟨rfl, FlatH.empty, rfl, rfl⟩
  · exact hp.elim
noncomputable def extC : Ctr where
  pre := fun args blks => match args, blks with
    | [.slice (some ⟨0, o, _⟩) len cap, .bool _], [.cells cs 1 _] => IsFs cs o len cap
    | [.slice none 0 0, .bool _], [] => True
    | _, _ => False
  val := fun args blks => match args, blks with
    | [.slice (some ⟨0, o, _⟩) len _, .bool g], [.cells cs 1 _] => extV (fsAt cs o len) g
    | _, _ => .tuple #[.float .f64 0, .bool false]
  new := fun _ _ => []
theorem ext_fin (l : List Nat) (cs : List Value) (own : Bool) (o : Nat) (hB : FSl cs o l) (g : Bool) (K : Value → Heap → Prop) (hK : K (extV l g) (hp [.cells cs 1 own])) :
    Alt (leI 0 (atV (runI g 0 none l))) (Need (leI 0 (atV (runI g 0 none l))) (Need (ltI (atV (runI g 0 none l)) (l.length : Int)) (Need (isFlt .f64 ((getO cs (o + (atV (runI g 0 none l)).toNat * 1)).getD undef)) (K (.tuple #[.float .f64 (fltV ((getO cs (o + (atV (runI g 0 none l)).toNat * 1)).getD undef)), .bool true]) (hp [.cells cs 1 own])))))
      (Alt (ltI 0 (l.length : Int)) (K (.tuple #[.float .f64 9221120237041090561, .bool true]) (hp [.cells cs 1 own])) (K (.tuple #[.float .f64 0, .bool false]) (hp [.cells cs 1 own]))) := by
  have hinv := InvI.run g l 0 none hB.rng rfl (invI0 l)
  cases hr : runI g 0 none l with
  | none =>
    rw [hr] at hinv
    simp only [atV, Alt_iff, Need_iff, ltI_eq, leI_eq, eqI_eq, leN_eq, eqN_eq, decide_eq_true_eq, decide_eq_false_iff_not, decide_true, decide_false, true_and, and_true, Bool.true_eq_false, Bool.false_eq_true, false_implies, true_implies, implies_true, not_true_eq_false, not_false_eq_true, Bool.not_eq_true', Bool.not_eq_false']
    refine ⟨fun h => by omega, fun _ => ⟨fun h => ?_, fun h => ?_⟩⟩
    · rw [extV_some l g (by omega), hr] at hK; exact hK
    · have h0 : l.length = 0 := by omega
      obtain rfl := List.eq_nil_of_length_eq_zero h0
      rw [extV_nil] at hK; exact hK
  | some p =>
    rw [hr] at hinv
    obtain ⟨h1, h2, h3⟩ := hinv p rfl
    have hpl := (List.getElem?_eq_some_iff.1 h1).1
    have hgp := hB.cell p.2 p.1 h1
    rw [extV_some l g (by omega), hr] at hK
    simp only [atV, Int.toNat_natCast, Nat.mul_one, hgp, Option.getD_some, isFlt_f, fltV_f, show (0 : Int) ≤ (p.2 : Int) by omega, show (p.2 : Int) < (l.length : Int) by omega, Alt_iff, Need_iff, ltI_eq, leI_eq, eqI_eq, leN_eq, eqN_eq, decide_eq_true_eq, decide_eq_false_iff_not, decide_true, decide_false, true_and, and_true, Bool.true_eq_false, Bool.false_eq_true, false_implies, true_implies, implies_true, not_true_eq_false, not_false_eq_true, Bool.not_eq_true', Bool.not_eq_false']
    exact hK
theorem ext_says (hmix : Try.prog.follows .mixedOrders = true) : extC.Holds Try.prog 35 := by
  intro args blks hf hp
  refine ⟨trivial, ?_⟩
  simp only [extC] at hp ⊢
  split at hp
  · rename_i o sp len cap g cs own
    obtain ⟨l, rfl, hc, hB⟩ := hp
    simp only [hB.fsAt, List.append_nil]
    have hF : FlatH (AM.hp [.cells cs 1 own]) := FlatH.hp ⟨hB.flat, trivial⟩
    cases g with
    | false =>
      have hL : Loops Try.prog body335 1 (cutLK [c335 false cs own o sp l.length cap (atV (runI false 0 none l))]) := Loops.none.more _ fun K hK => ext_loopA hmix l cs own o sp cap hB K l 0 none rfl (by omega) (invI0 l) hK
      refine (sure36 hmix).fun F335 body335 Try.func35 rfl hL.gc ?_
      rw [w335A]
      exact ⟨hF, rfl, rfl, ext_fin l cs own o hB false (fun v h' => isJunk v = false ∧ FlatH h' ∧ v = extV l false ∧ h' = AM.hp [.cells cs 1 own]) ⟨rfl, hF, rfl, rfl⟩⟩
    | true =>
      have hL : Loops Try.prog body335 1 (cutLK [c335 true cs own o sp l.length cap (atV (runI true 0 none l))]) := Loops.none.more _ fun K hK => ext_loopB hmix l cs own o sp cap hB K l 0 none rfl (by omega) (invI0 l) hK
      refine (sure36 hmix).fun F335 body335 Try.func35 rfl hL.gc ?_
      rw [w335B]
      exact ⟨hF, rfl, rfl, ext_fin l cs own o hB true (fun v h' => isJunk v = false ∧ FlatH h' ∧ v = extV l true ∧ h' = AM.hp [.cells cs 1 own]) ⟨rfl, hF, rfl, rfl⟩⟩
  · rename_i g
    have hL : Loops Try.prog body335 0 (cutLK [c335z g]) := Loops.none.more _ fun K hK => by
      show LSays Try.prog 0 (sub body335 [0,0,1,0,1,1]) _ _ _
      refine (sure36 hmix).round F335 noLoops [0,1,6,7] ?_
      show roundK Try.prog S36 noLoop F335 body335 0 [0,1,6,7] [0,0,1,0,1,1] (c335z g).t (AM.hp []) _
      rw [r335z]
      exact ⟨FlatH.empty, hK⟩
    refine (sure36 hmix).fun F335 body335 Try.func35 rfl hL.gc ?_
    rw [w335z]
    exact ⟨FlatH.empty, rfl, rfl, rfl, FlatH.empty, rfl, rfl⟩
  · exact hp.elim
noncomputable def minC (g : Bool) : Ctr where
  pre := fun args blks => match args, blks with
    | [.slice (some ⟨0, o, _⟩) len cap], [.cells cs 1 _] => IsFs cs o len cap
    | [.slice none 0 0], [] => True
    | _, _ => False
  val := fun args blks => match args, blks with
    | [.slice (some ⟨0, o, _⟩) len _], [.cells cs 1 _] => extV (fsAt cs o len) g
    | _, _ => .tuple #[.float .f64 0, .bool false]
  new := fun _ _ => []
noncomputable def S38 : Book := bookOf [(46, pickC)]
theorem sure38 (hmix : Try.prog.follows .mixedOrders = true) : Sure Try.prog S38 := ⟨hmix, plain, bookOf_ok ⟨pick_says hmix, trivial⟩⟩
noncomputable def body333 : Code := (Try.f33.body).getD .skip
def F333 : List Nat → Option (List Nat) := fun p => match p with
  | [1] => some [0]
  | [1, 1] => some [2, 3]
  | _ => none
noncomputable def body334 : Code := (Try.f34.body).getD .skip
def F334 : List Nat → Option (List Nat) := fun p => match p with
  | [1] => some [0]
  | [1, 1] => some [2, 3]
  | _ => none

theorem w333 (cs : List Value) (own : Bool) (o : Nat) (sp : Option Nat) (len cap : Nat) (K : Value → Heap → Prop) :
  funK Try.prog S38 noLoop F333 body333 Try.f33 [.slice (some ⟨0,o,sp⟩) len cap] (hp [.cells cs 1 own]) K = (
(FlatL cs ∧ True) ∧
  (IsFs cs o len cap ∧ True) ∧
    K (Value.tuple #[Value.float FloatKind.f64 (extN (fsAt cs o len) false), Value.bool (leN 1 (fsAt cs o len).length)])
      (hp [Blk.cells cs 1 own])) := by kernel_rfl

theorem w334 (cs : List Value) (own : Bool) (o : Nat) (sp : Option Nat) (len cap : Nat) (K : Value → Heap → Prop) :
  funK Try.prog S38 noLoop F334 body334 Try.f34 [.slice (some ⟨0,o,sp⟩) len cap] (hp [.cells cs 1 own]) K = (
(FlatL cs ∧ True) ∧
  (IsFs cs o len cap ∧ True) ∧
    K (Value.tuple #[Value.float FloatKind.f64 (extN (fsAt cs o len) true), Value.bool (leN 1 (fsAt cs o len).length)])
      (hp [Blk.cells cs 1 own])) := by kernel_rfl

theorem w333z (K : Value → Heap → Prop) :
  funK Try.prog S38 noLoop F333 body333 Try.f33 [.slice none 0 0] (hp []) K = (
True ∧ True ∧ K (Value.tuple #[Value.float FloatKind.f64 0, Value.bool false]) (hp [])) := by kernel_rfl

theorem w334z (K : Value → Heap → Prop) :
  funK Try.prog S38 noLoop F334 body334 Try.f34 [.slice none 0 0] (hp []) K = (
True ∧ True ∧ K (Value.tuple #[Value.float FloatKind.f64 0, Value.bool false]) (hp [])) := by kernel_rfl

noncomputable def min0C : Ctr := minC false
noncomputable def min1C : Ctr := minC true
theorem min_says (hmix : Try.prog.follows .mixedOrders = true) : min0C.Holds Try.prog 33 := by
  intro args blks hf hp
  refine ⟨trivial, ?_⟩
  simp only [min0C, minC] at hp ⊢
  split at hp
  · rename_i o sp len cap cs own
    have hI := hp
    obtain ⟨l, rfl, hc, hB⟩ := hp
    have hF : FlatH (AM.hp [.cells cs 1 own]) := FlatH.hp ⟨hB.flat, trivial⟩
    refine (sure38 hmix).fun F333 body333 Try.func33 rfl noLoops ?_
    rw [w333]
    exact ⟨⟨hB.flat, trivial⟩, ⟨hI, trivial⟩, rfl, hF, rfl, rfl⟩
  · refine (sure38 hmix).fun F333 body333 Try.func33 rfl noLoops ?_
    rw [w333z]
    exact ⟨trivial, trivial, rfl, FlatH.empty, rfl, rfl⟩
  · exact hp.elim
theorem max_says (hmix : Try.prog.follows .mixedOrders = true) : min1C.Holds Try.prog 34 := by
  intro args blks hf hp
  refine ⟨trivial, ?_⟩
  simp only [min1C, minC] at hp ⊢
  split at hp
  · rename_i o sp len cap cs own
    have hI := hp
    obtain ⟨l, rfl, hc, hB⟩ := hp
    have hF : FlatH (AM.hp [.cells cs 1 own]) := FlatH.hp ⟨hB.flat, trivial⟩
    refine (sure38 hmix).fun F334 body334 Try.func34 rfl noLoops ?_
    rw [w334]
    exact ⟨⟨hB.flat, trivial⟩, ⟨hI, trivial⟩, rfl, hF, rfl, rfl⟩
  · refine (sure38 hmix).fun F334 body334 Try.func34 rfl noLoops ?_
    rw [w334z]
    exact ⟨trivial, trivial, rfl, FlatH.empty, rfl, rfl⟩
  · exact hp.elim
noncomputable def S39 : Book := bookOf [(3, trueC), (33, min0C), (34, min1C), (35, extC)]
theorem sure39 (hmix : Try.prog.follows .mixedOrders = true) : Sure Try.prog S39 := ⟨hmix, plain, bookOf_ok ⟨runs_holds hmix, min_says hmix, max_says hmix, ext_says hmix, trivial⟩⟩
noncomputable def body311 : Code := (Try.f11.body).getD .skip
def F311 : List Nat → Option (List Nat) := fun p => match p with
  | [1] => some [0]
  | [1, 0, 1] => some [0, 13]
  | [1, 0, 1, 0, 1] => some [2]
  | [1, 1] => some [0]
  | [1, 1, 1] => some [0, 3, 4]
  | [1, 1, 1, 1] => some [0, 3, 4, 5, 6]
  | [1, 1, 1, 1, 1] => some [0, 3, 4, 5, 6, 7]
  | [1, 1, 1, 1, 1, 1] => some [3, 4, 5, 6, 7, 9, 10]
  | [1, 1, 1, 1, 1, 1, 1] => some [2]
  | _ => none

theorem w311 (cs : List Value) (o : Nat) (sp : Option Nat) (len cap : Nat) (K : Value → Heap → Prop) :
  funK Try.prog S39 noLoop F311 body311 Try.f11 [.slice (some ⟨0,o,sp⟩) len cap] (hp [.cells cs 1 false]) K = (
Alt (ltI 60 (↑len : Int)) (True ∧ True ∧ K (Value.bool true) (hp [Blk.cells cs 1 false]))
  ((FlatL cs ∧ True) ∧
    IsFs cs o len cap ∧
      (FlatL cs ∧ True) ∧
        IsFs cs o len cap ∧
          (FlatL cs ∧ True) ∧
            IsFs cs o len cap ∧
              (FlatL cs ∧ True) ∧
                IsFs cs o len cap ∧
                  Alt (leN 1 (fsAt cs o len).length == leN 1 (fsAt cs o len).length)
                    (Alt (leN 1 (fsAt cs o len).length == leN 1 (fsAt cs o len).length)
                      (Alt (eqI (↑(extN (fsAt cs o len) false) : Int) (↑(extN (fsAt cs o len) false) : Int))
                        (Alt (eqI (↑(extN (fsAt cs o len) true) : Int) (↑(extN (fsAt cs o len) true) : Int))
                          (True ∧ True ∧ K (Value.bool true) (hp [Blk.cells cs 1 false]))
                          (K (Value.bool false) (hp [Blk.cells cs 1 false])))
                        (K (Value.bool false) (hp [Blk.cells cs 1 false])))
                      (K (Value.bool false) (hp [Blk.cells cs 1 false])))
                    (K (Value.bool false) (hp [Blk.cells cs 1 false])))) := by kernel_rfl

theorem w311z (K : Value → Heap → Prop) :
  funK Try.prog S39 noLoop F311 body311 Try.f11 [.slice none 0 0] (hp []) K = (
True ∧ True ∧ True ∧ True ∧ True ∧ True ∧ True ∧ True ∧ True ∧ True ∧ K (Value.bool true) (hp [])) := by kernel_rfl

theorem law311 (hmix : Try.prog.follows .mixedOrders = true) (cs : List Value) (o : Nat) (sp : Option Nat) (cap : Nat) (l : List Nat) (hc : l.length ≤ cap) (hB : FSl cs o l) :
    FunSays Try.prog 11 [.slice (some ⟨0,o,sp⟩) l.length cap] (hp [.cells cs 1 false]) fun v _ => v = .bool true := by
  have hF : FlatH (hp [.cells cs 1 false]) := FlatH.hp ⟨hB.flat, trivial⟩
  refine (sure39 hmix).fun F311 body311 Try.func11 rfl noLoops ?_
  rw [w311]
  have hI : IsFs cs o l.length cap := ⟨l, rfl, hc, hB⟩
  have hf := hB.flat
  simp only [hI, hF, hf, eqI_self, beq_self_eq_true, beqV_bool, beqV_flt, beqV_int, beqV_sl, Alt_iff, Need_iff, ltI_eq, leI_eq, eqI_eq, leN_eq, eqN_eq, decide_eq_true_eq, decide_eq_false_iff_not, decide_true, decide_false, true_and, and_true, Bool.true_eq_false, Bool.false_eq_true, false_implies, true_implies, implies_true, not_true_eq_false, not_false_eq_true, Bool.not_eq_true', Bool.not_eq_false']
  exact ⟨fun _ => rfl, fun _ => rfl⟩
theorem law311z (hmix : Try.prog.follows .mixedOrders = true) : FunSays Try.prog 11 [.slice none 0 0] (hp []) fun v _ => v = .bool true := by
  refine (sure39 hmix).fun F311 body311 Try.func11 rfl noLoops ?_
  rw [w311z]
  simp only [FlatH.empty, eqI_self, beq_self_eq_true, beqV_bool, beqV_flt, beqV_int, beqV_sl, Alt_iff, Need_iff, ltI_eq, leI_eq, eqI_eq, leN_eq, eqN_eq, decide_eq_true_eq, decide_eq_false_iff_not, decide_true, decide_false, true_and, and_true, Bool.true_eq_false, Bool.false_eq_true, false_implies, true_implies, implies_true, not_true_eq_false, not_false_eq_true, Bool.not_eq_true', Bool.not_eq_false']
  rfl
theorem slice_flts (L : List (List Value)) (len : Nat) (hl : len ≤ L.length) (hL : len ≤ 9223372036854775807) (hg : ∀ c ∈ L, c.length = 1 ∧ ∃ a : Nat, c = [.float .f64 a] ∧ a ≤ 18446744073709551615) (hf : FlatL L.flatten) :
    ∃ l : List Nat, l.length = len ∧ FSl L.flatten 0 l := by
  have key : ∀ L : List (List Value), (∀ c ∈ L, c.length = 1 ∧ ∃ a : Nat, c = [.float .f64 a] ∧ a ≤ 18446744073709551615) →
      ∃ l : List Nat, L.flatten = l.map (Value.float .f64) ∧ l.length = L.length ∧ ∀ x ∈ l, x ≤ 18446744073709551615 := by
    intro L
    induction L with
    | nil => intro _; exact ⟨[], rfl, rfl, fun x hx => by simp at hx⟩
    | cons c L ih =>
      intro h
      obtain ⟨_, a, rfl, ha⟩ := h c (by simp)
      obtain ⟨l, h1, h2, h3⟩ := ih fun c hc => h c (by simp [hc])
      refine ⟨a :: l, by simp [h1], by simp [h2], fun x hx => ?_⟩
      rcases List.mem_cons.1 hx with rfl | hx
      · exact ha
      · exact h3 x hx
  obtain ⟨l, h1, h2, h3⟩ := key L hg
  refine ⟨l.take len, by rw [List.length_take]; omega, fun j x hj => ?_, fun x hx => h3 x (List.mem_of_mem_take hx), by rw [List.length_take]; omega, hf⟩
  rw [List.getElem?_take] at hj
  split at hj
  · rw [Nat.zero_add, getO_eq, h1, List.getElem?_map, hj]; rfl
  · cases hj
end Go.Proofs.Ytglfkchcmjmmlaa
