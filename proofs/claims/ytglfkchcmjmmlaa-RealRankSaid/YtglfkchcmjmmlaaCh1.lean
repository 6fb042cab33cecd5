/- Proved: what functions of the program come to, by their conditions over the abstract machine. Conditions: those that each theorem states. -/
import Derived.Test.YtglfkchcmjmmlaaAm4
import Derived.Test.YtglfkchcmjmmlaaProg
import Derived.WalkKit
import Derived.ProofKit
import Derived.Laws.BitsLemmas
set_option linter.unusedVariables false
set_option linter.unusedSimpArgs false
namespace Go.Proofs.Ytglfkchcmjmmlaa
open Go.RowKit Go.Proofs.Ytglfkchcmjmmlaa.AM
set_option maxRecDepth 100000
set_option maxHeartbeats 4000000
noncomputable def S0 : Book := fun _ => none
theorem named : (Try.prog.funcs.toList.all fun fn => !(fn.name == "runtime.NumGoroutine")) = true := by decide +kernel
theorem plain : Plain Try.prog := fun f fn hf _ hn => by
  have h1 := List.all_eq_true.1 named fn (by simpa using Array.mem_of_getElem? hf)
  rw [hn] at h1
  exact absurd h1 (by decide)
theorem sums0 : SumsOk Try.prog S0.sums := fun f s hs => by cases hs
theorem sure0 (hmix : Try.prog.follows .mixedOrders = true) : Sure Try.prog S0 := ⟨hmix, plain, sums0⟩
theorem f64_of {x : Nat} (h : (Lit.float .f64 x).wf = true) : x < 18446744073709551616 := by simpa [Lit.wf] using h
theorem u64_of {x : Int} (h : (Lit.int .u64 x).wf = true) : 0 ≤ x ∧ x < 18446744073709551616 := by
  simp [Lit.wf, IntKind.min, IntKind.max, IntKind.bits, IntKind.signed] at h; omega
theorem wr_u64 (n : Int) (h0 : 0 ≤ n) (h1 : n < 18446744073709551616) : wr .u64 n = n := by
  rw [wr_eq]; simp [IntKind.wrap, IntKind.bits, IntKind.signed]; omega
theorem ofInt_nat (n : Nat) : BitVec.ofInt 64 (n : Int) = BitVec.ofNat 64 n := by simp
/-- the highest bit -/
theorem and_high (n : Nat) (h : n < 18446744073709551616) : bitsW .and .u64 (n : Int) 9223372036854775808 = if n < 9223372036854775808 then 0 else 9223372036854775808 := by
  have e : ((BitVec.ofInt 64 (n : Int)) &&& BitVec.ofInt 64 9223372036854775808).toNat = if n < 9223372036854775808 then 0 else 9223372036854775808 := by
    have e1 : BitVec.ofInt 64 9223372036854775808 = BitVec.twoPow 64 63 := by decide
    rw [ofInt_nat, e1, BitVec.and_twoPow]
    have hg : (BitVec.ofNat 64 n).getLsbD 63 = n.testBit 63 := by
      simp only [BitVec.getLsbD, BitVec.toNat_ofNat]
      rw [Nat.mod_eq_of_lt (by simpa using h)]
    rw [hg]
    by_cases hn : n < 9223372036854775808
    · rw [Nat.testBit_lt_two_pow (by simpa using hn), if_pos hn]; rfl
    · rw [if_neg hn, show n.testBit 63 = true from by
        rw [Nat.testBit_eq_decide_div_mod_eq, decide_eq_true_iff]; omega]
      decide
  show wr .u64 (((BitVec.ofInt 64 (n : Int)) &&& BitVec.ofInt 64 9223372036854775808).toNat : Int) = _
  rw [e]
  split
  · rfl
  · rfl
theorem or_high (n : Nat) (h : n < 9223372036854775808) : bitsW .or .u64 (n : Int) 9223372036854775808 = (n : Int) + 9223372036854775808 := by
  have e : ((BitVec.ofInt 64 (n : Int)) ||| BitVec.ofInt 64 9223372036854775808).toNat = n + 9223372036854775808 := by
    rw [ofInt_nat, show (9223372036854775808 : Int) = ((9223372036854775808 : Nat) : Int) from rfl, ofInt_nat, BitVec.toNat_or, BitVec.toNat_ofNat, BitVec.toNat_ofNat, Nat.mod_eq_of_lt (by simp; omega)]
    rw [show 9223372036854775808 % 2 ^ 64 = 2 ^ 63 * 1 by decide, Nat.or_comm, Nat.two_pow_add_eq_or_of_lt (by simpa using h) 1 |>.symm]
    omega
  show wr .u64 (((BitVec.ofInt 64 (n : Int)) ||| BitVec.ofInt 64 9223372036854775808).toNat : Int) = _
  rw [e, wr_u64 _ (by omega) (by omega)]; rfl
theorem not_all (n : Nat) (h : n < 18446744073709551616) : (BitVec.ofInt 64 18446744073709551615 ^^^ BitVec.ofInt 64 (n : Int)).toNat = 18446744073709551615 - n := by
  have e1 : BitVec.ofInt 64 18446744073709551615 = BitVec.allOnes 64 := by decide
  rw [e1, BitVec.allOnes_xor, BitVec.toNat_not, ofInt_nat, BitVec.toNat_ofNat, Nat.mod_eq_of_lt (by simpa using h)]
end Go.Proofs.Ytglfkchcmjmmlaa

namespace Go.Proofs.Ytglfkchcmjmmlaa
open Go.RowKit Go.Proofs.Ytglfkchcmjmmlaa.AM
set_option maxRecDepth 100000
set_option maxHeartbeats 4000000
/-- a contract of a function that asks no memory -/
noncomputable def flC (ok : List Value → Prop) (g : List Value → Value) : Ctr where
  pre := fun args blks => match blks with
    | [] => ok args
    | _ => False
  val := fun args _ => g args
  new := fun _ _ => []
theorem flC_of {f : FuncId} {ok : List Value → Prop} {g : List Value → Value} (hs : ∀ args, ok args → FunSays Try.prog f args (hp []) fun v h' => v = g args ∧ h' = hp []) : (flC ok g).Holds Try.prog f := by
  intro args blks hf hp
  refine ⟨trivial, ?_⟩
  simp only [flC] at hp ⊢
  split at hp
  · exact hs _ hp
  · exact hp.elim
noncomputable def body342 : Code := (Try.f42.body).getD .skip
def F342 : List Nat → Option (List Nat) := fun p => match p with
  | [1] => some [0]
  | [1, 1] => some [2]
  | _ => none
noncomputable def body330 : Code := (Try.f30.body).getD .skip
def F330 : List Nat → Option (List Nat) := fun p => match p with
  | [1] => some [0]
  | [1, 0, 1] => some [0, 5]
  | [1, 0, 1, 0, 1] => some [2]
  | [1, 1] => some [0]
  | [1, 1, 1] => some [2]
  | _ => none
noncomputable def body344 : Code := (Try.f44.body).getD .skip
def F344 : List Nat → Option (List Nat) := fun p => match p with
  | [1] => some [0]
  | [1, 1] => some [2]
  | _ => none
noncomputable def body315 : Code := (Try.f15.body).getD .skip
def F315 : List Nat → Option (List Nat) := fun p => match p with
  | [1] => some []
  | [1, 1] => some [0]
  | _ => none
noncomputable def body332 : Code := (Try.f32.body).getD .skip
def F332 : List Nat → Option (List Nat) := fun p => match p with
  | [1] => some [0]
  | [1, 1] => some [0]
  | [1, 0, 1, 1] => some [5]
  | [1, 1, 1] => some [3]
  | [1, 1, 1, 1] => some [2]
  | _ => none
noncomputable def body313 : Code := (Try.f13.body).getD .skip
def F313 : List Nat → Option (List Nat) := fun p => match p with
  | [1] => some [0, 1]
  | [1, 1] => some [4]
  | _ => none
noncomputable def body329 : Code := (Try.f29.body).getD .skip
def F329 : List Nat → Option (List Nat) := fun p => match p with
  | [1] => some [0]
  | [1, 1] => some [0, 4]
  | [1, 0, 1, 1] => some [4, 13]
  | [1, 0, 1, 0, 1, 1] => some [2, 3]
  | [1, 1, 1] => some [4]
  | [1, 1, 1, 1] => some [2, 3]
  | _ => none

theorem w342 (a : Nat) (K : Value → Heap → Prop) :
  funK Try.prog S0 noLoop F342 body342 Try.f42 [.float .f64 a] (hp []) K = (
K (Value.bool !fEq a a) (hp [])) := by kernel_rfl

theorem w330 (a : Nat) (K : Value → Heap → Prop) :
  funK Try.prog S0 noLoop F330 body330 Try.f30 [.float .f64 a] (hp []) K = (
Alt (!fEq a a) (K (Value.int IntKind.u64 9221120237041090561) (hp [])) (K (Value.int IntKind.u64 (↑a : Int)) (hp []))) := by kernel_rfl

theorem w344 (a : Nat) (K : Value → Heap → Prop) :
  funK Try.prog S0 noLoop F344 body344 Try.f44 [.float .f64 a] (hp []) K = (
K (Value.bool (ltI (wr IntKind.i64 (↑a : Int)) 0)) (hp [])) := by kernel_rfl

theorem w315 (K : Value → Heap → Prop) :
  funK Try.prog S0 noLoop F315 body315 Try.f15 [] (hp []) K = (
K (Value.float FloatKind.f64 9221120237041090561) (hp [])) := by kernel_rfl

theorem w332 (s : Int) (K : Value → Heap → Prop) :
  funK Try.prog S0 noLoop F332 body332 Try.f32 [.int .i64 s] (hp []) K = (
Alt (leI 0 s) (K (Value.float FloatKind.f64 9218868437227405312) (hp []))
  (K (Value.float FloatKind.f64 18442240474082181120) (hp []))) := by kernel_rfl

theorem w313 (a b : Nat) (K : Value → Heap → Prop) :
  funK Try.prog S0 noLoop F313 body313 Try.f13 [.float .f64 a, .float .f64 b] (hp []) K = (
K
  (Value.float FloatKind.f64
    (bitsW BinOp.or IntKind.u64 (bitsW BinOp.andNot IntKind.u64 (↑a : Int) 9223372036854775808)
        (bitsW BinOp.and IntKind.u64 (↑b : Int) 9223372036854775808)).toNat)
  (hp [])) := by kernel_rfl

theorem w329 (u : Int) (K : Value → Heap → Prop) :
  funK Try.prog S0 noLoop F329 body329 Try.f29 [.int .u64 u] (hp []) K = (
Alt (!fEq u.toNat u.toNat)
  (Alt (!eqI u 9221120237041090561) (K (Value.tuple #[Value.float FloatKind.f64 0, Value.bool false]) (hp []))
    (K (Value.tuple #[Value.float FloatKind.f64 u.toNat, Value.bool true]) (hp [])))
  (K (Value.tuple #[Value.float FloatKind.f64 u.toNat, Value.bool true]) (hp []))) := by kernel_rfl

theorem fEq_self (a : Nat) : fEq a a = !fNan a := by unfold fEq; simp
/-- a float's bits, all that are no number one -/
def fBits (a : Nat) : Int := cond (fNan a) 9221120237041090561 (a : Int)
def okF : List Value → Prop := fun xs => match xs with
  | [.float .f64 a] => Need (leN a 18446744073709551615) True
  | _ => False
noncomputable def fltA (xs : List Value) (i : Nat) : Nat := fltV ((getO xs i).getD (.bool false))
theorem okF_eq {xs : List Value} (h : okF xs) : ∃ a : Nat, xs = [.float .f64 a] ∧ a ≤ 18446744073709551615 := by
  unfold okF at h
  split at h
  · simp only [Alt_iff, Need_iff, ltI_eq, leI_eq, eqI_eq, leN_eq, eqN_eq, decide_eq_true_eq, decide_eq_false_iff_not, decide_true, decide_false, true_and, and_true, Bool.true_eq_false, Bool.false_eq_true, false_implies, true_implies, implies_true, not_true_eq_false, not_false_eq_true, Bool.not_eq_true', Bool.not_eq_false'] at h
    exact ⟨_, rfl, h⟩
  · exact h.elim
def okFF : List Value → Prop := fun xs => match xs with
  | [.float .f64 a, .float .f64 b] => Need (leN a 18446744073709551615) (Need (leN b 18446744073709551615) True)
  | _ => False
theorem okFF_eq {xs : List Value} (h : okFF xs) : ∃ a b : Nat, xs = [.float .f64 a, .float .f64 b] ∧ a ≤ 18446744073709551615 ∧ b ≤ 18446744073709551615 := by
  unfold okFF at h
  split at h
  · simp only [Alt_iff, Need_iff, ltI_eq, leI_eq, eqI_eq, leN_eq, eqN_eq, decide_eq_true_eq, decide_eq_false_iff_not, decide_true, decide_false, true_and, and_true, Bool.true_eq_false, Bool.false_eq_true, false_implies, true_implies, implies_true, not_true_eq_false, not_false_eq_true, Bool.not_eq_true', Bool.not_eq_false'] at h
    exact ⟨_, _, rfl, h⟩
  · exact h.elim
def okU : List Value → Prop := fun xs => match xs with
  | [.int .u64 u] => Need (leI 0 u) (Need (leI u 18446744073709551615) True)
  | _ => False
theorem okU_eq {xs : List Value} (h : okU xs) : ∃ u : Int, xs = [.int .u64 u] ∧ 0 ≤ u ∧ u ≤ 18446744073709551615 := by
  unfold okU at h
  split at h
  · simp only [Alt_iff, Need_iff, ltI_eq, leI_eq, eqI_eq, leN_eq, eqN_eq, decide_eq_true_eq, decide_eq_false_iff_not, decide_true, decide_false, true_and, and_true, Bool.true_eq_false, Bool.false_eq_true, false_implies, true_implies, implies_true, not_true_eq_false, not_false_eq_true, Bool.not_eq_true', Bool.not_eq_false'] at h
    exact ⟨_, rfl, h⟩
  · exact h.elim
noncomputable def noC : Ctr := flC okF fun xs => .bool (fNan (fltA xs 0))
noncomputable def bitsC : Ctr := flC okF fun xs => .int .u64 (fBits (fltA xs 0))
noncomputable def signC : Ctr := flC okF fun xs => .bool (leN 9223372036854775808 (fltA xs 0))
def ok0 : List Value → Prop := fun xs => match xs with
  | [] => True
  | _ => False
noncomputable def nanC : Ctr := flC ok0 fun xs => .float .f64 9221120237041090561
def okI : List Value → Prop := fun xs => match xs with
  | [.int .i64 _] => True
  | _ => False
noncomputable def infC : Ctr := flC okI fun xs => .float .f64 (cond (leI 0 (intV ((getO xs 0).getD (.bool false)))) 9218868437227405312 18442240474082181120)
noncomputable def copyC : Ctr := flC okFF fun xs => .float .f64 (bitsW BinOp.or IntKind.u64 (bitsW BinOp.andNot IntKind.u64 (fltA xs 0 : Int) 9223372036854775808) (bitsW BinOp.and IntKind.u64 (fltA xs 1 : Int) 9223372036854775808)).toNat
def fBad (u : Int) : Bool := fNan u.toNat && !eqI u 9221120237041090561
noncomputable def ofC : Ctr := flC okU fun xs => .tuple #[.float .f64 (cond (fBad (intV ((getO xs 0).getD (.bool false)))) 0 (intV ((getO xs 0).getD (.bool false))).toNat), .bool (!fBad (intV ((getO xs 0).getD (.bool false))))]
theorem no_says (hmix : Try.prog.follows .mixedOrders = true) : noC.Holds Try.prog 42 := flC_of fun xs h => by
  obtain ⟨a, rfl, ha⟩ := okF_eq h
  refine (sure0 hmix).fun F342 body342 Try.func42 rfl noLoops ?_
  rw [w342, fEq_self, Bool.not_not]
  exact ⟨rfl, FlatH.empty, rfl, rfl⟩
theorem rbits_says (hmix : Try.prog.follows .mixedOrders = true) : bitsC.Holds Try.prog 30 := flC_of fun xs h => by
  obtain ⟨a, rfl, ha⟩ := okF_eq h
  refine (sure0 hmix).fun F330 body330 Try.func30 rfl noLoops ?_
  rw [w330, fEq_self, Bool.not_not]
  show Alt _ (_ ∧ _ ∧ _ = Value.int .u64 (fBits a) ∧ _) (_ ∧ _ ∧ _ = Value.int .u64 (fBits a) ∧ _)
  unfold fBits
  cases fNan a <;> exact ⟨rfl, FlatH.empty, rfl, rfl⟩
theorem sign_says (hmix : Try.prog.follows .mixedOrders = true) : signC.Holds Try.prog 44 := flC_of fun xs h => by
  obtain ⟨a, rfl, ha⟩ := okF_eq h
  refine (sure0 hmix).fun F344 body344 Try.func44 rfl noLoops ?_
  rw [w344]
  refine ⟨rfl, FlatH.empty, ?_, rfl⟩
  show Value.bool _ = Value.bool (leN 9223372036854775808 a)
  congr 1
  rw [wr_eq, ltI_eq, leN_eq]
  by_cases h : 9223372036854775808 ≤ a
  · simp only [h, decide_true, decide_eq_true_eq]; simp [IntKind.wrap, IntKind.bits, IntKind.signed]; omega
  · simp only [h, decide_false, decide_eq_false_iff_not]; simp [IntKind.wrap, IntKind.bits, IntKind.signed]; omega
theorem nan_says (hmix : Try.prog.follows .mixedOrders = true) : nanC.Holds Try.prog 15 := flC_of fun xs h => by
  cases xs with
  | cons => exact h.elim
  | nil =>
    refine (sure0 hmix).fun F315 body315 Try.func15 rfl noLoops ?_
    rw [w315]
    exact ⟨rfl, FlatH.empty, rfl, rfl⟩
theorem inf_says (hmix : Try.prog.follows .mixedOrders = true) : infC.Holds Try.prog 32 := flC_of fun xs h => by
  unfold okI at h
  split at h
  · rename_i s
    refine (sure0 hmix).fun F332 body332 Try.func32 rfl noLoops ?_
    rw [w332]
    show Alt _ (_ ∧ _ ∧ _ = Value.float .f64 (cond (leI 0 s) _ _) ∧ _) (_ ∧ _ ∧ _ = Value.float .f64 (cond (leI 0 s) _ _) ∧ _)
    cases leI 0 s <;> exact ⟨rfl, FlatH.empty, rfl, rfl⟩
  · exact h.elim
theorem copy_says (hmix : Try.prog.follows .mixedOrders = true) : copyC.Holds Try.prog 13 := flC_of fun xs h => by
  obtain ⟨a, b, rfl, ha, hb⟩ := okFF_eq h
  refine (sure0 hmix).fun F313 body313 Try.func13 rfl noLoops ?_
  rw [w313]
  exact ⟨rfl, FlatH.empty, rfl, rfl⟩
theorem rof_says (hmix : Try.prog.follows .mixedOrders = true) : ofC.Holds Try.prog 29 := flC_of fun xs h => by
  obtain ⟨u, rfl, h0, h1⟩ := okU_eq h
  refine (sure0 hmix).fun F329 body329 Try.func29 rfl noLoops ?_
  rw [w329, fEq_self, Bool.not_not]
  show Alt _ (Alt _ (_ ∧ _ ∧ _ = Value.tuple #[.float .f64 (cond (fBad u) 0 u.toNat), .bool (!fBad u)] ∧ _) (_ ∧ _ ∧ _ = Value.tuple #[.float .f64 (cond (fBad u) 0 u.toNat), .bool (!fBad u)] ∧ _)) (_ ∧ _ ∧ _ = Value.tuple #[.float .f64 (cond (fBad u) 0 u.toNat), .bool (!fBad u)] ∧ _)
  unfold fBad
  cases fNan u.toNat <;> cases eqI u 9221120237041090561 <;> exact ⟨rfl, FlatH.empty, rfl, rfl⟩
noncomputable def S31 : Book := bookOf [(30, bitsC), (42, noC), (44, signC)]
theorem sure31 (hmix : Try.prog.follows .mixedOrders = true) : Sure Try.prog S31 := ⟨hmix, plain, bookOf_ok ⟨rbits_says hmix, no_says hmix, sign_says hmix, trivial⟩⟩
noncomputable def body320 : Code := (Try.f20.body).getD .skip
def F320 : List Nat → Option (List Nat) := fun p => match p with
  | [1] => some [0]
  | [1, 0, 1] => some [0, 4]
  | [1, 0, 1, 0, 1] => some [2]
  | [1, 1] => some [0]
  | [1, 1, 1] => some [2]
  | _ => none
noncomputable def body326 : Code := (Try.f26.body).getD .skip
def F326 : List Nat → Option (List Nat) := fun p => match p with
  | [1] => some [0]
  | [1, 1] => some [3]
  | [1, 0, 1, 1] => some [3, 8]
  | [1, 0, 1, 0, 1, 1] => some [2]
  | [1, 1, 1] => some [3]
  | [1, 1, 1, 1] => some [2]
  | _ => none
noncomputable def body324 : Code := (Try.f24.body).getD .skip
def F324 : List Nat → Option (List Nat) := fun p => match p with
  | [1] => some [0, 1]
  | [1, 0, 1] => some [0, 1, 12]
  | [1, 0, 1, 0, 1] => some [4]
  | [1, 1] => some [0, 1]
  | [1, 0, 1, 1] => some [0, 1, 23]
  | [1, 0, 1, 0, 1, 1] => some [4]
  | [1, 1, 1] => some [0, 1]
  | [1, 1, 1, 1] => some [4]
  | _ => none

theorem w320 (a : Nat) (K : Value → Heap → Prop) :
  funK Try.prog S31 noLoop F320 body320 Try.f20 [.float .f64 a] (hp []) K = (
True ∧
  Need (leN a 18446744073709551615) True ∧
    Alt (fNan (fltA [Value.float FloatKind.f64 a] 0)) (K (Value.int IntKind.u64 9221120237041090561) (hp []))
      (K (Value.int IntKind.u64 (↑a : Int)) (hp []))) := by kernel_rfl

theorem w326 (a : Nat) (K : Value → Heap → Prop) :
  funK Try.prog S31 noLoop F326 body326 Try.f26 [.float .f64 a] (hp []) K = (
True ∧
  Need (leN a 18446744073709551615) True ∧
    Alt (eqI ((fBits (fltA [Value.float FloatKind.f64 a] 0)).fdiv 9223372036854775808) 1)
      (K
        (Value.int IntKind.u64
          (IntKind.u64.wrap
            (↑(BitVec.ofInt 64 18446744073709551615 ^^^
                    BitVec.ofInt 64 (fBits (fltA [Value.float FloatKind.f64 a] 0))).toNat :
              Int)))
        (hp []))
      (K
        (Value.int IntKind.u64
          (bitsW BinOp.or IntKind.u64 (fBits (fltA [Value.float FloatKind.f64 a] 0)) 9223372036854775808))
        (hp []))) := by kernel_rfl

theorem w324 (a b : Nat) (K : Value → Heap → Prop) :
  funK Try.prog S31 noLoop F324 body324 Try.f24 [.float .f64 a, .float .f64 b] (hp []) K = (
Alt (!fEq a a) (Alt (fEq a a) (K (Value.bool !fEq b b) (hp [])) (K (Value.bool false) (hp [])))
  (Alt (!fEq b b) (Alt (fEq a a) (K (Value.bool !fEq b b) (hp [])) (K (Value.bool false) (hp [])))
    (Alt (!fEq a b) (K (Value.bool (fLt a b)) (hp []))
      (True ∧
        Need (leN a 18446744073709551615) True ∧
          Alt (leN 9223372036854775808 (fltA [Value.float FloatKind.f64 a] 0))
            (True ∧
              Need (leN b 18446744073709551615) True ∧
                K (Value.bool !leN 9223372036854775808 (fltA [Value.float FloatKind.f64 b] 0)) (hp []))
            (K (Value.bool false) (hp [])))))) := by kernel_rfl

theorem flt0 (k : FloatKind) (a : Nat) (t : List Value) : fltA (.float k a :: t) 0 = a := rfl
theorem flt1 (k l : FloatKind) (a b : Nat) (t : List Value) : fltA (.float k a :: .float l b :: t) 1 = b := rfl
theorem bits_says (hmix : Try.prog.follows .mixedOrders = true) : bitsC.Holds Try.prog 20 := flC_of fun xs h => by
  obtain ⟨a, rfl, ha⟩ := okF_eq h
  refine (sure31 hmix).fun F320 body320 Try.func20 rfl noLoops ?_
  rw [w320, flt0]
  refine ⟨trivial, Need_iff.2 ⟨leN_iff.2 ha, trivial⟩, ?_⟩
  show Alt _ (_ ∧ _ ∧ _ = Value.int .u64 (fBits a) ∧ _) (_ ∧ _ ∧ _ = Value.int .u64 (fBits a) ∧ _)
  unfold fBits
  cases fNan a <;> exact ⟨rfl, FlatH.empty, rfl, rfl⟩
/-- the number by which a float stands in the order -/
def fKey (a : Nat) : Int := if fBits a < 9223372036854775808 then fBits a + 9223372036854775808 else 18446744073709551615 - fBits a
theorem fBits_nat (a : Nat) (ha : a ≤ 18446744073709551615) : ∃ b : Nat, fBits a = (b : Int) ∧ b < 18446744073709551616 := by
  unfold fBits
  cases fNan a with
  | true => exact ⟨9221120237041090561, rfl, by decide⟩
  | false => exact ⟨a, rfl, by omega⟩
noncomputable def keyC : Ctr := flC okF fun xs => .int .u64 (fKey (fltA xs 0))
theorem rkey_says (hmix : Try.prog.follows .mixedOrders = true) : keyC.Holds Try.prog 26 := flC_of fun xs h => by
  obtain ⟨a, rfl, ha⟩ := okF_eq h
  refine (sure31 hmix).fun F326 body326 Try.func26 rfl noLoops ?_
  rw [w326, flt0]
  refine ⟨trivial, Need_iff.2 ⟨leN_iff.2 ha, trivial⟩, ?_⟩
  show Alt _ (_ ∧ _ ∧ _ = Value.int .u64 (fKey a) ∧ _) (_ ∧ _ ∧ _ = Value.int .u64 (fKey a) ∧ _)
  unfold fKey
  obtain ⟨b, hb, hb1⟩ := fBits_nat a ha
  rw [hb]
  have e1 : (b : Int).fdiv 9223372036854775808 = (b : Int) / 9223372036854775808 := Int.fdiv_eq_ediv_of_nonneg _ (by decide)
  rw [e1]
  by_cases h1 : b < 9223372036854775808
  · rw [if_pos (by omega), show eqI ((b : Int) / 9223372036854775808) 1 = false by rw [eqI_eq]; simp; omega, or_high b h1]
    exact ⟨rfl, FlatH.empty, rfl, rfl⟩
  · rw [if_neg (by omega), show eqI ((b : Int) / 9223372036854775808) 1 = true by rw [eqI_eq]; simp; omega, not_all b hb1]
    refine ⟨rfl, FlatH.empty, ?_, rfl⟩
    rw [← wr_eq, wr_u64 _ (by omega) (by omega)]
    congr 1
    omega
/-- the reference's order -/
def rLess (a b : Nat) : Bool := cond (fNan a || fNan b) (!fNan a && fNan b) (cond (!fEq a b) (fLt a b) (leN 9223372036854775808 a && !leN 9223372036854775808 b))
/-- the two orders are one -/
theorem rLess_eq (a b : Nat) (ha : a ≤ 18446744073709551615) (hb : b ≤ 18446744073709551615) : rLess a b = ltI (fKey a) (fKey b) := by
  have na : fNan a = decide (9218868437227405312 < a % 9223372036854775808) := by rw [Bool.eq_iff_iff, fNan_iff, decide_eq_true_iff]; rfl
  have nb : fNan b = decide (9218868437227405312 < b % 9223372036854775808) := by rw [Bool.eq_iff_iff, fNan_iff, decide_eq_true_iff]; rfl
  have sa : fSr a = if 9223372036854775808 ≤ a then -((a % 9223372036854775808 : Nat) : Int) else ((a % 9223372036854775808 : Nat) : Int) := by
    unfold fSr sg fNeg fRung
    by_cases h : 9223372036854775808 ≤ a
    · rw [show (a / 9223372036854775808 % 2 == 1) = true by simp; omega, if_pos h]; rfl
    · rw [show (a / 9223372036854775808 % 2 == 1) = false by simp; omega, if_neg h]; rfl
  have sb : fSr b = if 9223372036854775808 ≤ b then -((b % 9223372036854775808 : Nat) : Int) else ((b % 9223372036854775808 : Nat) : Int) := by
    unfold fSr sg fNeg fRung
    by_cases h : 9223372036854775808 ≤ b
    · rw [show (b / 9223372036854775808 % 2 == 1) = true by simp; omega, if_pos h]; rfl
    · rw [show (b / 9223372036854775808 % 2 == 1) = false by simp; omega, if_neg h]; rfl
  unfold rLess fKey fBits fEq fLt
  rw [na, nb, ltI_eq, leN_eq, leN_eq]
  by_cases h1 : 9218868437227405312 < a % 9223372036854775808 <;> by_cases h2 : 9218868437227405312 < b % 9223372036854775808
  · simp [h1, h2]
  · simp only [h1, h2, decide_true, decide_false, Bool.true_or, cond_true, cond_false, Bool.not_true, Bool.false_and, Bool.and_false]
    rw [eq_comm, decide_eq_false_iff_not]
    rw [if_pos (by decide)]
    split <;> omega
  · simp only [h1, h2, decide_true, decide_false, Bool.false_or, cond_true, cond_false, Bool.not_false, Bool.true_and]
    rw [eq_comm, decide_eq_true_iff]
    rw [if_pos (show (9221120237041090561 : Int) < 9223372036854775808 by decide)]
    split <;> omega
  · simp only [h1, h2, decide_false, Bool.false_or, cond_false, Bool.not_false, Bool.true_and]
    rw [sa, sb]
    by_cases h3 : 9223372036854775808 ≤ a <;> by_cases h4 : 9223372036854775808 ≤ b
    all_goals
      simp only [h3, h4, if_true, if_false, decide_true, decide_false, Bool.not_true, Bool.not_false, Bool.true_and, Bool.false_and, Bool.and_true, Bool.and_false]
      first
        | rw [if_neg (show ¬ (a : Int) < 9223372036854775808 by omega)]
        | rw [if_pos (show (a : Int) < 9223372036854775808 by omega)]
      first
        | rw [if_neg (show ¬ (b : Int) < 9223372036854775808 by omega)]
        | rw [if_pos (show (b : Int) < 9223372036854775808 by omega)]
      generalize hu : (a % 9223372036854775808 : Nat) = u at *
      generalize hv : (b % 9223372036854775808 : Nat) = v at *
      rw [Bool.eq_iff_iff]
      simp only [Bool.cond_eq_ite, Bool.not_eq_true', decide_eq_false_iff_not, decide_eq_true_eq]
      split <;> simp <;> omega
end Go.Proofs.Ytglfkchcmjmmlaa

namespace Go.Proofs.Ytglfkchcmjmmlaa
open Go.RowKit Go.Proofs.Ytglfkchcmjmmlaa.AM
set_option maxRecDepth 100000
set_option maxHeartbeats 4000000
noncomputable def lessC : Ctr := flC okFF fun xs => .bool (ltI (fKey (fltA xs 0)) (fKey (fltA xs 1)))
theorem rless_says (hmix : Try.prog.follows .mixedOrders = true) : lessC.Holds Try.prog 24 := flC_of fun xs h => by
  obtain ⟨a, b, rfl, ha, hb⟩ := okFF_eq h
  refine (sure31 hmix).fun F324 body324 Try.func24 rfl noLoops ?_
  rw [w324, flt0, flt0, fEq_self, fEq_self]
  have e : ∀ x : Bool, (Value.bool x = Value.bool (ltI (fKey a) (fKey b))) = (x = rLess a b) := fun x => by rw [rLess_eq a b ha hb]; simp
  show Alt _ (Alt _ (_ ∧ _ ∧ _ = Value.bool (ltI (fKey a) (fKey b)) ∧ _) (_ ∧ _ ∧ _ = Value.bool (ltI (fKey a) (fKey b)) ∧ _)) (Alt _ (Alt _ (_ ∧ _ ∧ _ = Value.bool (ltI (fKey a) (fKey b)) ∧ _) (_ ∧ _ ∧ _ = Value.bool (ltI (fKey a) (fKey b)) ∧ _)) (Alt _ (_ ∧ _ ∧ _ = Value.bool (ltI (fKey a) (fKey b)) ∧ _) (True ∧ Need _ True ∧ Alt _ (True ∧ Need _ True ∧ _ ∧ _ ∧ _ = Value.bool (ltI (fKey a) (fKey b)) ∧ _) (_ ∧ _ ∧ _ = Value.bool (ltI (fKey a) (fKey b)) ∧ _))))
  have ha' := leN_iff.2 ha
  have hb' := leN_iff.2 hb
  simp only [flt0, e, ha', hb', FlatH.empty, isJunk, rLess]
  cases fNan a <;> cases fNan b <;> cases fEq a b <;> cases leN 9223372036854775808 a <;> simp [Alt, Need]
noncomputable def S32 : Book := bookOf [(20, bitsC), (30, bitsC), (42, noC)]
theorem sure32 (hmix : Try.prog.follows .mixedOrders = true) : Sure Try.prog S32 := ⟨hmix, plain, bookOf_ok ⟨bits_says hmix, rbits_says hmix, no_says hmix, trivial⟩⟩
noncomputable def body325 : Code := (Try.f25.body).getD .skip
def F325 : List Nat → Option (List Nat) := fun p => match p with
  | [1] => some [0]
  | [1, 1] => some [3]
  | [1, 0, 1, 1] => some [3, 8]
  | [1, 0, 1, 0, 1, 1] => some [2]
  | [1, 1, 1] => some [3]
  | [1, 1, 1, 1] => some [2]
  | _ => none
noncomputable def body328 : Code := (Try.f28.body).getD .skip
def F328 : List Nat → Option (List Nat) := fun p => match p with
  | [1] => some [0]
  | [1, 1] => some [0, 4]
  | [1, 0, 1, 1] => some [4, 10]
  | [1, 0, 1, 0, 1, 1] => some [2, 3]
  | [1, 1, 1] => some [4]
  | [1, 1, 1, 1] => some [2, 3]
  | _ => none
noncomputable def body321 : Code := (Try.f21.body).getD .skip
def F321 : List Nat → Option (List Nat) := fun p => match p with
  | [1] => some [1]
  | [1, 0, 1] => some [1, 4]
  | [1, 0, 1, 0, 1] => some [2]
  | [1, 1] => some [1]
  | [1, 1, 1] => some [2]
  | _ => none
noncomputable def body322 : Code := (Try.f22.body).getD .skip
def F322 : List Nat → Option (List Nat) := fun p => match p with
  | [1] => some [1]
  | [1, 0, 1] => some [1, 4]
  | [1, 0, 1, 0, 1] => some [2]
  | [1, 1] => some [1]
  | [1, 1, 1] => some [2]
  | _ => none

theorem w325 (a : Nat) (K : Value → Heap → Prop) :
  funK Try.prog S32 noLoop F325 body325 Try.f25 [.float .f64 a] (hp []) K = (
True ∧
  Need (leN a 18446744073709551615) True ∧
    Alt (eqI (bitsW BinOp.and IntKind.u64 (fBits (fltA [Value.float FloatKind.f64 a] 0)) 9223372036854775808) 0)
      (K
        (Value.int IntKind.u64
          (bitsW BinOp.or IntKind.u64 (fBits (fltA [Value.float FloatKind.f64 a] 0)) 9223372036854775808))
        (hp []))
      (K
        (Value.int IntKind.u64
          (IntKind.u64.wrap
            (↑(BitVec.ofInt 64 18446744073709551615 ^^^
                    BitVec.ofInt 64 (fBits (fltA [Value.float FloatKind.f64 a] 0))).toNat :
              Int)))
        (hp []))) := by kernel_rfl

theorem w328 (u : Int) (K : Value → Heap → Prop) :
  funK Try.prog S32 noLoop F328 body328 Try.f28 [.int .u64 u] (hp []) K = (
True ∧
  Need (leN u.toNat 18446744073709551615) True ∧
    Alt (!eqI (fBits (fltA [Value.float FloatKind.f64 u.toNat] 0)) u)
      (K (Value.tuple #[Value.float FloatKind.f64 0, Value.bool false]) (hp []))
      (K (Value.tuple #[Value.float FloatKind.f64 u.toNat, Value.bool true]) (hp []))) := by kernel_rfl

theorem w321 (y : Bool) (a b : Nat) (K : Value → Heap → Prop) :
  funK Try.prog S32 noLoop F321 body321 Try.f21 [.agg #[.bool y, .float .f64 a, .float .f64 b]] (hp []) K = (
Alt (boolV (Value.bool y))
  (True ∧
    Need (leN (fltV (Value.float FloatKind.f64 a)) 18446744073709551615) True ∧
      Alt (eqI (fBits (fltA [Value.float FloatKind.f64 (fltV (Value.float FloatKind.f64 a))] 0)) 0)
        (True ∧
          Need (leN (fltV (Value.float FloatKind.f64 b)) 18446744073709551615) True ∧
            K (Value.bool (eqI (fBits (fltA [Value.float FloatKind.f64 (fltV (Value.float FloatKind.f64 b))] 0)) 0))
              (hp []))
        (K (Value.bool false) (hp [])))
  (K
    (Value.bool
      (fLt (fltV (Value.float FloatKind.f64 a)) (fltV (Value.float FloatKind.f64 b)) ||
        fEq (fltV (Value.float FloatKind.f64 a)) (fltV (Value.float FloatKind.f64 b))))
    (hp []))) := by kernel_rfl

theorem w322 (y : Bool) (a b : Nat) (K : Value → Heap → Prop) :
  funK Try.prog S32 noLoop F322 body322 Try.f22 [.agg #[.bool y, .float .f64 a, .float .f64 b]] (hp []) K = (
Alt (boolV (Value.bool y))
  (True ∧
    Need (leN (fltV (Value.float FloatKind.f64 a)) 18446744073709551615) True ∧
      Alt (eqI (fBits (fltA [Value.float FloatKind.f64 (fltV (Value.float FloatKind.f64 a))] 0)) 0)
        (True ∧
          Need (leN (fltV (Value.float FloatKind.f64 b)) 18446744073709551615) True ∧
            K (Value.bool (eqI (fBits (fltA [Value.float FloatKind.f64 (fltV (Value.float FloatKind.f64 b))] 0)) 0))
              (hp []))
        (K (Value.bool false) (hp [])))
  (K
    (Value.bool
      (fLt (fltV (Value.float FloatKind.f64 a)) (fltV (Value.float FloatKind.f64 b)) ||
        fEq (fltV (Value.float FloatKind.f64 a)) (fltV (Value.float FloatKind.f64 b))))
    (hp []))) := by kernel_rfl

theorem key_says (hmix : Try.prog.follows .mixedOrders = true) : keyC.Holds Try.prog 25 := flC_of fun xs h => by
  obtain ⟨a, rfl, ha⟩ := okF_eq h
  refine (sure32 hmix).fun F325 body325 Try.func25 rfl noLoops ?_
  rw [w325, flt0]
  refine ⟨trivial, Need_iff.2 ⟨leN_iff.2 ha, trivial⟩, ?_⟩
  show Alt _ (_ ∧ _ ∧ _ = Value.int .u64 (fKey a) ∧ _) (_ ∧ _ ∧ _ = Value.int .u64 (fKey a) ∧ _)
  unfold fKey
  obtain ⟨b, hb, hb1⟩ := fBits_nat a ha
  rw [hb, and_high b hb1]
  by_cases h1 : b < 9223372036854775808
  · rw [if_pos (show (b : Int) < 9223372036854775808 by omega), if_pos h1, or_high b h1]
    exact ⟨rfl, FlatH.empty, rfl, rfl⟩
  · rw [if_neg (show ¬ (b : Int) < 9223372036854775808 by omega), if_neg h1, not_all b hb1]
    refine ⟨rfl, FlatH.empty, ?_, rfl⟩
    rw [← wr_eq, wr_u64 _ (by omega) (by omega)]
    congr 1
    omega
theorem of_says (hmix : Try.prog.follows .mixedOrders = true) : ofC.Holds Try.prog 28 := flC_of fun xs h => by
  obtain ⟨u, rfl, h0, h1⟩ := okU_eq h
  refine (sure32 hmix).fun F328 body328 Try.func28 rfl noLoops ?_
  rw [w328, flt0]
  have e : eqI (fBits u.toNat) u = !fBad u := by
    unfold fBits fBad
    cases hn : fNan u.toNat with
    | true => simp only [cond_true, Bool.true_and, Bool.not_not]; rw [eqI_eq, eqI_eq, Bool.eq_iff_iff, decide_eq_true_iff, decide_eq_true_iff]; exact eq_comm
    | false => simp only [cond_false, Bool.false_and, Bool.not_false]; rw [eqI_eq, decide_eq_true_iff]; omega
  rw [e, Bool.not_not]
  refine ⟨trivial, Need_iff.2 ⟨leN_iff.2 (by omega), trivial⟩, ?_⟩
  show Alt _ (_ ∧ _ ∧ _ = Value.tuple #[.float .f64 (cond (fBad u) 0 u.toNat), .bool (!fBad u)] ∧ _) (_ ∧ _ ∧ _ = Value.tuple #[.float .f64 (cond (fBad u) 0 u.toNat), .bool (!fBad u)] ∧ _)
  cases fBad u <;> exact ⟨rfl, FlatH.empty, rfl, rfl⟩
/-- whether a band may be -/
def mayB (y : Bool) (a b : Nat) : Bool := cond y (eqI (fBits a) 0 && eqI (fBits b) 0) (fLt a b || fEq a b)
def inB (y : Bool) (a b f : Nat) : Bool := mayB y a b && (y || ((fLt a f || fEq a f) && (fLt f b || fEq f b)))
noncomputable def bq (xs : List Value) (i : Nat) : Value := match getO xs 0 with
  | some (.agg cs) => (getO cs.toList i).getD (.bool false)
  | _ => .bool false
def isBand (v : Value) : Prop := match v with
  | .agg cs => match cs.toList with
    | [.bool _, .float .f64 a, .float .f64 b] => Need (leN a 18446744073709551615) (Need (leN b 18446744073709551615) True)
    | _ => False
  | _ => False
theorem isBand_eq {v : Value} (h : isBand v) : ∃ (y : Bool) (a b : Nat), v = .agg #[.bool y, .float .f64 a, .float .f64 b] ∧ a ≤ 18446744073709551615 ∧ b ≤ 18446744073709551615 := by
  unfold isBand at h
  split at h
  · rename_i cs
    obtain ⟨cs⟩ := cs
    split at h
    · rename_i y a b e
      simp only at e
      subst e
      simp only [Alt_iff, Need_iff, ltI_eq, leI_eq, eqI_eq, leN_eq, eqN_eq, decide_eq_true_eq, decide_eq_false_iff_not, decide_true, decide_false, true_and, and_true, Bool.true_eq_false, Bool.false_eq_true, false_implies, true_implies, implies_true, not_true_eq_false, not_false_eq_true, Bool.not_eq_true', Bool.not_eq_false'] at h
      exact ⟨_, _, _, rfl, h⟩
    · exact h.elim
  · exact h.elim
def okB : List Value → Prop := fun xs => match xs with
  | [v] => isBand v
  | _ => False
def okBF : List Value → Prop := fun xs => match xs with
  | [v, .float .f64 f] => isBand v ∧ Need (leN f 18446744073709551615) True
  | _ => False
theorem okB_eq {xs : List Value} (h : okB xs) : ∃ (y : Bool) (a b : Nat), xs = [.agg #[.bool y, .float .f64 a, .float .f64 b]] ∧ a ≤ 18446744073709551615 ∧ b ≤ 18446744073709551615 := by
  unfold okB at h
  split at h
  · obtain ⟨y, a, b, rfl, q⟩ := isBand_eq h
    exact ⟨y, a, b, rfl, q⟩
  · exact h.elim
theorem okBF_eq {xs : List Value} (h : okBF xs) : ∃ (y : Bool) (a b f : Nat), xs = [.agg #[.bool y, .float .f64 a, .float .f64 b], .float .f64 f] ∧ a ≤ 18446744073709551615 ∧ b ≤ 18446744073709551615 ∧ f ≤ 18446744073709551615 := by
  unfold okBF at h
  split at h
  · obtain ⟨h, hf⟩ := h
    obtain ⟨y, a, b, rfl, q1, q2⟩ := isBand_eq h
    simp only [Alt_iff, Need_iff, ltI_eq, leI_eq, eqI_eq, leN_eq, eqN_eq, decide_eq_true_eq, decide_eq_false_iff_not, decide_true, decide_false, true_and, and_true, Bool.true_eq_false, Bool.false_eq_true, false_implies, true_implies, implies_true, not_true_eq_false, not_false_eq_true, Bool.not_eq_true', Bool.not_eq_false'] at hf
    exact ⟨y, a, b, _, rfl, q1, q2, hf⟩
  · exact h.elim
noncomputable def mayC : Ctr := flC okB fun xs => .bool (mayB (boolV (bq xs 0)) (fltV (bq xs 1)) (fltV (bq xs 2)))
noncomputable def inC : Ctr := flC okBF fun xs => .bool (inB (boolV (bq xs 0)) (fltV (bq xs 1)) (fltV (bq xs 2)) (fltA xs 1))
theorem may_says (hmix : Try.prog.follows .mixedOrders = true) : mayC.Holds Try.prog 21 := flC_of fun xs h => by
  obtain ⟨y, a, b, rfl, ha, hb⟩ := okB_eq h
  refine (sure32 hmix).fun F321 body321 Try.func21 rfl noLoops ?_
  rw [w321]
  show Alt y (True ∧ Need (leN a _) True ∧ Alt (eqI (fBits a) 0) (True ∧ Need (leN b _) True ∧ _ ∧ _ ∧ _ = Value.bool (mayB y a b) ∧ _) (_ ∧ _ ∧ _ = Value.bool (mayB y a b) ∧ _)) (_ ∧ _ ∧ _ = Value.bool (mayB y a b) ∧ _)
  simp only [leN_iff.2 ha, leN_iff.2 hb, FlatH.empty, mayB]
  cases y <;> cases hh : eqI (fBits a) 0 <;> simp [Alt, Need, flt0, fltV, hh, isJunk]
theorem rmay_says (hmix : Try.prog.follows .mixedOrders = true) : mayC.Holds Try.prog 22 := flC_of fun xs h => by
  obtain ⟨y, a, b, rfl, ha, hb⟩ := okB_eq h
  refine (sure32 hmix).fun F322 body322 Try.func22 rfl noLoops ?_
  rw [w322]
  show Alt y (True ∧ Need (leN a _) True ∧ Alt (eqI (fBits a) 0) (True ∧ Need (leN b _) True ∧ _ ∧ _ ∧ _ = Value.bool (mayB y a b) ∧ _) (_ ∧ _ ∧ _ = Value.bool (mayB y a b) ∧ _)) (_ ∧ _ ∧ _ = Value.bool (mayB y a b) ∧ _)
  simp only [leN_iff.2 ha, leN_iff.2 hb, FlatH.empty, mayB]
  cases y <;> cases hh : eqI (fBits a) 0 <;> simp [Alt, Need, flt0, fltV, hh, isJunk]
noncomputable def S33 : Book := bookOf [(21, mayC), (22, mayC), (25, keyC)]
theorem sure33 (hmix : Try.prog.follows .mixedOrders = true) : Sure Try.prog S33 := ⟨hmix, plain, bookOf_ok ⟨may_says hmix, rmay_says hmix, key_says hmix, trivial⟩⟩
noncomputable def body316 : Code := (Try.f16.body).getD .skip
def F316 : List Nat → Option (List Nat) := fun p => match p with
  | [1] => some [0, 1]
  | [1, 1] => some [4]
  | _ => none
noncomputable def body317 : Code := (Try.f17.body).getD .skip
def F317 : List Nat → Option (List Nat) := fun p => match p with
  | [1] => some [1, 2]
  | [1, 1] => some [4]
  | _ => none
noncomputable def body323 : Code := (Try.f23.body).getD .skip
def F323 : List Nat → Option (List Nat) := fun p => match p with
  | [1] => some [1, 2]
  | [1, 0, 1] => some [1, 2, 7]
  | [1, 0, 1, 0, 1] => some [4]
  | [1, 1] => some [1, 2]
  | [1, 1, 1] => some [4]
  | _ => none

theorem w316 (a b : Nat) (K : Value → Heap → Prop) :
  funK Try.prog S33 noLoop F316 body316 Try.f16 [.float .f64 a, .float .f64 b] (hp []) K = (
True ∧
  Need (leN a 18446744073709551615) True ∧
    True ∧
      Need (leN b 18446744073709551615) True ∧
        K (Value.bool (ltI (fKey (fltA [Value.float FloatKind.f64 a] 0)) (fKey (fltA [Value.float FloatKind.f64 b] 0))))
          (hp [])) := by kernel_rfl

theorem w317 (y : Bool) (a b f : Nat) (K : Value → Heap → Prop) :
  funK Try.prog S33 noLoop F317 body317 Try.f17 [.agg #[.bool y, .float .f64 a, .float .f64 b], .float .f64 f] (hp []) K = (
True ∧
  Need (leN (fltV (Value.float FloatKind.f64 a)) 18446744073709551615)
      (Need (leN (fltV (Value.float FloatKind.f64 b)) 18446744073709551615) True) ∧
    Alt
      (mayB (boolV (Value.bool (boolV (Value.bool y))))
        (fltV (Value.float FloatKind.f64 (fltV (Value.float FloatKind.f64 a))))
        (fltV (Value.float FloatKind.f64 (fltV (Value.float FloatKind.f64 b)))))
      (Alt (boolV (Value.bool y)) (K (Value.bool true) (hp []))
        (Alt (fLt (fltV (Value.float FloatKind.f64 a)) f || fEq (fltV (Value.float FloatKind.f64 a)) f)
          (K (Value.bool (fLt f (fltV (Value.float FloatKind.f64 b)) || fEq f (fltV (Value.float FloatKind.f64 b))))
            (hp []))
          (K (Value.bool false) (hp []))))
      (K (Value.bool false) (hp []))) := by kernel_rfl

theorem w323 (y : Bool) (a b f : Nat) (K : Value → Heap → Prop) :
  funK Try.prog S33 noLoop F323 body323 Try.f23 [.agg #[.bool y, .float .f64 a, .float .f64 b], .float .f64 f] (hp []) K = (
True ∧
  Need (leN (fltV (Value.float FloatKind.f64 a)) 18446744073709551615)
      (Need (leN (fltV (Value.float FloatKind.f64 b)) 18446744073709551615) True) ∧
    Alt
      (!mayB (boolV (Value.bool (boolV (Value.bool y))))
          (fltV (Value.float FloatKind.f64 (fltV (Value.float FloatKind.f64 a))))
          (fltV (Value.float FloatKind.f64 (fltV (Value.float FloatKind.f64 b)))))
      (K (Value.bool false) (hp []))
      (Alt (boolV (Value.bool y)) (K (Value.bool true) (hp []))
        (Alt (fLt (fltV (Value.float FloatKind.f64 a)) f || fEq (fltV (Value.float FloatKind.f64 a)) f)
          (K (Value.bool (fLt f (fltV (Value.float FloatKind.f64 b)) || fEq f (fltV (Value.float FloatKind.f64 b))))
            (hp []))
          (K (Value.bool false) (hp []))))) := by kernel_rfl

theorem less_says (hmix : Try.prog.follows .mixedOrders = true) : lessC.Holds Try.prog 16 := flC_of fun xs h => by
  obtain ⟨a, b, rfl, ha, hb⟩ := okFF_eq h
  refine (sure33 hmix).fun F316 body316 Try.func16 rfl noLoops ?_
  rw [w316]
  simp only [leN_iff.2 ha, leN_iff.2 hb, FlatH.empty, flt0, flt1]
  and_intros <;> first | trivial | rfl
end Go.Proofs.Ytglfkchcmjmmlaa

namespace Go.Proofs.Ytglfkchcmjmmlaa
open Go.RowKit Go.Proofs.Ytglfkchcmjmmlaa.AM
set_option maxRecDepth 100000
set_option maxHeartbeats 4000000
theorem fltV_f (k : FloatKind) (a : Nat) : fltV (.float k a) = a := rfl
theorem boolV_b (b : Bool) : boolV (.bool b) = b := rfl
theorem intV_i (k : IntKind) (n : Int) : intV (.int k n) = n := rfl
theorem in_says (hmix : Try.prog.follows .mixedOrders = true) : inC.Holds Try.prog 17 := flC_of fun xs h => by
  obtain ⟨y, a, b, f, rfl, ha, hb, hf⟩ := okBF_eq h
  refine (sure33 hmix).fun F317 body317 Try.func17 rfl noLoops ?_
  rw [w317]
  simp only [fltV_f, boolV_b, leN_iff.2 ha, leN_iff.2 hb, FlatH.empty]
  show True ∧ _ ∧ Alt _ (Alt y (_ ∧ _ ∧ _ = Value.bool (inB y a b f) ∧ _) (Alt _ (_ ∧ _ ∧ _ = Value.bool (inB y a b f) ∧ _) (_ ∧ _ ∧ _ = Value.bool (inB y a b f) ∧ _))) (_ ∧ _ ∧ _ = Value.bool (inB y a b f) ∧ _)
  unfold inB
  cases mayB y a b <;> cases y <;> cases (fLt a f || fEq a f) <;> simp [Alt, Need, isJunk]
theorem rin_says (hmix : Try.prog.follows .mixedOrders = true) : inC.Holds Try.prog 23 := flC_of fun xs h => by
  obtain ⟨y, a, b, f, rfl, ha, hb, hf⟩ := okBF_eq h
  refine (sure33 hmix).fun F323 body323 Try.func23 rfl noLoops ?_
  rw [w323]
  simp only [fltV_f, boolV_b, leN_iff.2 ha, leN_iff.2 hb, FlatH.empty]
  show True ∧ _ ∧ Alt _ (_ ∧ _ ∧ _ = Value.bool (inB y a b f) ∧ _) (Alt y (_ ∧ _ ∧ _ = Value.bool (inB y a b f) ∧ _) (Alt _ (_ ∧ _ ∧ _ = Value.bool (inB y a b f) ∧ _) (_ ∧ _ ∧ _ = Value.bool (inB y a b f) ∧ _)))
  unfold inB
  cases mayB y a b <;> cases y <;> cases (fLt a f || fEq a f) <;> simp [Alt, Need, isJunk]
/-- a law that says true of itself -/
noncomputable def trueC : Ctr := flC ok0 fun _ => .bool true
theorem runs_run : isTrueR (acall Try.prog (fun _ => none) 300 3 [] Heap.empty) = true := by decide +kernel
theorem runs_holds (hmix : Try.prog.follows .mixedOrders = true) : trueC.Holds Try.prog 3 := flC_of fun xs h => by
  cases xs with
  | cons => exact h.elim
  | nil => exact FunSays.of_run hmix plain Try.func3 rfl runs_run
noncomputable def S34 : Book := bookOf [(3, trueC), (13, copyC), (15, nanC), (16, lessC), (17, inC), (20, bitsC), (21, mayC), (22, mayC), (23, inC), (24, lessC), (25, keyC), (26, keyC), (28, ofC), (29, ofC), (30, bitsC), (32, infC)]
theorem sure34 (hmix : Try.prog.follows .mixedOrders = true) : Sure Try.prog S34 := ⟨hmix, plain, bookOf_ok ⟨runs_holds hmix, copy_says hmix, nan_says hmix, less_says hmix, in_says hmix, bits_says hmix, may_says hmix, rmay_says hmix, rin_says hmix, rless_says hmix, key_says hmix, rkey_says hmix, of_says hmix, rof_says hmix, rbits_says hmix, inf_says hmix, trivial⟩⟩
noncomputable def body305 : Code := (Try.f5.body).getD .skip
def F305 : List Nat → Option (List Nat) := fun p => match p with
  | [1] => some [1, 2]
  | [1, 1] => some [4]
  | _ => none
noncomputable def body307 : Code := (Try.f7.body).getD .skip
def F307 : List Nat → Option (List Nat) := fun p => match p with
  | [1] => some [0, 1]
  | [1, 1] => some [4]
  | _ => none

theorem w305 (y : Bool) (a b f : Nat) (K : Value → Heap → Prop) :
  funK Try.prog S34 noLoop F305 body305 Try.f5 [.agg #[.bool y, .float .f64 a, .float .f64 b], .float .f64 f] (hp []) K = (
True ∧
  Need (leN (fltV (Value.float FloatKind.f64 a)) 18446744073709551615)
      (Need (leN (fltV (Value.float FloatKind.f64 b)) 18446744073709551615) True) ∧
    True ∧
      Need (leN (fltV (Value.float FloatKind.f64 a)) 18446744073709551615)
          (Need (leN (fltV (Value.float FloatKind.f64 b)) 18446744073709551615) True) ∧
        Alt
          (mayB (boolV (Value.bool (boolV (Value.bool y))))
              (fltV (Value.float FloatKind.f64 (fltV (Value.float FloatKind.f64 a))))
              (fltV (Value.float FloatKind.f64 (fltV (Value.float FloatKind.f64 b)))) ==
            mayB (boolV (Value.bool (boolV (Value.bool y))))
              (fltV (Value.float FloatKind.f64 (fltV (Value.float FloatKind.f64 a))))
              (fltV (Value.float FloatKind.f64 (fltV (Value.float FloatKind.f64 b)))))
          (True ∧
            (Need (leN (fltV (Value.float FloatKind.f64 a)) 18446744073709551615)
                  (Need (leN (fltV (Value.float FloatKind.f64 b)) 18446744073709551615) True) ∧
                Need (leN f 18446744073709551615) True) ∧
              True ∧
                (Need (leN (fltV (Value.float FloatKind.f64 a)) 18446744073709551615)
                      (Need (leN (fltV (Value.float FloatKind.f64 b)) 18446744073709551615) True) ∧
                    Need (leN f 18446744073709551615) True) ∧
                  Alt
                    (inB (boolV (Value.bool (boolV (Value.bool y))))
                        (fltV (Value.float FloatKind.f64 (fltV (Value.float FloatKind.f64 a))))
                        (fltV (Value.float FloatKind.f64 (fltV (Value.float FloatKind.f64 b))))
                        (fltA
                          [Value.agg
                              #[Value.bool (boolV (Value.bool y)),
                                Value.float FloatKind.f64 (fltV (Value.float FloatKind.f64 a)),
                                Value.float FloatKind.f64 (fltV (Value.float FloatKind.f64 b))],
                            Value.float FloatKind.f64 f]
                          1) ==
                      inB (boolV (Value.bool (boolV (Value.bool y))))
                        (fltV (Value.float FloatKind.f64 (fltV (Value.float FloatKind.f64 a))))
                        (fltV (Value.float FloatKind.f64 (fltV (Value.float FloatKind.f64 b))))
                        (fltA
                          [Value.agg
                              #[Value.bool (boolV (Value.bool y)),
                                Value.float FloatKind.f64 (fltV (Value.float FloatKind.f64 a)),
                                Value.float FloatKind.f64 (fltV (Value.float FloatKind.f64 b))],
                            Value.float FloatKind.f64 f]
                          1))
                    (True ∧
                      True ∧
                        Need (beqV 64 (Value.float FloatKind.f64 f) (Value.float FloatKind.f64 f))
                          (Need
                            (beqV 64
                              (Value.agg
                                #[Value.bool (boolV (Value.bool y)),
                                  Value.float FloatKind.f64 (fltV (Value.float FloatKind.f64 a)),
                                  Value.float FloatKind.f64 (fltV (Value.float FloatKind.f64 b))])
                              (Value.agg
                                #[Value.bool (boolV (Value.bool y)),
                                  Value.float FloatKind.f64 (fltV (Value.float FloatKind.f64 a)),
                                  Value.float FloatKind.f64 (fltV (Value.float FloatKind.f64 b))]))
                            (Need
                              (beqV 64
                                (Value.agg
                                  #[Value.bool (boolV (Value.bool y)),
                                    Value.float FloatKind.f64 (fltV (Value.float FloatKind.f64 a)),
                                    Value.float FloatKind.f64 (fltV (Value.float FloatKind.f64 b))])
                                (Value.agg
                                  #[Value.bool (boolV (Value.bool y)),
                                    Value.float FloatKind.f64 (fltV (Value.float FloatKind.f64 a)),
                                    Value.float FloatKind.f64 (fltV (Value.float FloatKind.f64 b))]))
                              (K (Value.bool true) (hp [])))))
                    (Need (beqV 64 (Value.float FloatKind.f64 f) (Value.float FloatKind.f64 f))
                      (Need
                        (beqV 64
                          (Value.agg
                            #[Value.bool (boolV (Value.bool y)),
                              Value.float FloatKind.f64 (fltV (Value.float FloatKind.f64 a)),
                              Value.float FloatKind.f64 (fltV (Value.float FloatKind.f64 b))])
                          (Value.agg
                            #[Value.bool (boolV (Value.bool y)),
                              Value.float FloatKind.f64 (fltV (Value.float FloatKind.f64 a)),
                              Value.float FloatKind.f64 (fltV (Value.float FloatKind.f64 b))]))
                        (Need
                          (beqV 64
                            (Value.agg
                              #[Value.bool (boolV (Value.bool y)),
                                Value.float FloatKind.f64 (fltV (Value.float FloatKind.f64 a)),
                                Value.float FloatKind.f64 (fltV (Value.float FloatKind.f64 b))])
                            (Value.agg
                              #[Value.bool (boolV (Value.bool y)),
                                Value.float FloatKind.f64 (fltV (Value.float FloatKind.f64 a)),
                                Value.float FloatKind.f64 (fltV (Value.float FloatKind.f64 b))]))
                          (K (Value.bool false) (hp []))))))
          (Need
            (beqV 64
              (Value.agg
                #[Value.bool (boolV (Value.bool y)), Value.float FloatKind.f64 (fltV (Value.float FloatKind.f64 a)),
                  Value.float FloatKind.f64 (fltV (Value.float FloatKind.f64 b))])
              (Value.agg
                #[Value.bool (boolV (Value.bool y)), Value.float FloatKind.f64 (fltV (Value.float FloatKind.f64 a)),
                  Value.float FloatKind.f64 (fltV (Value.float FloatKind.f64 b))]))
            (K (Value.bool false) (hp [])))) := by kernel_rfl

theorem w307 (a b : Nat) (K : Value → Heap → Prop) :
  funK Try.prog S34 noLoop F307 body307 Try.f7 [.float .f64 a, .float .f64 b] (hp []) K = (
True ∧
  Need (leN a 18446744073709551615) (Need (leN b 18446744073709551615) True) ∧
    True ∧
      Need (leN a 18446744073709551615) (Need (leN b 18446744073709551615) True) ∧
        Alt
          (ltI (fKey (fltA [Value.float FloatKind.f64 a, Value.float FloatKind.f64 b] 0))
              (fKey (fltA [Value.float FloatKind.f64 a, Value.float FloatKind.f64 b] 1)) ==
            ltI (fKey (fltA [Value.float FloatKind.f64 a, Value.float FloatKind.f64 b] 0))
              (fKey (fltA [Value.float FloatKind.f64 a, Value.float FloatKind.f64 b] 1)))
          (True ∧
            Need (leN a 18446744073709551615) True ∧
              True ∧
                Need (leN a 18446744073709551615) True ∧
                  Alt (eqI (fKey (fltA [Value.float FloatKind.f64 a] 0)) (fKey (fltA [Value.float FloatKind.f64 a] 0)))
                    (True ∧
                      Need (leN a 18446744073709551615) True ∧
                        True ∧
                          Need (leN b 18446744073709551615) True ∧
                            True ∧
                              Need (leN a 18446744073709551615) (Need (leN b 18446744073709551615) True) ∧
                                Alt
                                  (ltI (fKey (fltA [Value.float FloatKind.f64 a] 0))
                                      (fKey (fltA [Value.float FloatKind.f64 b] 0)) ==
                                    ltI (fKey (fltA [Value.float FloatKind.f64 a, Value.float FloatKind.f64 b] 0))
                                      (fKey (fltA [Value.float FloatKind.f64 a, Value.float FloatKind.f64 b] 1)))
                                  (True ∧ True ∧ K (Value.bool true) (hp [])) (K (Value.bool false) (hp [])))
                    (K (Value.bool false) (hp [])))
          (K (Value.bool false) (hp []))) := by kernel_rfl

theorem law307 (hmix : Try.prog.follows .mixedOrders = true) (a b : Nat) (ha : a ≤ 18446744073709551615) (hb : b ≤ 18446744073709551615) : FunSays Try.prog 7 [.float .f64 a, .float .f64 b] (hp []) fun v _ => v = .bool true := by
  refine (sure34 hmix).fun F307 body307 Try.func7 rfl noLoops ?_
  rw [w307]
  have e : ∀ x : Int, eqI x x = true := fun x => by rw [eqI_iff]
  simp only [flt0, flt1, leN_iff.2 ha, leN_iff.2 hb, FlatH.empty, beq_self_eq_true, e, Alt_iff, Need_iff, ltI_eq, leI_eq, eqI_eq, leN_eq, eqN_eq, decide_eq_true_eq, decide_eq_false_iff_not, decide_true, decide_false, true_and, and_true, Bool.true_eq_false, Bool.false_eq_true, false_implies, true_implies, implies_true, not_true_eq_false, not_false_eq_true, Bool.not_eq_true', Bool.not_eq_false']
  rfl
theorem law305 (hmix : Try.prog.follows .mixedOrders = true) (y : Bool) (a b f : Nat) (ha : a ≤ 18446744073709551615) (hb : b ≤ 18446744073709551615) (hf : f ≤ 18446744073709551615) : FunSays Try.prog 5 [.agg #[.bool y, .float .f64 a, .float .f64 b], .float .f64 f] (hp []) fun v _ => v = .bool true := by
  refine (sure34 hmix).fun F305 body305 Try.func5 rfl noLoops ?_
  rw [w305]
  simp only [fltV_f, boolV_b, flt0, flt1, leN_iff.2 ha, leN_iff.2 hb, leN_iff.2 hf, FlatH.empty, beq_self_eq_true, Alt_iff, Need_iff, ltI_eq, leI_eq, eqI_eq, leN_eq, eqN_eq, decide_eq_true_eq, decide_eq_false_iff_not, decide_true, decide_false, true_and, and_true, Bool.true_eq_false, Bool.false_eq_true, false_implies, true_implies, implies_true, not_true_eq_false, not_false_eq_true, Bool.not_eq_true', Bool.not_eq_false']
  have hg : beqV 64 (.agg #[.bool y, .float .f64 a, .float .f64 b]) (.agg #[.bool y, .float .f64 a, .float .f64 b]) = true := by simp [beqV]
  and_intros <;> first | exact hg | exact beqV_flt _ _ _ | rfl
end Go.Proofs.Ytglfkchcmjmmlaa

namespace Go.Proofs.Ytglfkchcmjmmlaa
open Go.RowKit Go.Proofs.Ytglfkchcmjmmlaa.AM
set_option maxRecDepth 100000
set_option maxHeartbeats 4000000
/-! ### a strict order of places: by their keys, then by themselves -/
def ltK (key : Nat → Int) (x y : Nat) : Prop := key x < key y ∨ (key x = key y ∧ x < y)
def leK (key : Nat → Int) (x y : Nat) : Bool := decide (key x < key y ∨ (key x = key y ∧ x ≤ y))
def srtK (key : Nat → Int) (l : List Nat) : List Nat := l.mergeSort (leK key)
def Asc (key : Nat → Int) (l : List Nat) : Prop := l.Pairwise (ltK key)
theorem leK_iff {key : Nat → Int} {x y : Nat} : leK key x y = true ↔ (key x < key y ∨ (key x = key y ∧ x ≤ y)) := by unfold leK; rw [decide_eq_true_iff]
theorem ltK.trans {key : Nat → Int} {x y z : Nat} (h : ltK key x y) (h2 : ltK key y z) : ltK key x z := by unfold ltK at *; omega
theorem srtK_pw (key : Nat → Int) (l : List Nat) : (srtK key l).Pairwise (fun x y => leK key x y = true) := List.pairwise_mergeSort (fun a b c h1 h2 => by rw [leK_iff] at *; omega) (fun a b => by rw [Bool.or_eq_true, leK_iff, leK_iff]; omega) l
theorem srtK_perm (key : Nat → Int) (l : List Nat) : (srtK key l).Perm l := List.mergeSort_perm _ _
theorem srtK_len (key : Nat → Int) (l : List Nat) : (srtK key l).length = l.length := (srtK_perm key l).length_eq
/-- what rises is what is sorted -/
theorem srtK_eq {key : Nat → Int} {l m : List Nat} (hp : m.Perm l) (h : Asc key m) : srtK key l = m := by
  refine List.Perm.eq_of_pairwise (le := fun x y => leK key x y = true) (fun a b _ _ h1 h2 => ?_) (srtK_pw key l) (h.imp fun h => ?_) ((srtK_perm key l).trans hp.symm)
  · rw [leK_iff] at *; omega
  · rw [leK_iff]; unfold ltK at h; omega
theorem srtK_asc {key : Nat → Int} {l : List Nat} (hn : l.Nodup) : Asc key (srtK key l) := by
  have h1 := srtK_pw key l
  have h2 : (srtK key l).Nodup := (srtK_perm key l).nodup_iff.2 hn
  exact (List.pairwise_and_iff.2 ⟨h1, h2⟩).imp fun {x y} ⟨a, b⟩ => by
    have hne : x ≠ y := b
    rw [leK_iff] at a; unfold ltK; omega
theorem Asc.nodup {key : Nat → Int} {l : List Nat} (h : Asc key l) : l.Nodup := h.imp fun {x y} h => by
  intro e
  subst e
  unfold ltK at h; omega
/-- a piece sorted -/
def segS (key : Nat → Int) (L : List Nat) (a b : Nat) : List Nat := L.take a ++ (srtK key ((L.take b).drop a) ++ L.drop b)
theorem cut3 {X A Y : List Nat} {a b : Nat} (ha : X.length = a) (hb : a + A.length = b) : (X ++ (A ++ Y)).take a = X ∧ ((X ++ (A ++ Y)).take b).drop a = A ∧ (X ++ (A ++ Y)).drop b = Y := by
  subst ha hb
  refine ⟨by simp, ?_, ?_⟩
  · rw [List.take_append, List.drop_append]; simp
  · rw [← List.drop_drop]; simp
theorem segS_eq (key : Nat → Int) {X A Y : List Nat} {a b : Nat} (ha : X.length = a) (hb : a + A.length = b) : segS key (X ++ (A ++ Y)) a b = X ++ (srtK key A ++ Y) := by
  obtain ⟨h1, h2, h3⟩ := cut3 (Y := Y) ha hb
  unfold segS
  rw [h1, h2, h3]
/-- a list in three -/
theorem in3 (L : List Nat) {a b : Nat} (hab : a ≤ b) (hb : b ≤ L.length) : ∃ X A Y, L = X ++ (A ++ Y) ∧ X.length = a ∧ a + A.length = b ∧ b + Y.length = L.length := by
  refine ⟨L.take a, (L.take b).drop a, L.drop b, ?_, by rw [List.length_take]; omega, by rw [List.length_drop, List.length_take]; omega, by rw [List.length_drop]; omega⟩
  have h : L.take b = L.take a ++ (L.take b).drop a := by
    have := List.take_append_drop a (L.take b)
    rw [List.take_take, Nat.min_eq_left hab] at this
    exact this.symm
  rw [← List.append_assoc, ← h, List.take_append_drop]
theorem segS_len (key : Nat → Int) (L : List Nat) {a b : Nat} (hab : a ≤ b) (hb : b ≤ L.length) : (segS key L a b).length = L.length := by
  obtain ⟨X, A, Y, rfl, h1, h2, h3⟩ := in3 L hab hb
  rw [segS_eq key h1 h2]
  simp only [List.length_append, srtK_len]
/-- two places changed -/
def swp (L : List Nat) (i j : Nat) : List Nat := (L.set i (L.getD j 0)).set j (L.getD i 0)
theorem getD_mid (P Q : List Nat) (x : Nat) : (P ++ x :: Q).getD P.length 0 = x := by
  rw [List.getD_eq_getElem?_getD, List.getElem?_append_right (Nat.le_refl _), Nat.sub_self]; rfl
theorem set_mid (P Q : List Nat) (x y : Nat) : (P ++ x :: Q).set P.length y = P ++ y :: Q := by
  rw [List.set_append_right _ _ (Nat.le_refl _), Nat.sub_self]; rfl
theorem swp_mid (P Q : List Nat) (x y : Nat) : swp (P ++ x :: y :: Q) (P.length + 1) P.length = P ++ y :: x :: Q := by
  have e : P ++ x :: y :: Q = (P ++ [x]) ++ y :: Q := by simp
  have l1 : (P ++ [x]).length = P.length + 1 := by simp
  unfold swp
  have g1 : (P ++ x :: y :: Q).getD P.length 0 = x := getD_mid P (y :: Q) x
  have g2 : (P ++ x :: y :: Q).getD (P.length + 1) 0 = y := by rw [e, ← l1]; exact getD_mid _ _ _
  rw [g1, g2, e, ← l1, set_mid]
  have e2 : (P ++ [x]) ++ x :: Q = P ++ x :: (x :: Q) := by simp
  rw [e2, set_mid]
theorem swp_mid' (P Q : List Nat) (x y : Nat) : swp (P ++ x :: y :: Q) P.length (P.length + 1) = P ++ y :: x :: Q := by
  have e : P ++ x :: y :: Q = (P ++ [x]) ++ y :: Q := by simp
  have l1 : (P ++ [x]).length = P.length + 1 := by simp
  unfold swp
  have g1 : (P ++ x :: y :: Q).getD P.length 0 = x := getD_mid P (y :: Q) x
  have g2 : (P ++ x :: y :: Q).getD (P.length + 1) 0 = y := by rw [e, ← l1]; exact getD_mid _ _ _
  rw [g1, g2, set_mid]
  have e2 : P ++ y :: y :: Q = (P ++ [y]) ++ y :: Q := by simp
  have l2 : (P ++ [y]).length = P.length + 1 := by simp
  rw [e2, ← l2, set_mid]; simp
end Go.Proofs.Ytglfkchcmjmmlaa

namespace Go.Proofs.Ytglfkchcmjmmlaa
open Go.RowKit Go.Proofs.Ytglfkchcmjmmlaa.AM
set_option maxRecDepth 100000
set_option maxHeartbeats 4000000
theorem swp_far (P M Q : List Nat) (x y : Nat) : swp (P ++ x :: (M ++ y :: Q)) P.length (P.length + 1 + M.length) = P ++ y :: (M ++ x :: Q) := by
  have e : P ++ x :: (M ++ y :: Q) = (P ++ x :: M) ++ y :: Q := by simp
  have l1 : (P ++ x :: M).length = P.length + 1 + M.length := by simp; omega
  unfold swp
  have g1 : (P ++ x :: (M ++ y :: Q)).getD P.length 0 = x := getD_mid _ _ _
  have g2 : (P ++ x :: (M ++ y :: Q)).getD (P.length + 1 + M.length) 0 = y := by rw [e, ← l1]; exact getD_mid _ _ _
  rw [g1, g2, set_mid]
  have e2 : P ++ y :: (M ++ y :: Q) = (P ++ y :: M) ++ y :: Q := by simp
  have l2 : (P ++ y :: M).length = P.length + 1 + M.length := by simp; omega
  rw [e2, ← l2, set_mid]; simp
theorem swp_len (L : List Nat) (i j : Nat) : (swp L i j).length = L.length := by unfold swp; simp
theorem swp_mem {L : List Nat} {i j x : Nat} (hi : i < L.length) (hj : j < L.length) (h : x ∈ swp L i j) : x ∈ L := by
  unfold swp at h
  rcases List.mem_or_eq_of_mem_set h with h | rfl
  · rcases List.mem_or_eq_of_mem_set h with h | rfl
    · exact h
    · rw [List.getD_eq_getElem?_getD, List.getElem?_eq_getElem hj]; exact List.getElem_mem hj
  · rw [List.getD_eq_getElem?_getD, List.getElem?_eq_getElem hi]; exact List.getElem_mem hi
/-- so many places changed with so many others -/
def swR : List Nat → Nat → Nat → Nat → List Nat
  | L, _, _, 0 => L
  | L, a, b, n + 1 => swR (swp L a b) (a + 1) (b + 1) n
theorem swR_eq : ∀ (U V P M Q : List Nat), U.length = V.length → swR (P ++ (U ++ (M ++ (V ++ Q)))) P.length (P.length + U.length + M.length) U.length = P ++ (V ++ (M ++ (U ++ Q))) := by
  intro U
  induction U with
  | nil => intro V P M Q h; obtain rfl := List.eq_nil_of_length_eq_zero h.symm; rfl
  | cons u U ih =>
    intro V P M Q h
    cases V with
    | nil => simp at h
    | cons v V =>
      have hl : U.length = V.length := by simpa using h
      simp only [List.length_cons, swR]
      have e : P ++ (u :: U ++ (M ++ (v :: V ++ Q))) = P ++ u :: ((U ++ M) ++ v :: (V ++ Q)) := by simp
      rw [e, show P.length + (U.length + 1) + M.length = P.length + 1 + (U ++ M).length by simp; omega, swp_far]
      have e2 : P ++ v :: ((U ++ M) ++ u :: (V ++ Q)) = (P ++ [v]) ++ (U ++ ((M ++ [u]) ++ (V ++ Q))) := by simp
      have := ih V (P ++ [v]) (M ++ [u]) Q hl
      rw [e2, show P.length + 1 = (P ++ [v]).length by simp, show (P ++ [v]).length + (U ++ M).length + 1 = (P ++ [v]).length + U.length + (M ++ [u]).length by simp; omega, this]
      simp
theorem swR_len : ∀ (n : Nat) (L : List Nat) (a b : Nat), (swR L a b n).length = L.length := by
  intro n
  induction n with
  | zero => intro L a b; rfl
  | succ n ih => intro L a b; rw [swR, ih, swp_len]
/-- two neighbouring pieces changed -/
def rotR (L : List Nat) (a m b : Nat) : List Nat := L.take a ++ ((L.take b).drop m ++ ((L.take m).drop a ++ L.drop b))
theorem rotR_eq {X A B Y : List Nat} {a m b : Nat} (ha : X.length = a) (hm : a + A.length = m) (hb : m + B.length = b) : rotR (X ++ (A ++ (B ++ Y))) a m b = X ++ (B ++ (A ++ Y)) := by
  obtain ⟨h1, h2, _⟩ := cut3 (X := X) (A := A) (Y := B ++ Y) ha hm
  have e : X ++ (A ++ (B ++ Y)) = (X ++ A) ++ (B ++ Y) := by simp
  obtain ⟨_, h3, h4⟩ := cut3 (X := X ++ A) (A := B) (Y := Y) (a := m) (b := b) (by simp; omega) hb
  unfold rotR
  rw [h1, h2]
  rw [e, h3, h4]
/-- a search by halves -/
structure Half (p : Nat → Bool) (lo hi i j : Nat) : Prop where
  l1 : lo ≤ i
  l2 : i ≤ j
  l3 : j ≤ hi
  low : ∀ h, lo ≤ h → h < i → p h = true
  high : ∀ h, j ≤ h → h < hi → p h = false
structure MonoP (p : Nat → Bool) (lo hi : Nat) : Prop where
  m : ∀ h k, lo ≤ h → h ≤ k → k < hi → p k = true → p h = true
theorem Half.start (p : Nat → Bool) {lo hi : Nat} (h : lo ≤ hi) : Half p lo hi lo hi := ⟨Nat.le_refl _, h, Nat.le_refl _, fun h a b => by omega, fun h a b => by omega⟩
theorem Half.up {p : Nat → Bool} {lo hi i j : Nat} (hm : MonoP p lo hi) (h : Half p lo hi i j) (hij : i < j) (hp : p ((i + j) / 2) = true) : Half p lo hi ((i + j) / 2 + 1) j := by
  have h1 := h.l1
  have h2 := h.l2
  have h3 := h.l3
  exact ⟨by omega, by omega, h3, fun k a b => hm.m k _ a (show k ≤ (i + j) / 2 by omega) (by omega) hp, h.high⟩
theorem Half.down {p : Nat → Bool} {lo hi i j : Nat} (hm : MonoP p lo hi) (h : Half p lo hi i j) (hij : i < j) (hp : p ((i + j) / 2) = false) : Half p lo hi i ((i + j) / 2) := by
  have h1 := h.l1
  have h2 := h.l2
  have h3 := h.l3
  refine ⟨h1, by omega, by omega, h.low, fun k a b => ?_⟩
  cases hk : p k with
  | false => rfl
  | true => rw [hm.m _ k (by omega) a b hk] at hp; cases hp
theorem asc_app {key : Nat → Int} {A B : List Nat} : Asc key (A ++ B) ↔ Asc key A ∧ Asc key B ∧ ∀ x ∈ A, ∀ y ∈ B, ltK key x y := List.pairwise_append
theorem asc_cons {key : Nat → Int} {x : Nat} {B : List Nat} : Asc key (x :: B) ↔ (∀ y ∈ B, ltK key x y) ∧ Asc key B := List.pairwise_cons
theorem asc_ins {key : Nat → Int} {A B : List Nat} {x : Nat} (h : Asc key (A ++ B)) (h1 : ∀ y ∈ A, ltK key y x) (h2 : ∀ y ∈ B, ltK key x y) : Asc key (A ++ x :: B) := by
  obtain ⟨a, b, c⟩ := asc_app.1 h
  refine asc_app.2 ⟨a, asc_cons.2 ⟨h2, b⟩, fun y hy z hz => ?_⟩
  rcases List.mem_cons.1 hz with rfl | hz
  · exact h1 y hy
  · exact c y hy z hz
end Go.Proofs.Ytglfkchcmjmmlaa

namespace Go.Proofs.Ytglfkchcmjmmlaa
open Go.RowKit Go.Proofs.Ytglfkchcmjmmlaa.AM
set_option maxRecDepth 100000
set_option maxHeartbeats 4000000
noncomputable def body341 : Code := (Try.f41.body).getD .skip
def F341 : List Nat → Option (List Nat) := fun p => match p with
  | [1] => some [0, 1, 2]
  | [1, 1] => some [6, 7]
  | [1, 0, 1, 1] => some [6, 7, 20]
  | [1, 0, 0, 1, 0, 1, 1] => some [22]
  | [1, 0, 1, 0, 0, 1, 0, 1, 1] => some [5]
  | [1, 0, 1, 0, 1, 1] => some []
  | [1, 1, 0, 1, 0, 1, 1] => some [5]
  | [1, 1, 1] => some [6, 7]
  | [1, 1, 1, 1] => some [5]
  | _ => none
noncomputable def body343 : Code := (Try.f43.body).getD .skip
def F343 : List Nat → Option (List Nat) := fun p => match p with
  | [1] => some [0, 1]
  | [1, 1] => some [0, 1, 5]
  | [1, 1, 1] => some [0, 1, 5, 6]
  | [1, 0, 1, 1, 1] => some [0, 1, 6, 11]
  | [1, 0, 0, 1, 0, 1, 1, 1] => some [12]
  | [1, 0, 1, 0, 0, 1, 0, 1, 1, 1] => some [4]
  | [1, 0, 1, 0, 1, 1, 1] => some []
  | [1, 1, 0, 1, 0, 1, 1, 1] => some [4]
  | [1, 1, 1, 1] => some [0, 1, 6]
  | [1, 0, 1, 1, 1, 1] => some [0, 1, 13]
  | [1, 0, 1, 0, 1, 1, 1, 1] => some [4]
  | [1, 1, 1, 1, 1] => some [0, 1]
  | [1, 0, 1, 1, 1, 1, 1] => some [0, 1, 16]
  | [1, 0, 1, 0, 1, 1, 1, 1, 1] => some [4]
  | [1, 1, 1, 1, 1, 1] => some [0, 1]
  | [1, 0, 1, 1, 1, 1, 1, 1] => some [19]
  | [1, 0, 1, 0, 1, 1, 1, 1, 1, 1] => some [4]
  | [1, 1, 1, 1, 1, 1, 1] => some []
  | [1, 1, 1, 1, 1, 1, 1, 1] => some [4]
  | _ => none
noncomputable def body365 : Code := (Try.f54.body).getD .skip
def F365 : List Nat → Option (List Nat) := fun p => match p with
  | [1] => some [0]
  | [1, 1] => some [2]
  | _ => none
noncomputable def body364 : Code := (Try.f59.body).getD .skip
def F364 : List Nat → Option (List Nat) := fun p => match p with
  | [1] => some [0, 1, 2, 3, 4, 10]
  | [1, 0, 0, 0, 1] => some [0, 1, 2, 3, 4, 10, 13]
  | [1, 1, 0, 0, 0, 1] => some [4]
  | [1, 0, 0, 1] => some [0, 1, 2, 3, 4, 10]
  | [1, 1, 0, 0, 1] => some [0, 1, 2, 3, 4, 10]
  | _ => none
noncomputable def S341 : Book := addI Try.prog [(43, Try.f43, body343), (54, Try.f54, body365)] (bookOf [(25, keyC), (42, noC)])
theorem sure341 (hm : Try.prog.follows .mixedOrders = true) : Sure Try.prog S341 := Sure.addI (S := bookOf [(25, keyC), (42, noC)]) ⟨hm, plain, bookOf_ok (l := [(25, keyC), (42, noC)]) ⟨key_says hm, no_says hm, trivial⟩⟩ (l := [(43, Try.f43, body343), (54, Try.f54, body365)]) ⟨⟨Try.func43, rfl⟩, ⟨Try.func54, rfl⟩, trivial⟩

theorem w341 (x y : Int) (sp : Option Nat) (n k : Nat) (fs : List Value) (own own2 : Bool) (K : Value → Heap → Prop) :
  funX Try.prog S341 noLoop F341 body341 Try.f41 [0] [] [.int .i64 x, .int .i64 y, .pointer (some ⟨0,0,none⟩)] (hp [.cells [.slice (some ⟨1,0,sp⟩) n k] 1 own, .cells fs 1 own2]) K = (
Need (leI 0 x)
  (Need (ltI x (↑n : Int))
    (Need (isFlt FloatKind.f64 ((getO fs (0 + x.toNat * 1)).getD undef))
      (Need (leI 0 y)
        (Need (ltI y (↑n : Int))
          (Need (isFlt FloatKind.f64 ((getO fs (0 + y.toNat * 1)).getD undef))
            (True ∧
              Need (leN (fltV ((getO fs (0 + x.toNat * 1)).getD undef)) 18446744073709551615) True ∧
                True ∧
                  Need (leN (fltV ((getO fs (0 + y.toNat * 1)).getD undef)) 18446744073709551615) True ∧
                    Alt
                      (!fNan (fltA [Value.float FloatKind.f64 (fltV ((getO fs (0 + x.toNat * 1)).getD undef))] 0) ==
                          fNan (fltA [Value.float FloatKind.f64 (fltV ((getO fs (0 + y.toNat * 1)).getD undef))] 0))
                      (True ∧
                        Need (leN (fltV ((getO fs (0 + x.toNat * 1)).getD undef)) 18446744073709551615) True ∧
                          Alt
                            (fNan (fltA [Value.float FloatKind.f64 (fltV ((getO fs (0 + x.toNat * 1)).getD undef))] 0))
                            (K (Value.int IntKind.i64 1)
                              (hp
                                [Blk.cells [Value.slice (some { block := 1, off := 0, spot := sp : Addr }) n k] 1 own,
                                  Blk.cells fs 1 own2]))
                            (K (Value.int IntKind.i64 (-1))
                              (hp
                                [Blk.cells [Value.slice (some { block := 1, off := 0, spot := sp : Addr }) n k] 1 own,
                                  Blk.cells fs 1 own2])))
                      (True ∧
                        Need (leN (fltV ((getO fs (0 + y.toNat * 1)).getD undef)) 18446744073709551615) True ∧
                          True ∧
                            Need (leN (fltV ((getO fs (0 + x.toNat * 1)).getD undef)) 18446744073709551615) True ∧
                              Alt
                                (!eqI
                                    (fKey
                                      (fltA [Value.float FloatKind.f64 (fltV ((getO fs (0 + y.toNat * 1)).getD undef))]
                                        0))
                                    (fKey
                                      (fltA [Value.float FloatKind.f64 (fltV ((getO fs (0 + y.toNat * 1)).getD undef))]
                                        0)))
                                (Alt
                                  (!eqI
                                      (fKey
                                        (fltA
                                          [Value.float FloatKind.f64 (fltV ((getO fs (0 + x.toNat * 1)).getD undef))]
                                          0))
                                      (fKey
                                        (fltA
                                          [Value.float FloatKind.f64 (fltV ((getO fs (0 + x.toNat * 1)).getD undef))]
                                          0)))
                                  (K (Value.int IntKind.i64 0)
                                    (hp
                                      [Blk.cells [Value.slice (some { block := 1, off := 0, spot := sp : Addr }) n k] 1
                                          own,
                                        Blk.cells fs 1 own2]))
                                  (K (Value.int IntKind.i64 (-1))
                                    (hp
                                      [Blk.cells [Value.slice (some { block := 1, off := 0, spot := sp : Addr }) n k] 1
                                          own,
                                        Blk.cells fs 1 own2])))
                                (Alt
                                  (!eqI
                                      (fKey
                                        (fltA
                                          [Value.float FloatKind.f64 (fltV ((getO fs (0 + x.toNat * 1)).getD undef))]
                                          0))
                                      (fKey
                                        (fltA
                                          [Value.float FloatKind.f64 (fltV ((getO fs (0 + x.toNat * 1)).getD undef))]
                                          0)))
                                  (K (Value.int IntKind.i64 1)
                                    (hp
                                      [Blk.cells [Value.slice (some { block := 1, off := 0, spot := sp : Addr }) n k] 1
                                          own,
                                        Blk.cells fs 1 own2]))
                                  (Alt
                                    (ltI
                                      (fKey
                                        (fltA
                                          [Value.float FloatKind.f64 (fltV ((getO fs (0 + y.toNat * 1)).getD undef))]
                                          0))
                                      (fKey
                                        (fltA
                                          [Value.float FloatKind.f64 (fltV ((getO fs (0 + x.toNat * 1)).getD undef))]
                                          0)))
                                    (K (Value.int IntKind.i64 (-1))
                                      (hp
                                        [Blk.cells [Value.slice (some { block := 1, off := 0, spot := sp : Addr }) n k]
                                            1 own,
                                          Blk.cells fs 1 own2]))
                                    (Alt
                                      (ltI
                                        (fKey
                                          (fltA
                                            [Value.float FloatKind.f64 (fltV ((getO fs (0 + x.toNat * 1)).getD undef))]
                                            0))
                                        (fKey
                                          (fltA
                                            [Value.float FloatKind.f64 (fltV ((getO fs (0 + y.toNat * 1)).getD undef))]
                                            0)))
                                      (K (Value.int IntKind.i64 1)
                                        (hp
                                          [Blk.cells
                                              [Value.slice (some { block := 1, off := 0, spot := sp : Addr }) n k] 1
                                              own,
                                            Blk.cells fs 1 own2]))
                                      (K (Value.int IntKind.i64 0)
                                        (hp
                                          [Blk.cells
                                              [Value.slice (some { block := 1, off := 0, spot := sp : Addr }) n k] 1
                                              own,
                                            Blk.cells fs 1 own2]))))))))))))) := by kernel_rfl

noncomputable def fnR : Value := .func (.func 41) #[] #[.pointer (some ⟨1,0,none⟩)]
/-- the heap of a sort: places, the captured slice, the values -/
noncomputable def hS (cs : List Value) (sp : Option Nat) (n k : Nat) (fs : List Value) (own1 own2 : Bool) : List Blk := [.cells cs 1 true, .cells [.slice (some ⟨2,0,sp⟩) n k] 1 own1, .cells fs 1 own2]
noncomputable def T364 (sq : Option Nat) (m q : Nat) (a b n i : Nat) : List Value := tmps 38 [(0, .slice (some ⟨0,0,sq⟩) m q), (1, .int .i64 a), (2, .int .i64 b), (3, .int .i64 n), (4, fnR), (10, .int .i64 i)]

theorem r364 (sq : Option Nat) (m q a b n i : Nat) (cs : List Value) (sp : Option Nat) (n2 k2 : Nat) (fs : List Value) (own1 own2 : Bool) (K : Post) :
  roundX Try.prog S0 noLoop F364 body364 3 [1] [] [1] [] [0,1,2,3,4,10] [0,0,1] (T364 sq m q a b n i) (hp (hS cs sp n2 k2 fs own1 own2)) K = (
Alt (ltI (↑i : Int) (↑n : Int))
  (Need (leI 0 (wr IntKind.i64 ((↑b : Int) + (↑i : Int))))
    (Need (ltI (wr IntKind.i64 ((↑b : Int) + (↑i : Int))) (↑m : Int))
      (Need (isInt IntKind.i64 ((getO cs (0 + (wr IntKind.i64 ((↑b : Int) + (↑i : Int))).toNat * 1)).getD undef))
        (Need (leI 0 (wr IntKind.i64 ((↑a : Int) + (↑i : Int))))
          (Need (ltI (wr IntKind.i64 ((↑a : Int) + (↑i : Int))) (↑m : Int))
            (Need (isInt IntKind.i64 ((getO cs (0 + (wr IntKind.i64 ((↑a : Int) + (↑i : Int))).toNat * 1)).getD undef))
              (Need (leI 0 (wr IntKind.i64 ((↑a : Int) + (↑i : Int))))
                (Need (ltI (wr IntKind.i64 ((↑a : Int) + (↑i : Int))) (↑m : Int))
                  (Need (leN (0 + (wr IntKind.i64 ((↑a : Int) + (↑i : Int))).toNat * 1 + 1) cs.length)
                    (Need (leI 0 (wr IntKind.i64 ((↑b : Int) + (↑i : Int))))
                      (Need (ltI (wr IntKind.i64 ((↑b : Int) + (↑i : Int))) (↑m : Int))
                        (Need
                          (leN (0 + (wr IntKind.i64 ((↑b : Int) + (↑i : Int))).toNat * 1 + 1)
                            (setAll cs (0 + (wr IntKind.i64 ((↑a : Int) + (↑i : Int))).toNat * 1)
                                [Value.int IntKind.i64
                                    (intV
                                      ((getO cs (0 + (wr IntKind.i64 ((↑b : Int) + (↑i : Int))).toNat * 1)).getD
                                        undef))]).length)
                          (Need
                            (beqV 64 (Value.int IntKind.i64 (wr IntKind.i64 ((↑b : Int) + (↑i : Int))))
                              (Value.int IntKind.i64 (wr IntKind.i64 ((↑b : Int) + (↑i : Int)))))
                            (Need (beqV 64 (Value.int IntKind.i64 (↑i : Int)) (Value.int IntKind.i64 (↑i : Int)))
                              (Need (beqV 64 (Value.int IntKind.i64 (↑b : Int)) (Value.int IntKind.i64 (↑b : Int)))
                                (Need
                                  (beqV 64 (Value.slice (some { block := 0, off := 0, spot := sq : Addr }) m q)
                                    (Value.slice (some { block := 0, off := 0, spot := sq : Addr }) m q))
                                  (K AE.normal
                                    (tmps 38
                                      [(0, Value.slice (some { block := 0, off := 0, spot := sq : Addr }) m q),
                                        (1, Value.int IntKind.i64 (↑a : Int)), (2, Value.int IntKind.i64 (↑b : Int)),
                                        (3, Value.int IntKind.i64 (↑n : Int)),
                                        (4,
                                          Value.func (Fn.func 41) #[]
                                            #[Value.pointer (some { block := 1, off := 0 : Addr })]),
                                        (10, Value.int IntKind.i64 (wr IntKind.i64 ((↑i : Int) + 1)))])
                                    (hp
                                      [Blk.cells
                                          (setAll
                                            (setAll cs (0 + (wr IntKind.i64 ((↑a : Int) + (↑i : Int))).toNat * 1)
                                              [Value.int IntKind.i64
                                                  (intV
                                                    ((getO cs
                                                          (0 +
                                                            (wr IntKind.i64 ((↑b : Int) + (↑i : Int))).toNat * 1)).getD
                                                      undef))])
                                            (0 + (wr IntKind.i64 ((↑b : Int) + (↑i : Int))).toNat * 1)
                                            [Value.int IntKind.i64
                                                (intV
                                                  ((getO cs
                                                        (0 + (wr IntKind.i64 ((↑a : Int) + (↑i : Int))).toNat * 1)).getD
                                                    undef))])
                                          1 true,
                                        Blk.cells [Value.slice (some { block := 2, off := 0, spot := sp : Addr }) n2 k2]
                                          1 own1,
                                        Blk.cells fs 1 own2]))))))))))))))))))
  (K (AE.exit 0) (tmps 38 [(4, Value.func (Fn.func 41) #[] #[Value.pointer (some { block := 1, off := 0 : Addr })])])
    (hp
      [Blk.cells cs 1 true, Blk.cells [Value.slice (some { block := 2, off := 0, spot := sp : Addr }) n2 k2] 1 own1,
        Blk.cells fs 1 own2]))) := by kernel_rfl

noncomputable def cut364 (sq : Option Nat) (m q a b n : Nat) (cs ds : List Value) (sp : Option Nat) (n2 k2 : Nat) (fs : List Value) (own1 own2 : Bool) : CutE where
  β := Nat
  p := [0,1]
  t := fun _ => T364 sq m q a b n 0
  h := fun _ => hp (hS cs sp n2 k2 fs own1 own2)
  Q := fun _ K => K (.exit 0) (tmps 38 [(4, fnR)]) (hp (hS ds sp n2 k2 fs own1 own2))

theorem w364 (sq : Option Nat) (m q a b n : Nat) (cs ds : List Value) (sp : Option Nat) (n2 k2 : Nat) (fs : List Value) (own1 own2 : Bool) (K : Value → Heap → Prop) :
  funX Try.prog S0 (gcLKX (at0 [1]) (at0 []) 3 (cutE [cut364 sq m q a b n cs ds sp n2 k2 fs own1 own2])) F364 body364 Try.f59 [1] [] [.slice (some ⟨0,0,sq⟩) m q, .int .i64 a, .int .i64 b, .int .i64 n, fnR] (hp (hS cs sp n2 k2 fs own1 own2)) K = (
FlatD [1]
    (hp
      [Blk.cells cs 1 true, Blk.cells [Value.slice (some { block := 2, off := 0, spot := sp : Addr }) n2 k2] 1 own1,
        Blk.cells fs 1 own2]) ∧
  ∃ (b_1 : Nat),
    tmps 38
          [(0, Value.slice (some { block := 0, off := 0, spot := sq : Addr }) m q),
            (1, Value.int IntKind.i64 (↑a : Int)), (2, Value.int IntKind.i64 (↑b : Int)),
            (3, Value.int IntKind.i64 (↑n : Int)),
            (4, Value.func (Fn.func 41) #[] #[Value.pointer (some { block := 1, off := 0 : Addr })]),
            (10, Value.int IntKind.i64 0)] =
        tmps 38
          [(0, Value.slice (some { block := 0, off := 0, spot := sq : Addr }) m q),
            (1, Value.int IntKind.i64 (↑a : Int)), (2, Value.int IntKind.i64 (↑b : Int)),
            (3, Value.int IntKind.i64 (↑n : Int)),
            (4, Value.func (Fn.func 41) #[] #[Value.pointer (some { block := 1, off := 0 : Addr })]),
            (10, Value.int IntKind.i64 0)] ∧
      hp
            [Blk.cells cs 1 true,
              Blk.cells [Value.slice (some { block := 2, off := 0, spot := sp : Addr }) n2 k2] 1 own1,
              Blk.cells fs 1 own2] =
          hp
            [Blk.cells cs 1 true,
              Blk.cells [Value.slice (some { block := 2, off := 0, spot := sp : Addr }) n2 k2] 1 own1,
              Blk.cells fs 1 own2] ∧
        K undef
          (hp
            [Blk.cells ds 1 true,
              Blk.cells [Value.slice (some { block := 2, off := 0, spot := sp : Addr }) n2 k2] 1 own1,
              Blk.cells fs 1 own2])) := by kernel_rfl

end Go.Proofs.Ytglfkchcmjmmlaa

namespace Go.Proofs.Ytglfkchcmjmmlaa
open Go.RowKit Go.Proofs.Ytglfkchcmjmmlaa.AM
set_option maxRecDepth 100000
set_option maxHeartbeats 4000000
theorem need_t (A : Prop) : Need true A = A := propext ⟨fun h => (Need_iff.1 h).2, fun h => Need_iff.2 ⟨rfl, h⟩⟩
theorem alt_t (A B : Prop) : Alt true A B = A := propext ⟨fun h => (Alt_iff.1 h).1 rfl, fun h => Alt_iff.2 ⟨fun _ => h, fun e => by cases e⟩⟩
theorem alt_f (A B : Prop) : Alt false A B = B := propext ⟨fun h => (Alt_iff.1 h).2 rfl, fun h => Alt_iff.2 ⟨fun e => (by cases e), fun _ => h⟩⟩
def pC (L : List Nat) : List Value := L.map fun x : Nat => .int .i64 (x : Int)
noncomputable def plAt (cs : List Value) : List Nat := cs.map fun v => (intV v).toNat
theorem plAt_pC (L : List Nat) : plAt (pC L) = L := by
  unfold plAt pC
  rw [List.map_map]
  have : ((fun v => (intV v).toNat) ∘ fun x : Nat => Value.int .i64 (x : Int)) = id := rfl
  rw [this, List.map_id]
theorem pC_len (L : List Nat) : (pC L).length = L.length := by unfold pC; rw [List.length_map]
theorem pC_flat (L : List Nat) : FlatL (pC L) := ⟨fun v hv => by
  obtain ⟨x, _, rfl⟩ := List.mem_map.1 hv
  rfl⟩
theorem pC_get {L : List Nat} {i : Nat} (hi : i < L.length) : getO (pC L) i = some (.int .i64 ((L.getD i 0 : Nat) : Int)) := by
  rw [getO_eq]
  unfold pC
  rw [List.getElem?_map, List.getElem?_eq_getElem hi, List.getD_eq_getElem?_getD, List.getElem?_eq_getElem hi]; rfl
theorem isFlt_k (a : Nat) : isFlt .f64 (.float .f64 a) = true := by rfl
theorem setAll1 (cs : List Value) (o : Nat) (v : Value) : setAll cs o [v] = cs.set o v := by
  simp only [setAll, setL_eq]
theorem pC_set (L : List Nat) (i x : Nat) : (pC L).set i (.int .i64 (x : Int)) = pC (L.set i x) := by unfold pC; rw [List.map_set]
theorem p_swp {L : List Nat} {i j : Nat} (hi : i < L.length) (hj : j < L.length) : setAll (setAll (pC L) i [.int .i64 ((L.getD j 0 : Nat) : Int)]) j [.int .i64 ((L.getD i 0 : Nat) : Int)] = pC (swp L i j) := by
  rw [setAll1, setAll1, pC_set, pC_set]; rfl
inductive IsPl (cs : List Value) (m : Nat) : Prop
  | mk (L : List Nat) (h : cs = pC L) (hn : L.length = m) (short : m ≤ 1000000)
/-- values -/
inductive IsFv (fs : List Value) (n : Nat) : Prop
  | mk (l : List Nat) (h : fs = l.map (Value.float .f64)) (hn : n ≤ l.length) (ok : ∀ x ∈ l, x ≤ 18446744073709551615)
theorem fv_flat (l : List Nat) : FlatL (l.map (Value.float .f64)) := ⟨fun v hv => by
  obtain ⟨x, _, rfl⟩ := List.mem_map.1 hv
  rfl⟩
theorem IsFv.flat {fs : List Value} {n : Nat} (h : IsFv fs n) : FlatL fs := by
  obtain ⟨l, rfl, _, _⟩ := h
  exact fv_flat l
/-- by which the rank goes -/
def rkF (a : Nat) : Int := if fNan a then 18446744073709551616 else -fKey a
noncomputable def rkAt (fs : List Value) (x : Nat) : Int := rkF (fltV ((getO fs x).getD undef))
def cmpI (a b : Int) : Int := if a < b then -1 else if a = b then 0 else 1
theorem cmpI_lt (a b : Int) : ltI (cmpI a b) 0 = decide (a < b) := by
  rw [ltI_eq]
  unfold cmpI
  by_cases h : a < b
  · rw [if_pos h]; simp [h]
  · rw [if_neg h]; split <;> simp [h]
structure PlIn (x y : Int) (n : Nat) : Prop where
  x0 : 0 ≤ x
  x1 : x < n
  y0 : 0 ≤ y
  y1 : y < n
noncomputable def cmpW : CtrW where
  D := [0]
  W := []
  E := [0]
  pre := fun args blks => match args, blks with
    | [.int .i64 x, .int .i64 y, .pointer (some ⟨0,0,none⟩)], [.cells [.slice (some ⟨1,0,_⟩) n k] 1 _, .cells fs 1 _] => IsFv fs n ∧ PlIn x y n
    | _, _ => False
  val := fun args blks => match args, blks with
    | [.int .i64 x, .int .i64 y, .pointer (some ⟨0,0,none⟩)], [.cells [.slice (some ⟨1,0,_⟩) n k] 1 _, .cells fs 1 _] => .int .i64 (cmpI (rkAt fs x.toNat) (rkAt fs y.toNat))
    | _, _ => undef
  out := fun args blks => blks
theorem fKey_in (a : Nat) (ha : a ≤ 18446744073709551615) : 0 ≤ fKey a ∧ fKey a < 18446744073709551616 := by
  obtain ⟨b, hb, hb1⟩ := fBits_nat a ha
  unfold fKey
  rw [hb]
  split <;> omega
theorem fKey_nan {a b : Nat} (ha : fNan a = true) (hb : fNan b = true) : fKey a = fKey b := by
  unfold fKey fBits
  rw [ha, hb]; rfl
theorem cmp_says (hm : Try.prog.follows .mixedOrders = true) : cmpW.Holds Try.prog 41 := by
  intro args blks hf hpre
  simp only [cmpW] at hpre ⊢
  split at hpre
  · rename_i x y sp n k own fs own2
    obtain ⟨⟨l, rfl, hn, ok⟩, hI⟩ := hpre
    refine ⟨⟨rfl, rfl, trivial⟩, trivial, ?_⟩
    have hF : FlatD [0] (hp [.cells [.slice (some ⟨1,0,sp⟩) n k] 1 own, .cells (l.map (Value.float .f64)) 1 own2]) := FlatD.hp ⟨rfl, fv_flat l, trivial⟩
    refine (sure341 hm).funX F341 body341 [0] [] Try.func41 rfl noLoops ?_
    rw [w341]
    obtain ⟨x0, x1, y0, y1⟩ := hI
    obtain ⟨x, rfl⟩ := Int.eq_ofNat_of_zero_le x0
    obtain ⟨y, rfl⟩ := Int.eq_ofNat_of_zero_le y0
    have gx : ∀ z : Nat, z < n → ∃ a : Nat, getO (l.map (Value.float .f64)) z = some (.float .f64 a) ∧ a ≤ 18446744073709551615 := fun z hz => by
      refine ⟨l[z]'(by omega), ?_, ok _ (List.getElem_mem _)⟩
      rw [getO_eq, List.getElem?_map, List.getElem?_eq_getElem (by omega)]; rfl
    obtain ⟨a, ga, ha⟩ := gx x (by omega)
    obtain ⟨b, gb, hb⟩ := gx y (by omega)
    have hr : cmpI (rkAt (l.map (Value.float .f64)) (x : Int).toNat) (rkAt (l.map (Value.float .f64)) (y : Int).toNat) = cmpI (rkF a) (rkF b) := by unfold rkAt; rw [Int.toNat_natCast, Int.toNat_natCast, ga, gb]; rfl
    rw [hr]
    simp only [Int.toNat_natCast, Nat.zero_add, Nat.mul_one, ga, gb, Option.getD_some, isFlt_k, fltV_f, flt0, leN_iff.2 ha, leN_iff.2 hb, show leI 0 (x : Int) = true from leI_iff.2 (by omega), show leI 0 (y : Int) = true from leI_iff.2 (by omega), show ltI (x : Int) (n : Int) = true from ltI_iff.2 (by omega), show ltI (y : Int) (n : Int) = true from ltI_iff.2 (by omega)]
    have ned : ∀ (A : Prop), A → Need true A := fun A h => Need_iff.2 ⟨rfl, h⟩
    have fin : ∀ c : Int, c = cmpI (rkF a) (rkF b) → FlatD [0] (hp [.cells [.slice (some ⟨1,0,sp⟩) n k] 1 own, .cells (l.map (Value.float .f64)) 1 own2]) ∧ isJunk (Value.int .i64 c) = false ∧ Value.int .i64 c = Value.int .i64 (cmpI (rkF a) (rkF b)) ∧ True := fun c h => ⟨hF, rfl, by rw [h], trivial⟩
    have aT : ∀ (A B : Prop), A → Alt true A B := fun A B h => Alt_iff.2 ⟨fun _ => h, fun e => by cases e⟩
    have aF : ∀ (A B : Prop), B → Alt false A B := fun A B h => Alt_iff.2 ⟨fun e => by (cases e), fun _ => h⟩
    have ka := fKey_in a ha
    have kb := fKey_in b hb
    have es : ∀ z : Int, eqI z z = true := fun z => by rw [eqI_iff]
    refine ned _ (ned _ (ned _ (ned _ (ned _ (ned _ ⟨trivial, ned _ trivial, trivial, ned _ trivial, ?_⟩)))))
    cases na : fNan a with
    | true =>
      have ra : rkF a = 18446744073709551616 := by unfold rkF; rw [na]; rfl
      cases nb : fNan b with
      | true =>
        have rb : rkF b = 18446744073709551616 := by unfold rkF; rw [nb]; rfl
        rw [fKey_nan na nb, es, show ltI (fKey b) (fKey b) = false by rw [ltI_eq, decide_eq_false (by omega)]]
        refine aF _ _ ⟨trivial, ned _ trivial, trivial, ned _ trivial, aF _ _ (aF _ _ (aF _ _ (aF _ _ (fin 0 ?_))))⟩
        unfold cmpI; rw [ra, rb, if_neg (by omega), if_pos (by omega)]
      | false =>
        have rb : rkF b = -fKey b := by unfold rkF; rw [nb]; rfl
        refine aT _ _ ⟨trivial, ned _ trivial, aT _ _ (fin 1 ?_)⟩
        unfold cmpI; rw [ra, rb, if_neg (by omega), if_neg (by omega)]
    | false =>
      have ra : rkF a = -fKey a := by unfold rkF; rw [na]; rfl
      cases nb : fNan b with
      | true =>
        have rb : rkF b = 18446744073709551616 := by unfold rkF; rw [nb]; rfl
        refine aT _ _ ⟨trivial, ned _ trivial, aF _ _ (fin (-1) ?_)⟩
        unfold cmpI; rw [ra, rb, if_pos (by omega)]
      | false =>
        have rb : rkF b = -fKey b := by unfold rkF; rw [nb]; rfl
        rw [es, es]
        refine aF _ _ ⟨trivial, ned _ trivial, trivial, ned _ trivial, aF _ _ (aF _ _ ?_)⟩
        by_cases h1 : fKey b < fKey a
        · rw [show ltI (fKey b) (fKey a) = true from ltI_iff.2 h1]
          refine aT _ _ (fin (-1) ?_)
          unfold cmpI; rw [ra, rb, if_pos (by omega)]
        · rw [show ltI (fKey b) (fKey a) = false by rw [ltI_eq, decide_eq_false h1]]
          by_cases h2 : fKey a < fKey b
          · rw [show ltI (fKey a) (fKey b) = true from ltI_iff.2 h2]
            refine aF _ _ (aT _ _ (fin 1 ?_))
            unfold cmpI; rw [ra, rb, if_neg (by omega), if_neg (by omega)]
          · rw [show ltI (fKey a) (fKey b) = false by rw [ltI_eq, decide_eq_false h2]]
            refine aF _ _ (aF _ _ (fin 0 ?_))
            unfold cmpI; rw [ra, rb, if_neg (by omega), if_pos (by omega)]
  · exact hpre.elim
structure SwOk (a b n : Int) (m : Nat) : Prop where
  a0 : 0 ≤ a
  b0 : 0 ≤ b
  n0 : 0 ≤ n
  an : a + n ≤ m
  bn : b + n ≤ m
noncomputable def swapW : CtrW where
  D := [1]
  W := [0]
  E := [1]
  pre := fun args blks => match args, blks with
    | [.slice (some ⟨0,0,_⟩) m _, .int .i64 a, .int .i64 b, .int .i64 n, fn], [.cells cs 1 true, .cells [.slice (some ⟨2,0,_⟩) n2 _] 1 _, .cells fs 1 _] => fn = fnR ∧ IsPl cs m ∧ IsFv fs n2 ∧ SwOk a b n m
    | _, _ => False
  val := fun args blks => undef
  out := fun args blks => match args, blks with
    | [.slice (some ⟨0,0,_⟩) m _, .int .i64 a, .int .i64 b, .int .i64 n, fn], [.cells cs 1 true, b1, b2] => [.cells (pC (swR (plAt cs) a.toNat b.toNat n.toNat)) 1 true, b1, b2]
    | _, _ => []
theorem hS_flat {L : List Nat} {sp : Option Nat} {n k : Nat} {fs : List Value} {own1 own2 : Bool} (h : IsFv fs n) : FlatD [1] (hp (hS (pC L) sp n k fs own1 own2)) := FlatD.hp ⟨pC_flat L, rfl, h.flat, trivial⟩
theorem wrn (i : Nat) (hi : i ≤ 10000000) : wr .i64 (i : Int) = (i : Int) := by rw [wr_eq]; simp [IntKind.wrap, IntKind.bits, IntKind.signed]; omega
theorem swap_loop (hm : Try.prog.follows .mixedOrders = true) (sq : Option Nat) (m q a b n : Nat) (sp : Option Nat) (n2 k2 : Nat) (fs : List Value) (own1 own2 : Bool) (hv : IsFv fs n2) (hm1 : m ≤ 1000000) (ha : a + n ≤ m) (hb : b + n ≤ m) (G : List Nat) (K : Post) (hK : K (.exit 0) (tmps 38 [(4, fnR)]) (hp (hS (pC G) sp n2 k2 fs own1 own2))) : ∀ (t i : Nat) (L : List Nat), i + t = n → L.length = m → swR L (a + i) (b + i) t = G →
    LSays Try.prog 3 (sub body364 [0,0,1]) (T364 sq m q a b n i) (hp (hS (pC L) sp n2 k2 fs own1 own2)) K := by
  have ned : ∀ (A : Prop), A → Need true A := fun A h => Need_iff.2 ⟨rfl, h⟩
  intro t
  induction t with
  | zero =>
    intro i L hi hL hG
    refine (sure0 hm).roundX F364 noLoops [1] [] [1] [] [0,1,2,3,4,10] ?_
    rw [r364, show ltI (i : Int) (n : Int) = false by rw [ltI_eq, decide_eq_false (by omega)]]
    have : L = G := hG
    subst this
    exact ⟨hS_flat hv, hK⟩
  | succ t ih =>
    intro i L hi hL hG
    have g1 := pC_get (L := L) (i := a + i) (by omega)
    have g2 := pC_get (L := L) (i := b + i) (by omega)
    have w1 : wr .i64 ((a : Int) + (i : Int)) = ((a + i : Nat) : Int) := by rw [show ((a : Int) + (i : Int)) = ((a + i : Nat) : Int) by omega, wrn _ (by omega)]
    have w2 : wr .i64 ((b : Int) + (i : Int)) = ((b + i : Nat) : Int) := by rw [show ((b : Int) + (i : Int)) = ((b + i : Nat) : Int) by omega, wrn _ (by omega)]
    have w3 : wr .i64 ((i : Int) + 1) = ((i + 1 : Nat) : Int) := by rw [show ((i : Int) + 1) = ((i + 1 : Nat) : Int) by omega, wrn _ (by omega)]
    have nx := ih (i + 1) (swp L (a + i) (b + i)) (by omega) (by rw [swp_len]; exact hL) (by rw [swR] at hG; exact hG)
    unfold T364 hS fnR at nx
    refine (sure0 hm).roundX F364 noLoops [1] [] [1] [] [0,1,2,3,4,10] ?_
    rw [r364]
    simp only [w1, w2, w3, Int.toNat_natCast, Nat.zero_add, Nat.mul_one, g1, g2, Option.getD_some, isInt, intV, kindEq, p_swp (L := L) (i := a + i) (j := b + i) (by omega) (by omega), beqV_int, beqV_sl]
    simp only [setAll_length, pC_len, hL, show ltI (i : Int) (n : Int) = true from ltI_iff.2 (by omega), show ∀ z : Nat, leI 0 (z : Int) = true from fun z => leI_iff.2 (by omega), show ltI ((a + i : Nat) : Int) (m : Int) = true from ltI_iff.2 (by omega), show ltI ((b + i : Nat) : Int) (m : Int) = true from ltI_iff.2 (by omega), show leN (a + i + 1) m = true from leN_iff.2 (by omega), show leN (b + i + 1) m = true from leN_iff.2 (by omega)]
    simp only [need_t, alt_t, alt_f]
    exact ⟨hS_flat hv, nx⟩
theorem swap_says (hm : Try.prog.follows .mixedOrders = true) : swapW.Holds Try.prog 59 := by
  intro args blks hf hpre
  simp only [swapW] at hpre ⊢
  split at hpre
  · rename_i sq m q a b n fn cs sp n2 k2 own1 fs own2
    obtain ⟨rfl, ⟨L, rfl, hL, hs⟩, hv, h⟩ := hpre
    obtain ⟨a0, b0, n0, an, bn⟩ := h
    obtain ⟨a, rfl⟩ := Int.eq_ofNat_of_zero_le a0
    obtain ⟨b, rfl⟩ := Int.eq_ofNat_of_zero_le b0
    obtain ⟨n, rfl⟩ := Int.eq_ofNat_of_zero_le n0
    refine ⟨⟨trivial, rfl, rfl, trivial⟩, ⟨pC_flat _, trivial⟩, ?_⟩
    show FunSays _ _ _ _ fun v h' => v = undef ∧ h' = AM.hp [.cells (pC (swR (plAt (pC L)) (a : Int).toNat (b : Int).toNat (n : Int).toNat)) 1 true, .cells [.slice (some ⟨2,0,sp⟩) n2 k2] 1 own1, .cells fs 1 own2]
    rw [plAt_pC, Int.toNat_natCast, Int.toNat_natCast, Int.toNat_natCast]
    have hL' : Loops Try.prog body364 3 (cutE [cut364 sq m q a b n (pC L) (pC (swR L a b n)) sp n2 k2 fs own1 own2]) := Loops.noneE.moreE _ fun x K hQ => by
      show LSays Try.prog 3 (sub body364 [0,0,1]) (T364 sq m q a b n (0 : Nat)) (hp (hS (pC L) sp n2 k2 fs own1 own2)) K
      exact swap_loop hm sq m q a b n sp n2 k2 fs own1 own2 hv hs (by omega) (by omega) _ K hQ n 0 L (by omega) hL rfl
    refine (sure0 hm).funX F364 body364 [1] [] Try.func59 rfl (hL'.gcX (at0 [1]) (at0 [])) ?_
    have hw := w364 sq m q a b n (pC L) (pC (swR L a b n)) sp n2 k2 fs own1 own2
    unfold hS at hw
    rw [hw]
    exact ⟨hS_flat hv, 0, rfl, rfl, hS_flat hv, rfl, rfl, rfl⟩
  · exact hpre.elim
end Go.Proofs.Ytglfkchcmjmmlaa

namespace Go.Proofs.Ytglfkchcmjmmlaa
open Go.RowKit Go.Proofs.Ytglfkchcmjmmlaa.AM
set_option maxRecDepth 100000
set_option maxHeartbeats 4000000
noncomputable def body363 : Code := (Try.f58.body).getD .skip
def F363 : List Nat → Option (List Nat) := fun p => match p with
  | [1] => some [0, 2, 3, 4, 10]
  | [1, 1] => some [0, 2, 4, 10, 11]
  | [1, 0, 0, 0, 0, 1, 1] => some [0, 2, 4, 10, 11, 20]
  | [1, 1, 0, 0, 0, 0, 1, 1] => some [0, 2, 4, 10]
  | [1, 0, 0, 0, 1, 1] => some [0, 2, 4, 10, 11]
  | [1, 0, 1, 0, 0, 0, 1, 1] => some [0, 2, 4, 10, 11, 23]
  | [1, 0, 1, 0, 1, 0, 0, 0, 1, 1] => some [0, 2, 4, 10, 11]
  | [1, 1, 1, 0, 1, 0, 0, 0, 1, 1] => some [0, 2, 4, 10, 11]
  | [1, 1, 1] => some [0, 2, 4, 10]
  | _ => none
noncomputable def body361 : Code := (Try.f56.body).getD .skip
def F361 : List Nat → Option (List Nat) := fun p => match p with
  | [1] => some [0, 1, 2, 3, 8]
  | [1, 0, 0, 0, 1] => some [0, 1, 2, 3, 8, 14]
  | [1, 1, 0, 0, 0, 1] => some []
  | [1, 0, 0, 1] => some [0, 1, 2, 3, 8]
  | [1, 0, 0, 1, 0, 0, 1] => some [0, 1, 2, 3, 8, 9]
  | [1, 0, 0, 0, 1, 0, 0, 1, 0, 0, 1] => some [0, 1, 2, 3, 8, 9, 34]
  | [1, 1, 0, 0, 0, 1, 0, 0, 1, 0, 0, 1] => some [0, 1, 2, 3, 8]
  | [1, 0, 0, 1, 0, 0, 1, 0, 0, 1] => some [0, 1, 2, 3, 8, 9]
  | [1, 1, 0, 0, 1, 0, 0, 1, 0, 0, 1] => some [0, 1, 2, 3, 8, 9]
  | [1, 1, 0, 0, 1] => some [0, 1, 2, 3, 8]
  | _ => none
noncomputable def S363 : Book := bookW [(59, swapW)] S0
noncomputable def T363 (sq : Option Nat) (d q : Nat) (m i j : Nat) : List Value := tmps 58 [(0, .slice (some ⟨0,0,sq⟩) d q), (2, .int .i64 m), (4, fnR), (10, .int .i64 i), (11, .int .i64 j)]

theorem r363 (sq : Option Nat) (d q m i j : Nat) (cs : List Value) (sp : Option Nat) (n2 k2 : Nat) (fs : List Value) (own1 own2 : Bool) (K : Post) :
  roundX Try.prog S363 noLoop F363 body363 3 [1] [] [1] [] [0,2,4,10,11] [0,0,0,1,1] (T363 sq d q m i j) (hp (hS cs sp n2 k2 fs own1 own2)) K = (
Alt (!eqI (↑i : Int) (↑j : Int))
  (Alt (ltI (↑j : Int) (↑i : Int))
    ((FlatL cs ∧ nojL [Value.slice (some { block := 2, off := 0, spot := sp : Addr }) n2 k2] = true ∧ FlatL fs ∧ True) ∧
      (Value.func (Fn.func 41) #[] #[Value.pointer (some { block := 1, off := 0 : Addr })] =
            Value.func (Fn.func 41) #[] #[Value.pointer (some { block := 1, off := 0 : Addr })] ∧
          IsPl cs d ∧ IsFv fs n2 ∧ SwOk (wr IntKind.i64 ((↑m : Int) - (↑i : Int))) (↑m : Int) (↑j : Int) d) ∧
        K AE.normal
          (tmps 58
            [(0, Value.slice (some { block := 0, off := 0, spot := sq : Addr }) d q),
              (2, Value.int IntKind.i64 (↑m : Int)),
              (4, Value.func (Fn.func 41) #[] #[Value.pointer (some { block := 1, off := 0 : Addr })]),
              (10, Value.int IntKind.i64 (wr IntKind.i64 ((↑i : Int) - (↑j : Int)))),
              (11, Value.int IntKind.i64 (↑j : Int))])
          (hp
            [Blk.cells
                (pC (swR (plAt cs) (wr IntKind.i64 ((↑m : Int) - (↑i : Int))).toNat (↑m : Int).toNat (↑j : Int).toNat))
                1 true,
              Blk.cells [Value.slice (some { block := 2, off := 0, spot := sp : Addr }) n2 k2] 1 own1,
              Blk.cells fs 1 own2]))
    ((FlatL cs ∧ nojL [Value.slice (some { block := 2, off := 0, spot := sp : Addr }) n2 k2] = true ∧ FlatL fs ∧ True) ∧
      (Value.func (Fn.func 41) #[] #[Value.pointer (some { block := 1, off := 0 : Addr })] =
            Value.func (Fn.func 41) #[] #[Value.pointer (some { block := 1, off := 0 : Addr })] ∧
          IsPl cs d ∧
            IsFv fs n2 ∧
              SwOk (wr IntKind.i64 ((↑m : Int) - (↑i : Int)))
                (wr IntKind.i64 (wr IntKind.i64 ((↑m : Int) + (↑j : Int)) - (↑i : Int))) (↑i : Int) d) ∧
        K AE.normal
          (tmps 58
            [(0, Value.slice (some { block := 0, off := 0, spot := sq : Addr }) d q),
              (2, Value.int IntKind.i64 (↑m : Int)),
              (4, Value.func (Fn.func 41) #[] #[Value.pointer (some { block := 1, off := 0 : Addr })]),
              (10, Value.int IntKind.i64 (↑i : Int)),
              (11, Value.int IntKind.i64 (wr IntKind.i64 ((↑j : Int) - (↑i : Int))))])
          (hp
            [Blk.cells
                (pC
                  (swR (plAt cs) (wr IntKind.i64 ((↑m : Int) - (↑i : Int))).toNat
                    (wr IntKind.i64 (wr IntKind.i64 ((↑m : Int) + (↑j : Int)) - (↑i : Int))).toNat (↑i : Int).toNat))
                1 true,
              Blk.cells [Value.slice (some { block := 2, off := 0, spot := sp : Addr }) n2 k2] 1 own1,
              Blk.cells fs 1 own2])))
  (K (AE.exit 0)
    (tmps 58
      [(0, Value.slice (some { block := 0, off := 0, spot := sq : Addr }) d q), (2, Value.int IntKind.i64 (↑m : Int)),
        (4, Value.func (Fn.func 41) #[] #[Value.pointer (some { block := 1, off := 0 : Addr })]),
        (10, Value.int IntKind.i64 (↑i : Int))])
    (hp
      [Blk.cells cs 1 true, Blk.cells [Value.slice (some { block := 2, off := 0, spot := sp : Addr }) n2 k2] 1 own1,
        Blk.cells fs 1 own2]))) := by kernel_rfl

noncomputable def S361 : Book := bookW [(41, cmpW)] S0
noncomputable def T361o (sq : Option Nat) (d q : Nat) (a b i : Nat) : List Value := tmps 53 [(0, .slice (some ⟨0,0,sq⟩) d q), (1, .int .i64 a), (2, .int .i64 b), (3, fnR), (8, .int .i64 i)]
noncomputable def T361i (sq : Option Nat) (d q : Nat) (a b i j : Nat) : List Value := tmps 53 [(0, .slice (some ⟨0,0,sq⟩) d q), (1, .int .i64 a), (2, .int .i64 b), (3, fnR), (8, .int .i64 i), (9, .int .i64 j)]

theorem r361i (sq : Option Nat) (d q a b i j : Nat) (cs : List Value) (sp : Option Nat) (n2 k2 : Nat) (fs : List Value) (own1 own2 : Bool) (K : Post) :
  roundX Try.prog S361 noLoop F361 body361 3 [1] [] [1] [] [0,1,2,3,8,9] [0,0,1,0,0,1,0,0,1] (T361i sq d q a b i j) (hp (hS cs sp n2 k2 fs own1 own2)) K = (
Alt (ltI (↑a : Int) (↑j : Int))
  (Need (ltI (↑j : Int) (↑d : Int))
    (Need (isInt IntKind.i64 ((getO cs (0 + (↑j : Int).toNat * 1)).getD undef))
      (Need (leI 0 (wr IntKind.i64 ((↑j : Int) - 1)))
        (Need (ltI (wr IntKind.i64 ((↑j : Int) - 1)) (↑d : Int))
          (Need (isInt IntKind.i64 ((getO cs (0 + (wr IntKind.i64 ((↑j : Int) - 1)).toNat * 1)).getD undef))
            ((nojL [Value.slice (some { block := 1, off := 0, spot := sp : Addr }) n2 k2] = true ∧ FlatL fs ∧ True) ∧
              (IsFv fs n2 ∧
                  PlIn (intV ((getO cs (0 + (↑j : Int).toNat * 1)).getD undef))
                    (intV ((getO cs (0 + (wr IntKind.i64 ((↑j : Int) - 1)).toNat * 1)).getD undef)) n2) ∧
                Alt
                  (ltI
                    (cmpI (rkAt fs (intV ((getO cs (0 + (↑j : Int).toNat * 1)).getD undef)).toNat)
                      (rkAt fs (intV ((getO cs (0 + (wr IntKind.i64 ((↑j : Int) - 1)).toNat * 1)).getD undef)).toNat))
                    0)
                  (Need (leI 0 (wr IntKind.i64 ((↑j : Int) - 1)))
                    (Need (ltI (wr IntKind.i64 ((↑j : Int) - 1)) (↑d : Int))
                      (Need (isInt IntKind.i64 ((getO cs (0 + (wr IntKind.i64 ((↑j : Int) - 1)).toNat * 1)).getD undef))
                        (Need (ltI (↑j : Int) (↑d : Int))
                          (Need (isInt IntKind.i64 ((getO cs (0 + (↑j : Int).toNat * 1)).getD undef))
                            (Need (ltI (↑j : Int) (↑d : Int))
                              (Need (leN (0 + (↑j : Int).toNat * 1 + 1) cs.length)
                                (Need (leI 0 (wr IntKind.i64 ((↑j : Int) - 1)))
                                  (Need (ltI (wr IntKind.i64 ((↑j : Int) - 1)) (↑d : Int))
                                    (Need
                                      (leN (0 + (wr IntKind.i64 ((↑j : Int) - 1)).toNat * 1 + 1)
                                        (setAll cs (0 + (↑j : Int).toNat * 1)
                                            [Value.int IntKind.i64
                                                (intV
                                                  ((getO cs (0 + (wr IntKind.i64 ((↑j : Int) - 1)).toNat * 1)).getD
                                                    undef))]).length)
                                      (Need
                                        (beqV 64 (Value.int IntKind.i64 (wr IntKind.i64 ((↑j : Int) - 1)))
                                          (Value.int IntKind.i64 (wr IntKind.i64 ((↑j : Int) - 1))))
                                        (Need
                                          (beqV 64 (Value.int IntKind.i64 (↑j : Int))
                                            (Value.int IntKind.i64 (↑j : Int)))
                                          (Need
                                            (beqV 64
                                              (Value.slice (some { block := 0, off := 0, spot := sq : Addr }) d q)
                                              (Value.slice (some { block := 0, off := 0, spot := sq : Addr }) d q))
                                            (K AE.normal
                                              (tmps 53
                                                [(0,
                                                    Value.slice (some { block := 0, off := 0, spot := sq : Addr }) d q),
                                                  (1, Value.int IntKind.i64 (↑a : Int)),
                                                  (2, Value.int IntKind.i64 (↑b : Int)),
                                                  (3,
                                                    Value.func (Fn.func 41) #[]
                                                      #[Value.pointer (some { block := 1, off := 0 : Addr })]),
                                                  (8, Value.int IntKind.i64 (↑i : Int)),
                                                  (9, Value.int IntKind.i64 (wr IntKind.i64 ((↑j : Int) - 1)))])
                                              (hp
                                                [Blk.cells
                                                    (setAll
                                                      (setAll cs (0 + (↑j : Int).toNat * 1)
                                                        [Value.int IntKind.i64
                                                            (intV
                                                              ((getO cs
                                                                    (0 +
                                                                      (wr IntKind.i64 ((↑j : Int) - 1)).toNat * 1)).getD
                                                                undef))])
                                                      (0 + (wr IntKind.i64 ((↑j : Int) - 1)).toNat * 1)
                                                      [Value.int IntKind.i64
                                                          (intV ((getO cs (0 + (↑j : Int).toNat * 1)).getD undef))])
                                                    1 true,
                                                  Blk.cells
                                                    [Value.slice (some { block := 2, off := 0, spot := sp : Addr }) n2
                                                        k2]
                                                    1 own1,
                                                  Blk.cells fs 1 own2])))))))))))))))
                  (K (AE.exit 2)
                    (tmps 53
                      [(0, Value.slice (some { block := 0, off := 0, spot := sq : Addr }) d q),
                        (1, Value.int IntKind.i64 (↑a : Int)), (2, Value.int IntKind.i64 (↑b : Int)),
                        (3, Value.func (Fn.func 41) #[] #[Value.pointer (some { block := 1, off := 0 : Addr })]),
                        (8, Value.int IntKind.i64 (↑i : Int))])
                    (hp
                      [Blk.cells cs 1 true,
                        Blk.cells [Value.slice (some { block := 2, off := 0, spot := sp : Addr }) n2 k2] 1 own1,
                        Blk.cells fs 1 own2]))))))))
  (K (AE.exit 2)
    (tmps 53
      [(0, Value.slice (some { block := 0, off := 0, spot := sq : Addr }) d q), (1, Value.int IntKind.i64 (↑a : Int)),
        (2, Value.int IntKind.i64 (↑b : Int)),
        (3, Value.func (Fn.func 41) #[] #[Value.pointer (some { block := 1, off := 0 : Addr })]),
        (8, Value.int IntKind.i64 (↑i : Int))])
    (hp
      [Blk.cells cs 1 true, Blk.cells [Value.slice (some { block := 2, off := 0, spot := sp : Addr }) n2 k2] 1 own1,
        Blk.cells fs 1 own2]))) := by kernel_rfl

structure LtN (i b : Nat) : Prop where
  lt : i < b
noncomputable def cut361i (sq : Option Nat) (d q a b i : Nat) (cs ds : List Value) (sp : Option Nat) (n2 k2 : Nat) (fs : List Value) (own1 own2 : Bool) : CutE where
  β := Nat
  p := [0,1,0,0,1,0,0,1]
  t := fun _ => T361i sq d q a b i i
  h := fun _ => hp (hS cs sp n2 k2 fs own1 own2)
  Q := fun _ K => LtN i b ∧ K (.exit 2) (T361o sq d q a b i) (hp (hS ds sp n2 k2 fs own1 own2))

theorem r361o (sq : Option Nat) (d q a b i : Nat) (cs ds : List Value) (sp : Option Nat) (n2 k2 : Nat) (fs : List Value) (own1 own2 : Bool) (K : Post) :
  roundX Try.prog S361 (gcLKX (at0 [1]) (at0 []) 3 (cutE [cut361i sq d q a b i cs ds sp n2 k2 fs own1 own2])) F361 body361 3 [1] [] [1] [] [0,1,2,3,8] [0,0,1] (T361o sq d q a b i) (hp (hS cs sp n2 k2 fs own1 own2)) K = (
Alt (ltI (↑i : Int) (↑b : Int))
  (FlatD [1]
      (hp
        [Blk.cells cs 1 true, Blk.cells [Value.slice (some { block := 2, off := 0, spot := sp : Addr }) n2 k2] 1 own1,
          Blk.cells fs 1 own2]) ∧
    ∃ (b_1 : Nat),
      tmps 53
            [(0, Value.slice (some { block := 0, off := 0, spot := sq : Addr }) d q),
              (1, Value.int IntKind.i64 (↑a : Int)), (2, Value.int IntKind.i64 (↑b : Int)),
              (3, Value.func (Fn.func 41) #[] #[Value.pointer (some { block := 1, off := 0 : Addr })]),
              (8, Value.int IntKind.i64 (↑i : Int)), (9, Value.int IntKind.i64 (↑i : Int))] =
          tmps 53
            [(0, Value.slice (some { block := 0, off := 0, spot := sq : Addr }) d q),
              (1, Value.int IntKind.i64 (↑a : Int)), (2, Value.int IntKind.i64 (↑b : Int)),
              (3, Value.func (Fn.func 41) #[] #[Value.pointer (some { block := 1, off := 0 : Addr })]),
              (8, Value.int IntKind.i64 (↑i : Int)), (9, Value.int IntKind.i64 (↑i : Int))] ∧
        hp
              [Blk.cells cs 1 true,
                Blk.cells [Value.slice (some { block := 2, off := 0, spot := sp : Addr }) n2 k2] 1 own1,
                Blk.cells fs 1 own2] =
            hp
              [Blk.cells cs 1 true,
                Blk.cells [Value.slice (some { block := 2, off := 0, spot := sp : Addr }) n2 k2] 1 own1,
                Blk.cells fs 1 own2] ∧
          LtN i b ∧
            K AE.normal
              (tmps 53
                [(0, Value.slice (some { block := 0, off := 0, spot := sq : Addr }) d q),
                  (1, Value.int IntKind.i64 (↑a : Int)), (2, Value.int IntKind.i64 (↑b : Int)),
                  (3, Value.func (Fn.func 41) #[] #[Value.pointer (some { block := 1, off := 0 : Addr })]),
                  (8, Value.int IntKind.i64 (wr IntKind.i64 ((↑i : Int) + 1)))])
              (hp
                [Blk.cells ds 1 true,
                  Blk.cells [Value.slice (some { block := 2, off := 0, spot := sp : Addr }) n2 k2] 1 own1,
                  Blk.cells fs 1 own2]))
  (K (AE.exit 0) (tmps 53 [])
    (hp
      [Blk.cells cs 1 true, Blk.cells [Value.slice (some { block := 2, off := 0, spot := sp : Addr }) n2 k2] 1 own1,
        Blk.cells fs 1 own2]))) := by kernel_rfl

noncomputable def cut361o (sq : Option Nat) (d q a b : Nat) (cs ds : List Value) (sp : Option Nat) (n2 k2 : Nat) (fs : List Value) (own1 own2 : Bool) : CutE where
  β := Nat
  p := [0,1]
  t := fun _ => T361o sq d q a b (a + 1)
  h := fun _ => hp (hS cs sp n2 k2 fs own1 own2)
  Q := fun _ K => K (.exit 0) (tmps 53 []) (hp (hS ds sp n2 k2 fs own1 own2))

structure RotE (d : Nat) (G : List Nat) (m i : Nat) (L : List Nat) : Prop where
  len : L.length = d
  i1 : 1 ≤ i
  im : i ≤ m
  mi : m + i ≤ d
  go : swR L (m - i) m i = G
noncomputable def cut363 (sq : Option Nat) (d q a m b : Nat) (cs : List Value) (G : List Nat) (sp : Option Nat) (n2 k2 : Nat) (fs : List Value) (own1 own2 : Bool) : CutE where
  β := Nat
  p := [0,0,1,1]
  t := fun _ => T363 sq d q m (m - a) (b - m)
  h := fun _ => hp (hS cs sp n2 k2 fs own1 own2)
  Q := fun _ K => ∀ (i : Nat) (L : List Nat), RotE d G m i L → K (.exit 0) (tmps 58 [(0, .slice (some ⟨0,0,sq⟩) d q), (2, .int .i64 m), (4, fnR), (10, .int .i64 i)]) (hp (hS (pC L) sp n2 k2 fs own1 own2))

theorem w363 (sq : Option Nat) (d q a m b : Nat) (cs : List Value) (G : List Nat) (sp : Option Nat) (n2 k2 : Nat) (fs : List Value) (own1 own2 : Bool) (K : Value → Heap → Prop) :
  funX Try.prog S363 (gcLKX (at0 [1]) (at0 []) 3 (cutE [cut363 sq d q a m b cs G sp n2 k2 fs own1 own2])) F363 body363 Try.f58 [1] [] [.slice (some ⟨0,0,sq⟩) d q, .int .i64 a, .int .i64 m, .int .i64 b, fnR] (hp (hS cs sp n2 k2 fs own1 own2)) K = (
FlatD [1]
    (hp
      [Blk.cells cs 1 true, Blk.cells [Value.slice (some { block := 2, off := 0, spot := sp : Addr }) n2 k2] 1 own1,
        Blk.cells fs 1 own2]) ∧
  ∃ (b_1 : Nat),
    tmps 58
          [(0, Value.slice (some { block := 0, off := 0, spot := sq : Addr }) d q),
            (2, Value.int IntKind.i64 (↑m : Int)),
            (4, Value.func (Fn.func 41) #[] #[Value.pointer (some { block := 1, off := 0 : Addr })]),
            (10, Value.int IntKind.i64 (wr IntKind.i64 ((↑m : Int) - (↑a : Int)))),
            (11, Value.int IntKind.i64 (wr IntKind.i64 ((↑b : Int) - (↑m : Int))))] =
        tmps 58
          [(0, Value.slice (some { block := 0, off := 0, spot := sq : Addr }) d q),
            (2, Value.int IntKind.i64 (↑m : Int)),
            (4, Value.func (Fn.func 41) #[] #[Value.pointer (some { block := 1, off := 0 : Addr })]),
            (10, Value.int IntKind.i64 (↑(m - a) : Int)), (11, Value.int IntKind.i64 (↑(b - m) : Int))] ∧
      hp
            [Blk.cells cs 1 true,
              Blk.cells [Value.slice (some { block := 2, off := 0, spot := sp : Addr }) n2 k2] 1 own1,
              Blk.cells fs 1 own2] =
          hp
            [Blk.cells cs 1 true,
              Blk.cells [Value.slice (some { block := 2, off := 0, spot := sp : Addr }) n2 k2] 1 own1,
              Blk.cells fs 1 own2] ∧
        ∀ (i : Nat) (L : List Nat),
          RotE d G m i L →
            (FlatL (pC L) ∧
                nojL [Value.slice (some { block := 2, off := 0, spot := sp : Addr }) n2 k2] = true ∧ FlatL fs ∧ True) ∧
              (Value.func (Fn.func 41) #[] #[Value.pointer (some { block := 1, off := 0 : Addr })] =
                    Value.func (Fn.func 41) #[] #[Value.pointer (some { block := 1, off := 0 : Addr })] ∧
                  IsPl (pC L) d ∧
                    IsFv fs n2 ∧ SwOk (wr IntKind.i64 ((↑m : Int) - (↑i : Int))) (↑m : Int) (↑i : Int) d) ∧
                K undef
                  (hp
                    [Blk.cells
                        (pC
                          (swR (plAt (pC L)) (wr IntKind.i64 ((↑m : Int) - (↑i : Int))).toNat (↑m : Int).toNat
                            (↑i : Int).toNat))
                        1 true,
                      Blk.cells [Value.slice (some { block := 2, off := 0, spot := sp : Addr }) n2 k2] 1 own1,
                      Blk.cells fs 1 own2])) := by kernel_rfl

theorem w361 (sq : Option Nat) (d q a b : Nat) (cs ds : List Value) (sp : Option Nat) (n2 k2 : Nat) (fs : List Value) (own1 own2 : Bool) (K : Value → Heap → Prop) :
  funX Try.prog S361 (gcLKX (at0 [1]) (at0 []) 3 (cutE [cut361o sq d q a b cs ds sp n2 k2 fs own1 own2])) F361 body361 Try.f56 [1] [] [.slice (some ⟨0,0,sq⟩) d q, .int .i64 a, .int .i64 b, fnR] (hp (hS cs sp n2 k2 fs own1 own2)) K = (
FlatD [1]
    (hp
      [Blk.cells cs 1 true, Blk.cells [Value.slice (some { block := 2, off := 0, spot := sp : Addr }) n2 k2] 1 own1,
        Blk.cells fs 1 own2]) ∧
  ∃ (b_1 : Nat),
    tmps 53
          [(0, Value.slice (some { block := 0, off := 0, spot := sq : Addr }) d q),
            (1, Value.int IntKind.i64 (↑a : Int)), (2, Value.int IntKind.i64 (↑b : Int)),
            (3, Value.func (Fn.func 41) #[] #[Value.pointer (some { block := 1, off := 0 : Addr })]),
            (8, Value.int IntKind.i64 (wr IntKind.i64 ((↑a : Int) + 1)))] =
        tmps 53
          [(0, Value.slice (some { block := 0, off := 0, spot := sq : Addr }) d q),
            (1, Value.int IntKind.i64 (↑a : Int)), (2, Value.int IntKind.i64 (↑b : Int)),
            (3, Value.func (Fn.func 41) #[] #[Value.pointer (some { block := 1, off := 0 : Addr })]),
            (8, Value.int IntKind.i64 (↑(a + 1) : Int))] ∧
      hp
            [Blk.cells cs 1 true,
              Blk.cells [Value.slice (some { block := 2, off := 0, spot := sp : Addr }) n2 k2] 1 own1,
              Blk.cells fs 1 own2] =
          hp
            [Blk.cells cs 1 true,
              Blk.cells [Value.slice (some { block := 2, off := 0, spot := sp : Addr }) n2 k2] 1 own1,
              Blk.cells fs 1 own2] ∧
        K undef
          (hp
            [Blk.cells ds 1 true,
              Blk.cells [Value.slice (some { block := 2, off := 0, spot := sp : Addr }) n2 k2] 1 own1,
              Blk.cells fs 1 own2])) := by kernel_rfl

end Go.Proofs.Ytglfkchcmjmmlaa

namespace Go.Proofs.Ytglfkchcmjmmlaa
open Go.RowKit Go.Proofs.Ytglfkchcmjmmlaa.AM
set_option maxRecDepth 100000
set_option maxHeartbeats 4000000
theorem wra (x y : Nat) (h : x + y ≤ 10000000) : wr .i64 ((x : Int) + (y : Int)) = ((x + y : Nat) : Int) := by rw [show ((x : Int) + (y : Int)) = ((x + y : Nat) : Int) by omega, wrn _ (by omega)]
theorem wra1 (x : Nat) (h : x ≤ 1000000) : wr .i64 ((x : Int) + 1) = ((x + 1 : Nat) : Int) := wra x 1 (by omega)
theorem wrs (x y : Nat) (h : y ≤ x) (hx : x ≤ 10000000) : wr .i64 ((x : Int) - (y : Int)) = ((x - y : Nat) : Int) := by rw [show ((x : Int) - (y : Int)) = ((x - y : Nat) : Int) by omega, wrn _ (by omega)]
theorem wrs1 (x : Nat) (h : 1 ≤ x) (hx : x ≤ 10000000) : wr .i64 ((x : Int) - 1) = ((x - 1 : Nat) : Int) := wrs x 1 h hx
theorem eqT {x y : Int} (h : x = y) : eqI x y = true := eqI_iff.2 h
theorem eqF {x y : Int} (h : ¬ x = y) : eqI x y = false := by rw [eqI_eq, decide_eq_false h]
theorem ltT {x y : Int} (h : x < y) : ltI x y = true := ltI_iff.2 h
theorem ltF {x y : Int} (h : ¬ x < y) : ltI x y = false := by rw [ltI_eq, decide_eq_false h]
theorem le0 (z : Nat) : leI 0 (z : Int) = true := leI_iff.2 (by omega)
theorem leT {x y : Int} (h : x ≤ y) : leI x y = true := leI_iff.2 h
theorem leNT {x y : Nat} (h : x ≤ y) : leN x y = true := leN_iff.2 h
theorem take_at {P Q : List Nat} : (P ++ Q).take P.length = P := by simp
theorem sure363 (hm : Try.prog.follows .mixedOrders = true) : Sure Try.prog S363 := ⟨hm, plain, bookW_ok sums0 (l := [(59, swapW)]) ⟨swap_says hm, trivial⟩⟩
theorem sure361 (hm : Try.prog.follows .mixedOrders = true) : Sure Try.prog S361 := ⟨hm, plain, bookW_ok sums0 (l := [(41, cmpW)]) ⟨cmp_says hm, trivial⟩⟩
theorem rot_loop (hm : Try.prog.follows .mixedOrders = true) (sq : Option Nat) (d q m : Nat) (sp : Option Nat) (n2 k2 : Nat) (fs : List Value) (own1 own2 : Bool) (hv : IsFv fs n2) (hd : d ≤ 1000000) (G : List Nat) (K : Post) (hK : ∀ (i : Nat) (L : List Nat), RotE d G m i L → K (.exit 0) (tmps 58 [(0, .slice (some ⟨0,0,sq⟩) d q), (2, .int .i64 m), (4, fnR), (10, .int .i64 i)]) (hp (hS (pC L) sp n2 k2 fs own1 own2))) :
    ∀ (t : Nat) (P U V Q : List Nat), U.length + V.length ≤ t → 1 ≤ U.length → 1 ≤ V.length → P.length + U.length = m → m + V.length + Q.length = d → G = P ++ (V ++ (U ++ Q)) →
    LSays Try.prog 3 (sub body363 [0,0,0,1,1]) (T363 sq d q m U.length V.length) (hp (hS (pC (P ++ (U ++ (V ++ Q)))) sp n2 k2 fs own1 own2)) K := by
  intro t
  induction t with
  | zero => intro P U V Q h h1; omega
  | succ t ih =>
    intro P U V Q ht hU hV hP hQ hG
    have hlen : (P ++ (U ++ (V ++ Q))).length = d := by simp; omega
    refine (sure363 hm).roundX F363 noLoops [1] [] [1] [] [0,2,4,10,11] ?_
    rw [r363]
    by_cases he : U.length = V.length
    · rw [eqT (show (U.length : Int) = (V.length : Int) by omega)]
      refine ⟨hS_flat hv, hK U.length _ ⟨hlen, hU, by omega, by omega, ?_⟩⟩
      have := swR_eq U V P [] Q he
      simp only [List.nil_append, List.length_nil, Nat.add_zero] at this
      rw [show m - U.length = P.length by omega, show m = P.length + U.length by omega, this, hG]
    · rw [eqF (show ¬ (U.length : Int) = (V.length : Int) by omega)]
      by_cases hlt : V.length < U.length
      · rw [ltT (show (V.length : Int) < (U.length : Int) by omega), wrs m U.length (by omega) (by omega), wrs U.length V.length (by omega) (by omega), plAt_pC]
        simp only [Int.toNat_natCast]
        refine ⟨⟨pC_flat _, rfl, hv.flat, trivial⟩, ⟨trivial, .mk _ rfl hlen hd, hv, ⟨by omega, by omega, by omega, by omega, by omega⟩⟩, hS_flat hv, ?_⟩
        have hs := swR_eq (U.take V.length) V P (U.drop V.length) Q (by rw [List.length_take]; omega)
        have eU : U.take V.length ++ (U.drop V.length ++ (V ++ Q)) = U ++ (V ++ Q) := by rw [← List.append_assoc, List.take_append_drop]
        have l1 : (U.take V.length).length = V.length := by rw [List.length_take]; omega
        have l2 : (U.drop V.length).length = U.length - V.length := by rw [List.length_drop]
        rw [eU, l1, l2, show P.length + V.length + (U.length - V.length) = m by omega, show P.length = m - U.length by omega] at hs
        rw [hs]
        have := ih (P ++ V) (U.drop V.length) (U.take V.length) Q (by omega) (by omega) (by omega) (by simp; omega) (by omega) (by rw [hG]; simp only [List.append_assoc]; rw [← List.append_assoc (U.take _), List.take_append_drop])
        rw [l1, l2, List.append_assoc] at this
        exact this
      · rw [ltF (show ¬ (V.length : Int) < (U.length : Int) by omega), wrs m U.length (by omega) (by omega), wra m V.length (by omega), wrs (m + V.length) U.length (by omega) (by omega), wrs V.length U.length (by omega) (by omega), plAt_pC]
        simp only [Int.toNat_natCast]
        refine ⟨⟨pC_flat _, rfl, hv.flat, trivial⟩, ⟨trivial, .mk _ rfl hlen hd, hv, ⟨by omega, by omega, by omega, by omega, by omega⟩⟩, hS_flat hv, ?_⟩
        have l1 : (V.take (V.length - U.length)).length = V.length - U.length := by rw [List.length_take]; omega
        have l2 : (V.drop (V.length - U.length)).length = U.length := by rw [List.length_drop]; omega
        have hs := swR_eq U (V.drop (V.length - U.length)) P (V.take (V.length - U.length)) Q l2.symm
        have eV : V.take (V.length - U.length) ++ (V.drop (V.length - U.length) ++ Q) = V ++ Q := by rw [← List.append_assoc, List.take_append_drop]
        rw [eV, l1, show P.length + U.length + (V.length - U.length) = m + V.length - U.length by omega, show P.length = m - U.length by omega] at hs
        rw [hs]
        have := ih P (V.drop (V.length - U.length)) (V.take (V.length - U.length)) (U ++ Q) (by omega) (by omega) (by omega) (by omega) (by simp; omega) (by rw [hG, ← List.append_assoc (V.take _), List.take_append_drop])
        rw [l1, l2] at this
        exact this
structure RotOk (a m b : Int) (d : Nat) : Prop where
  a0 : 0 ≤ a
  am : a < m
  mb : m < b
  bd : b ≤ d
noncomputable def rotW : CtrW where
  D := [1]
  W := [0]
  E := [1]
  pre := fun args blks => match args, blks with
    | [.slice (some ⟨0,0,_⟩) d _, .int .i64 a, .int .i64 m, .int .i64 b, fn], [.cells cs 1 true, .cells [.slice (some ⟨2,0,_⟩) n2 _] 1 _, .cells fs 1 _] => fn = fnR ∧ IsPl cs d ∧ IsFv fs n2 ∧ RotOk a m b d
    | _, _ => False
  val := fun args blks => undef
  out := fun args blks => match args, blks with
    | [.slice (some ⟨0,0,_⟩) d _, .int .i64 a, .int .i64 m, .int .i64 b, fn], [.cells cs 1 true, b1, b2] => [.cells (pC (rotR (plAt cs) a.toNat m.toNat b.toNat)) 1 true, b1, b2]
    | _, _ => []
theorem rot_says (hm : Try.prog.follows .mixedOrders = true) : rotW.Holds Try.prog 58 := by
  intro args blks hf hpre
  simp only [rotW] at hpre ⊢
  split at hpre
  · rename_i sq d q a m b fn cs sp n2 k2 own1 fs own2
    obtain ⟨rfl, ⟨L, rfl, hL, hs⟩, hv, h⟩ := hpre
    obtain ⟨a0, am, mb, bd⟩ := h
    obtain ⟨a, rfl⟩ := Int.eq_ofNat_of_zero_le a0
    obtain ⟨m, rfl⟩ := Int.eq_ofNat_of_zero_le (show 0 ≤ m by omega)
    obtain ⟨b, rfl⟩ := Int.eq_ofNat_of_zero_le (show 0 ≤ b by omega)
    refine ⟨⟨trivial, rfl, rfl, trivial⟩, ⟨pC_flat _, trivial⟩, ?_⟩
    show FunSays _ _ _ _ fun v h' => v = undef ∧ h' = AM.hp [.cells (pC (rotR (plAt (pC L)) (a : Int).toNat (m : Int).toNat (b : Int).toNat)) 1 true, .cells [.slice (some ⟨2,0,sp⟩) n2 k2] 1 own1, .cells fs 1 own2]
    rw [plAt_pC, Int.toNat_natCast, Int.toNat_natCast, Int.toNat_natCast]
    have hL' : Loops Try.prog body363 3 (cutE [cut363 sq d q a m b (pC L) (rotR L a m b) sp n2 k2 fs own1 own2]) := Loops.noneE.moreE _ fun x K hQ => by
      show LSays Try.prog 3 (sub body363 [0,0,0,1,1]) (T363 sq d q m (m - a) (b - m)) (hp (hS (pC L) sp n2 k2 fs own1 own2)) K
      obtain ⟨X, A, Z, rfl, hX, hA, hZ⟩ := in3 L (a := a) (b := m) (by omega) (by omega)
      obtain ⟨B0, B, Y, rfl, h0, hB, hY⟩ := in3 Z (a := 0) (b := b - m) (by omega) (by omega)
      obtain rfl := List.eq_nil_of_length_eq_zero h0
      simp only [List.nil_append] at hQ hL hZ hY ⊢
      have hg := rotR_eq (X := X) (A := A) (B := B) (Y := Y) (a := a) (m := m) (b := b) hX hA (by omega)
      rw [hg] at hQ
      have := rot_loop hm sq d q m sp n2 k2 fs own1 own2 hv hs _ K hQ (A.length + B.length) X A B Y (Nat.le_refl _) (by omega) (by omega) (by omega) (by simp at hL; omega) rfl
      rw [show A.length = m - a by omega, show B.length = b - m by omega] at this
      exact this
    refine (sure363 hm).funX F363 body363 [1] [] Try.func58 rfl (hL'.gcX (at0 [1]) (at0 [])) ?_
    have hw := w363 sq d q a m b (pC L) (rotR L a m b) sp n2 k2 fs own1 own2
    unfold hS at hw
    rw [hw, wrs m a (by omega) (by omega), wrs b m (by omega) (by omega)]
    refine ⟨hS_flat hv, 0, rfl, rfl, fun i L' hE => ?_⟩
    have hi := hE.im
    have hi2 := hE.mi
    rw [wrs m i (by omega) (by omega), plAt_pC]
    simp only [Int.toNat_natCast]
    rw [hE.go]
    exact ⟨⟨pC_flat _, rfl, hv.flat, trivial⟩, ⟨trivial, .mk _ rfl hE.len hs, hv, ⟨by omega, by omega, by omega, by omega, by omega⟩⟩, hS_flat hv, (by first | trivial | rfl), (by first | trivial | rfl), (by first | trivial | rfl)⟩
  · exact hpre.elim
theorem srtK_congr {key : Nat → Int} {l m : List Nat} (hp : l.Perm m) : srtK key l = srtK key m :=
  List.Perm.eq_of_pairwise (le := fun x y => leK key x y = true) (fun a b _ _ h1 h2 => by rw [leK_iff] at *; omega) (srtK_pw key l) (srtK_pw key m) ((srtK_perm key l).trans (hp.trans (srtK_perm key m).symm))
theorem srtK_mem {key : Nat → Int} {l : List Nat} {x : Nat} : x ∈ srtK key l ↔ x ∈ l := (srtK_perm key l).mem_iff
theorem snoc_of {l : List Nat} (h : 0 < l.length) : ∃ m y, l = m ++ [y] := ⟨l.dropLast, l.getLast (List.ne_nil_of_length_pos h), (List.dropLast_concat_getLast _).symm⟩
theorem ins_in (hm : Try.prog.follows .mixedOrders = true) (sq : Option Nat) (d q a b i : Nat) (sp : Option Nat) (n2 k2 : Nat) (fs : List Value) (own1 own2 : Bool) (hv : IsFv fs n2) (hd : d ≤ 1000000) (X Z : List Nat) (hX : X.length = a) (x : Nat) (hx : x < n2) (G : List Nat) (K : Post) (hK : K (.exit 2) (T361o sq d q a b i) (hp (hS (pC G) sp n2 k2 fs own1 own2))) :
    ∀ (t : Nat) (S1 S2 : List Nat), S1.length = t → X.length + (S1.length + (1 + (S2.length + Z.length))) = d → Asc (rkAt fs) (S1 ++ S2) → (∀ y ∈ S2, ltK (rkAt fs) x y) → (∀ y ∈ S1, y < x) → (∀ y ∈ S1, y < n2) → G = X ++ (srtK (rkAt fs) (S1 ++ x :: S2) ++ Z) →
    LSays Try.prog 3 (sub body361 [0,0,1,0,0,1,0,0,1]) (T361i sq d q a b i (a + S1.length)) (hp (hS (pC (X ++ (S1 ++ x :: (S2 ++ Z)))) sp n2 k2 fs own1 own2)) K := by
  intro t
  induction t with
  | zero =>
    intro S1 S2 ht hl hA h2 h1 hn hG
    obtain rfl := List.eq_nil_of_length_eq_zero ht
    refine (sure361 hm).roundX F361 noLoops [1] [] [1] [] [0,1,2,3,8,9] ?_
    rw [r361i, ltF (show ¬ (a : Int) < ((a + ([] : List Nat).length : Nat) : Int) by simp)]
    refine ⟨hS_flat hv, ?_⟩
    have hs : srtK (rkAt fs) ([] ++ x :: S2) = x :: S2 := srtK_eq (List.Perm.refl _) (asc_ins (A := []) (by simpa using hA) (fun y hy => by cases hy) h2)
    rw [hs] at hG
    rw [show X ++ ([] ++ x :: (S2 ++ Z)) = G by rw [hG]; simp]
    exact hK
  | succ t ih =>
    intro S1 S2 ht hl hA h2 h1 hn hG
    obtain ⟨S, y, rfl⟩ := snoc_of (show 0 < S1.length by omega)
    have hSl : S.length = t := by simpa using ht
    have hlen : (X ++ ((S ++ [y]) ++ x :: (S2 ++ Z))).length = d := by simp at hl ⊢; omega
    have e0 : X ++ ((S ++ [y]) ++ x :: (S2 ++ Z)) = (X ++ S) ++ y :: x :: (S2 ++ Z) := by simp
    have lXS : (X ++ S).length = a + t := by simp; omega
    have hj : a + (S ++ [y]).length = a + t + 1 := by simp; omega
    have hyx : y < x := h1 y (by simp)
    have hyn : y < n2 := hn y (by simp)
    have hlt : a + t + 1 < d := by simp at hl; omega
    have d1 : (X ++ ((S ++ [y]) ++ x :: (S2 ++ Z))).getD (a + t + 1) 0 = x := by
      rw [show X ++ ((S ++ [y]) ++ x :: (S2 ++ Z)) = (X ++ S ++ [y]) ++ x :: (S2 ++ Z) by simp, show a + t + 1 = (X ++ S ++ [y]).length by simp; omega]
      exact getD_mid _ _ _
    have d2 : (X ++ ((S ++ [y]) ++ x :: (S2 ++ Z))).getD (a + t) 0 = y := by rw [e0, ← lXS]; exact getD_mid _ _ _
    have g1 := pC_get (L := X ++ ((S ++ [y]) ++ x :: (S2 ++ Z))) (i := a + t + 1) (by omega)
    have g2 := pC_get (L := X ++ ((S ++ [y]) ++ x :: (S2 ++ Z))) (i := a + t) (by omega)
    have sw := p_swp (L := X ++ ((S ++ [y]) ++ x :: (S2 ++ Z))) (i := a + t + 1) (j := a + t) (by omega) (by omega)
    rw [d1] at g1
    rw [d2] at g2
    rw [d1, d2] at sw
    rw [hj]
    refine (sure361 hm).roundX F361 noLoops [1] [] [1] [] [0,1,2,3,8,9] ?_
    rw [r361i, wrs1 (a + t + 1) (by omega) (by omega), show a + t + 1 - 1 = a + t by omega]
    simp only [Int.toNat_natCast, Nat.zero_add, Nat.mul_one, g1, g2, Option.getD_some, isInt, intV, kindEq, sw, beqV_int, beqV_sl, setAll_length, pC_len, hlen, ltT (show (a : Int) < ((a + t + 1 : Nat) : Int) by omega), ltT (show ((a + t + 1 : Nat) : Int) < (d : Int) by omega), ltT (show ((a + t : Nat) : Int) < (d : Int) by omega), le0, leNT (show a + t + 1 + 1 ≤ d by omega), leNT (show a + t + 1 ≤ d by omega), cmpI_lt, need_t, alt_t]
    refine ⟨⟨rfl, hv.flat, trivial⟩, ⟨hv, ⟨by omega, by omega, by omega, by omega⟩⟩, ?_⟩
    by_cases hk : rkAt fs x < rkAt fs y
    · rw [decide_eq_true hk, alt_t]
      rw [show a + t + 1 = (X ++ S).length + 1 by omega, show a + t = (X ++ S).length by omega, e0, swp_mid, lXS]
      have hyS : ∀ z ∈ S, ltK (rkAt fs) z y := fun z hz => by
        obtain ⟨q1, _, _⟩ := asc_app.1 hA
        exact (asc_app.1 q1).2.2 z hz y (by simp)
      have := ih S (y :: S2) hSl (by simp at hl ⊢; omega) (by rw [show S ++ y :: S2 = S ++ [y] ++ S2 by simp]; exact hA) (fun z hz => by
        rcases List.mem_cons.1 hz with rfl | hz
        · exact .inl hk
        · exact h2 z hz) (fun z hz => h1 z (by simp [hz])) (fun z hz => hn z (by simp [hz])) (by
        rw [hG, srtK_congr (show (S ++ [y] ++ x :: S2).Perm (S ++ x :: y :: S2) by
          rw [List.append_assoc]
          exact List.Perm.append_left S (List.Perm.swap x y S2))])
      rw [hSl] at this
      rw [show (X ++ S) ++ x :: y :: (S2 ++ Z) = X ++ (S ++ x :: (y :: S2 ++ Z)) by simp]
      exact ⟨hS_flat hv, this⟩
    · rw [decide_eq_false hk, alt_f]
      have hyx2 : ltK (rkAt fs) y x := by unfold ltK; omega
      have hall : ∀ z ∈ S ++ [y], ltK (rkAt fs) z x := fun z hz => by
        rcases List.mem_append.1 hz with hz | hz
        · obtain ⟨q1, _, _⟩ := asc_app.1 hA
          exact ((asc_app.1 q1).2.2 z hz y (by simp)).trans hyx2
        · simp at hz; subst hz; exact hyx2
      have hs : srtK (rkAt fs) ((S ++ [y]) ++ x :: S2) = (S ++ [y]) ++ x :: S2 := srtK_eq (List.Perm.refl _) (asc_ins hA hall h2)
      rw [hs] at hG
      rw [show X ++ ((S ++ [y]) ++ x :: (S2 ++ Z)) = G by rw [hG]; simp]
      exact ⟨hS_flat hv, hK⟩
theorem ins_out (hm : Try.prog.follows .mixedOrders = true) (sq : Option Nat) (d q a b : Nat) (sp : Option Nat) (n2 k2 : Nat) (fs : List Value) (own1 own2 : Bool) (hv : IsFv fs n2) (hd : d ≤ 1000000) (X A Y : List Nat) (hX : X.length = a) (hA : a + A.length = b) (hY : b + Y.length = d) (hr : A.Pairwise (· < ·)) (hn : ∀ y ∈ A, y < n2) (K : Post) (hK : K (.exit 0) (tmps 53 []) (hp (hS (pC (X ++ (srtK (rkAt fs) A ++ Y))) sp n2 k2 fs own1 own2))) :
    ∀ (t c : Nat), c + t = A.length →
    LSays Try.prog 3 (sub body361 [0,0,1]) (T361o sq d q a b (a + c)) (hp (hS (pC (X ++ (srtK (rkAt fs) (A.take c) ++ (A.drop c ++ Y)))) sp n2 k2 fs own1 own2)) K := by
  intro t
  induction t with
  | zero =>
    intro c hc
    refine (sure361 hm).roundX F361 (((Loops.noneE (P := Try.prog) (root := body361) (k := 3)).moreE (cut361i sq d q a b (a + c) (pC (X ++ (srtK (rkAt fs) (A.take c) ++ (A.drop c ++ Y)))) [] sp n2 k2 fs own1 own2) fun x K hQ => ?_).gcX (at0 [1]) (at0 [])) [1] [] [1] [] [0,1,2,3,8] ?_
    · have := hQ.1.lt; omega
    rw [r361o, ltF (show ¬ ((a + c : Nat) : Int) < (b : Int) by omega), alt_f]
    have h1 : A.take c = A := List.take_of_length_le (by omega)
    have h2 : A.drop c = [] := List.drop_eq_nil_of_le (by omega)
    rw [h1, h2, List.nil_append]
    exact ⟨hS_flat hv, hK⟩
  | succ t ih =>
    intro c hc
    have hcl : c < A.length := by omega
    have hdr : A.drop c = A[c] :: A.drop (c + 1) := List.drop_eq_getElem_cons hcl
    have htk : A.take (c + 1) = A.take c ++ [A[c]] := by rw [List.take_add_one, List.getElem?_eq_getElem hcl]; rfl
    have hsplit : A = A.take c ++ A[c] :: A.drop (c + 1) := by rw [← hdr, List.take_append_drop]
    have hlt : ∀ y ∈ A.take c, y < A[c] := fun y hy => by
      have hr' : (A.take c ++ A[c] :: A.drop (c + 1)).Pairwise (· < ·) := by rw [← hsplit]; exact hr
      exact (List.pairwise_append.1 hr').2.2 y hy _ List.mem_cons_self
    have hnd : (A.take c).Nodup := ((List.Pairwise.sublist (List.take_sublist c A) hr).imp fun {x y} h => by
      intro e
      subst e
      exact Nat.lt_irrefl _ h)
    have hs : srtK (rkAt fs) (srtK (rkAt fs) (A.take c) ++ [A[c]]) = srtK (rkAt fs) (A.take (c + 1)) := srtK_congr (by rw [htk]; exact (srtK_perm _ _).append_right _)
    refine (sure361 hm).roundX F361 (((Loops.noneE (P := Try.prog) (root := body361) (k := 3)).moreE (cut361i sq d q a b (a + c) (pC (X ++ (srtK (rkAt fs) (A.take c) ++ (A.drop c ++ Y)))) (pC (X ++ (srtK (rkAt fs) (A.take (c + 1)) ++ (A.drop (c + 1) ++ Y)))) sp n2 k2 fs own1 own2) fun x K hQ => ?_).gcX (at0 [1]) (at0 [])) [1] [] [1] [] [0,1,2,3,8] ?_
    · have hQ := hQ.2
      show LSays Try.prog 3 (sub body361 [0,0,1,0,0,1,0,0,1]) (T361i sq d q a b (a + c) (a + c)) (hp (hS (pC (X ++ (srtK (rkAt fs) (A.take c) ++ (A.drop c ++ Y)))) sp n2 k2 fs own1 own2)) K
      have := ins_in hm sq d q a b (a + c) sp n2 k2 fs own1 own2 hv hd X (A.drop (c + 1) ++ Y) hX A[c] (hn _ (List.getElem_mem hcl)) _ K hQ (srtK (rkAt fs) (A.take c)).length (srtK (rkAt fs) (A.take c)) [] rfl (by simp [srtK_len]; omega) (by rw [List.append_nil]; exact srtK_asc hnd) (fun y hy => by cases hy) (fun y hy => hlt y (srtK_mem.1 hy)) (fun y hy => hn y (List.mem_of_mem_take (srtK_mem.1 hy))) (by rw [hs])
      rw [srtK_len, List.length_take, Nat.min_eq_left (by omega), List.nil_append] at this
      rw [hdr]
      exact this
    rw [r361o, ltT (show ((a + c : Nat) : Int) < (b : Int) by omega), alt_t, wra1 _ (by omega)]
    exact ⟨hS_flat hv, 0, rfl, rfl, ⟨by omega⟩, hS_flat hv, ih (c + 1) (by omega)⟩
structure InsOk (L : List Nat) (a b : Int) (n2 : Nat) : Prop where
  a0 : 0 ≤ a
  ab : a ≤ b
  bl : b ≤ L.length
  lt : ∀ x ∈ L, x < n2
  rise : ((L.take b.toNat).drop a.toNat).Pairwise (· < ·)
noncomputable def insW : CtrW where
  D := [1]
  W := [0]
  E := [1]
  pre := fun args blks => match args, blks with
    | [.slice (some ⟨0,0,_⟩) d _, .int .i64 a, .int .i64 b, fn], [.cells cs 1 true, .cells [.slice (some ⟨2,0,_⟩) n2 _] 1 _, .cells fs 1 _] => fn = fnR ∧ IsPl cs d ∧ IsFv fs n2 ∧ InsOk (plAt cs) a b n2
    | _, _ => False
  val := fun args blks => undef
  out := fun args blks => match args, blks with
    | [.slice (some ⟨0,0,_⟩) d _, .int .i64 a, .int .i64 b, fn], [.cells cs 1 true, b1, .cells fs 1 own2] => [.cells (pC (segS (rkAt fs) (plAt cs) a.toNat b.toNat)) 1 true, b1, .cells fs 1 own2]
    | _, _ => []
theorem ins_says (hm : Try.prog.follows .mixedOrders = true) : insW.Holds Try.prog 56 := by
  intro args blks hf hpre
  simp only [insW] at hpre ⊢
  split at hpre
  · rename_i sq d q a b fn cs sp n2 k2 own1 fs own2
    obtain ⟨rfl, ⟨L, rfl, hL, hs⟩, hv, h⟩ := hpre
    rw [plAt_pC] at h
    obtain ⟨a0, ab, bl, lt, rise⟩ := h
    obtain ⟨a, rfl⟩ := Int.eq_ofNat_of_zero_le a0
    obtain ⟨b, rfl⟩ := Int.eq_ofNat_of_zero_le (show 0 ≤ b by omega)
    rw [Int.toNat_natCast, Int.toNat_natCast] at rise
    refine ⟨⟨trivial, rfl, rfl, trivial⟩, ⟨pC_flat _, trivial⟩, ?_⟩
    show FunSays _ _ _ _ fun v h' => v = undef ∧ h' = AM.hp [.cells (pC (segS (rkAt fs) (plAt (pC L)) (a : Int).toNat (b : Int).toNat)) 1 true, .cells [.slice (some ⟨2,0,sp⟩) n2 k2] 1 own1, .cells fs 1 own2]
    rw [plAt_pC, Int.toNat_natCast, Int.toNat_natCast]
    obtain ⟨X, A, Y, rfl, hX, hA, hY⟩ := in3 L (a := a) (b := b) (by omega) (by omega)
    obtain ⟨c1, c2, c3⟩ := cut3 (Y := Y) hX hA
    rw [c2] at rise
    rw [segS_eq _ hX hA]
    have ha1 : A.take 1 ++ A.drop 1 = A := List.take_append_drop 1 A
    have hs1 : srtK (rkAt fs) (A.take 1) = A.take 1 := by
      refine srtK_eq (List.Perm.refl _) ?_
      cases A with
      | nil => exact List.Pairwise.nil
      | cons x A => simp; exact List.pairwise_singleton _ _
    have hL' : Loops Try.prog body361 3 (cutE [cut361o sq d q a b (pC (X ++ (A ++ Y))) (pC (X ++ (srtK (rkAt fs) A ++ Y))) sp n2 k2 fs own1 own2]) := Loops.noneE.moreE _ fun x K hQ => by
      show LSays Try.prog 3 (sub body361 [0,0,1]) (T361o sq d q a b (a + 1)) (hp (hS (pC (X ++ (A ++ Y))) sp n2 k2 fs own1 own2)) K
      cases hAl : A.length with
      | zero =>
        obtain rfl := List.eq_nil_of_length_eq_zero hAl
        have hab : a = b := by simpa using hA
        refine (sure361 hm).roundX F361 (((Loops.noneE (P := Try.prog) (root := body361) (k := 3)).moreE (cut361i sq d q a b (a + 1) (pC (X ++ ([] ++ Y))) [] sp n2 k2 fs own1 own2) fun x K hQ => ?_).gcX (at0 [1]) (at0 [])) [1] [] [1] [] [0,1,2,3,8] ?_
        · have := hQ.1.lt; omega
        rw [r361o, ltF (show ¬ ((a + 1 : Nat) : Int) < (b : Int) by omega), alt_f]
        have hQ' : K (.exit 0) (tmps 53 []) (hp (hS (pC (X ++ (srtK (rkAt fs) [] ++ Y))) sp n2 k2 fs own1 own2)) := hQ
        rw [show srtK (rkAt fs) [] = [] by simp [srtK]] at hQ'
        exact ⟨hS_flat hv, hQ'⟩
      | succ t =>
        have := ins_out hm sq d q a b sp n2 k2 fs own1 own2 hv hs X A Y hX hA (by omega) rise (fun y hy => lt y (by simp [hy])) K hQ t 1 (by omega)
        rw [hs1, ← List.append_assoc (A.take 1), ha1] at this
        exact this
    refine (sure361 hm).funX F361 body361 [1] [] Try.func56 rfl (hL'.gcX (at0 [1]) (at0 [])) ?_
    have hw := w361 sq d q a b (pC (X ++ (A ++ Y))) (pC (X ++ (srtK (rkAt fs) A ++ Y))) sp n2 k2 fs own1 own2
    unfold hS at hw
    have hal : a ≤ 1000000 := by simp only [List.length_append] at hL; omega
    rw [hw, wra1 a hal]
    exact ⟨hS_flat hv, 0, rfl, rfl, hS_flat hv, (by first | trivial | rfl), (by first | trivial | rfl), (by first | trivial | rfl)⟩
  · exact hpre.elim
end Go.Proofs.Ytglfkchcmjmmlaa

namespace Go.Proofs.Ytglfkchcmjmmlaa
open Go.RowKit Go.Proofs.Ytglfkchcmjmmlaa.AM
set_option maxRecDepth 100000
set_option maxHeartbeats 4000000
/-- a piece of a list, by places -/
structure Seg (L S : List Nat) (lo hi : Nat) : Prop where
  len : lo + S.length = hi
  get : ∀ h, lo ≤ h → h < hi → S[h - lo]? = some (L.getD h 0)
theorem Seg.of {P S Q : List Nat} {lo hi : Nat} (h1 : P.length = lo) (h2 : lo + S.length = hi) : Seg (P ++ (S ++ Q)) S lo hi := by
  refine ⟨h2, fun h a b => ?_⟩
  rw [List.getD_eq_getElem?_getD, List.getElem?_append_right (by omega), List.getElem?_append_left (by omega), h1, List.getElem?_eq_getElem (by omega)]; rfl
theorem Seg.mem {L S : List Nat} {lo hi : Nat} (s : Seg L S lo hi) {h : Nat} (a : lo ≤ h) (b : h < hi) : L.getD h 0 ∈ S := List.mem_of_getElem? (s.get h a b)
theorem Seg.lt {key : Nat → Int} {L S : List Nat} {lo hi : Nat} (s : Seg L S lo hi) (hA : Asc key S) {h k : Nat} (a : lo ≤ h) (b : h < k) (c : k < hi) : ltK key (L.getD h 0) (L.getD k 0) := by
  have g1 := s.get h a (by omega)
  have g2 := s.get k (by omega) c
  obtain ⟨l1, e1⟩ := List.getElem?_eq_some_iff.1 g1
  obtain ⟨l2, e2⟩ := List.getElem?_eq_some_iff.1 g2
  rw [← e1, ← e2]
  exact List.pairwise_iff_getElem.1 hA _ _ l1 l2 (by omega)
theorem Seg.le {key : Nat → Int} {L S : List Nat} {lo hi : Nat} (s : Seg L S lo hi) (hA : Asc key S) {h k : Nat} (a : lo ≤ h) (b : h ≤ k) (c : k < hi) : key (L.getD h 0) ≤ key (L.getD k 0) := by
  rcases Nat.lt_or_eq_of_le b with b | rfl
  · have := s.lt hA a b c; unfold ltK at this; omega
  · exact Int.le_refl _
/-- its first ones -/
theorem Seg.take {L S : List Nat} {lo hi : Nat} (s : Seg L S lo hi) {c y : Nat} (h : y ∈ S.take c) : ∃ k, lo ≤ k ∧ k < lo + c ∧ k < hi ∧ L.getD k 0 = y := by
  obtain ⟨j, hj, rfl⟩ := List.mem_iff_getElem.1 h
  have hl := s.len
  rw [List.length_take] at hj
  refine ⟨lo + j, by omega, by omega, by omega, ?_⟩
  have g := s.get (lo + j) (by omega) (by omega)
  rw [show lo + j - lo = j by omega, List.getElem?_eq_getElem (by omega)] at g
  rw [List.getElem_take]
  exact (Option.some.inj g).symm
theorem Seg.drop {L S : List Nat} {lo hi : Nat} (s : Seg L S lo hi) {c y : Nat} (h : y ∈ S.drop c) : ∃ k, lo + c ≤ k ∧ k < hi ∧ L.getD k 0 = y := by
  obtain ⟨j, hj, rfl⟩ := List.mem_iff_getElem.1 h
  have hl := s.len
  rw [List.length_drop] at hj
  refine ⟨lo + c + j, by omega, by omega, ?_⟩
  have g := s.get (lo + c + j) (by omega) (by omega)
  rw [show lo + c + j - lo = c + j by omega, List.getElem?_eq_getElem (by omega)] at g
  rw [List.getElem_drop]
  exact (Option.some.inj g).symm
def p1 (key : Nat → Int) (L : List Nat) (a : Nat) (h : Nat) : Bool := decide (key (L.getD h 0) < key (L.getD a 0))
def p2 (key : Nat → Int) (L : List Nat) (m : Nat) (h : Nat) : Bool := !decide (key (L.getD m 0) < key (L.getD h 0))
def p3 (key : Nat → Int) (L : List Nat) (p : Nat) (c : Nat) : Bool := !decide (key (L.getD (p - c) 0) < key (L.getD c 0))
/-- two pieces that rise, one behind the other; the first one's places are ahead of the other's -/
structure Two (key : Nat → Int) (L X A B Y : List Nat) (a m b : Nat) : Prop where
  e : L = X ++ (A ++ (B ++ Y))
  x : X.length = a
  am : a + A.length = m
  mb : m + B.length = b
  ascA : Asc key A
  ascB : Asc key B
  st : ∀ x ∈ A, ∀ y ∈ B, x < y
theorem Two.sa {key : Nat → Int} {L X A B Y : List Nat} {a m b : Nat} (t : Two key L X A B Y a m b) : Seg L A a m := by rw [t.e]; exact Seg.of t.x t.am
theorem Two.sb {key : Nat → Int} {L X A B Y : List Nat} {a m b : Nat} (t : Two key L X A B Y a m b) : Seg L B m b := by
  rw [t.e, ← List.append_assoc]; exact Seg.of (by have := t.x; have := t.am; simp; omega) t.mb
theorem Two.mono1 {key : Nat → Int} {L X A B Y : List Nat} {a m b : Nat} (t : Two key L X A B Y a m b) (v : Nat) : MonoP (p1 key L v) m b := ⟨fun h k h1 h2 h3 hp => by
  unfold p1 at *
  rw [decide_eq_true_iff] at *
  have := t.sb.le t.ascB h1 h2 h3
  omega⟩
theorem Two.mono2 {key : Nat → Int} {L X A B Y : List Nat} {a m b : Nat} (t : Two key L X A B Y a m b) (v : Nat) : MonoP (p2 key L v) a m := ⟨fun h k h1 h2 h3 hp => by
  unfold p2 at *
  rw [Bool.not_eq_true', decide_eq_false_iff_not] at *
  have := t.sa.le t.ascA h1 h2 h3
  omega⟩
structure In3 (a m b lo hi p : Nat) : Prop where
  l1 : a ≤ lo
  l2 : lo ≤ hi
  l3 : hi ≤ m
  p1 : m + hi ≤ p + 1
  p2 : p < b + lo
theorem Two.mono3 {key : Nat → Int} {L X A B Y : List Nat} {a m b : Nat} (t : Two key L X A B Y a m b) {lo hi p : Nat} (i : In3 a m b lo hi p) : MonoP (p3 key L p) lo hi := ⟨fun h k h1 h2 h3 hp => by
  unfold p3 at *
  rw [Bool.not_eq_true', decide_eq_false_iff_not] at *
  obtain ⟨i1, i2, i3, i4, i5⟩ := i
  have q1 := t.sa.le t.ascA (h := h) (k := k) (by omega) h2 (by omega)
  have q2 := t.sb.le t.ascB (h := p - k) (k := p - h) (by omega) (by omega) (by omega)
  omega⟩
/-- the first piece is one place -/
theorem Two.one {key : Nat → Int} {L X A B Y : List Nat} {a m b i : Nat} (t : Two key L X A B Y a m b) (h1 : m = a + 1) (hH : Half (p1 key L a) m b i i) : ∃ x, A = [x] ∧ srtK key (A ++ B) = B.take (i - m) ++ x :: B.drop (i - m) := by
  have hl : A.length = 1 := by have := t.am; omega
  obtain ⟨x, rfl⟩ := List.length_eq_one_iff.1 hl
  have hx : L.getD a 0 = x := by
    have := t.sa.get a (Nat.le_refl _) (by omega)
    rw [Nat.sub_self] at this
    exact (Option.some.inj this).symm
  refine ⟨x, rfl, srtK_eq ?_ (asc_ins (by rw [List.take_append_drop]; exact t.ascB) (fun y hy => ?_) (fun y hy => ?_))⟩
  · have : (B.take (i - m) ++ x :: B.drop (i - m)).Perm (x :: (B.take (i - m) ++ B.drop (i - m))) := List.perm_middle
    rw [List.take_append_drop] at this
    exact this
  · obtain ⟨k, k1, k2, k3, k4⟩ := t.sb.take hy
    have := hH.low k k1 (by omega)
    unfold p1 at this
    rw [decide_eq_true_iff, hx, k4] at this
    exact .inl this
  · obtain ⟨k, k1, k2, k3⟩ := t.sb.drop hy
    have hm := hH.l1
    have := hH.high k (by omega) k2
    unfold p1 at this
    rw [decide_eq_false_iff_not, hx, k3] at this
    have := t.st x (by simp) y (List.mem_of_mem_drop hy)
    unfold ltK; omega
/-- the second piece is one place -/
theorem Two.last {key : Nat → Int} {L X A B Y : List Nat} {a m b i : Nat} (t : Two key L X A B Y a m b) (h1 : b = m + 1) (hH : Half (p2 key L m) a m i i) : ∃ y, B = [y] ∧ srtK key (A ++ B) = A.take (i - a) ++ y :: A.drop (i - a) := by
  have hl : B.length = 1 := by have := t.mb; omega
  obtain ⟨y, rfl⟩ := List.length_eq_one_iff.1 hl
  have hy : L.getD m 0 = y := by
    have := t.sb.get m (Nat.le_refl _) (by omega)
    rw [Nat.sub_self] at this
    exact (Option.some.inj this).symm
  refine ⟨y, rfl, srtK_eq ?_ (asc_ins (by rw [List.take_append_drop]; exact t.ascA) (fun x hx => ?_) (fun x hx => ?_))⟩
  · have : (A.take (i - a) ++ y :: A.drop (i - a)).Perm (y :: (A.take (i - a) ++ A.drop (i - a))) := List.perm_middle
    rw [List.take_append_drop] at this
    exact this.trans (List.perm_append_singleton y A).symm
  · obtain ⟨k, k1, k2, k3, k4⟩ := t.sa.take hx
    have hm := hH.l1
    have := hH.low k k1 (by omega)
    unfold p2 at this
    rw [Bool.not_eq_true', decide_eq_false_iff_not, hy, k4] at this
    have := t.st x (List.mem_of_mem_take hx) y (by simp)
    unfold ltK; omega
  · obtain ⟨k, k1, k2, k3⟩ := t.sa.drop hx
    have hm := hH.l1
    have := hH.high k (by omega) k2
    unfold p2 at this
    rw [Bool.not_eq_false', decide_eq_true_iff, hy, k3] at this
    exact .inl this
/-- where the two halves part -/
structure Part (key : Nat → Int) (A B : List Nat) (a m b s e mid : Nat) : Prop where
  s1 : a ≤ s
  s2 : s ≤ m
  e1 : m ≤ e
  e2 : e ≤ b
  se : s + e = mid + m
  lt : ∀ x ∈ A.take (s - a) ++ B.take (e - m), ∀ y ∈ A.drop (s - a) ++ B.drop (e - m), ltK key x y
theorem Two.part {key : Nat → Int} {L X A B Y : List Nat} {a m b s mid lo hi : Nat} (t : Two key L X A B Y a m b) (hmid : mid = (a + b) / 2) (h : (mid < m ∧ lo + b = mid + m ∧ hi = mid) ∨ (m ≤ mid ∧ lo = a ∧ hi = m)) (ham : a < m) (hmb : m < b) (hH : Half (p3 key L (mid + m - 1)) lo hi s s) : Part key A B a m b s (mid + m - s) mid := by
  have h1 := hH.l1
  have h2 := hH.l3
  have hlen := t.am
  have hlen2 := t.mb
  have ra : a ≤ s ∧ s ≤ m ∧ m + s ≤ mid + m ∧ mid + m ≤ b + s := by rcases h with h | h <;> omega
  obtain ⟨r1, r2, r3, r4⟩ := ra
  -- the neighbours
  have up : ∀ k j, a ≤ k → k < s → mid + m - s ≤ j → j < b → ltK key (L.getD k 0) (L.getD j 0) := fun k j k1 k2 k3 k4 => by
    have hs : lo < s := by rcases h with h | h <;> omega
    have hp := hH.low (s - 1) (by omega) (by omega)
    unfold p3 at hp
    rw [Bool.not_eq_true', decide_eq_false_iff_not, show mid + m - 1 - (s - 1) = mid + m - s by omega] at hp
    have q1 := t.sa.le t.ascA (h := k) (k := s - 1) k1 (by omega) (by omega)
    have q2 := t.sb.le t.ascB (h := mid + m - s) (k := j) (by omega) k3 k4
    have q3 := t.st _ (t.sa.mem (h := k) k1 (by omega)) _ (t.sb.mem (h := j) (by omega) k4)
    unfold ltK; omega
  have dn : ∀ k j, m ≤ k → k < mid + m - s → s ≤ j → j < m → ltK key (L.getD k 0) (L.getD j 0) := fun k j k1 k2 k3 k4 => by
    have hs : s < hi := by rcases h with h | h <;> omega
    have hp := hH.high s (by omega) hs
    unfold p3 at hp
    rw [Bool.not_eq_false', decide_eq_true_iff, show mid + m - 1 - s = mid + m - s - 1 by omega] at hp
    have q1 := t.sa.le t.ascA (h := s) (k := j) (by omega) k3 k4
    have q2 := t.sb.le t.ascB (h := k) (k := mid + m - s - 1) k1 (by omega) (by omega)
    exact .inl (by omega)
  refine ⟨r1, r2, by omega, by omega, by omega, fun x hx y hy => ?_⟩
  rcases List.mem_append.1 hx with hx | hx
  · obtain ⟨k, k1, k2, k3, k4⟩ := t.sa.take hx
    rcases List.mem_append.1 hy with hy | hy
    · obtain ⟨j, j1, j2, j3⟩ := t.sa.drop hy
      rw [← k4, ← j3]
      exact t.sa.lt t.ascA k1 (by omega) j2
    · obtain ⟨j, j1, j2, j3⟩ := t.sb.drop hy
      rw [← k4, ← j3]
      exact up k j k1 (by omega) (by omega) j2
  · obtain ⟨k, k1, k2, k3, k4⟩ := t.sb.take hx
    rcases List.mem_append.1 hy with hy | hy
    · obtain ⟨j, j1, j2, j3⟩ := t.sa.drop hy
      rw [← k4, ← j3]
      exact dn k j k1 (by omega) (by omega) j2
    · obtain ⟨j, j1, j2, j3⟩ := t.sb.drop hy
      rw [← k4, ← j3]
      exact t.sb.lt t.ascB k1 (by omega) j2
theorem Asc.take {key : Nat → Int} {A : List Nat} (h : Asc key A) (n : Nat) : Asc key (A.take n) := List.Pairwise.sublist (List.take_sublist n A) h
theorem Asc.drop {key : Nat → Int} {A : List Nat} (h : Asc key A) (n : Nat) : Asc key (A.drop n) := List.Pairwise.sublist (List.drop_sublist n A) h
/-- both halves sorted, all is sorted -/
theorem Two.whole {key : Nat → Int} {L X A B Y : List Nat} {a m b s e mid : Nat} (t : Two key L X A B Y a m b) (p : Part key A B a m b s e mid) : srtK key (A ++ B) = srtK key (A.take (s - a) ++ B.take (e - m)) ++ srtK key (A.drop (s - a) ++ B.drop (e - m)) := by
  have nA := t.ascA.nodup
  have nB := t.ascB.nodup
  have dis : ∀ x ∈ A, ∀ y ∈ B, x ≠ y := fun x hx y hy h => by
    have := t.st x hx y hy
    subst h; exact Nat.lt_irrefl _ this
  have n1 : (A.take (s - a) ++ B.take (e - m)).Nodup := List.nodup_append.2 ⟨(t.ascA.take _).nodup, (t.ascB.take _).nodup, fun x hx y hy => dis x (List.mem_of_mem_take hx) y (List.mem_of_mem_take hy)⟩
  have n2 : (A.drop (s - a) ++ B.drop (e - m)).Nodup := List.nodup_append.2 ⟨(t.ascA.drop _).nodup, (t.ascB.drop _).nodup, fun x hx y hy => dis x (List.mem_of_mem_drop hx) y (List.mem_of_mem_drop hy)⟩
  refine srtK_eq ?_ (asc_app.2 ⟨srtK_asc n1, srtK_asc n2, fun x hx y hy => p.lt x (srtK_mem.1 hx) y (srtK_mem.1 hy)⟩)
  refine ((srtK_perm _ _).append (srtK_perm _ _)).trans ?_
  have e1 : A ++ B = (A.take (s - a) ++ A.drop (s - a)) ++ (B.take (e - m) ++ B.drop (e - m)) := by rw [List.take_append_drop, List.take_append_drop]
  rw [e1]
  simp only [List.append_assoc]
  refine List.Perm.append_left _ ?_
  rw [← List.append_assoc, ← List.append_assoc]
  exact List.Perm.append_right _ List.perm_append_comm
end Go.Proofs.Ytglfkchcmjmmlaa

namespace Go.Proofs.Ytglfkchcmjmmlaa
open Go.RowKit Go.Proofs.Ytglfkchcmjmmlaa.AM
set_option maxRecDepth 100000
set_option maxHeartbeats 4000000
noncomputable def body362 : Code := (Try.f57.body).getD .skip
def F362 : List Nat → Option (List Nat) := fun p => match p with
  | [1, 0] => some [0, 1, 2, 3, 4, 28]
  | [1, 0, 1, 0] => some [0, 1, 3, 4, 10]
  | [1, 1, 0, 1, 0] => some [0, 1, 4, 10, 11]
  | [1, 0, 0, 0, 0, 1, 1, 0, 1, 0] => some [0, 1, 4, 10, 11, 33]
  | [1, 1, 0, 0, 0, 0, 1, 1, 0, 1, 0] => some [0, 1, 4, 10]
  | [1, 0, 0, 0, 1, 1, 0, 1, 0] => some [0, 1, 4, 10, 11]
  | [1, 0, 1, 0, 0, 0, 1, 1, 0, 1, 0] => some [0, 1, 4, 10, 11, 12]
  | [1, 1, 0, 1, 0, 0, 0, 1, 1, 0, 1, 0] => some [0, 1, 4, 10, 11, 12, 50]
  | [1, 1, 1, 0, 1, 0] => some [0, 1, 4, 10]
  | [1, 0, 1, 1, 1, 0, 1, 0] => some [0, 4, 10, 13]
  | [1, 0, 0, 0, 1, 0, 1, 1, 1, 0, 1, 0] => some [0, 4, 10, 13, 58]
  | [1, 1, 0, 0, 0, 1, 0, 1, 1, 1, 0, 1, 0] => some [4]
  | [1, 0, 0, 1, 0, 1, 1, 1, 0, 1, 0] => some [0, 4, 10, 13]
  | [1, 1, 0, 0, 1, 0, 1, 1, 1, 0, 1, 0] => some [0, 4, 10, 13]
  | [1, 1, 1, 1, 0, 1, 0] => some [4]
  | [1] => some [0, 1, 2, 3, 4]
  | [1, 0, 1] => some [0, 1, 2, 3, 4, 80]
  | [1, 0, 1, 0, 1] => some [0, 2, 4, 14]
  | [1, 1, 0, 1, 0, 1] => some [0, 2, 4, 14, 15]
  | [1, 0, 0, 0, 0, 1, 1, 0, 1, 0, 1] => some [0, 2, 4, 14, 15, 85]
  | [1, 1, 0, 0, 0, 0, 1, 1, 0, 1, 0, 1] => some [0, 2, 4, 14]
  | [1, 0, 0, 0, 1, 1, 0, 1, 0, 1] => some [0, 2, 4, 14, 15]
  | [1, 0, 1, 0, 0, 0, 1, 1, 0, 1, 0, 1] => some [0, 2, 4, 14, 15, 16]
  | [1, 1, 0, 1, 0, 0, 0, 1, 1, 0, 1, 0, 1] => some [0, 2, 4, 14, 15, 16, 103]
  | [1, 1, 1, 0, 1, 0, 1] => some [0, 2, 4, 14]
  | [1, 0, 1, 1, 1, 0, 1, 0, 1] => some [0, 4, 14, 17]
  | [1, 0, 0, 0, 1, 0, 1, 1, 1, 0, 1, 0, 1] => some [0, 4, 14, 17, 110]
  | [1, 1, 0, 0, 0, 1, 0, 1, 1, 1, 0, 1, 0, 1] => some [4]
  | [1, 0, 0, 1, 0, 1, 1, 1, 0, 1, 0, 1] => some [0, 4, 14, 17]
  | [1, 1, 0, 0, 1, 0, 1, 1, 1, 0, 1, 0, 1] => some [0, 4, 14, 17]
  | [1, 1, 1, 1, 0, 1, 0, 1] => some [4]
  | [1, 1] => some [0, 1, 2, 3, 4]
  | [1, 1, 1] => some [0, 1, 2, 3, 4, 18]
  | [1, 1, 1, 1] => some [0, 1, 2, 3, 4, 18, 19]
  | [1, 1, 1, 1, 1] => some [0, 1, 2, 3, 4, 18, 19]
  | [1, 0, 1, 1, 1, 1, 1] => some [0, 1, 2, 3, 4, 18, 19, 140]
  | [1, 0, 1, 0, 1, 1, 1, 1, 1] => some [0, 1, 2, 3, 4, 18, 19, 20]
  | [1, 1, 1, 0, 1, 1, 1, 1, 1] => some [0, 1, 2, 3, 4, 18, 19, 20]
  | [1, 1, 1, 1, 1, 1] => some [0, 1, 2, 3, 4, 18, 19, 20, 21]
  | [1, 1, 1, 1, 1, 1, 1] => some [0, 1, 2, 3, 4, 18, 19, 20, 21, 22]
  | [1, 0, 0, 0, 0, 1, 1, 1, 1, 1, 1, 1] => some [0, 1, 2, 3, 4, 18, 19, 20, 21, 22, 151]
  | [1, 1, 0, 0, 0, 0, 1, 1, 1, 1, 1, 1, 1] => some [0, 1, 2, 3, 4, 18, 19, 20]
  | [1, 0, 0, 0, 1, 1, 1, 1, 1, 1, 1] => some [0, 1, 2, 3, 4, 18, 19, 20, 21, 22]
  | [1, 0, 1, 0, 0, 0, 1, 1, 1, 1, 1, 1, 1] => some [0, 1, 2, 3, 4, 18, 19, 20, 21, 22, 23]
  | [1, 1, 0, 1, 0, 0, 0, 1, 1, 1, 1, 1, 1, 1] => some [0, 1, 2, 3, 4, 18, 19, 20, 21, 22, 23, 171]
  | [1, 1, 1, 1, 1, 1, 1, 1] => some [0, 1, 2, 3, 4, 18, 19, 20]
  | [1, 1, 1, 1, 1, 1, 1, 1, 1] => some [0, 1, 2, 3, 4, 18, 20, 24]
  | [1, 0, 1, 1, 1, 1, 1, 1, 1, 1, 1] => some [0, 1, 2, 3, 4, 18, 20, 24, 185]
  | [1, 1, 1, 1, 1, 1, 1, 1, 1, 1] => some [1000000, 0, 1, 3, 4, 18, 20, 24]
  | [1, 0, 1, 1, 1, 1, 1, 1, 1, 1, 1, 1] => some [0, 1, 3, 4, 18, 20, 24, 199]
  | [1, 1, 1, 1, 1, 1, 1, 1, 1, 1, 1] => some [1000000, 0, 3, 4, 18, 24]
  | [1, 1, 1, 1, 1, 1, 1, 1, 1, 1, 1, 1] => some [0, 3, 4, 18, 24, 213]
  | _ => none
noncomputable def S362o : Book := bookW [(41, cmpW)] S0
noncomputable def Tb1 (sq : Option Nat) (d q : Nat) (a i j : Nat) : List Value := tmps 220 [(0, .slice (some ⟨0,0,sq⟩) d q), (1, .int .i64 a), (4, fnR), (10, .int .i64 i), (11, .int .i64 j)]

theorem rb1 (sq : Option Nat) (d q a i j : Nat) (cs : List Value) (sp : Option Nat) (n2 k2 : Nat) (fs : List Value) (own1 own2 : Bool) (K : Post) :
  roundX Try.prog S362o noLoop F362 body362 3 [1] [] [1] [] [0,1,4,10,11] [0,0,0,1,1,0,1,0] (Tb1 sq d q a i j) (hp (hS cs sp n2 k2 fs own1 own2)) K = (
Alt (ltI (↑i : Int) (↑j : Int))
  (Need (leI 0 (wr IntKind.i64 ((wr IntKind.u64 (wr IntKind.i64 ((↑i : Int) + (↑j : Int)))).fdiv 2)))
    (Need (ltI (wr IntKind.i64 ((wr IntKind.u64 (wr IntKind.i64 ((↑i : Int) + (↑j : Int)))).fdiv 2)) (↑d : Int))
      (Need
        (isInt IntKind.i64
          ((getO cs
                (0 +
                  (wr IntKind.i64 ((wr IntKind.u64 (wr IntKind.i64 ((↑i : Int) + (↑j : Int)))).fdiv 2)).toNat * 1)).getD
            undef))
        (Need (ltI (↑a : Int) (↑d : Int))
          (Need (isInt IntKind.i64 ((getO cs (0 + (↑a : Int).toNat * 1)).getD undef))
            ((nojL [Value.slice (some { block := 1, off := 0, spot := sp : Addr }) n2 k2] = true ∧ FlatL fs ∧ True) ∧
              (IsFv fs n2 ∧
                  PlIn
                    (intV
                      ((getO cs
                            (0 +
                              (wr IntKind.i64
                                    ((wr IntKind.u64 (wr IntKind.i64 ((↑i : Int) + (↑j : Int)))).fdiv 2)).toNat *
                                1)).getD
                        undef))
                    (intV ((getO cs (0 + (↑a : Int).toNat * 1)).getD undef)) n2) ∧
                Alt
                  (ltI
                    (cmpI
                      (rkAt fs
                        (intV
                            ((getO cs
                                  (0 +
                                    (wr IntKind.i64
                                          ((wr IntKind.u64 (wr IntKind.i64 ((↑i : Int) + (↑j : Int)))).fdiv 2)).toNat *
                                      1)).getD
                              undef)).toNat)
                      (rkAt fs (intV ((getO cs (0 + (↑a : Int).toNat * 1)).getD undef)).toNat))
                    0)
                  (K AE.normal
                    (tmps 220
                      [(0, Value.slice (some { block := 0, off := 0, spot := sq : Addr }) d q),
                        (1, Value.int IntKind.i64 (↑a : Int)),
                        (4, Value.func (Fn.func 41) #[] #[Value.pointer (some { block := 1, off := 0 : Addr })]),
                        (10,
                          Value.int IntKind.i64
                            (wr IntKind.i64
                              (wr IntKind.i64 ((wr IntKind.u64 (wr IntKind.i64 ((↑i : Int) + (↑j : Int)))).fdiv 2) +
                                1))),
                        (11, Value.int IntKind.i64 (↑j : Int))])
                    (hp
                      [Blk.cells cs 1 true,
                        Blk.cells [Value.slice (some { block := 2, off := 0, spot := sp : Addr }) n2 k2] 1 own1,
                        Blk.cells fs 1 own2]))
                  (K AE.normal
                    (tmps 220
                      [(0, Value.slice (some { block := 0, off := 0, spot := sq : Addr }) d q),
                        (1, Value.int IntKind.i64 (↑a : Int)),
                        (4, Value.func (Fn.func 41) #[] #[Value.pointer (some { block := 1, off := 0 : Addr })]),
                        (10, Value.int IntKind.i64 (↑i : Int)),
                        (11,
                          Value.int IntKind.i64
                            (wr IntKind.i64 ((wr IntKind.u64 (wr IntKind.i64 ((↑i : Int) + (↑j : Int)))).fdiv 2)))])
                    (hp
                      [Blk.cells cs 1 true,
                        Blk.cells [Value.slice (some { block := 2, off := 0, spot := sp : Addr }) n2 k2] 1 own1,
                        Blk.cells fs 1 own2]))))))))
  (K (AE.exit 0)
    (tmps 220
      [(0, Value.slice (some { block := 0, off := 0, spot := sq : Addr }) d q), (1, Value.int IntKind.i64 (↑a : Int)),
        (4, Value.func (Fn.func 41) #[] #[Value.pointer (some { block := 1, off := 0 : Addr })]),
        (10, Value.int IntKind.i64 (↑i : Int))])
    (hp
      [Blk.cells cs 1 true, Blk.cells [Value.slice (some { block := 2, off := 0, spot := sp : Addr }) n2 k2] 1 own1,
        Blk.cells fs 1 own2]))) := by kernel_rfl

noncomputable def Tk1 (sq : Option Nat) (d q : Nat) (i k : Nat) : List Value := tmps 220 [(0, .slice (some ⟨0,0,sq⟩) d q), (4, fnR), (10, .int .i64 i), (13, .int .i64 k)]

theorem rk1 (sq : Option Nat) (d q i k : Nat) (cs : List Value) (sp : Option Nat) (n2 k2 : Nat) (fs : List Value) (own1 own2 : Bool) (K : Post) :
  roundX Try.prog S362o noLoop F362 body362 3 [1] [] [1] [] [0,4,10,13] [0,0,1,0,1,1,1,0,1,0] (Tk1 sq d q i k) (hp (hS cs sp n2 k2 fs own1 own2)) K = (
Alt (ltI (↑k : Int) (wr IntKind.i64 ((↑i : Int) - 1)))
  (Need (leI 0 (wr IntKind.i64 ((↑k : Int) + 1)))
    (Need (ltI (wr IntKind.i64 ((↑k : Int) + 1)) (↑d : Int))
      (Need (isInt IntKind.i64 ((getO cs (0 + (wr IntKind.i64 ((↑k : Int) + 1)).toNat * 1)).getD undef))
        (Need (ltI (↑k : Int) (↑d : Int))
          (Need (isInt IntKind.i64 ((getO cs (0 + (↑k : Int).toNat * 1)).getD undef))
            (Need (ltI (↑k : Int) (↑d : Int))
              (Need (leN (0 + (↑k : Int).toNat * 1 + 1) cs.length)
                (Need (leI 0 (wr IntKind.i64 ((↑k : Int) + 1)))
                  (Need (ltI (wr IntKind.i64 ((↑k : Int) + 1)) (↑d : Int))
                    (Need
                      (leN (0 + (wr IntKind.i64 ((↑k : Int) + 1)).toNat * 1 + 1)
                        (setAll cs (0 + (↑k : Int).toNat * 1)
                            [Value.int IntKind.i64
                                (intV
                                  ((getO cs (0 + (wr IntKind.i64 ((↑k : Int) + 1)).toNat * 1)).getD undef))]).length)
                      (Need
                        (beqV 64 (Value.int IntKind.i64 (wr IntKind.i64 ((↑k : Int) + 1)))
                          (Value.int IntKind.i64 (wr IntKind.i64 ((↑k : Int) + 1))))
                        (Need (beqV 64 (Value.int IntKind.i64 (↑k : Int)) (Value.int IntKind.i64 (↑k : Int)))
                          (Need
                            (beqV 64 (Value.slice (some { block := 0, off := 0, spot := sq : Addr }) d q)
                              (Value.slice (some { block := 0, off := 0, spot := sq : Addr }) d q))
                            (K AE.normal
                              (tmps 220
                                [(0, Value.slice (some { block := 0, off := 0, spot := sq : Addr }) d q),
                                  (4,
                                    Value.func (Fn.func 41) #[]
                                      #[Value.pointer (some { block := 1, off := 0 : Addr })]),
                                  (10, Value.int IntKind.i64 (↑i : Int)),
                                  (13, Value.int IntKind.i64 (wr IntKind.i64 ((↑k : Int) + 1)))])
                              (hp
                                [Blk.cells
                                    (setAll
                                      (setAll cs (0 + (↑k : Int).toNat * 1)
                                        [Value.int IntKind.i64
                                            (intV
                                              ((getO cs (0 + (wr IntKind.i64 ((↑k : Int) + 1)).toNat * 1)).getD
                                                undef))])
                                      (0 + (wr IntKind.i64 ((↑k : Int) + 1)).toNat * 1)
                                      [Value.int IntKind.i64 (intV ((getO cs (0 + (↑k : Int).toNat * 1)).getD undef))])
                                    1 true,
                                  Blk.cells [Value.slice (some { block := 2, off := 0, spot := sp : Addr }) n2 k2] 1
                                    own1,
                                  Blk.cells fs 1 own2])))))))))))))))
  (K (AE.exit 2) (tmps 220 [(4, Value.func (Fn.func 41) #[] #[Value.pointer (some { block := 1, off := 0 : Addr })])])
    (hp
      [Blk.cells cs 1 true, Blk.cells [Value.slice (some { block := 2, off := 0, spot := sp : Addr }) n2 k2] 1 own1,
        Blk.cells fs 1 own2]))) := by kernel_rfl

noncomputable def Tb2 (sq : Option Nat) (d q : Nat) (m i j : Nat) : List Value := tmps 220 [(0, .slice (some ⟨0,0,sq⟩) d q), (2, .int .i64 m), (4, fnR), (14, .int .i64 i), (15, .int .i64 j)]

theorem rb2 (sq : Option Nat) (d q m i j : Nat) (cs : List Value) (sp : Option Nat) (n2 k2 : Nat) (fs : List Value) (own1 own2 : Bool) (K : Post) :
  roundX Try.prog S362o noLoop F362 body362 3 [1] [] [1] [] [0,2,4,14,15] [0,0,0,1,1,0,1,0,1] (Tb2 sq d q m i j) (hp (hS cs sp n2 k2 fs own1 own2)) K = (
Alt (ltI (↑i : Int) (↑j : Int))
  (Need (ltI (↑m : Int) (↑d : Int))
    (Need (isInt IntKind.i64 ((getO cs (0 + (↑m : Int).toNat * 1)).getD undef))
      (Need (leI 0 (wr IntKind.i64 ((wr IntKind.u64 (wr IntKind.i64 ((↑i : Int) + (↑j : Int)))).fdiv 2)))
        (Need (ltI (wr IntKind.i64 ((wr IntKind.u64 (wr IntKind.i64 ((↑i : Int) + (↑j : Int)))).fdiv 2)) (↑d : Int))
          (Need
            (isInt IntKind.i64
              ((getO cs
                    (0 +
                      (wr IntKind.i64 ((wr IntKind.u64 (wr IntKind.i64 ((↑i : Int) + (↑j : Int)))).fdiv 2)).toNat *
                        1)).getD
                undef))
            ((nojL [Value.slice (some { block := 1, off := 0, spot := sp : Addr }) n2 k2] = true ∧ FlatL fs ∧ True) ∧
              (IsFv fs n2 ∧
                  PlIn (intV ((getO cs (0 + (↑m : Int).toNat * 1)).getD undef))
                    (intV
                      ((getO cs
                            (0 +
                              (wr IntKind.i64
                                    ((wr IntKind.u64 (wr IntKind.i64 ((↑i : Int) + (↑j : Int)))).fdiv 2)).toNat *
                                1)).getD
                        undef))
                    n2) ∧
                Alt
                  (!ltI
                      (cmpI (rkAt fs (intV ((getO cs (0 + (↑m : Int).toNat * 1)).getD undef)).toNat)
                        (rkAt fs
                          (intV
                              ((getO cs
                                    (0 +
                                      (wr IntKind.i64
                                            ((wr IntKind.u64 (wr IntKind.i64 ((↑i : Int) + (↑j : Int)))).fdiv
                                              2)).toNat *
                                        1)).getD
                                undef)).toNat))
                      0)
                  (K AE.normal
                    (tmps 220
                      [(0, Value.slice (some { block := 0, off := 0, spot := sq : Addr }) d q),
                        (2, Value.int IntKind.i64 (↑m : Int)),
                        (4, Value.func (Fn.func 41) #[] #[Value.pointer (some { block := 1, off := 0 : Addr })]),
                        (14,
                          Value.int IntKind.i64
                            (wr IntKind.i64
                              (wr IntKind.i64 ((wr IntKind.u64 (wr IntKind.i64 ((↑i : Int) + (↑j : Int)))).fdiv 2) +
                                1))),
                        (15, Value.int IntKind.i64 (↑j : Int))])
                    (hp
                      [Blk.cells cs 1 true,
                        Blk.cells [Value.slice (some { block := 2, off := 0, spot := sp : Addr }) n2 k2] 1 own1,
                        Blk.cells fs 1 own2]))
                  (K AE.normal
                    (tmps 220
                      [(0, Value.slice (some { block := 0, off := 0, spot := sq : Addr }) d q),
                        (2, Value.int IntKind.i64 (↑m : Int)),
                        (4, Value.func (Fn.func 41) #[] #[Value.pointer (some { block := 1, off := 0 : Addr })]),
                        (14, Value.int IntKind.i64 (↑i : Int)),
                        (15,
                          Value.int IntKind.i64
                            (wr IntKind.i64 ((wr IntKind.u64 (wr IntKind.i64 ((↑i : Int) + (↑j : Int)))).fdiv 2)))])
                    (hp
                      [Blk.cells cs 1 true,
                        Blk.cells [Value.slice (some { block := 2, off := 0, spot := sp : Addr }) n2 k2] 1 own1,
                        Blk.cells fs 1 own2]))))))))
  (K (AE.exit 4)
    (tmps 220
      [(0, Value.slice (some { block := 0, off := 0, spot := sq : Addr }) d q), (2, Value.int IntKind.i64 (↑m : Int)),
        (4, Value.func (Fn.func 41) #[] #[Value.pointer (some { block := 1, off := 0 : Addr })]),
        (14, Value.int IntKind.i64 (↑i : Int))])
    (hp
      [Blk.cells cs 1 true, Blk.cells [Value.slice (some { block := 2, off := 0, spot := sp : Addr }) n2 k2] 1 own1,
        Blk.cells fs 1 own2]))) := by kernel_rfl

noncomputable def Tk2 (sq : Option Nat) (d q : Nat) (i k : Nat) : List Value := tmps 220 [(0, .slice (some ⟨0,0,sq⟩) d q), (4, fnR), (14, .int .i64 i), (17, .int .i64 k)]

theorem rk2 (sq : Option Nat) (d q i k : Nat) (cs : List Value) (sp : Option Nat) (n2 k2 : Nat) (fs : List Value) (own1 own2 : Bool) (K : Post) :
  roundX Try.prog S362o noLoop F362 body362 3 [1] [] [1] [] [0,4,14,17] [0,0,1,0,1,1,1,0,1,0,1] (Tk2 sq d q i k) (hp (hS cs sp n2 k2 fs own1 own2)) K = (
Alt (ltI (↑i : Int) (↑k : Int))
  (Need (leI 0 (wr IntKind.i64 ((↑k : Int) - 1)))
    (Need (ltI (wr IntKind.i64 ((↑k : Int) - 1)) (↑d : Int))
      (Need (isInt IntKind.i64 ((getO cs (0 + (wr IntKind.i64 ((↑k : Int) - 1)).toNat * 1)).getD undef))
        (Need (ltI (↑k : Int) (↑d : Int))
          (Need (isInt IntKind.i64 ((getO cs (0 + (↑k : Int).toNat * 1)).getD undef))
            (Need (ltI (↑k : Int) (↑d : Int))
              (Need (leN (0 + (↑k : Int).toNat * 1 + 1) cs.length)
                (Need (leI 0 (wr IntKind.i64 ((↑k : Int) - 1)))
                  (Need (ltI (wr IntKind.i64 ((↑k : Int) - 1)) (↑d : Int))
                    (Need
                      (leN (0 + (wr IntKind.i64 ((↑k : Int) - 1)).toNat * 1 + 1)
                        (setAll cs (0 + (↑k : Int).toNat * 1)
                            [Value.int IntKind.i64
                                (intV
                                  ((getO cs (0 + (wr IntKind.i64 ((↑k : Int) - 1)).toNat * 1)).getD undef))]).length)
                      (Need
                        (beqV 64 (Value.int IntKind.i64 (wr IntKind.i64 ((↑k : Int) - 1)))
                          (Value.int IntKind.i64 (wr IntKind.i64 ((↑k : Int) - 1))))
                        (Need (beqV 64 (Value.int IntKind.i64 (↑k : Int)) (Value.int IntKind.i64 (↑k : Int)))
                          (Need
                            (beqV 64 (Value.slice (some { block := 0, off := 0, spot := sq : Addr }) d q)
                              (Value.slice (some { block := 0, off := 0, spot := sq : Addr }) d q))
                            (K AE.normal
                              (tmps 220
                                [(0, Value.slice (some { block := 0, off := 0, spot := sq : Addr }) d q),
                                  (4,
                                    Value.func (Fn.func 41) #[]
                                      #[Value.pointer (some { block := 1, off := 0 : Addr })]),
                                  (14, Value.int IntKind.i64 (↑i : Int)),
                                  (17, Value.int IntKind.i64 (wr IntKind.i64 ((↑k : Int) - 1)))])
                              (hp
                                [Blk.cells
                                    (setAll
                                      (setAll cs (0 + (↑k : Int).toNat * 1)
                                        [Value.int IntKind.i64
                                            (intV
                                              ((getO cs (0 + (wr IntKind.i64 ((↑k : Int) - 1)).toNat * 1)).getD
                                                undef))])
                                      (0 + (wr IntKind.i64 ((↑k : Int) - 1)).toNat * 1)
                                      [Value.int IntKind.i64 (intV ((getO cs (0 + (↑k : Int).toNat * 1)).getD undef))])
                                    1 true,
                                  Blk.cells [Value.slice (some { block := 2, off := 0, spot := sp : Addr }) n2 k2] 1
                                    own1,
                                  Blk.cells fs 1 own2])))))))))))))))
  (K (AE.exit 6) (tmps 220 [(4, Value.func (Fn.func 41) #[] #[Value.pointer (some { block := 1, off := 0 : Addr })])])
    (hp
      [Blk.cells cs 1 true, Blk.cells [Value.slice (some { block := 2, off := 0, spot := sp : Addr }) n2 k2] 1 own1,
        Blk.cells fs 1 own2]))) := by kernel_rfl

noncomputable def Tb3 (sq : Option Nat) (d q : Nat) (a m b mid n st r p : Nat) : List Value := tmps 220 [(0, .slice (some ⟨0,0,sq⟩) d q), (1, .int .i64 a), (2, .int .i64 m), (3, .int .i64 b), (4, fnR), (18, .int .i64 mid), (19, .int .i64 n), (20, .int .i64 st), (21, .int .i64 r), (22, .int .i64 p)]

theorem rb3 (sq : Option Nat) (d q a m b mid n st r p : Nat) (cs : List Value) (sp : Option Nat) (n2 k2 : Nat) (fs : List Value) (own1 own2 : Bool) (K : Post) :
  roundX Try.prog S362o noLoop F362 body362 3 [1] [] [1] [] [0,1,2,3,4,18,19,20,21,22] [0,0,0,1,1,1,1,1,1,1] (Tb3 sq d q a m b mid n st r p) (hp (hS cs sp n2 k2 fs own1 own2)) K = (
Alt (ltI (↑st : Int) (↑r : Int))
  (Need
    (leI 0
      (wr IntKind.i64
        ((↑p : Int) - wr IntKind.i64 ((wr IntKind.u64 (wr IntKind.i64 ((↑st : Int) + (↑r : Int)))).fdiv 2))))
    (Need
      (ltI
        (wr IntKind.i64
          ((↑p : Int) - wr IntKind.i64 ((wr IntKind.u64 (wr IntKind.i64 ((↑st : Int) + (↑r : Int)))).fdiv 2)))
        (↑d : Int))
      (Need
        (isInt IntKind.i64
          ((getO cs
                (0 +
                  (wr IntKind.i64
                        ((↑p : Int) -
                          wr IntKind.i64 ((wr IntKind.u64 (wr IntKind.i64 ((↑st : Int) + (↑r : Int)))).fdiv 2))).toNat *
                    1)).getD
            undef))
        (Need (leI 0 (wr IntKind.i64 ((wr IntKind.u64 (wr IntKind.i64 ((↑st : Int) + (↑r : Int)))).fdiv 2)))
          (Need (ltI (wr IntKind.i64 ((wr IntKind.u64 (wr IntKind.i64 ((↑st : Int) + (↑r : Int)))).fdiv 2)) (↑d : Int))
            (Need
              (isInt IntKind.i64
                ((getO cs
                      (0 +
                        (wr IntKind.i64 ((wr IntKind.u64 (wr IntKind.i64 ((↑st : Int) + (↑r : Int)))).fdiv 2)).toNat *
                          1)).getD
                  undef))
              ((nojL [Value.slice (some { block := 1, off := 0, spot := sp : Addr }) n2 k2] = true ∧ FlatL fs ∧ True) ∧
                (IsFv fs n2 ∧
                    PlIn
                      (intV
                        ((getO cs
                              (0 +
                                (wr IntKind.i64
                                      ((↑p : Int) -
                                        wr IntKind.i64
                                          ((wr IntKind.u64 (wr IntKind.i64 ((↑st : Int) + (↑r : Int)))).fdiv
                                            2))).toNat *
                                  1)).getD
                          undef))
                      (intV
                        ((getO cs
                              (0 +
                                (wr IntKind.i64
                                      ((wr IntKind.u64 (wr IntKind.i64 ((↑st : Int) + (↑r : Int)))).fdiv 2)).toNat *
                                  1)).getD
                          undef))
                      n2) ∧
                  Alt
                    (!ltI
                        (cmpI
                          (rkAt fs
                            (intV
                                ((getO cs
                                      (0 +
                                        (wr IntKind.i64
                                              ((↑p : Int) -
                                                wr IntKind.i64
                                                  ((wr IntKind.u64 (wr IntKind.i64 ((↑st : Int) + (↑r : Int)))).fdiv
                                                    2))).toNat *
                                          1)).getD
                                  undef)).toNat)
                          (rkAt fs
                            (intV
                                ((getO cs
                                      (0 +
                                        (wr IntKind.i64
                                              ((wr IntKind.u64 (wr IntKind.i64 ((↑st : Int) + (↑r : Int)))).fdiv
                                                2)).toNat *
                                          1)).getD
                                  undef)).toNat))
                        0)
                    (K AE.normal
                      (tmps 220
                        [(0, Value.slice (some { block := 0, off := 0, spot := sq : Addr }) d q),
                          (1, Value.int IntKind.i64 (↑a : Int)), (2, Value.int IntKind.i64 (↑m : Int)),
                          (3, Value.int IntKind.i64 (↑b : Int)),
                          (4, Value.func (Fn.func 41) #[] #[Value.pointer (some { block := 1, off := 0 : Addr })]),
                          (18, Value.int IntKind.i64 (↑mid : Int)), (19, Value.int IntKind.i64 (↑n : Int)),
                          (20,
                            Value.int IntKind.i64
                              (wr IntKind.i64
                                (wr IntKind.i64 ((wr IntKind.u64 (wr IntKind.i64 ((↑st : Int) + (↑r : Int)))).fdiv 2) +
                                  1))),
                          (21, Value.int IntKind.i64 (↑r : Int)), (22, Value.int IntKind.i64 (↑p : Int))])
                      (hp
                        [Blk.cells cs 1 true,
                          Blk.cells [Value.slice (some { block := 2, off := 0, spot := sp : Addr }) n2 k2] 1 own1,
                          Blk.cells fs 1 own2]))
                    (K AE.normal
                      (tmps 220
                        [(0, Value.slice (some { block := 0, off := 0, spot := sq : Addr }) d q),
                          (1, Value.int IntKind.i64 (↑a : Int)), (2, Value.int IntKind.i64 (↑m : Int)),
                          (3, Value.int IntKind.i64 (↑b : Int)),
                          (4, Value.func (Fn.func 41) #[] #[Value.pointer (some { block := 1, off := 0 : Addr })]),
                          (18, Value.int IntKind.i64 (↑mid : Int)), (19, Value.int IntKind.i64 (↑n : Int)),
                          (20, Value.int IntKind.i64 (↑st : Int)),
                          (21,
                            Value.int IntKind.i64
                              (wr IntKind.i64 ((wr IntKind.u64 (wr IntKind.i64 ((↑st : Int) + (↑r : Int)))).fdiv 2))),
                          (22, Value.int IntKind.i64 (↑p : Int))])
                      (hp
                        [Blk.cells cs 1 true,
                          Blk.cells [Value.slice (some { block := 2, off := 0, spot := sp : Addr }) n2 k2] 1 own1,
                          Blk.cells fs 1 own2])))))))))
  (K (AE.exit 8)
    (tmps 220
      [(0, Value.slice (some { block := 0, off := 0, spot := sq : Addr }) d q), (1, Value.int IntKind.i64 (↑a : Int)),
        (2, Value.int IntKind.i64 (↑m : Int)), (3, Value.int IntKind.i64 (↑b : Int)),
        (4, Value.func (Fn.func 41) #[] #[Value.pointer (some { block := 1, off := 0 : Addr })]),
        (18, Value.int IntKind.i64 (↑mid : Int)), (19, Value.int IntKind.i64 (↑n : Int)),
        (20, Value.int IntKind.i64 (↑st : Int))])
    (hp
      [Blk.cells cs 1 true, Blk.cells [Value.slice (some { block := 2, off := 0, spot := sp : Addr }) n2 k2] 1 own1,
        Blk.cells fs 1 own2]))) := by kernel_rfl

end Go.Proofs.Ytglfkchcmjmmlaa

namespace Go.Proofs.Ytglfkchcmjmmlaa
open Go.RowKit Go.Proofs.Ytglfkchcmjmmlaa.AM
set_option maxRecDepth 100000
set_option maxHeartbeats 4000000

theorem sure362o (hm : Try.prog.follows .mixedOrders = true) : Sure Try.prog S362o := ⟨hm, plain, bookW_ok sums0 (l := [(41, cmpW)]) ⟨cmp_says hm, trivial⟩⟩
theorem half (i j : Nat) (h : i + j ≤ 10000000) : wr .i64 ((wr .u64 (wr .i64 ((i : Int) + (j : Int)))).fdiv 2) = (((i + j) / 2 : Nat) : Int) := by
  rw [wra i j h, wr_u64 _ (by omega) (by omega), Int.fdiv_eq_ediv_of_nonneg _ (by decide)]
  rw [show ((i + j : Nat) : Int) / 2 = (((i + j) / 2 : Nat) : Int) by omega, wrn _ (by omega)]
theorem b1_loop (hm : Try.prog.follows .mixedOrders = true) (sq : Option Nat) (d q a lo hi : Nat) (sp : Option Nat) (n2 k2 : Nat) (fs : List Value) (own1 own2 : Bool) (hv : IsFv fs n2) (L : List Nat) (hL : L.length = d) (hd : d ≤ 1000000) (hn : ∀ x ∈ L, x < n2) (had : a < d) (hhi : hi ≤ d) (hmo : MonoP (p1 (rkAt fs) L a) lo hi) (K : Post) (hK : ∀ i, Half (p1 (rkAt fs) L a) lo hi i i → K (.exit 0) (tmps 220 [(0, .slice (some ⟨0,0,sq⟩) d q), (1, .int .i64 a), (4, fnR), (10, .int .i64 i)]) (hp (hS (pC L) sp n2 k2 fs own1 own2))) :
    ∀ (t i j : Nat), j - i ≤ t → Half (p1 (rkAt fs) L a) lo hi i j → LSays Try.prog 3 (sub body362 [0,0,0,1,1,0,1,0]) (Tb1 sq d q a i j) (hp (hS (pC L) sp n2 k2 fs own1 own2)) K := by
  have hin : ∀ z, z < d → L.getD z 0 < n2 := fun z hz => by
    rw [List.getD_eq_getElem?_getD, List.getElem?_eq_getElem (by omega)]
    exact hn _ (List.getElem_mem (by omega))
  intro t
  induction t with
  | zero =>
    intro i j ht hH
    have h2 := hH.l2
    refine (sure362o hm).roundX F362 noLoops [1] [] [1] [] [0,1,4,10,11] ?_
    rw [rb1, ltF (show ¬ (i : Int) < (j : Int) by omega), alt_f]
    obtain rfl : i = j := by omega
    exact ⟨hS_flat hv, hK i hH⟩
  | succ t ih =>
    intro i j ht hH
    have h2 := hH.l2
    have h3 := hH.l3
    refine (sure362o hm).roundX F362 noLoops [1] [] [1] [] [0,1,4,10,11] ?_
    rw [rb1]
    by_cases hij : i < j
    · have g1 := pC_get (L := L) (i := (i + j) / 2) (by omega)
      have g2 := pC_get (L := L) (i := a) (by omega)
      simp only [half i j (by omega), wra1 _ (show (i + j) / 2 ≤ 1000000 by omega), Int.toNat_natCast, Nat.zero_add, Nat.mul_one, g1, g2, Option.getD_some, isInt, intV, kindEq, ltT (show (i : Int) < (j : Int) by omega), ltT (show (((i + j) / 2 : Nat) : Int) < (d : Int) by omega), ltT (show (a : Int) < (d : Int) by omega), le0, cmpI_lt, need_t, alt_t]
      have b1 := hin ((i + j) / 2) (by omega)
      have b2 := hin a had
      refine ⟨⟨rfl, hv.flat, trivial⟩, ⟨hv, ⟨by omega, by omega, by omega, by omega⟩⟩, ?_⟩
      have hpe : p1 (rkAt fs) L a ((i + j) / 2) = decide (rkAt fs (L.getD ((i + j) / 2) 0) < rkAt fs (L.getD a 0)) := rfl
      rw [← hpe]
      cases hp : p1 (rkAt fs) L a ((i + j) / 2) with
      | true => exact (alt_t _ _).symm ▸ ⟨hS_flat hv, ih _ _ (by omega) (hH.up hmo hij hp)⟩
      | false => exact (alt_f _ _).symm ▸ ⟨hS_flat hv, ih _ _ (by omega) (hH.down hmo hij hp)⟩
    · rw [ltF (show ¬ (i : Int) < (j : Int) by omega), alt_f]
      obtain rfl : i = j := by omega
      exact ⟨hS_flat hv, hK i hH⟩
theorem b2_loop (hm : Try.prog.follows .mixedOrders = true) (sq : Option Nat) (d q m lo hi : Nat) (sp : Option Nat) (n2 k2 : Nat) (fs : List Value) (own1 own2 : Bool) (hv : IsFv fs n2) (L : List Nat) (hL : L.length = d) (hd : d ≤ 1000000) (hn : ∀ x ∈ L, x < n2) (had : m < d) (hhi : hi ≤ d) (hmo : MonoP (p2 (rkAt fs) L m) lo hi) (K : Post) (hK : ∀ i, Half (p2 (rkAt fs) L m) lo hi i i → K (.exit 4) (tmps 220 [(0, .slice (some ⟨0,0,sq⟩) d q), (2, .int .i64 m), (4, fnR), (14, .int .i64 i)]) (hp (hS (pC L) sp n2 k2 fs own1 own2))) :
    ∀ (t i j : Nat), j - i ≤ t → Half (p2 (rkAt fs) L m) lo hi i j → LSays Try.prog 3 (sub body362 [0,0,0,1,1,0,1,0,1]) (Tb2 sq d q m i j) (hp (hS (pC L) sp n2 k2 fs own1 own2)) K := by
  have hin : ∀ z, z < d → L.getD z 0 < n2 := fun z hz => by
    rw [List.getD_eq_getElem?_getD, List.getElem?_eq_getElem (by omega)]
    exact hn _ (List.getElem_mem (by omega))
  intro t
  induction t with
  | zero =>
    intro i j ht hH
    have h2 := hH.l2
    refine (sure362o hm).roundX F362 noLoops [1] [] [1] [] [0,2,4,14,15] ?_
    rw [rb2, ltF (show ¬ (i : Int) < (j : Int) by omega), alt_f]
    obtain rfl : i = j := by omega
    exact ⟨hS_flat hv, hK i hH⟩
  | succ t ih =>
    intro i j ht hH
    have h2 := hH.l2
    have h3 := hH.l3
    refine (sure362o hm).roundX F362 noLoops [1] [] [1] [] [0,2,4,14,15] ?_
    rw [rb2]
    by_cases hij : i < j
    · have g1 := pC_get (L := L) (i := (i + j) / 2) (by omega)
      have g2 := pC_get (L := L) (i := m) (by omega)
      simp only [half i j (by omega), wra1 _ (show (i + j) / 2 ≤ 1000000 by omega), Int.toNat_natCast, Nat.zero_add, Nat.mul_one, g1, g2, Option.getD_some, isInt, intV, kindEq, ltT (show (i : Int) < (j : Int) by omega), ltT (show (((i + j) / 2 : Nat) : Int) < (d : Int) by omega), ltT (show (m : Int) < (d : Int) by omega), le0, cmpI_lt, need_t, alt_t]
      have b1 := hin ((i + j) / 2) (by omega)
      have b2 := hin m had
      refine ⟨⟨rfl, hv.flat, trivial⟩, ⟨hv, ⟨by omega, by omega, by omega, by omega⟩⟩, ?_⟩
      have hpe : p2 (rkAt fs) L m ((i + j) / 2) = !decide (rkAt fs (L.getD m 0) < rkAt fs (L.getD ((i + j) / 2) 0)) := rfl
      rw [← hpe]
      cases hp : p2 (rkAt fs) L m ((i + j) / 2) with
      | true => exact (alt_t _ _).symm ▸ ⟨hS_flat hv, ih _ _ (by omega) (hH.up hmo hij hp)⟩
      | false => exact (alt_f _ _).symm ▸ ⟨hS_flat hv, ih _ _ (by omega) (hH.down hmo hij hp)⟩
    · rw [ltF (show ¬ (i : Int) < (j : Int) by omega), alt_f]
      obtain rfl : i = j := by omega
      exact ⟨hS_flat hv, hK i hH⟩
theorem b3_loop (hm : Try.prog.follows .mixedOrders = true) (sq : Option Nat) (d q a m b mid n p lo hi : Nat) (sp : Option Nat) (n2 k2 : Nat) (fs : List Value) (own1 own2 : Bool) (hv : IsFv fs n2) (L : List Nat) (hL : L.length = d) (hd : d ≤ 1000000) (hn : ∀ x ∈ L, x < n2) (hpd : p < d + lo) (hph : hi ≤ p + 1) (hhi : hi ≤ d) (hmo : MonoP (p3 (rkAt fs) L p) lo hi) (K : Post) (hK : ∀ i, Half (p3 (rkAt fs) L p) lo hi i i → K (.exit 8) (tmps 220 [(0, .slice (some ⟨0,0,sq⟩) d q), (1, .int .i64 a), (2, .int .i64 m), (3, .int .i64 b), (4, fnR), (18, .int .i64 mid), (19, .int .i64 n), (20, .int .i64 i)]) (hp (hS (pC L) sp n2 k2 fs own1 own2))) :
    ∀ (t i j : Nat), j - i ≤ t → Half (p3 (rkAt fs) L p) lo hi i j → LSays Try.prog 3 (sub body362 [0,0,0,1,1,1,1,1,1,1]) (Tb3 sq d q a m b mid n i j p) (hp (hS (pC L) sp n2 k2 fs own1 own2)) K := by
  have hin : ∀ z, z < d → L.getD z 0 < n2 := fun z hz => by
    rw [List.getD_eq_getElem?_getD, List.getElem?_eq_getElem (by omega)]
    exact hn _ (List.getElem_mem (by omega))
  intro t
  induction t with
  | zero =>
    intro i j ht hH
    have h1 := hH.l1
    have h2 := hH.l2
    refine (sure362o hm).roundX F362 noLoops [1] [] [1] [] [0,1,2,3,4,18,19,20,21,22] ?_
    rw [rb3, ltF (show ¬ (i : Int) < (j : Int) by omega), alt_f]
    obtain rfl : i = j := by omega
    exact ⟨hS_flat hv, hK i hH⟩
  | succ t ih =>
    intro i j ht hH
    have h1 := hH.l1
    have h2 := hH.l2
    have h3 := hH.l3
    refine (sure362o hm).roundX F362 noLoops [1] [] [1] [] [0,1,2,3,4,18,19,20,21,22] ?_
    rw [rb3]
    by_cases hij : i < j
    · have g1 := pC_get (L := L) (i := (i + j) / 2) (by omega)
      have g2 := pC_get (L := L) (i := p - (i + j) / 2) (by omega)
      simp only [half i j (by omega), wrs p ((i + j) / 2) (by omega) (by omega), wra1 _ (show (i + j) / 2 ≤ 1000000 by omega), Int.toNat_natCast, Nat.zero_add, Nat.mul_one, g1, g2, Option.getD_some, isInt, intV, kindEq, ltT (show (i : Int) < (j : Int) by omega), ltT (show (((i + j) / 2 : Nat) : Int) < (d : Int) by omega), ltT (show ((p - (i + j) / 2 : Nat) : Int) < (d : Int) by omega), le0, cmpI_lt, need_t, alt_t]
      have b1 := hin ((i + j) / 2) (by omega)
      have b2 := hin (p - (i + j) / 2) (by omega)
      refine ⟨⟨rfl, hv.flat, trivial⟩, ⟨hv, ⟨by omega, by omega, by omega, by omega⟩⟩, ?_⟩
      have hpe : p3 (rkAt fs) L p ((i + j) / 2) = !decide (rkAt fs (L.getD (p - (i + j) / 2) 0) < rkAt fs (L.getD ((i + j) / 2) 0)) := rfl
      rw [← hpe]
      cases hp : p3 (rkAt fs) L p ((i + j) / 2) with
      | true => exact (alt_t _ _).symm ▸ ⟨hS_flat hv, ih _ _ (by omega) (hH.up hmo hij hp)⟩
      | false => exact (alt_f _ _).symm ▸ ⟨hS_flat hv, ih _ _ (by omega) (hH.down hmo hij hp)⟩
    · rw [ltF (show ¬ (i : Int) < (j : Int) by omega), alt_f]
      obtain rfl : i = j := by omega
      exact ⟨hS_flat hv, hK i hH⟩
theorem k1_loop (hm : Try.prog.follows .mixedOrders = true) (sq : Option Nat) (d q i : Nat) (sp : Option Nat) (n2 k2 : Nat) (fs : List Value) (own1 own2 : Bool) (hv : IsFv fs n2) (hd : d ≤ 1000000) (x : Nat) (Z : List Nat) (hi : 1 ≤ i) (G : List Nat) (K : Post) (hK : K (.exit 2) (tmps 220 [(4, fnR)]) (hp (hS (pC G) sp n2 k2 fs own1 own2))) :
    ∀ (B P : List Nat), P.length + B.length + 1 = i → P.length + (1 + (B.length + Z.length)) = d → G = P ++ (B ++ x :: Z) → LSays Try.prog 3 (sub body362 [0,0,1,0,1,1,1,0,1,0]) (Tk1 sq d q i P.length) (hp (hS (pC (P ++ x :: (B ++ Z))) sp n2 k2 fs own1 own2)) K := by
  intro B
  induction B with
  | nil =>
    intro P hP hl hG
    refine (sure362o hm).roundX F362 noLoops [1] [] [1] [] [0,4,10,13] ?_
    simp only [List.length_nil] at hP hl
    rw [rk1, wrs1 i hi (by omega), ltF (show ¬ (P.length : Int) < ((i - 1 : Nat) : Int) by omega), alt_f]
    rw [show P ++ x :: ([] ++ Z) = G by rw [hG]; simp]
    exact ⟨hS_flat hv, hK⟩
  | cons y B ih =>
    intro P hP hl hG
    simp only [List.length_cons] at hP hl
    have hlen : (P ++ x :: (y :: B ++ Z)).length = d := by simp; omega
    have d1 : (P ++ x :: (y :: B ++ Z)).getD P.length 0 = x := getD_mid _ _ _
    have d2 : (P ++ x :: (y :: B ++ Z)).getD (P.length + 1) 0 = y := by
      rw [show P ++ x :: (y :: B ++ Z) = (P ++ [x]) ++ y :: (B ++ Z) by simp, show P.length + 1 = (P ++ [x]).length by simp]
      exact getD_mid _ _ _
    have g1 := pC_get (L := P ++ x :: (y :: B ++ Z)) (i := P.length) (by omega)
    have g2 := pC_get (L := P ++ x :: (y :: B ++ Z)) (i := P.length + 1) (by omega)
    have sw := p_swp (L := P ++ x :: (y :: B ++ Z)) (i := P.length) (j := P.length + 1) (by omega) (by omega)
    rw [d1] at g1
    rw [d2] at g2
    rw [d1, d2] at sw
    refine (sure362o hm).roundX F362 noLoops [1] [] [1] [] [0,4,10,13] ?_
    rw [rk1]
    simp only [wrs1 i hi (by omega), wra1 P.length (by omega), Int.toNat_natCast, Nat.zero_add, Nat.mul_one, g1, g2, Option.getD_some, isInt, intV, kindEq, sw, beqV_int, beqV_sl, setAll_length, pC_len, hlen, ltT (show (P.length : Int) < ((i - 1 : Nat) : Int) by omega), ltT (show ((P.length + 1 : Nat) : Int) < (d : Int) by omega), ltT (show (P.length : Int) < (d : Int) by omega), le0, leNT (show P.length + 1 ≤ d by omega), leNT (show P.length + 1 + 1 ≤ d by omega), need_t, alt_t]
    rw [show P ++ x :: (y :: B ++ Z) = P ++ x :: y :: (B ++ Z) by simp, swp_mid']
    have := ih (P ++ [y]) (by simp; omega) (by simp; omega) (by rw [hG]; simp)
    rw [show (P ++ [y]) ++ x :: (B ++ Z) = P ++ y :: x :: (B ++ Z) by simp, show (P ++ [y]).length = P.length + 1 by simp] at this
    exact ⟨hS_flat hv, this⟩
theorem k2_loop (hm : Try.prog.follows .mixedOrders = true) (sq : Option Nat) (d q i : Nat) (sp : Option Nat) (n2 k2 : Nat) (fs : List Value) (own1 own2 : Bool) (hv : IsFv fs n2) (hd : d ≤ 1000000) (y : Nat) (P : List Nat) (hP : P.length = i) (G : List Nat) (K : Post) (hK : K (.exit 6) (tmps 220 [(4, fnR)]) (hp (hS (pC G) sp n2 k2 fs own1 own2))) :
    ∀ (t : Nat) (A Z : List Nat), A.length = t → P.length + (A.length + (1 + Z.length)) = d → G = P ++ y :: (A ++ Z) → LSays Try.prog 3 (sub body362 [0,0,1,0,1,1,1,0,1,0,1]) (Tk2 sq d q i (P.length + A.length)) (hp (hS (pC (P ++ (A ++ y :: Z))) sp n2 k2 fs own1 own2)) K := by
  intro t
  induction t with
  | zero =>
    intro A Z hA hl hG
    obtain rfl := List.eq_nil_of_length_eq_zero hA
    refine (sure362o hm).roundX F362 noLoops [1] [] [1] [] [0,4,14,17] ?_
    rw [rk2, ltF (show ¬ (i : Int) < ((P.length + ([] : List Nat).length : Nat) : Int) by simp; omega), alt_f]
    rw [show P ++ ([] ++ y :: Z) = G by rw [hG]; simp]
    exact ⟨hS_flat hv, hK⟩
  | succ t ih =>
    intro A Z hA hl hG
    obtain ⟨S, x, rfl⟩ := snoc_of (show 0 < A.length by omega)
    have hSl : S.length = t := by simpa using hA
    have hlen : (P ++ ((S ++ [x]) ++ y :: Z)).length = d := by simp at hl ⊢; omega
    have e0 : P ++ ((S ++ [x]) ++ y :: Z) = (P ++ S) ++ x :: y :: Z := by simp
    have lPS : (P ++ S).length = i + t := by simp; omega
    have hj : P.length + (S ++ [x]).length = i + t + 1 := by simp; omega
    have hlt : i + t + 1 < d := by simp at hl; omega
    have d1 : (P ++ ((S ++ [x]) ++ y :: Z)).getD (i + t + 1) 0 = y := by
      rw [show P ++ ((S ++ [x]) ++ y :: Z) = (P ++ S ++ [x]) ++ y :: Z by simp, show i + t + 1 = (P ++ S ++ [x]).length by simp; omega]
      exact getD_mid _ _ _
    have d2 : (P ++ ((S ++ [x]) ++ y :: Z)).getD (i + t) 0 = x := by rw [e0, ← lPS]; exact getD_mid _ _ _
    have g1 := pC_get (L := P ++ ((S ++ [x]) ++ y :: Z)) (i := i + t + 1) (by omega)
    have g2 := pC_get (L := P ++ ((S ++ [x]) ++ y :: Z)) (i := i + t) (by omega)
    have sw := p_swp (L := P ++ ((S ++ [x]) ++ y :: Z)) (i := i + t + 1) (j := i + t) (by omega) (by omega)
    rw [d1] at g1
    rw [d2] at g2
    rw [d1, d2] at sw
    rw [hj]
    refine (sure362o hm).roundX F362 noLoops [1] [] [1] [] [0,4,14,17] ?_
    rw [rk2, wrs1 (i + t + 1) (by omega) (by omega), show i + t + 1 - 1 = i + t by omega]
    simp only [Int.toNat_natCast, Nat.zero_add, Nat.mul_one, g1, g2, Option.getD_some, isInt, intV, kindEq, sw, beqV_int, beqV_sl, setAll_length, pC_len, hlen, ltT (show (i : Int) < ((i + t + 1 : Nat) : Int) by omega), ltT (show ((i + t + 1 : Nat) : Int) < (d : Int) by omega), ltT (show ((i + t : Nat) : Int) < (d : Int) by omega), le0, leNT (show i + t + 1 + 1 ≤ d by omega), leNT (show i + t + 1 ≤ d by omega), need_t, alt_t]
    rw [show i + t + 1 = (P ++ S).length + 1 by omega, show i + t = (P ++ S).length by omega, e0, swp_mid, lPS]
    have := ih S (x :: Z) hSl (by simp at hl ⊢; omega) (by rw [hG]; simp)
    rw [show P.length + S.length = i + t by omega] at this
    rw [show (P ++ S) ++ y :: x :: Z = P ++ (S ++ y :: (x :: Z)) by simp]
    exact ⟨hS_flat hv, this⟩
end Go.Proofs.Ytglfkchcmjmmlaa

namespace Go.Proofs.Ytglfkchcmjmmlaa
open Go.RowKit Go.Proofs.Ytglfkchcmjmmlaa.AM
set_option maxRecDepth 100000
set_option maxHeartbeats 4000000
structure SymOk (f : Nat) (key : Nat → Int) (L : List Nat) (a m b : Int) (n2 : Nat) : Prop where
  a0 : 0 ≤ a
  am : a < m
  mb : m < b
  bl : b ≤ L.length
  lt : ∀ x ∈ L, x < n2
  ascA : Asc key ((L.take m.toNat).drop a.toNat)
  ascB : Asc key ((L.take b.toNat).drop m.toNat)
  st : ∀ x ∈ (L.take m.toNat).drop a.toNat, ∀ y ∈ (L.take b.toNat).drop m.toNat, x < y
  fuel : b < f + a
noncomputable def symW (f : Nat) : CtrW where
  D := [1]
  W := [0]
  E := [1]
  pre := fun args blks => match args, blks with
    | [.slice (some ⟨0,0,_⟩) d _, .int .i64 a, .int .i64 m, .int .i64 b, fn], [.cells cs 1 true, .cells [.slice (some ⟨2,0,_⟩) n2 _] 1 _, .cells fs 1 _] => fn = fnR ∧ IsPl cs d ∧ IsFv fs n2 ∧ SymOk f (rkAt fs) (plAt cs) a m b n2
    | _, _ => False
  val := fun args blks => undef
  out := fun args blks => match args, blks with
    | [.slice (some ⟨0,0,_⟩) d _, .int .i64 a, .int .i64 m, .int .i64 b, fn], [.cells cs 1 true, b1, .cells fs 1 own2] => [.cells (pC (segS (rkAt fs) (plAt cs) a.toNat b.toNat)) 1 true, b1, .cells fs 1 own2]
    | _, _ => []
noncomputable def S362 (f : Nat) : Book := bookW [(57, symW f), (58, rotW), (41, cmpW)] S0
noncomputable def cb1 (sq : Option Nat) (d q a m b : Nat) (L : List Nat) (sp : Option Nat) (n2 k2 : Nat) (fs : List Value) (own1 own2 : Bool) : CutE where
  β := Nat
  p := [0,0,1,1,0,1,0]
  t := fun _ => Tb1 sq d q a m b
  h := fun _ => hp (hS (pC L) sp n2 k2 fs own1 own2)
  Q := fun _ K => ∀ i, Half (p1 (rkAt fs) L a) m b i i → K (.exit 0) (tmps 220 [(0, .slice (some ⟨0,0,sq⟩) d q), (1, .int .i64 a), (4, fnR), (10, .int .i64 i)]) (hp (hS (pC L) sp n2 k2 fs own1 own2))
structure K1 (key : Nat → Int) (L : List Nat) (a m b i : Nat) : Prop where
  one : m = a + 1
  half : Half (p1 key L a) m b i i
noncomputable def ck1 (sq : Option Nat) (d q a m b : Nat) (L : List Nat) (sp : Option Nat) (n2 k2 : Nat) (fs : List Value) (own1 own2 : Bool) : CutE where
  β := Nat
  p := [0,1,0,1,1,1,0,1,0]
  t := fun i => Tk1 sq d q i a
  h := fun _ => hp (hS (pC L) sp n2 k2 fs own1 own2)
  Q := fun i K => K1 (rkAt fs) L a m b i ∧ K (.exit 2) (tmps 220 [(4, fnR)]) (hp (hS (pC (segS (rkAt fs) L a b)) sp n2 k2 fs own1 own2))
noncomputable def cb2 (sq : Option Nat) (d q a m b : Nat) (L : List Nat) (sp : Option Nat) (n2 k2 : Nat) (fs : List Value) (own1 own2 : Bool) : CutE where
  β := Nat
  p := [0,0,1,1,0,1,0,1]
  t := fun _ => Tb2 sq d q m a m
  h := fun _ => hp (hS (pC L) sp n2 k2 fs own1 own2)
  Q := fun _ K => ∀ i, Half (p2 (rkAt fs) L m) a m i i → K (.exit 4) (tmps 220 [(0, .slice (some ⟨0,0,sq⟩) d q), (2, .int .i64 m), (4, fnR), (14, .int .i64 i)]) (hp (hS (pC L) sp n2 k2 fs own1 own2))
structure K2 (key : Nat → Int) (L : List Nat) (a m b i : Nat) : Prop where
  last : b = m + 1
  half : Half (p2 key L m) a m i i
noncomputable def ck2 (sq : Option Nat) (d q a m b : Nat) (L : List Nat) (sp : Option Nat) (n2 k2 : Nat) (fs : List Value) (own1 own2 : Bool) : CutE where
  β := Nat
  p := [0,1,0,1,1,1,0,1,0,1]
  t := fun i => Tk2 sq d q i m
  h := fun _ => hp (hS (pC L) sp n2 k2 fs own1 own2)
  Q := fun i K => K2 (rkAt fs) L a m b i ∧ K (.exit 6) (tmps 220 [(4, fnR)]) (hp (hS (pC (segS (rkAt fs) L a b)) sp n2 k2 fs own1 own2))
structure K3 (a m b : Nat) (x : Nat × Nat) : Prop where
  r : ((a + b) / 2 < m ∧ x.1 + b = (a + b) / 2 + m ∧ x.2 = (a + b) / 2) ∨ (m ≤ (a + b) / 2 ∧ x.1 = a ∧ x.2 = m)
  am : a + 1 < m
  mb : m + 1 < b
noncomputable def cb3 (sq : Option Nat) (d q a m b : Nat) (L : List Nat) (sp : Option Nat) (n2 k2 : Nat) (fs : List Value) (own1 own2 : Bool) : CutE where
  β := Nat × Nat
  p := [0,0,1,1,1,1,1,1,1]
  t := fun x => Tb3 sq d q a m b ((a + b) / 2) ((a + b) / 2 + m) x.1 x.2 ((a + b) / 2 + m - 1)
  h := fun _ => hp (hS (pC L) sp n2 k2 fs own1 own2)
  Q := fun x K => K3 a m b x ∧ ∀ s, Half (p3 (rkAt fs) L ((a + b) / 2 + m - 1)) x.1 x.2 s s → K (.exit 8) (tmps 220 [(0, .slice (some ⟨0,0,sq⟩) d q), (1, .int .i64 a), (2, .int .i64 m), (3, .int .i64 b), (4, fnR), (18, .int .i64 ((a + b) / 2 : Nat)), (19, .int .i64 ((a + b) / 2 + m : Nat)), (20, .int .i64 s)]) (hp (hS (pC L) sp n2 k2 fs own1 own2))
inductive Aft (key : Nat → Int) (L : List Nat) (a m b mid s e : Nat) (L1 : List Nat) : Prop
  | mk (X A B Y : List Nat) (t : Two key L X A B Y a m b) (p : Part key A B a m b s e mid) (h : L1 = X ++ (A.take (s - a) ++ (B.take (e - m) ++ (A.drop (s - a) ++ (B.drop (e - m) ++ Y)))))
inductive Aft2 (key : Nat → Int) (L : List Nat) (a m b mid s e : Nat) (L2 : List Nat) : Prop
  | mk (X A B Y : List Nat) (t : Two key L X A B Y a m b) (p : Part key A B a m b s e mid) (h : L2 = X ++ (srtK key (A.take (s - a) ++ B.take (e - m)) ++ (A.drop (s - a) ++ (B.drop (e - m) ++ Y))))
noncomputable def TA (sq : Option Nat) (d q a b mid s e : Nat) : List Value := tmps 220 [(0, .slice (some ⟨0,0,sq⟩) d q), (1, .int .i64 a), (3, .int .i64 b), (4, fnR), (18, .int .i64 mid), (20, .int .i64 s), (24, .int .i64 e)]
noncomputable def TB (sq : Option Nat) (d q b mid e : Nat) : List Value := tmps 220 [(0, .slice (some ⟨0,0,sq⟩) d q), (3, .int .i64 b), (4, fnR), (18, .int .i64 mid), (24, .int .i64 e)]
noncomputable def cB (sq : Option Nat) (d q a m b mid s e : Nat) (L : List Nat) (sp : Option Nat) (n2 k2 : Nat) (fs : List Value) (own1 own2 : Bool) : CutE where
  β := List Nat
  p := [1,1,1,1,1,1,1,1,1,1,1]
  t := fun _ => TB sq d q b mid e
  h := fun L2 => hp (hS (pC L2) sp n2 k2 fs own1 own2)
  Q := fun L2 K => Aft2 (rkAt fs) L a m b mid s e L2 ∧ K .normal (tmps 220 [(4, fnR)]) (hp (hS (pC (segS (rkAt fs) L a b)) sp n2 k2 fs own1 own2))

theorem rB (f : Nat) (sq : Option Nat) (d q b mid e : Nat) (L2 : List Nat) (sp : Option Nat) (n2 k2 : Nat) (fs : List Value) (own1 own2 : Bool) (K : Post) :
  roundX Try.prog (S362 f) noLoop F362 body362 3 [1] [] [1] [] [4] [1,1,1,1,1,1,1,1,1,1,1] (TB sq d q b mid e) (hp (hS (pC L2) sp n2 k2 fs own1 own2)) K = (
Alt (ltI (↑mid : Int) (↑e : Int))
  (Alt (ltI (↑e : Int) (↑b : Int))
    ((FlatL (pC L2) ∧
        nojL [Value.slice (some { block := 2, off := 0, spot := sp : Addr }) n2 k2] = true ∧ FlatL fs ∧ True) ∧
      (Value.func (Fn.func 41) #[] #[Value.pointer (some { block := 1, off := 0 : Addr })] =
            Value.func (Fn.func 41) #[] #[Value.pointer (some { block := 1, off := 0 : Addr })] ∧
          IsPl (pC L2) d ∧ IsFv fs n2 ∧ SymOk f (rkAt fs) (plAt (pC L2)) (↑mid : Int) (↑e : Int) (↑b : Int) n2) ∧
        K AE.normal
          (tmps 220 [(4, Value.func (Fn.func 41) #[] #[Value.pointer (some { block := 1, off := 0 : Addr })])])
          (hp
            [Blk.cells (pC (segS (rkAt fs) (plAt (pC L2)) (↑mid : Int).toNat (↑b : Int).toNat)) 1 true,
              Blk.cells [Value.slice (some { block := 2, off := 0, spot := sp : Addr }) n2 k2] 1 own1,
              Blk.cells fs 1 own2]))
    (K AE.normal (tmps 220 [(4, Value.func (Fn.func 41) #[] #[Value.pointer (some { block := 1, off := 0 : Addr })])])
      (hp
        [Blk.cells (pC L2) 1 true,
          Blk.cells [Value.slice (some { block := 2, off := 0, spot := sp : Addr }) n2 k2] 1 own1,
          Blk.cells fs 1 own2])))
  (K AE.normal (tmps 220 [(4, Value.func (Fn.func 41) #[] #[Value.pointer (some { block := 1, off := 0 : Addr })])])
    (hp
      [Blk.cells (pC L2) 1 true,
        Blk.cells [Value.slice (some { block := 2, off := 0, spot := sp : Addr }) n2 k2] 1 own1, Blk.cells fs 1 own2]))) := by kernel_rfl

theorem rA (f : Nat) (sq : Option Nat) (d q a m b mid s e : Nat) (L L1 : List Nat) (sp : Option Nat) (n2 k2 : Nat) (fs : List Value) (own1 own2 : Bool) (K : Post) :
  roundX Try.prog (S362 f) (gcLKX (at0 [1]) (at0 []) 3 (cutE [cB sq d q a m b mid s e L sp n2 k2 fs own1 own2])) F362 body362 3 [1] [] [1] [] [4] [1,1,1,1,1,1,1,1,1,1] (TA sq d q a b mid s e) (hp (hS (pC L1) sp n2 k2 fs own1 own2)) K = (
Alt (ltI (↑a : Int) (↑s : Int))
  (Alt (ltI (↑s : Int) (↑mid : Int))
    ((FlatL (pC L1) ∧
        nojL [Value.slice (some { block := 2, off := 0, spot := sp : Addr }) n2 k2] = true ∧ FlatL fs ∧ True) ∧
      (Value.func (Fn.func 41) #[] #[Value.pointer (some { block := 1, off := 0 : Addr })] =
            Value.func (Fn.func 41) #[] #[Value.pointer (some { block := 1, off := 0 : Addr })] ∧
          IsPl (pC L1) d ∧ IsFv fs n2 ∧ SymOk f (rkAt fs) (plAt (pC L1)) (↑a : Int) (↑s : Int) (↑mid : Int) n2) ∧
        FlatD [1]
            (hp
              [Blk.cells (pC (segS (rkAt fs) (plAt (pC L1)) (↑a : Int).toNat (↑mid : Int).toNat)) 1 true,
                Blk.cells [Value.slice (some { block := 2, off := 0, spot := sp : Addr }) n2 k2] 1 own1,
                Blk.cells fs 1 own2]) ∧
          ∃ (b_1 : List Nat),
            tmps 220
                  [(0, Value.slice (some { block := 0, off := 0, spot := sq : Addr }) d q),
                    (3, Value.int IntKind.i64 (↑b : Int)),
                    (4, Value.func (Fn.func 41) #[] #[Value.pointer (some { block := 1, off := 0 : Addr })]),
                    (18, Value.int IntKind.i64 (↑mid : Int)), (24, Value.int IntKind.i64 (↑e : Int))] =
                tmps 220
                  [(0, Value.slice (some { block := 0, off := 0, spot := sq : Addr }) d q),
                    (3, Value.int IntKind.i64 (↑b : Int)),
                    (4, Value.func (Fn.func 41) #[] #[Value.pointer (some { block := 1, off := 0 : Addr })]),
                    (18, Value.int IntKind.i64 (↑mid : Int)), (24, Value.int IntKind.i64 (↑e : Int))] ∧
              hp
                    [Blk.cells (pC (segS (rkAt fs) (plAt (pC L1)) (↑a : Int).toNat (↑mid : Int).toNat)) 1 true,
                      Blk.cells [Value.slice (some { block := 2, off := 0, spot := sp : Addr }) n2 k2] 1 own1,
                      Blk.cells fs 1 own2] =
                  hp
                    [Blk.cells (pC b_1) 1 true,
                      Blk.cells [Value.slice (some { block := 2, off := 0, spot := sp : Addr }) n2 k2] 1 own1,
                      Blk.cells fs 1 own2] ∧
                Aft2 (rkAt fs) L a m b mid s e b_1 ∧
                  K AE.normal
                    (tmps 220
                      [(4, Value.func (Fn.func 41) #[] #[Value.pointer (some { block := 1, off := 0 : Addr })])])
                    (hp
                      [Blk.cells (pC (segS (rkAt fs) L a b)) 1 true,
                        Blk.cells [Value.slice (some { block := 2, off := 0, spot := sp : Addr }) n2 k2] 1 own1,
                        Blk.cells fs 1 own2]))
    (FlatD [1]
        (hp
          [Blk.cells (pC L1) 1 true,
            Blk.cells [Value.slice (some { block := 2, off := 0, spot := sp : Addr }) n2 k2] 1 own1,
            Blk.cells fs 1 own2]) ∧
      ∃ (b_1 : List Nat),
        tmps 220
              [(0, Value.slice (some { block := 0, off := 0, spot := sq : Addr }) d q),
                (3, Value.int IntKind.i64 (↑b : Int)),
                (4, Value.func (Fn.func 41) #[] #[Value.pointer (some { block := 1, off := 0 : Addr })]),
                (18, Value.int IntKind.i64 (↑mid : Int)), (24, Value.int IntKind.i64 (↑e : Int))] =
            tmps 220
              [(0, Value.slice (some { block := 0, off := 0, spot := sq : Addr }) d q),
                (3, Value.int IntKind.i64 (↑b : Int)),
                (4, Value.func (Fn.func 41) #[] #[Value.pointer (some { block := 1, off := 0 : Addr })]),
                (18, Value.int IntKind.i64 (↑mid : Int)), (24, Value.int IntKind.i64 (↑e : Int))] ∧
          hp
                [Blk.cells (pC L1) 1 true,
                  Blk.cells [Value.slice (some { block := 2, off := 0, spot := sp : Addr }) n2 k2] 1 own1,
                  Blk.cells fs 1 own2] =
              hp
                [Blk.cells (pC b_1) 1 true,
                  Blk.cells [Value.slice (some { block := 2, off := 0, spot := sp : Addr }) n2 k2] 1 own1,
                  Blk.cells fs 1 own2] ∧
            Aft2 (rkAt fs) L a m b mid s e b_1 ∧
              K AE.normal
                (tmps 220 [(4, Value.func (Fn.func 41) #[] #[Value.pointer (some { block := 1, off := 0 : Addr })])])
                (hp
                  [Blk.cells (pC (segS (rkAt fs) L a b)) 1 true,
                    Blk.cells [Value.slice (some { block := 2, off := 0, spot := sp : Addr }) n2 k2] 1 own1,
                    Blk.cells fs 1 own2])))
  (FlatD [1]
      (hp
        [Blk.cells (pC L1) 1 true,
          Blk.cells [Value.slice (some { block := 2, off := 0, spot := sp : Addr }) n2 k2] 1 own1,
          Blk.cells fs 1 own2]) ∧
    ∃ (b_1 : List Nat),
      tmps 220
            [(0, Value.slice (some { block := 0, off := 0, spot := sq : Addr }) d q),
              (3, Value.int IntKind.i64 (↑b : Int)),
              (4, Value.func (Fn.func 41) #[] #[Value.pointer (some { block := 1, off := 0 : Addr })]),
              (18, Value.int IntKind.i64 (↑mid : Int)), (24, Value.int IntKind.i64 (↑e : Int))] =
          tmps 220
            [(0, Value.slice (some { block := 0, off := 0, spot := sq : Addr }) d q),
              (3, Value.int IntKind.i64 (↑b : Int)),
              (4, Value.func (Fn.func 41) #[] #[Value.pointer (some { block := 1, off := 0 : Addr })]),
              (18, Value.int IntKind.i64 (↑mid : Int)), (24, Value.int IntKind.i64 (↑e : Int))] ∧
        hp
              [Blk.cells (pC L1) 1 true,
                Blk.cells [Value.slice (some { block := 2, off := 0, spot := sp : Addr }) n2 k2] 1 own1,
                Blk.cells fs 1 own2] =
            hp
              [Blk.cells (pC b_1) 1 true,
                Blk.cells [Value.slice (some { block := 2, off := 0, spot := sp : Addr }) n2 k2] 1 own1,
                Blk.cells fs 1 own2] ∧
          Aft2 (rkAt fs) L a m b mid s e b_1 ∧
            K AE.normal
              (tmps 220 [(4, Value.func (Fn.func 41) #[] #[Value.pointer (some { block := 1, off := 0 : Addr })])])
              (hp
                [Blk.cells (pC (segS (rkAt fs) L a b)) 1 true,
                  Blk.cells [Value.slice (some { block := 2, off := 0, spot := sp : Addr }) n2 k2] 1 own1,
                  Blk.cells fs 1 own2]))) := by kernel_rfl

structure SE where
  s : Nat
  e : Nat
  L1 : List Nat
noncomputable def cA (sq : Option Nat) (d q a m b mid : Nat) (L : List Nat) (sp : Option Nat) (n2 k2 : Nat) (fs : List Value) (own1 own2 : Bool) : CutE where
  β := SE
  p := [1,1,1,1,1,1,1,1,1,1]
  t := fun x => TA sq d q a b mid x.s x.e
  h := fun x => hp (hS (pC x.L1) sp n2 k2 fs own1 own2)
  Q := fun x K => Aft (rkAt fs) L a m b mid x.s x.e x.L1 ∧ K .normal (tmps 220 [(4, fnR)]) (hp (hS (pC (segS (rkAt fs) L a b)) sp n2 k2 fs own1 own2))

theorem w362 (f : Nat) (sq : Option Nat) (d q a m b : Nat) (L : List Nat) (sp : Option Nat) (n2 k2 : Nat) (fs : List Value) (own1 own2 : Bool) (K : Value → Heap → Prop) :
  funX Try.prog (S362 f) (gcLKX (at0 [1]) (at0 []) 3 (cutE [cb1 sq d q a m b L sp n2 k2 fs own1 own2, ck1 sq d q a m b L sp n2 k2 fs own1 own2, cb2 sq d q a m b L sp n2 k2 fs own1 own2, ck2 sq d q a m b L sp n2 k2 fs own1 own2, cb3 sq d q a m b L sp n2 k2 fs own1 own2, cA sq d q a m b ((a + b) / 2) L sp n2 k2 fs own1 own2])) F362 body362 Try.f57 [1] [] [.slice (some ⟨0,0,sq⟩) d q, .int .i64 a, .int .i64 m, .int .i64 b, fnR] (hp (hS (pC L) sp n2 k2 fs own1 own2)) K = (
Alt (eqI (wr IntKind.i64 ((↑m : Int) - (↑a : Int))) 1) (FlatD [1] (hp [Blk.cells (pC L) 1 true, Blk.cells [Value.slice (some { block := 2, off := 0, spot := sp : Addr }) n2 k2] 1 own1, Blk.cells fs 1 own2]) ∧ ∃ (b_1 :
Nat), tmps 220 [(0, Value.slice (some { block := 0, off := 0, spot := sq : Addr }) d q), (1, Value.int IntKind.i64 (↑a : Int)), (4, Value.func (Fn.func 41) #[] #[Value.pointer (some { block := 1, off := 0 : Addr })]),
(10, Value.int IntKind.i64 (↑m : Int)), (11, Value.int IntKind.i64 (↑b : Int))] = tmps 220 [(0, Value.slice (some { block := 0, off := 0, spot := sq : Addr }) d q), (1, Value.int IntKind.i64 (↑a : Int)), (4, Value.func
(Fn.func 41) #[] #[Value.pointer (some { block := 1, off := 0 : Addr })]), (10, Value.int IntKind.i64 (↑m : Int)), (11, Value.int IntKind.i64 (↑b : Int))] ∧ hp [Blk.cells (pC L) 1 true, Blk.cells [Value.slice (some
{ block := 2, off := 0, spot := sp : Addr }) n2 k2] 1 own1, Blk.cells fs 1 own2] = hp [Blk.cells (pC L) 1 true, Blk.cells [Value.slice (some { block := 2, off := 0, spot := sp : Addr }) n2 k2] 1 own1, Blk.cells fs 1
own2] ∧ ∀ (i : Nat), Half (p1 (rkAt fs) L a) m b i i → FlatD [1] (hp [Blk.cells (pC L) 1 true, Blk.cells [Value.slice (some { block := 2, off := 0, spot := sp : Addr }) n2 k2] 1 own1, Blk.cells fs 1 own2]) ∧ ∃ (b_2 :
Nat), tmps 220 [(0, Value.slice (some { block := 0, off := 0, spot := sq : Addr }) d q), (4, Value.func (Fn.func 41) #[] #[Value.pointer (some { block := 1, off := 0 : Addr })]), (10, Value.int IntKind.i64 (↑i : Int)),
(13, Value.int IntKind.i64 (↑a : Int))] = tmps 220 [(0, Value.slice (some { block := 0, off := 0, spot := sq : Addr }) d q), (4, Value.func (Fn.func 41) #[] #[Value.pointer (some { block := 1, off := 0 : Addr })]), (10,
Value.int IntKind.i64 (↑b_2 : Int)), (13, Value.int IntKind.i64 (↑a : Int))] ∧ hp [Blk.cells (pC L) 1 true, Blk.cells [Value.slice (some { block := 2, off := 0, spot := sp : Addr }) n2 k2] 1 own1, Blk.cells fs 1 own2] =
hp [Blk.cells (pC L) 1 true, Blk.cells [Value.slice (some { block := 2, off := 0, spot := sp : Addr }) n2 k2] 1 own1, Blk.cells fs 1 own2] ∧ K1 (rkAt fs) L a m b b_2 ∧ K undef (hp [Blk.cells (pC (segS (rkAt fs) L a b)) 1
true, Blk.cells [Value.slice (some { block := 2, off := 0, spot := sp : Addr }) n2 k2] 1 own1, Blk.cells fs 1 own2])) (Alt (eqI (wr IntKind.i64 ((↑b : Int) - (↑m : Int))) 1) (FlatD [1] (hp [Blk.cells (pC L) 1 true,
Blk.cells [Value.slice (some { block := 2, off := 0, spot := sp : Addr }) n2 k2] 1 own1, Blk.cells fs 1 own2]) ∧ ∃ (b_1 : Nat), tmps 220 [(0, Value.slice (some { block := 0, off := 0, spot := sq : Addr }) d q), (2,
Value.int IntKind.i64 (↑m : Int)), (4, Value.func (Fn.func 41) #[] #[Value.pointer (some { block := 1, off := 0 : Addr })]), (14, Value.int IntKind.i64 (↑a : Int)), (15, Value.int IntKind.i64 (↑m : Int))] = tmps 220 [(0,
Value.slice (some { block := 0, off := 0, spot := sq : Addr }) d q), (2, Value.int IntKind.i64 (↑m : Int)), (4, Value.func (Fn.func 41) #[] #[Value.pointer (some { block := 1, off := 0 : Addr })]), (14, Value.int
IntKind.i64 (↑a : Int)), (15, Value.int IntKind.i64 (↑m : Int))] ∧ hp [Blk.cells (pC L) 1 true, Blk.cells [Value.slice (some { block := 2, off := 0, spot := sp : Addr }) n2 k2] 1 own1, Blk.cells fs 1 own2] = hp
[Blk.cells (pC L) 1 true, Blk.cells [Value.slice (some { block := 2, off := 0, spot := sp : Addr }) n2 k2] 1 own1, Blk.cells fs 1 own2] ∧ ∀ (i : Nat), Half (p2 (rkAt fs) L m) a m i i → FlatD [1] (hp [Blk.cells (pC L) 1
true, Blk.cells [Value.slice (some { block := 2, off := 0, spot := sp : Addr }) n2 k2] 1 own1, Blk.cells fs 1 own2]) ∧ ∃ (b_2 : Nat), tmps 220 [(0, Value.slice (some { block := 0, off := 0, spot := sq : Addr }) d q), (4,
Value.func (Fn.func 41) #[] #[Value.pointer (some { block := 1, off := 0 : Addr })]), (14, Value.int IntKind.i64 (↑i : Int)), (17, Value.int IntKind.i64 (↑m : Int))] = tmps 220 [(0, Value.slice (some
{ block := 0, off := 0, spot := sq : Addr }) d q), (4, Value.func (Fn.func 41) #[] #[Value.pointer (some { block := 1, off := 0 : Addr })]), (14, Value.int IntKind.i64 (↑b_2 : Int)), (17, Value.int IntKind.i64 (↑m :
Int))] ∧ hp [Blk.cells (pC L) 1 true, Blk.cells [Value.slice (some { block := 2, off := 0, spot := sp : Addr }) n2 k2] 1 own1, Blk.cells fs 1 own2] = hp [Blk.cells (pC L) 1 true, Blk.cells [Value.slice (some
{ block := 2, off := 0, spot := sp : Addr }) n2 k2] 1 own1, Blk.cells fs 1 own2] ∧ K2 (rkAt fs) L a m b b_2 ∧ K undef (hp [Blk.cells (pC (segS (rkAt fs) L a b)) 1 true, Blk.cells [Value.slice (some
{ block := 2, off := 0, spot := sp : Addr }) n2 k2] 1 own1, Blk.cells fs 1 own2])) (Alt (ltI (wr IntKind.i64 ((wr IntKind.u64 (wr IntKind.i64 ((↑a : Int) + (↑b : Int)))).fdiv 2)) (↑m : Int)) (FlatD [1] (hp [Blk.cells (pC
L) 1 true, Blk.cells [Value.slice (some { block := 2, off := 0, spot := sp : Addr }) n2 k2] 1 own1, Blk.cells fs 1 own2]) ∧ ∃ (b_1 : Nat × Nat), tmps 220 [(0, Value.slice (some
{ block := 0, off := 0, spot := sq : Addr }) d q), (1, Value.int IntKind.i64 (↑a : Int)), (2, Value.int IntKind.i64 (↑m : Int)), (3, Value.int IntKind.i64 (↑b : Int)), (4, Value.func (Fn.func 41) #[] #[Value.pointer
(some { block := 1, off := 0 : Addr })]), (18, Value.int IntKind.i64 (wr IntKind.i64 ((wr IntKind.u64 (wr IntKind.i64 ((↑a : Int) + (↑b : Int)))).fdiv 2))), (19, Value.int IntKind.i64 (wr IntKind.i64 (wr IntKind.i64 ((wr
IntKind.u64 (wr IntKind.i64 ((↑a : Int) + (↑b : Int)))).fdiv 2) + (↑m : Int)))), (20, Value.int IntKind.i64 (wr IntKind.i64 (wr IntKind.i64 (wr IntKind.i64 ((wr IntKind.u64 (wr IntKind.i64 ((↑a : Int) + (↑b :
Int)))).fdiv 2) + (↑m : Int)) - (↑b : Int)))), (21, Value.int IntKind.i64 (wr IntKind.i64 ((wr IntKind.u64 (wr IntKind.i64 ((↑a : Int) + (↑b : Int)))).fdiv 2))), (22, Value.int IntKind.i64 (wr IntKind.i64 (wr IntKind.i64
(wr IntKind.i64 ((wr IntKind.u64 (wr IntKind.i64 ((↑a : Int) + (↑b : Int)))).fdiv 2) + (↑m : Int)) - 1)))] = tmps 220 [(0, Value.slice (some { block := 0, off := 0, spot := sq : Addr }) d q), (1, Value.int IntKind.i64
(↑a : Int)), (2, Value.int IntKind.i64 (↑m : Int)), (3, Value.int IntKind.i64 (↑b : Int)), (4, Value.func (Fn.func 41) #[] #[Value.pointer (some { block := 1, off := 0 : Addr })]), (18, Value.int IntKind.i64 (↑((a + b) /
2) : Int)), (19, Value.int IntKind.i64 (↑((a + b) / 2 + m) : Int)), (20, Value.int IntKind.i64 (↑b_1.fst : Int)), (21, Value.int IntKind.i64 (↑b_1.snd : Int)), (22, Value.int IntKind.i64 (↑((a + b) / 2 + m - 1) : Int))]
∧ hp [Blk.cells (pC L) 1 true, Blk.cells [Value.slice (some { block := 2, off := 0, spot := sp : Addr }) n2 k2] 1 own1, Blk.cells fs 1 own2] = hp [Blk.cells (pC L) 1 true, Blk.cells [Value.slice (some
{ block := 2, off := 0, spot := sp : Addr }) n2 k2] 1 own1, Blk.cells fs 1 own2] ∧ K3 a m b b_1 ∧ ∀ (s : Nat), Half (p3 (rkAt fs) L ((a + b) / 2 + m - 1)) b_1.fst b_1.snd s s → Alt (ltI (↑s : Int) (↑m : Int)) (Alt (ltI
(↑m : Int) (wr IntKind.i64 ((↑((a + b) / 2 + m) : Int) - (↑s : Int)))) ((FlatL (pC L) ∧ nojL [Value.slice (some { block := 2, off := 0, spot := sp : Addr }) n2 k2] = true ∧ FlatL fs ∧ True) ∧ (Value.func (Fn.func 41) #[]
#[Value.pointer (some { block := 1, off := 0 : Addr })] = Value.func (Fn.func 41) #[] #[Value.pointer (some { block := 1, off := 0 : Addr })] ∧ IsPl (pC L) d ∧ IsFv fs n2 ∧ RotOk (↑s : Int) (↑m : Int) (wr IntKind.i64
((↑((a + b) / 2 + m) : Int) - (↑s : Int))) d) ∧ FlatD [1] (hp [Blk.cells (pC (rotR (plAt (pC L)) (↑s : Int).toNat (↑m : Int).toNat (wr IntKind.i64 ((↑((a + b) / 2 + m) : Int) - (↑s : Int))).toNat)) 1 true, Blk.cells
[Value.slice (some { block := 2, off := 0, spot := sp : Addr }) n2 k2] 1 own1, Blk.cells fs 1 own2]) ∧ ∃ (b_2 : SE), tmps 220 [(0, Value.slice (some { block := 0, off := 0, spot := sq : Addr }) d q), (1, Value.int
IntKind.i64 (↑a : Int)), (3, Value.int IntKind.i64 (↑b : Int)), (4, Value.func (Fn.func 41) #[] #[Value.pointer (some { block := 1, off := 0 : Addr })]), (18, Value.int IntKind.i64 (↑((a + b) / 2) : Int)), (20, Value.int
IntKind.i64 (↑s : Int)), (24, Value.int IntKind.i64 (wr IntKind.i64 ((↑((a + b) / 2 + m) : Int) - (↑s : Int))))] = tmps 220 [(0, Value.slice (some { block := 0, off := 0, spot := sq : Addr }) d q), (1, Value.int
IntKind.i64 (↑a : Int)), (3, Value.int IntKind.i64 (↑b : Int)), (4, Value.func (Fn.func 41) #[] #[Value.pointer (some { block := 1, off := 0 : Addr })]), (18, Value.int IntKind.i64 (↑((a + b) / 2) : Int)), (20, Value.int
IntKind.i64 (↑b_2.s : Int)), (24, Value.int IntKind.i64 (↑b_2.e : Int))] ∧ hp [Blk.cells (pC (rotR (plAt (pC L)) (↑s : Int).toNat (↑m : Int).toNat (wr IntKind.i64 ((↑((a + b) / 2 + m) : Int) - (↑s : Int))).toNat)) 1
true, Blk.cells [Value.slice (some { block := 2, off := 0, spot := sp : Addr }) n2 k2] 1 own1, Blk.cells fs 1 own2] = hp [Blk.cells (pC b_2.L1) 1 true, Blk.cells [Value.slice (some
{ block := 2, off := 0, spot := sp : Addr }) n2 k2] 1 own1, Blk.cells fs 1 own2] ∧ Aft (rkAt fs) L a m b ((a + b) / 2) b_2.s b_2.e b_2.L1 ∧ K undef (hp [Blk.cells (pC (segS (rkAt fs) L a b)) 1 true, Blk.cells
[Value.slice (some { block := 2, off := 0, spot := sp : Addr }) n2 k2] 1 own1, Blk.cells fs 1 own2])) (FlatD [1] (hp [Blk.cells (pC L) 1 true, Blk.cells [Value.slice (some { block := 2, off := 0, spot := sp : Addr }) n2
k2] 1 own1, Blk.cells fs 1 own2]) ∧ ∃ (b_2 : SE), tmps 220 [(0, Value.slice (some { block := 0, off := 0, spot := sq : Addr }) d q), (1, Value.int IntKind.i64 (↑a : Int)), (3, Value.int IntKind.i64 (↑b : Int)), (4,
Value.func (Fn.func 41) #[] #[Value.pointer (some { block := 1, off := 0 : Addr })]), (18, Value.int IntKind.i64 (↑((a + b) / 2) : Int)), (20, Value.int IntKind.i64 (↑s : Int)), (24, Value.int IntKind.i64 (wr IntKind.i64
((↑((a + b) / 2 + m) : Int) - (↑s : Int))))] = tmps 220 [(0, Value.slice (some { block := 0, off := 0, spot := sq : Addr }) d q), (1, Value.int IntKind.i64 (↑a : Int)), (3, Value.int IntKind.i64 (↑b : Int)), (4,
Value.func (Fn.func 41) #[] #[Value.pointer (some { block := 1, off := 0 : Addr })]), (18, Value.int IntKind.i64 (↑((a + b) / 2) : Int)), (20, Value.int IntKind.i64 (↑b_2.s : Int)), (24, Value.int IntKind.i64 (↑b_2.e :
Int))] ∧ hp [Blk.cells (pC L) 1 true, Blk.cells [Value.slice (some { block := 2, off := 0, spot := sp : Addr }) n2 k2] 1 own1, Blk.cells fs 1 own2] = hp [Blk.cells (pC b_2.L1) 1 true, Blk.cells [Value.slice (some
{ block := 2, off := 0, spot := sp : Addr }) n2 k2] 1 own1, Blk.cells fs 1 own2] ∧ Aft (rkAt fs) L a m b ((a + b) / 2) b_2.s b_2.e b_2.L1 ∧ K undef (hp [Blk.cells (pC (segS (rkAt fs) L a b)) 1 true, Blk.cells
[Value.slice (some { block := 2, off := 0, spot := sp : Addr }) n2 k2] 1 own1, Blk.cells fs 1 own2]))) (FlatD [1] (hp [Blk.cells (pC L) 1 true, Blk.cells [Value.slice (some { block := 2, off := 0, spot := sp : Addr }) n2
k2] 1 own1, Blk.cells fs 1 own2]) ∧ ∃ (b_2 : SE), tmps 220 [(0, Value.slice (some { block := 0, off := 0, spot := sq : Addr }) d q), (1, Value.int IntKind.i64 (↑a : Int)), (3, Value.int IntKind.i64 (↑b : Int)), (4,
Value.func (Fn.func 41) #[] #[Value.pointer (some { block := 1, off := 0 : Addr })]), (18, Value.int IntKind.i64 (↑((a + b) / 2) : Int)), (20, Value.int IntKind.i64 (↑s : Int)), (24, Value.int IntKind.i64 (wr IntKind.i64
((↑((a + b) / 2 + m) : Int) - (↑s : Int))))] = tmps 220 [(0, Value.slice (some { block := 0, off := 0, spot := sq : Addr }) d q), (1, Value.int IntKind.i64 (↑a : Int)), (3, Value.int IntKind.i64 (↑b : Int)), (4,
Value.func (Fn.func 41) #[] #[Value.pointer (some { block := 1, off := 0 : Addr })]), (18, Value.int IntKind.i64 (↑((a + b) / 2) : Int)), (20, Value.int IntKind.i64 (↑b_2.s : Int)), (24, Value.int IntKind.i64 (↑b_2.e :
Int))] ∧ hp [Blk.cells (pC L) 1 true, Blk.cells [Value.slice (some { block := 2, off := 0, spot := sp : Addr }) n2 k2] 1 own1, Blk.cells fs 1 own2] = hp [Blk.cells (pC b_2.L1) 1 true, Blk.cells [Value.slice (some
{ block := 2, off := 0, spot := sp : Addr }) n2 k2] 1 own1, Blk.cells fs 1 own2] ∧ Aft (rkAt fs) L a m b ((a + b) / 2) b_2.s b_2.e b_2.L1 ∧ K undef (hp [Blk.cells (pC (segS (rkAt fs) L a b)) 1 true, Blk.cells
[Value.slice (some { block := 2, off := 0, spot := sp : Addr }) n2 k2] 1 own1, Blk.cells fs 1 own2]))) (FlatD [1] (hp [Blk.cells (pC L) 1 true, Blk.cells [Value.slice (some { block := 2, off := 0, spot := sp : Addr }) n2
k2] 1 own1, Blk.cells fs 1 own2]) ∧ ∃ (b_1 : Nat × Nat), tmps 220 [(0, Value.slice (some { block := 0, off := 0, spot := sq : Addr }) d q), (1, Value.int IntKind.i64 (↑a : Int)), (2, Value.int IntKind.i64 (↑m : Int)),
(3, Value.int IntKind.i64 (↑b : Int)), (4, Value.func (Fn.func 41) #[] #[Value.pointer (some { block := 1, off := 0 : Addr })]), (18, Value.int IntKind.i64 (wr IntKind.i64 ((wr IntKind.u64 (wr IntKind.i64 ((↑a : Int) +
(↑b : Int)))).fdiv 2))), (19, Value.int IntKind.i64 (wr IntKind.i64 (wr IntKind.i64 ((wr IntKind.u64 (wr IntKind.i64 ((↑a : Int) + (↑b : Int)))).fdiv 2) + (↑m : Int)))), (20, Value.int IntKind.i64 (↑a : Int)), (21,
Value.int IntKind.i64 (↑m : Int)), (22, Value.int IntKind.i64 (wr IntKind.i64 (wr IntKind.i64 (wr IntKind.i64 ((wr IntKind.u64 (wr IntKind.i64 ((↑a : Int) + (↑b : Int)))).fdiv 2) + (↑m : Int)) - 1)))] = tmps 220 [(0,
Value.slice (some { block := 0, off := 0, spot := sq : Addr }) d q), (1, Value.int IntKind.i64 (↑a : Int)), (2, Value.int IntKind.i64 (↑m : Int)), (3, Value.int IntKind.i64 (↑b : Int)), (4, Value.func (Fn.func 41) #[]
#[Value.pointer (some { block := 1, off := 0 : Addr })]), (18, Value.int IntKind.i64 (↑((a + b) / 2) : Int)), (19, Value.int IntKind.i64 (↑((a + b) / 2 + m) : Int)), (20, Value.int IntKind.i64 (↑b_1.fst : Int)), (21,
Value.int IntKind.i64 (↑b_1.snd : Int)), (22, Value.int IntKind.i64 (↑((a + b) / 2 + m - 1) : Int))] ∧ hp [Blk.cells (pC L) 1 true, Blk.cells [Value.slice (some { block := 2, off := 0, spot := sp : Addr }) n2 k2] 1 own1,
Blk.cells fs 1 own2] = hp [Blk.cells (pC L) 1 true, Blk.cells [Value.slice (some { block := 2, off := 0, spot := sp : Addr }) n2 k2] 1 own1, Blk.cells fs 1 own2] ∧ K3 a m b b_1 ∧ ∀ (s : Nat), Half (p3 (rkAt fs) L ((a +
b) / 2 + m - 1)) b_1.fst b_1.snd s s → Alt (ltI (↑s : Int) (↑m : Int)) (Alt (ltI (↑m : Int) (wr IntKind.i64 ((↑((a + b) / 2 + m) : Int) - (↑s : Int)))) ((FlatL (pC L) ∧ nojL [Value.slice (some
{ block := 2, off := 0, spot := sp : Addr }) n2 k2] = true ∧ FlatL fs ∧ True) ∧ (Value.func (Fn.func 41) #[] #[Value.pointer (some { block := 1, off := 0 : Addr })] = Value.func (Fn.func 41) #[] #[Value.pointer (some
{ block := 1, off := 0 : Addr })] ∧ IsPl (pC L) d ∧ IsFv fs n2 ∧ RotOk (↑s : Int) (↑m : Int) (wr IntKind.i64 ((↑((a + b) / 2 + m) : Int) - (↑s : Int))) d) ∧ FlatD [1] (hp [Blk.cells (pC (rotR (plAt (pC L)) (↑s :
Int).toNat (↑m : Int).toNat (wr IntKind.i64 ((↑((a + b) / 2 + m) : Int) - (↑s : Int))).toNat)) 1 true, Blk.cells [Value.slice (some { block := 2, off := 0, spot := sp : Addr }) n2 k2] 1 own1, Blk.cells fs 1 own2]) ∧ ∃
(b_2 : SE), tmps 220 [(0, Value.slice (some { block := 0, off := 0, spot := sq : Addr }) d q), (1, Value.int IntKind.i64 (↑a : Int)), (3, Value.int IntKind.i64 (↑b : Int)), (4, Value.func (Fn.func 41) #[] #[Value.pointer
(some { block := 1, off := 0 : Addr })]), (18, Value.int IntKind.i64 (↑((a + b) / 2) : Int)), (20, Value.int IntKind.i64 (↑s : Int)), (24, Value.int IntKind.i64 (wr IntKind.i64 ((↑((a + b) / 2 + m) : Int) - (↑s :
Int))))] = tmps 220 [(0, Value.slice (some { block := 0, off := 0, spot := sq : Addr }) d q), (1, Value.int IntKind.i64 (↑a : Int)), (3, Value.int IntKind.i64 (↑b : Int)), (4, Value.func (Fn.func 41) #[] #[Value.pointer
(some { block := 1, off := 0 : Addr })]), (18, Value.int IntKind.i64 (↑((a + b) / 2) : Int)), (20, Value.int IntKind.i64 (↑b_2.s : Int)), (24, Value.int IntKind.i64 (↑b_2.e : Int))] ∧ hp [Blk.cells (pC (rotR (plAt (pC
L)) (↑s : Int).toNat (↑m : Int).toNat (wr IntKind.i64 ((↑((a + b) / 2 + m) : Int) - (↑s : Int))).toNat)) 1 true, Blk.cells [Value.slice (some { block := 2, off := 0, spot := sp : Addr }) n2 k2] 1 own1, Blk.cells fs 1
own2] = hp [Blk.cells (pC b_2.L1) 1 true, Blk.cells [Value.slice (some { block := 2, off := 0, spot := sp : Addr }) n2 k2] 1 own1, Blk.cells fs 1 own2] ∧ Aft (rkAt fs) L a m b ((a + b) / 2) b_2.s b_2.e b_2.L1 ∧ K undef
(hp [Blk.cells (pC (segS (rkAt fs) L a b)) 1 true, Blk.cells [Value.slice (some { block := 2, off := 0, spot := sp : Addr }) n2 k2] 1 own1, Blk.cells fs 1 own2])) (FlatD [1] (hp [Blk.cells (pC L) 1 true, Blk.cells
[Value.slice (some { block := 2, off := 0, spot := sp : Addr }) n2 k2] 1 own1, Blk.cells fs 1 own2]) ∧ ∃ (b_2 : SE), tmps 220 [(0, Value.slice (some { block := 0, off := 0, spot := sq : Addr }) d q), (1, Value.int
IntKind.i64 (↑a : Int)), (3, Value.int IntKind.i64 (↑b : Int)), (4, Value.func (Fn.func 41) #[] #[Value.pointer (some { block := 1, off := 0 : Addr })]), (18, Value.int IntKind.i64 (↑((a + b) / 2) : Int)), (20, Value.int
IntKind.i64 (↑s : Int)), (24, Value.int IntKind.i64 (wr IntKind.i64 ((↑((a + b) / 2 + m) : Int) - (↑s : Int))))] = tmps 220 [(0, Value.slice (some { block := 0, off := 0, spot := sq : Addr }) d q), (1, Value.int
IntKind.i64 (↑a : Int)), (3, Value.int IntKind.i64 (↑b : Int)), (4, Value.func (Fn.func 41) #[] #[Value.pointer (some { block := 1, off := 0 : Addr })]), (18, Value.int IntKind.i64 (↑((a + b) / 2) : Int)), (20, Value.int
IntKind.i64 (↑b_2.s : Int)), (24, Value.int IntKind.i64 (↑b_2.e : Int))] ∧ hp [Blk.cells (pC L) 1 true, Blk.cells [Value.slice (some { block := 2, off := 0, spot := sp : Addr }) n2 k2] 1 own1, Blk.cells fs 1 own2] = hp
[Blk.cells (pC b_2.L1) 1 true, Blk.cells [Value.slice (some { block := 2, off := 0, spot := sp : Addr }) n2 k2] 1 own1, Blk.cells fs 1 own2] ∧ Aft (rkAt fs) L a m b ((a + b) / 2) b_2.s b_2.e b_2.L1 ∧ K undef (hp
[Blk.cells (pC (segS (rkAt fs) L a b)) 1 true, Blk.cells [Value.slice (some { block := 2, off := 0, spot := sp : Addr }) n2 k2] 1 own1, Blk.cells fs 1 own2]))) (FlatD [1] (hp [Blk.cells (pC L) 1 true, Blk.cells
[Value.slice (some { block := 2, off := 0, spot := sp : Addr }) n2 k2] 1 own1, Blk.cells fs 1 own2]) ∧ ∃ (b_2 : SE), tmps 220 [(0, Value.slice (some { block := 0, off := 0, spot := sq : Addr }) d q), (1, Value.int
IntKind.i64 (↑a : Int)), (3, Value.int IntKind.i64 (↑b : Int)), (4, Value.func (Fn.func 41) #[] #[Value.pointer (some { block := 1, off := 0 : Addr })]), (18, Value.int IntKind.i64 (↑((a + b) / 2) : Int)), (20, Value.int
IntKind.i64 (↑s : Int)), (24, Value.int IntKind.i64 (wr IntKind.i64 ((↑((a + b) / 2 + m) : Int) - (↑s : Int))))] = tmps 220 [(0, Value.slice (some { block := 0, off := 0, spot := sq : Addr }) d q), (1, Value.int
IntKind.i64 (↑a : Int)), (3, Value.int IntKind.i64 (↑b : Int)), (4, Value.func (Fn.func 41) #[] #[Value.pointer (some { block := 1, off := 0 : Addr })]), (18, Value.int IntKind.i64 (↑((a + b) / 2) : Int)), (20, Value.int
IntKind.i64 (↑b_2.s : Int)), (24, Value.int IntKind.i64 (↑b_2.e : Int))] ∧ hp [Blk.cells (pC L) 1 true, Blk.cells [Value.slice (some { block := 2, off := 0, spot := sp : Addr }) n2 k2] 1 own1, Blk.cells fs 1 own2] = hp
[Blk.cells (pC b_2.L1) 1 true, Blk.cells [Value.slice (some { block := 2, off := 0, spot := sp : Addr }) n2 k2] 1 own1, Blk.cells fs 1 own2] ∧ Aft (rkAt fs) L a m b ((a + b) / 2) b_2.s b_2.e b_2.L1 ∧ K undef (hp
[Blk.cells (pC (segS (rkAt fs) L a b)) 1 true, Blk.cells [Value.slice (some { block := 2, off := 0, spot := sp : Addr }) n2 k2] 1 own1, Blk.cells fs 1 own2])))))) := by kernel_rfl

end Go.Proofs.Ytglfkchcmjmmlaa

namespace Go.Proofs.Ytglfkchcmjmmlaa
open Go.RowKit Go.Proofs.Ytglfkchcmjmmlaa.AM
set_option maxRecDepth 100000
set_option maxHeartbeats 4000000
theorem cuts2 {X P Q Z : List Nat} {a s c : Nat} (h1 : X.length = a) (h2 : a + P.length = s) (h3 : s + Q.length = c) : ((X ++ (P ++ (Q ++ Z))).take s).drop a = P ∧ ((X ++ (P ++ (Q ++ Z))).take c).drop s = Q := by
  refine ⟨(cut3 (X := X) (A := P) (Y := Q ++ Z) h1 h2).2.1, ?_⟩
  have e : X ++ (P ++ (Q ++ Z)) = (X ++ P) ++ (Q ++ Z) := by simp
  rw [e]
  exact (cut3 (X := X ++ P) (A := Q) (Y := Z) (by simp; omega) h3).2.1
theorem symok_of {f : Nat} {key : Nat → Int} {X P Q Z : List Nat} {a s c n2 : Nat} (h1 : X.length = a) (h2 : a + P.length = s) (h3 : s + Q.length = c) (hP : Asc key P) (hQ : Asc key Q) (hst : ∀ x ∈ P, ∀ y ∈ Q, x < y) (has : a < s) (hsc : s < c) (hn : ∀ x ∈ X ++ (P ++ (Q ++ Z)), x < n2) (hf : c < f + a) : SymOk f key (X ++ (P ++ (Q ++ Z))) (a : Int) (s : Int) (c : Int) n2 := by
  obtain ⟨e1, e2⟩ := cuts2 (Z := Z) h1 h2 h3
  refine ⟨by omega, by omega, by omega, by simp; omega, hn, ?_, ?_, ?_, by omega⟩
  · rw [Int.toNat_natCast, Int.toNat_natCast, e1]; exact hP
  · rw [Int.toNat_natCast, Int.toNat_natCast, e2]; exact hQ
  · rw [Int.toNat_natCast, Int.toNat_natCast, Int.toNat_natCast, e1, e2]; exact hst
theorem srt_done {key : Nat → Int} {P Q : List Nat} (hP : Asc key P) (hQ : Asc key Q) (h : P.length = 0 ∨ Q.length = 0) : srtK key (P ++ Q) = P ++ Q := by
  rcases h with h | h
  · obtain rfl := List.eq_nil_of_length_eq_zero h
    rw [List.nil_append]; exact srtK_eq (List.Perm.refl _) hQ
  · obtain rfl := List.eq_nil_of_length_eq_zero h
    rw [List.append_nil]; exact srtK_eq (List.Perm.refl _) hP
theorem Two.aft_rot {key : Nat → Int} {L X A B Y : List Nat} {a m b s e mid : Nat} (t : Two key L X A B Y a m b) (p : Part key A B a m b s e mid) : rotR L s m e = X ++ (A.take (s - a) ++ (B.take (e - m) ++ (A.drop (s - a) ++ (B.drop (e - m) ++ Y)))) := by
  have h1 := p.s1
  have h2 := p.s2
  have h3 := p.e1
  have h4 := p.e2
  have la := t.am
  have lb := t.mb
  have lx := t.x
  have e1 : L = (X ++ A.take (s - a)) ++ (A.drop (s - a) ++ (B.take (e - m) ++ (B.drop (e - m) ++ Y))) := by
    rw [t.e, ← List.append_assoc (B.take _), List.take_append_drop, List.append_assoc, ← List.append_assoc (A.take _), List.take_append_drop]
  rw [e1, rotR_eq (by simp; omega) (by simp; omega) (by simp; omega), List.append_assoc]
theorem Two.aft_same {key : Nat → Int} {L X A B Y : List Nat} {a m b s e mid : Nat} (t : Two key L X A B Y a m b) (p : Part key A B a m b s e mid) (h : ¬ (s < m ∧ m < e)) : L = X ++ (A.take (s - a) ++ (B.take (e - m) ++ (A.drop (s - a) ++ (B.drop (e - m) ++ Y)))) := by
  have h1 := p.s1
  have h2 := p.s2
  have h3 := p.e1
  have la := t.am
  by_cases hs : s = m
  · have e1 : A.take (s - a) = A := List.take_of_length_le (by omega)
    have e2 : A.drop (s - a) = [] := List.drop_eq_nil_of_le (by omega)
    rw [e1, e2, List.nil_append, ← List.append_assoc (B.take _), List.take_append_drop]; exact t.e
  · have he : e - m = 0 := by omega
    rw [he, List.take_zero, List.drop_zero, List.nil_append, ← List.append_assoc (A.take _), List.take_append_drop]; exact t.e
theorem sureS (hm : Try.prog.follows .mixedOrders = true) (f : Nat) (ih : (symW f).Holds Try.prog 57) : Sure Try.prog (S362 f) := ⟨hm, plain, bookW_ok sums0 (l := [(57, symW f), (58, rotW), (41, cmpW)]) ⟨ih, rot_says hm, cmp_says hm, trivial⟩⟩
theorem symB (hm : Try.prog.follows .mixedOrders = true) (f : Nat) (ih : (symW f).Holds Try.prog 57) (sq : Option Nat) (d q a m b mid s e : Nat) (L : List Nat) (hL : L.length = d) (hd : d ≤ 1000000) (sp : Option Nat) (n2 k2 : Nat) (fs : List Value) (own1 own2 : Bool) (hv : IsFv fs n2) (hn : ∀ x ∈ L, x < n2) (hf : b < f + 1 + a) (hmid : a < mid ∧ mid < b) (x : List Nat) (K : Post) (hQ : (cB sq d q a m b mid s e L sp n2 k2 fs own1 own2).Q x K) :
    Says Try.prog 3 (sub body362 [1,1,1,1,1,1,1,1,1,1,1]) (TB sq d q b mid e) (AM.hp (hS (pC x) sp n2 k2 fs own1 own2)) K := by
  obtain ⟨⟨X, A, B, Y, t, p, hx⟩, hK⟩ := hQ
  have h1 := p.s1
  have h2 := p.s2
  have h3 := p.e1
  have h4 := p.e2
  have h5 := p.se
  have la := t.am
  have lb := t.mb
  have lx := t.x
  have lA1 : (A.take (s - a) ++ B.take (e - m)).length = mid - a := by simp; omega
  have hw : segS (rkAt fs) L a b = X ++ (srtK (rkAt fs) (A.take (s - a) ++ B.take (e - m)) ++ (srtK (rkAt fs) (A.drop (s - a) ++ B.drop (e - m)) ++ Y)) := by
    have e : L = X ++ ((A ++ B) ++ Y) := by rw [t.e]; simp
    rw [e, segS_eq _ lx (show a + (A ++ B).length = b by simp; omega), t.whole p, List.append_assoc]
  have hlen : x.length = d := by
    rw [← hL, hx, t.e]; simp only [List.length_append, srtK_len, List.length_take, List.length_drop]; omega
  have hnx : ∀ y ∈ x, y < n2 := fun y hy => hn y (by
    rw [hx] at hy
    rw [t.e]
    simp only [List.mem_append, srtK_mem] at hy ⊢
    rcases hy with hy | (hy | hy) | hy | hy | hy
    · exact .inl hy
    · exact .inr (.inl (List.mem_of_mem_take hy))
    · exact .inr (.inr (.inl (List.mem_of_mem_take hy)))
    · exact .inr (.inl (List.mem_of_mem_drop hy))
    · exact .inr (.inr (.inl (List.mem_of_mem_drop hy)))
    · exact .inr (.inr (.inr hy)))
  have ex : x = (X ++ srtK (rkAt fs) (A.take (s - a) ++ B.take (e - m))) ++ (A.drop (s - a) ++ (B.drop (e - m) ++ Y)) := by rw [hx]; simp
  have l1 : (X ++ srtK (rkAt fs) (A.take (s - a) ++ B.take (e - m))).length = mid := by rw [List.length_append, srtK_len]; omega
  have l2 : mid + (A.drop (s - a)).length = e := by rw [List.length_drop]; omega
  have l3 : e + (B.drop (e - m)).length = b := by rw [List.length_drop]; omega
  have hseg : segS (rkAt fs) x mid b = segS (rkAt fs) L a b := by
    rw [hw, ex, ← List.append_assoc (A.drop _), segS_eq _ l1 (show mid + (A.drop (s - a) ++ B.drop (e - m)).length = b by rw [List.length_append]; omega), List.append_assoc]
  refine (sureS hm f ih).cutN F362 noLoops [1] [] [1] [] [4] ?_
  rw [rB, plAt_pC]
  have skip : ((A.drop (s - a)).length = 0 ∨ (B.drop (e - m)).length = 0) → x = segS (rkAt fs) L a b := fun h => by
    rw [hw, srt_done (t.ascA.drop _) (t.ascB.drop _) h, hx]; simp
  by_cases c1 : mid < e
  · rw [ltT (show (mid : Int) < (e : Int) by omega), alt_t]
    by_cases c2 : e < b
    · rw [ltT (show (e : Int) < (b : Int) by omega), alt_t, Int.toNat_natCast, Int.toNat_natCast, hseg]
      have hok : SymOk f (rkAt fs) x (mid : Int) (e : Int) (b : Int) n2 := by
        rw [ex]
        refine symok_of l1 l2 l3 (t.ascA.drop _) (t.ascB.drop _) (fun u hu v hv => t.st u (List.mem_of_mem_drop hu) v (List.mem_of_mem_drop hv)) c1 c2 ?_ (by omega)
        rw [← ex]; exact hnx
      exact ⟨⟨pC_flat _, rfl, hv.flat, trivial⟩, ⟨rfl, .mk x rfl hlen hd, hv, hok⟩, hS_flat hv, hK⟩
    · rw [ltF (show ¬ (e : Int) < (b : Int) by omega), alt_f, skip (.inr (by omega))]
      exact ⟨hS_flat hv, hK⟩
  · rw [ltF (show ¬ (mid : Int) < (e : Int) by omega), alt_f, skip (.inl (by omega))]
    exact ⟨hS_flat hv, hK⟩
theorem symA (hm : Try.prog.follows .mixedOrders = true) (f : Nat) (ih : (symW f).Holds Try.prog 57) (sq : Option Nat) (d q a m b mid : Nat) (L : List Nat) (hL : L.length = d) (hd : d ≤ 1000000) (sp : Option Nat) (n2 k2 : Nat) (fs : List Value) (own1 own2 : Bool) (hv : IsFv fs n2) (hn : ∀ x ∈ L, x < n2) (hf : b < f + 1 + a) (hmid : a < mid ∧ mid < b) (x : SE) (K : Post) (hQ : (cA sq d q a m b mid L sp n2 k2 fs own1 own2).Q x K) :
    Says Try.prog 3 (sub body362 [1,1,1,1,1,1,1,1,1,1]) (TA sq d q a b mid x.s x.e) (AM.hp (hS (pC x.L1) sp n2 k2 fs own1 own2)) K := by
  obtain ⟨⟨X, A, B, Y, t, p, hx⟩, hK⟩ := hQ
  obtain ⟨s, e, x⟩ := x
  simp only at t p hx hK ⊢
  have h1 := p.s1
  have h2 := p.s2
  have h3 := p.e1
  have h4 := p.e2
  have h5 := p.se
  have la := t.am
  have lb := t.mb
  have lx := t.x
  have hlen : x.length = d := by
    rw [← hL, hx, t.e]; simp only [List.length_append, List.length_take, List.length_drop]; omega
  have hnx : ∀ y ∈ x, y < n2 := fun y hy => hn y (by
    rw [hx] at hy
    rw [t.e]
    simp only [List.mem_append] at hy ⊢
    rcases hy with hy | hy | hy | hy | hy | hy
    · exact .inl hy
    · exact .inr (.inl (List.mem_of_mem_take hy))
    · exact .inr (.inr (.inl (List.mem_of_mem_take hy)))
    · exact .inr (.inl (List.mem_of_mem_drop hy))
    · exact .inr (.inr (.inl (List.mem_of_mem_drop hy)))
    · exact .inr (.inr (.inr hy)))
  have l2 : a + (A.take (s - a)).length = s := by rw [List.length_take]; omega
  have l3 : s + (B.take (e - m)).length = mid := by rw [List.length_take]; omega
  have hseg : segS (rkAt fs) x a mid = X ++ (srtK (rkAt fs) (A.take (s - a) ++ B.take (e - m)) ++ (A.drop (s - a) ++ (B.drop (e - m) ++ Y))) := by
    rw [hx, ← List.append_assoc (A.take _), segS_eq _ lx (show a + (A.take (s - a) ++ B.take (e - m)).length = mid by rw [List.length_append]; omega)]
  have skip : ((A.take (s - a)).length = 0 ∨ (B.take (e - m)).length = 0) → x = X ++ (srtK (rkAt fs) (A.take (s - a) ++ B.take (e - m)) ++ (A.drop (s - a) ++ (B.drop (e - m) ++ Y))) := fun h => by
    rw [srt_done (t.ascA.take _) (t.ascB.take _) h, hx]; simp
  have hLB : Loops Try.prog body362 3 (cutE [cB sq d q a m b mid s e L sp n2 k2 fs own1 own2]) := Loops.noneE.moreE _ fun y K hQ => by
    show Says Try.prog 3 (sub body362 [1,1,1,1,1,1,1,1,1,1,1]) (TB sq d q b mid e) (AM.hp (hS (pC y) sp n2 k2 fs own1 own2)) K
    exact symB hm f ih sq d q a m b mid s e L hL hd sp n2 k2 fs own1 own2 hv hn hf hmid y K hQ
  refine (sureS hm f ih).cutN F362 (hLB.gcX (at0 [1]) (at0 [])) [1] [] [1] [] [4] ?_
  rw [rA f sq d q a m b mid s e L x sp n2 k2 fs own1 own2, plAt_pC]
  by_cases c1 : a < s
  · rw [ltT (show (a : Int) < (s : Int) by omega), alt_t]
    by_cases c2 : s < mid
    · rw [ltT (show (s : Int) < (mid : Int) by omega), alt_t, Int.toNat_natCast, Int.toNat_natCast]
      have hok : SymOk f (rkAt fs) x (a : Int) (s : Int) (mid : Int) n2 := by
        rw [hx]
        refine symok_of lx l2 l3 (t.ascA.take _) (t.ascB.take _) (fun u hu v hv => t.st u (List.mem_of_mem_take hu) v (List.mem_of_mem_take hv)) c1 c2 ?_ (by omega)
        rw [← hx]; exact hnx
      exact ⟨⟨pC_flat _, rfl, hv.flat, trivial⟩, ⟨rfl, .mk x rfl hlen hd, hv, hok⟩, hS_flat hv, _, rfl, rfl, ⟨X, A, B, Y, t, p, hseg⟩, hS_flat hv, hK⟩
    · rw [ltF (show ¬ (s : Int) < (mid : Int) by omega), alt_f]
      exact ⟨hS_flat hv, x, rfl, rfl, ⟨X, A, B, Y, t, p, skip (.inr (by omega))⟩, hS_flat hv, hK⟩
  · rw [ltF (show ¬ (a : Int) < (s : Int) by omega), alt_f]
    exact ⟨hS_flat hv, x, rfl, rfl, ⟨X, A, B, Y, t, p, skip (.inl (by omega))⟩, hS_flat hv, hK⟩
end Go.Proofs.Ytglfkchcmjmmlaa

namespace Go.Proofs.Ytglfkchcmjmmlaa
open Go.RowKit Go.Proofs.Ytglfkchcmjmmlaa.AM
set_option maxRecDepth 100000
set_option maxHeartbeats 4000000
theorem two_of {key : Nat → Int} {L : List Nat} {a m b : Nat} (am : a < m) (mb : m < b) (bl : b ≤ L.length) (hA : Asc key ((L.take m).drop a)) (hB : Asc key ((L.take b).drop m)) (hst : ∀ x ∈ (L.take m).drop a, ∀ y ∈ (L.take b).drop m, x < y) : ∃ X A B Y, Two key L X A B Y a m b := by
  obtain ⟨X, A, Z, rfl, hX, hA1, hZ⟩ := in3 L (a := a) (b := m) (by omega) (by omega)
  obtain ⟨B0, B, Y, rfl, h0, hB1, hY⟩ := in3 Z (a := 0) (b := b - m) (by omega) (by omega)
  obtain rfl := List.eq_nil_of_length_eq_zero h0
  simp only [List.nil_append] at *
  obtain ⟨e1, e2⟩ := cuts2 (X := X) (P := A) (Q := B) (Z := Y) (a := a) (s := m) (c := b) hX hA1 (by omega)
  rw [e1] at hA hst
  rw [e2] at hB hst
  exact ⟨X, A, B, Y, rfl, hX, hA1, by omega, hA, hB, hst⟩
theorem sym_says (hm : Try.prog.follows .mixedOrders = true) : ∀ f, (symW f).Holds Try.prog 57 := by
  intro f
  induction f with
  | zero =>
    intro args blks hf hpre
    simp only [symW] at hpre
    split at hpre
    · have h := hpre.2.2.2
      have h1 := h.fuel
      have h2 := h.am
      have h3 := h.mb
      omega
    · exact hpre.elim
  | succ f ih =>
    intro args blks hf hpre
    simp only [symW] at hpre ⊢
    split at hpre
    · rename_i sq d q a m b fn cs sp n2 k2 own1 fs own2
      obtain ⟨rfl, ⟨L, rfl, hL, hs⟩, hv, h⟩ := hpre
      rw [plAt_pC] at h
      obtain ⟨a0, am, mb, bl, hn, hA, hB, hst, hfu⟩ := h
      obtain ⟨a, rfl⟩ := Int.eq_ofNat_of_zero_le a0
      obtain ⟨m, rfl⟩ := Int.eq_ofNat_of_zero_le (show 0 ≤ m by omega)
      obtain ⟨b, rfl⟩ := Int.eq_ofNat_of_zero_le (show 0 ≤ b by omega)
      simp only [Int.toNat_natCast] at hA hB hst
      refine ⟨⟨trivial, rfl, rfl, trivial⟩, ⟨pC_flat _, trivial⟩, ?_⟩
      show FunSays _ _ _ _ fun v h' => v = undef ∧ h' = AM.hp [.cells (pC (segS (rkAt fs) (plAt (pC L)) (a : Int).toNat (b : Int).toNat)) 1 true, .cells [.slice (some ⟨2,0,sp⟩) n2 k2] 1 own1, .cells fs 1 own2]
      rw [plAt_pC, Int.toNat_natCast, Int.toNat_natCast]
      obtain ⟨X, A, B, Y, t⟩ := two_of (key := rkAt fs) (L := L) (a := a) (m := m) (b := b) (by omega) (by omega) (by omega) hA hB hst
      have lx := t.x
      have la := t.am
      have lb := t.mb
      have hbd : b ≤ d := by omega
      have hseg : segS (rkAt fs) L a b = X ++ (srtK (rkAt fs) (A ++ B) ++ Y) := by
        have e : L = X ++ ((A ++ B) ++ Y) := by rw [t.e]; simp
        rw [e, segS_eq _ lx (show a + (A ++ B).length = b by simp; omega)]
      have lY : X.length + (A.length + (B.length + Y.length)) = d := by rw [← hL, t.e]; simp
      have hc1 : ∀ (x : Nat) (K : Post), (cb1 sq d q a m b L sp n2 k2 fs own1 own2).Q x K → LSays Try.prog 3 (sub body362 [0,0,0,1,1,0,1,0]) (Tb1 sq d q a m b) (AM.hp (hS (pC L) sp n2 k2 fs own1 own2)) K := fun x K hQ => by
        exact b1_loop hm sq d q a m b sp n2 k2 fs own1 own2 hv L hL hs hn (by omega) hbd (t.mono1 a) K hQ (b - m) m b (Nat.le_refl _) (Half.start _ (by omega))
      have hc2 : ∀ (i : Nat) (K : Post), (ck1 sq d q a m b L sp n2 k2 fs own1 own2).Q i K → LSays Try.prog 3 (sub body362 [0,0,1,0,1,1,1,0,1,0]) (Tk1 sq d q i a) (AM.hp (hS (pC L) sp n2 k2 fs own1 own2)) K := fun i K hQ => by
        obtain ⟨⟨h1, hH⟩, hK⟩ := hQ
        have i1 := hH.l1
        have i2 := hH.l3
        obtain ⟨x, rfl, hw⟩ := t.one h1 hH
        rw [hseg, hw] at hK
        have := k1_loop hm sq d q i sp n2 k2 fs own1 own2 hv hs x (B.drop (i - m) ++ Y) (by omega) _ K hK (B.take (i - m)) X (by rw [List.length_take]; omega) (by simp at lY ⊢; omega) (by simp)
        rw [← List.append_assoc (B.take _), List.take_append_drop, lx] at this
        rw [t.e]
        exact this
      have hc3 : ∀ (x : Nat) (K : Post), (cb2 sq d q a m b L sp n2 k2 fs own1 own2).Q x K → LSays Try.prog 3 (sub body362 [0,0,0,1,1,0,1,0,1]) (Tb2 sq d q m a m) (AM.hp (hS (pC L) sp n2 k2 fs own1 own2)) K := fun x K hQ => by
        exact b2_loop hm sq d q m a m sp n2 k2 fs own1 own2 hv L hL hs hn (by omega) (by omega) (t.mono2 m) K hQ (m - a) a m (Nat.le_refl _) (Half.start _ (by omega))
      have hc4 : ∀ (i : Nat) (K : Post), (ck2 sq d q a m b L sp n2 k2 fs own1 own2).Q i K → LSays Try.prog 3 (sub body362 [0,0,1,0,1,1,1,0,1,0,1]) (Tk2 sq d q i m) (AM.hp (hS (pC L) sp n2 k2 fs own1 own2)) K := fun i K hQ => by
        obtain ⟨⟨h1, hH⟩, hK⟩ := hQ
        have i1 := hH.l1
        have i2 := hH.l3
        obtain ⟨y, rfl, hw⟩ := t.last h1 hH
        rw [hseg, hw] at hK
        have lXA : (X ++ A.take (i - a)).length = i := by simp; omega
        have := k2_loop hm sq d q i sp n2 k2 fs own1 own2 hv hs y (X ++ A.take (i - a)) lXA _ K hK (A.drop (i - a)).length (A.drop (i - a)) Y rfl (by rw [lXA, List.length_drop]; simp at lY; omega) (by simp)
        rw [lXA, show i + (A.drop (i - a)).length = m by rw [List.length_drop]; omega, List.append_assoc, ← List.append_assoc (A.take _), List.take_append_drop] at this
        rw [t.e]
        exact this
      have hc5 : ∀ (x : Nat × Nat) (K : Post), (cb3 sq d q a m b L sp n2 k2 fs own1 own2).Q x K → LSays Try.prog 3 (sub body362 [0,0,0,1,1,1,1,1,1,1]) (Tb3 sq d q a m b ((a + b) / 2) ((a + b) / 2 + m) x.1 x.2 ((a + b) / 2 + m - 1)) (AM.hp (hS (pC L) sp n2 k2 fs own1 own2)) K := fun x K hQ => by
        obtain ⟨⟨hr, k1, k2'⟩, hK⟩ := hQ
        have hi : In3 a m b x.1 x.2 ((a + b) / 2 + m - 1) := by rcases hr with hr | hr <;> exact ⟨by omega, by omega, by omega, by omega, by omega⟩
        have hi3 := hi.p1
        have hi4 := hi.l2
        have hi5 := hi.l3
        exact b3_loop hm sq d q a m b ((a + b) / 2) ((a + b) / 2 + m) ((a + b) / 2 + m - 1) x.1 x.2 sp n2 k2 fs own1 own2 hv L hL hs hn (by have := hi.p2; omega) (by omega) (by omega) (t.mono3 hi) K hK (x.2 - x.1) x.1 x.2 (Nat.le_refl _) (Half.start _ hi4)
      have hc6 : ∀ (x : SE) (K : Post), (cA sq d q a m b ((a + b) / 2) L sp n2 k2 fs own1 own2).Q x K → Says Try.prog 3 (sub body362 [1,1,1,1,1,1,1,1,1,1]) (TA sq d q a b ((a + b) / 2) x.s x.e) (AM.hp (hS (pC x.L1) sp n2 k2 fs own1 own2)) K := fun x K hQ => symA hm f ih sq d q a m b ((a + b) / 2) L hL hs sp n2 k2 fs own1 own2 hv hn (by omega) (by omega) x K hQ
      have hL' : Loops Try.prog body362 3 (cutE [cb1 sq d q a m b L sp n2 k2 fs own1 own2, ck1 sq d q a m b L sp n2 k2 fs own1 own2, cb2 sq d q a m b L sp n2 k2 fs own1 own2, ck2 sq d q a m b L sp n2 k2 fs own1 own2, cb3 sq d q a m b L sp n2 k2 fs own1 own2, cA sq d q a m b ((a + b) / 2) L sp n2 k2 fs own1 own2]) :=
        Loops.moreE (Loops.moreE (Loops.moreE (Loops.moreE (Loops.moreE (Loops.moreE (Loops.noneE (P := Try.prog) (root := body362) (k := 3)) (cA sq d q a m b ((a + b) / 2) L sp n2 k2 fs own1 own2) hc6) (cb3 sq d q a m b L sp n2 k2 fs own1 own2) hc5) (ck2 sq d q a m b L sp n2 k2 fs own1 own2) hc4) (cb2 sq d q a m b L sp n2 k2 fs own1 own2) hc3) (ck1 sq d q a m b L sp n2 k2 fs own1 own2) hc2) (cb1 sq d q a m b L sp n2 k2 fs own1 own2) hc1
      refine (sureS hm f ih).funX F362 body362 [1] [] Try.func57 rfl (hL'.gcX (at0 [1]) (at0 [])) ?_
      have hw := w362 f sq d q a m b L sp n2 k2 fs own1 own2
      unfold hS at hw
      rw [hw, wrs m a (by omega) (by omega), wrs b m (by omega) (by omega), half a b (by omega), wra ((a + b) / 2) m (by omega), wrs1 ((a + b) / 2 + m) (by omega) (by omega)]
      have hfin : FlatD [1] (AM.hp (hS (pC (segS (rkAt fs) L a b)) sp n2 k2 fs own1 own2)) ∧ isJunk undef = false ∧ True ∧ True := ⟨hS_flat hv, rfl, trivial, trivial⟩
      by_cases c1 : m = a + 1
      · rw [eqT (show ((m - a : Nat) : Int) = 1 by omega), alt_t]
        exact ⟨hS_flat hv, 0, rfl, rfl, fun i hH => ⟨hS_flat hv, i, rfl, rfl, ⟨c1, hH⟩, hS_flat hv, (by first | trivial | rfl), (by first | trivial | rfl), (by first | trivial | rfl)⟩⟩
      rw [eqF (show ¬ ((m - a : Nat) : Int) = 1 by omega), alt_f]
      by_cases c2 : b = m + 1
      · rw [eqT (show ((b - m : Nat) : Int) = 1 by omega), alt_t]
        exact ⟨hS_flat hv, 0, rfl, rfl, fun i hH => ⟨hS_flat hv, i, rfl, rfl, ⟨c2, hH⟩, hS_flat hv, (by first | trivial | rfl), (by first | trivial | rfl), (by first | trivial | rfl)⟩⟩
      rw [eqF (show ¬ ((b - m : Nat) : Int) = 1 by omega), alt_f]
      by_cases c3 : (a + b) / 2 < m
      · rw [ltT (show (((a + b) / 2 : Nat) : Int) < (m : Int) by omega), alt_t, wrs ((a + b) / 2 + m) b (by omega) (by omega)]
        have hr : ((a + b) / 2 < m ∧ ((a + b) / 2 + m - b) + b = (a + b) / 2 + m ∧ (a + b) / 2 = (a + b) / 2) := ⟨c3, by omega, rfl⟩
        refine ⟨hS_flat hv, ((a + b) / 2 + m - b, (a + b) / 2), rfl, rfl, ⟨.inl hr, by omega, by omega⟩, fun s hH => ?_⟩
        have hp := t.part (s := s) (mid := (a + b) / 2) rfl (.inl hr) (by omega) (by omega) hH
        have q1 := hp.s1
        have q2 := hp.s2
        have q3 := hp.e1
        have q4 := hp.e2
        have q5 := hp.se
        rw [wrs ((a + b) / 2 + m) s (by omega) (by omega)]
        simp only [plAt_pC, Int.toNat_natCast]
        by_cases d1 : s < m
        · rw [ltT (show (s : Int) < (m : Int) by omega), alt_t]
          by_cases d2 : m < (a + b) / 2 + m - s
          · rw [ltT (show (m : Int) < (((a + b) / 2 + m - s : Nat) : Int) by omega), alt_t]
            exact ⟨⟨pC_flat _, rfl, hv.flat, trivial⟩, ⟨(by first | trivial | rfl), .mk L rfl hL hs, hv, ⟨by omega, by omega, by omega, by omega⟩⟩, hS_flat hv, ⟨s, (a + b) / 2 + m - s, _⟩, rfl, rfl, ⟨X, A, B, Y, t, hp, t.aft_rot hp⟩, hS_flat hv, (by first | trivial | rfl), (by first | trivial | rfl), (by first | trivial | rfl)⟩
          · rw [ltF (show ¬ (m : Int) < (((a + b) / 2 + m - s : Nat) : Int) by omega), alt_f]
            exact ⟨hS_flat hv, ⟨s, (a + b) / 2 + m - s, L⟩, rfl, rfl, ⟨X, A, B, Y, t, hp, t.aft_same hp (fun hh => d2 hh.2)⟩, hS_flat hv, (by first | trivial | rfl), (by first | trivial | rfl), (by first | trivial | rfl)⟩
        · rw [ltF (show ¬ (s : Int) < (m : Int) by omega), alt_f]
          exact ⟨hS_flat hv, ⟨s, (a + b) / 2 + m - s, L⟩, rfl, rfl, ⟨X, A, B, Y, t, hp, t.aft_same hp (fun hh => d1 hh.1)⟩, hS_flat hv, (by first | trivial | rfl), (by first | trivial | rfl), (by first | trivial | rfl)⟩
      · rw [ltF (show ¬ (((a + b) / 2 : Nat) : Int) < (m : Int) by omega), alt_f]
        have hr : (m ≤ (a + b) / 2 ∧ a = a ∧ m = m) := ⟨by omega, rfl, rfl⟩
        refine ⟨hS_flat hv, (a, m), rfl, rfl, ⟨.inr hr, by omega, by omega⟩, fun s hH => ?_⟩
        have hp := t.part (s := s) (mid := (a + b) / 2) rfl (.inr hr) (by omega) (by omega) hH
        have q1 := hp.s1
        have q2 := hp.s2
        have q3 := hp.e1
        have q4 := hp.e2
        have q5 := hp.se
        rw [wrs ((a + b) / 2 + m) s (by omega) (by omega)]
        simp only [plAt_pC, Int.toNat_natCast]
        by_cases d1 : s < m
        · rw [ltT (show (s : Int) < (m : Int) by omega), alt_t]
          by_cases d2 : m < (a + b) / 2 + m - s
          · rw [ltT (show (m : Int) < (((a + b) / 2 + m - s : Nat) : Int) by omega), alt_t]
            exact ⟨⟨pC_flat _, rfl, hv.flat, trivial⟩, ⟨(by first | trivial | rfl), .mk L rfl hL hs, hv, ⟨by omega, by omega, by omega, by omega⟩⟩, hS_flat hv, ⟨s, (a + b) / 2 + m - s, _⟩, rfl, rfl, ⟨X, A, B, Y, t, hp, t.aft_rot hp⟩, hS_flat hv, (by first | trivial | rfl), (by first | trivial | rfl), (by first | trivial | rfl)⟩
          · rw [ltF (show ¬ (m : Int) < (((a + b) / 2 + m - s : Nat) : Int) by omega), alt_f]
            exact ⟨hS_flat hv, ⟨s, (a + b) / 2 + m - s, L⟩, rfl, rfl, ⟨X, A, B, Y, t, hp, t.aft_same hp (fun hh => d2 hh.2)⟩, hS_flat hv, (by first | trivial | rfl), (by first | trivial | rfl), (by first | trivial | rfl)⟩
        · rw [ltF (show ¬ (s : Int) < (m : Int) by omega), alt_f]
          exact ⟨hS_flat hv, ⟨s, (a + b) / 2 + m - s, L⟩, rfl, rfl, ⟨X, A, B, Y, t, hp, t.aft_same hp (fun hh => d1 hh.1)⟩, hS_flat hv, (by first | trivial | rfl), (by first | trivial | rfl), (by first | trivial | rfl)⟩
    · exact hpre.elim
end Go.Proofs.Ytglfkchcmjmmlaa

namespace Go.Proofs.Ytglfkchcmjmmlaa
open Go.RowKit Go.Proofs.Ytglfkchcmjmmlaa.AM
set_option maxRecDepth 100000
set_option maxHeartbeats 4000000
noncomputable def body360 : Code := (Try.f53.body).getD .skip
def F360 : List Nat → Option (List Nat) := fun p => match p with
  | [1] => some [0, 1, 2, 6]
  | [1, 1] => some [0, 1, 2, 6, 7, 8]
  | [1, 0, 0, 0, 0, 1, 1] => some [0, 1, 2, 6, 7, 8, 13]
  | [1, 1, 0, 0, 0, 0, 1, 1] => some [0, 1, 2, 6, 7]
  | [1, 0, 0, 0, 1, 1] => some [0, 1, 2, 6, 7, 8]
  | [1, 0, 1, 0, 0, 0, 1, 1] => some [0, 1, 2, 6, 8]
  | [1, 1, 0, 1, 0, 0, 0, 1, 1] => some [0, 1, 2, 6, 7, 8]
  | [1, 1, 1] => some [0, 1, 2, 6, 7]
  | [1, 1, 1, 1] => some [0, 1, 2, 6]
  | [1, 0, 0, 0, 1, 1, 1, 1] => some [0, 1, 2, 6, 30]
  | [1, 1, 0, 0, 0, 1, 1, 1, 1] => some []
  | [1, 0, 0, 1, 1, 1, 1] => some [0, 1, 2, 6]
  | [1, 0, 1, 0, 0, 1, 1, 1, 1] => some [0, 1, 2, 6, 7, 8]
  | [1, 0, 0, 0, 0, 1, 0, 1, 0, 0, 1, 1, 1, 1] => some [0, 1, 2, 6, 7, 8, 35]
  | [1, 1, 0, 0, 0, 0, 1, 0, 1, 0, 0, 1, 1, 1, 1] => some [0, 1, 2, 6, 7]
  | [1, 0, 0, 0, 1, 0, 1, 0, 0, 1, 1, 1, 1] => some [0, 1, 2, 6, 7, 8]
  | [1, 0, 1, 0, 0, 0, 1, 0, 1, 0, 0, 1, 1, 1, 1] => some [0, 1, 2, 6, 8]
  | [1, 1, 0, 1, 0, 0, 0, 1, 0, 1, 0, 0, 1, 1, 1, 1] => some [0, 1, 2, 6, 7, 8]
  | [1, 1, 0, 1, 0, 0, 1, 1, 1, 1] => some [0, 1, 2, 6, 7]
  | [1, 0, 1, 1, 0, 1, 0, 0, 1, 1, 1, 1] => some [0, 1, 2, 6, 7, 9]
  | [1, 1, 0, 1, 1, 0, 1, 0, 0, 1, 1, 1, 1] => some [0, 1, 2, 6, 7, 9, 54]
  | [1, 1, 1, 0, 1, 0, 0, 1, 1, 1, 1] => some [0, 1, 2, 6]
  | _ => none
noncomputable def S360 : Book := bookW [(56, insW), (57, symW 100)] S0
theorem sure360 (hm : Try.prog.follows .mixedOrders = true) : Sure Try.prog S360 := ⟨hm, plain, bookW_ok sums0 (l := [(56, insW), (57, symW 100)]) ⟨ins_says hm, sym_says hm 100, trivial⟩⟩
noncomputable def T360 (sq : Option Nat) (d q n bs a b : Nat) : List Value := tmps 63 [(0, .slice (some ⟨0,0,sq⟩) d q), (1, .int .i64 n), (2, fnR), (6, .int .i64 bs), (7, .int .i64 a), (8, .int .i64 b)]
noncomputable def T360o (sq : Option Nat) (d q n bs : Nat) : List Value := tmps 63 [(0, .slice (some ⟨0,0,sq⟩) d q), (1, .int .i64 n), (2, fnR), (6, .int .i64 bs)]

theorem r360a (sq : Option Nat) (d q n bs a b : Nat) (L : List Nat) (sp : Option Nat) (n2 k2 : Nat) (fs : List Value) (own1 own2 : Bool) (K : Post) :
  roundX Try.prog S360 noLoop F360 body360 3 [1] [] [1] [] [0,1,2,6,7,8] [0,0,0,1,1] (T360 sq d q n bs a b) (hp (hS (pC L) sp n2 k2 fs own1 own2)) K = (
Alt (leI (↑b : Int) (↑n : Int))
  ((FlatL (pC L) ∧
      nojL [Value.slice (some { block := 2, off := 0, spot := sp : Addr }) n2 k2] = true ∧ FlatL fs ∧ True) ∧
    (Value.func (Fn.func 41) #[] #[Value.pointer (some { block := 1, off := 0 : Addr })] =
          Value.func (Fn.func 41) #[] #[Value.pointer (some { block := 1, off := 0 : Addr })] ∧
        IsPl (pC L) d ∧ IsFv fs n2 ∧ InsOk (plAt (pC L)) (↑a : Int) (↑b : Int) n2) ∧
      K AE.normal
        (tmps 63
          [(0, Value.slice (some { block := 0, off := 0, spot := sq : Addr }) d q),
            (1, Value.int IntKind.i64 (↑n : Int)),
            (2, Value.func (Fn.func 41) #[] #[Value.pointer (some { block := 1, off := 0 : Addr })]),
            (6, Value.int IntKind.i64 (↑bs : Int)), (7, Value.int IntKind.i64 (↑b : Int)),
            (8, Value.int IntKind.i64 (wr IntKind.i64 ((↑b : Int) + (↑bs : Int))))])
        (hp
          [Blk.cells (pC (segS (rkAt fs) (plAt (pC L)) (↑a : Int).toNat (↑b : Int).toNat)) 1 true,
            Blk.cells [Value.slice (some { block := 2, off := 0, spot := sp : Addr }) n2 k2] 1 own1,
            Blk.cells fs 1 own2]))
  (K (AE.exit 0)
    (tmps 63
      [(0, Value.slice (some { block := 0, off := 0, spot := sq : Addr }) d q), (1, Value.int IntKind.i64 (↑n : Int)),
        (2, Value.func (Fn.func 41) #[] #[Value.pointer (some { block := 1, off := 0 : Addr })]),
        (6, Value.int IntKind.i64 (↑bs : Int)), (7, Value.int IntKind.i64 (↑a : Int))])
    (hp
      [Blk.cells (pC L) 1 true, Blk.cells [Value.slice (some { block := 2, off := 0, spot := sp : Addr }) n2 k2] 1 own1,
        Blk.cells fs 1 own2]))) := by kernel_rfl

theorem r360i (sq : Option Nat) (d q n bs a b : Nat) (L : List Nat) (sp : Option Nat) (n2 k2 : Nat) (fs : List Value) (own1 own2 : Bool) (K : Post) :
  roundX Try.prog S360 noLoop F360 body360 3 [1] [] [1] [] [0,1,2,6,7,8] [0,0,0,1,0,1,0,0,1,1,1,1] (T360 sq d q n bs a b) (hp (hS (pC L) sp n2 k2 fs own1 own2)) K = (
Alt (leI (↑b : Int) (↑n : Int))
  ((FlatL (pC L) ∧
      nojL [Value.slice (some { block := 2, off := 0, spot := sp : Addr }) n2 k2] = true ∧ FlatL fs ∧ True) ∧
    (Value.func (Fn.func 41) #[] #[Value.pointer (some { block := 1, off := 0 : Addr })] =
          Value.func (Fn.func 41) #[] #[Value.pointer (some { block := 1, off := 0 : Addr })] ∧
        IsPl (pC L) d ∧
          IsFv fs n2 ∧
            SymOk 100 (rkAt fs) (plAt (pC L)) (↑a : Int) (wr IntKind.i64 ((↑a : Int) + (↑bs : Int))) (↑b : Int) n2) ∧
      K AE.normal
        (tmps 63
          [(0, Value.slice (some { block := 0, off := 0, spot := sq : Addr }) d q),
            (1, Value.int IntKind.i64 (↑n : Int)),
            (2, Value.func (Fn.func 41) #[] #[Value.pointer (some { block := 1, off := 0 : Addr })]),
            (6, Value.int IntKind.i64 (↑bs : Int)), (7, Value.int IntKind.i64 (↑b : Int)),
            (8, Value.int IntKind.i64 (wr IntKind.i64 ((↑b : Int) + wr IntKind.i64 (2 * (↑bs : Int)))))])
        (hp
          [Blk.cells (pC (segS (rkAt fs) (plAt (pC L)) (↑a : Int).toNat (↑b : Int).toNat)) 1 true,
            Blk.cells [Value.slice (some { block := 2, off := 0, spot := sp : Addr }) n2 k2] 1 own1,
            Blk.cells fs 1 own2]))
  (K (AE.exit 4)
    (tmps 63
      [(0, Value.slice (some { block := 0, off := 0, spot := sq : Addr }) d q), (1, Value.int IntKind.i64 (↑n : Int)),
        (2, Value.func (Fn.func 41) #[] #[Value.pointer (some { block := 1, off := 0 : Addr })]),
        (6, Value.int IntKind.i64 (↑bs : Int)), (7, Value.int IntKind.i64 (↑a : Int))])
    (hp
      [Blk.cells (pC L) 1 true, Blk.cells [Value.slice (some { block := 2, off := 0, spot := sp : Addr }) n2 k2] 1 own1,
        Blk.cells fs 1 own2]))) := by kernel_rfl

structure AL where
  a : Nat
  L : List Nat
noncomputable def cut360i (sq : Option Nat) (d q n bs : Nat) (L : List Nat) (x : AL) (sp : Option Nat) (n2 k2 : Nat) (fs : List Value) (own1 own2 : Bool) : CutE where
  β := Nat
  p := [0,0,1,0,1,0,0,1,1,1,1]
  t := fun _ => T360 sq d q n bs 0 (2 * bs)
  h := fun _ => hp (hS (pC L) sp n2 k2 fs own1 own2)
  Q := fun _ K => LtN bs n ∧ K (.exit 4) (tmps 63 [(0, .slice (some ⟨0,0,sq⟩) d q), (1, .int .i64 n), (2, fnR), (6, .int .i64 bs), (7, .int .i64 x.a)]) (hp (hS (pC x.L) sp n2 k2 fs own1 own2))

theorem r360o (sq : Option Nat) (d q n bs : Nat) (L : List Nat) (x : AL) (sp : Option Nat) (n2 k2 : Nat) (fs : List Value) (own1 own2 : Bool) (K : Post) :
  roundX Try.prog S360 (gcLKX (at0 [1]) (at0 []) 3 (cutE [cut360i sq d q n bs L x sp n2 k2 fs own1 own2])) F360 body360 3 [1] [] [1] [] [0,1,2,6] [0,0,1,1,1,1] (T360o sq d q n bs) (hp (hS (pC L) sp n2 k2 fs own1 own2)) K = (
Alt (ltI (↑bs : Int) (↑n : Int))
  (FlatD [1]
      (hp
        [Blk.cells (pC L) 1 true,
          Blk.cells [Value.slice (some { block := 2, off := 0, spot := sp : Addr }) n2 k2] 1 own1,
          Blk.cells fs 1 own2]) ∧
    ∃ (b : Nat),
      tmps 63
            [(0, Value.slice (some { block := 0, off := 0, spot := sq : Addr }) d q),
              (1, Value.int IntKind.i64 (↑n : Int)),
              (2, Value.func (Fn.func 41) #[] #[Value.pointer (some { block := 1, off := 0 : Addr })]),
              (6, Value.int IntKind.i64 (↑bs : Int)), (7, Value.int IntKind.i64 0),
              (8, Value.int IntKind.i64 (wr IntKind.i64 (2 * (↑bs : Int))))] =
          tmps 63
            [(0, Value.slice (some { block := 0, off := 0, spot := sq : Addr }) d q),
              (1, Value.int IntKind.i64 (↑n : Int)),
              (2, Value.func (Fn.func 41) #[] #[Value.pointer (some { block := 1, off := 0 : Addr })]),
              (6, Value.int IntKind.i64 (↑bs : Int)), (7, Value.int IntKind.i64 0),
              (8, Value.int IntKind.i64 (↑(2 * bs) : Int))] ∧
        hp
              [Blk.cells (pC L) 1 true,
                Blk.cells [Value.slice (some { block := 2, off := 0, spot := sp : Addr }) n2 k2] 1 own1,
                Blk.cells fs 1 own2] =
            hp
              [Blk.cells (pC L) 1 true,
                Blk.cells [Value.slice (some { block := 2, off := 0, spot := sp : Addr }) n2 k2] 1 own1,
                Blk.cells fs 1 own2] ∧
          LtN bs n ∧
            Alt (ltI (wr IntKind.i64 ((↑x.a : Int) + (↑bs : Int))) (↑n : Int))
              ((FlatL (pC x.L) ∧
                  nojL [Value.slice (some { block := 2, off := 0, spot := sp : Addr }) n2 k2] = true ∧
                    FlatL fs ∧ True) ∧
                (Value.func (Fn.func 41) #[] #[Value.pointer (some { block := 1, off := 0 : Addr })] =
                      Value.func (Fn.func 41) #[] #[Value.pointer (some { block := 1, off := 0 : Addr })] ∧
                    IsPl (pC x.L) d ∧
                      IsFv fs n2 ∧
                        SymOk 100 (rkAt fs) (plAt (pC x.L)) (↑x.a : Int) (wr IntKind.i64 ((↑x.a : Int) + (↑bs : Int)))
                          (↑n : Int) n2) ∧
                  K AE.normal
                    (tmps 63
                      [(0, Value.slice (some { block := 0, off := 0, spot := sq : Addr }) d q),
                        (1, Value.int IntKind.i64 (↑n : Int)),
                        (2, Value.func (Fn.func 41) #[] #[Value.pointer (some { block := 1, off := 0 : Addr })]),
                        (6, Value.int IntKind.i64 (wr IntKind.i64 ((↑bs : Int) * 2)))])
                    (hp
                      [Blk.cells (pC (segS (rkAt fs) (plAt (pC x.L)) (↑x.a : Int).toNat (↑n : Int).toNat)) 1 true,
                        Blk.cells [Value.slice (some { block := 2, off := 0, spot := sp : Addr }) n2 k2] 1 own1,
                        Blk.cells fs 1 own2]))
              (K AE.normal
                (tmps 63
                  [(0, Value.slice (some { block := 0, off := 0, spot := sq : Addr }) d q),
                    (1, Value.int IntKind.i64 (↑n : Int)),
                    (2, Value.func (Fn.func 41) #[] #[Value.pointer (some { block := 1, off := 0 : Addr })]),
                    (6, Value.int IntKind.i64 (wr IntKind.i64 ((↑bs : Int) * 2)))])
                (hp
                  [Blk.cells (pC x.L) 1 true,
                    Blk.cells [Value.slice (some { block := 2, off := 0, spot := sp : Addr }) n2 k2] 1 own1,
                    Blk.cells fs 1 own2])))
  (K (AE.exit 2) (tmps 63 [])
    (hp
      [Blk.cells (pC L) 1 true, Blk.cells [Value.slice (some { block := 2, off := 0, spot := sp : Addr }) n2 k2] 1 own1,
        Blk.cells fs 1 own2]))) := by kernel_rfl

end Go.Proofs.Ytglfkchcmjmmlaa

namespace Go.Proofs.Ytglfkchcmjmmlaa
open Go.RowKit Go.Proofs.Ytglfkchcmjmmlaa.AM
set_option maxRecDepth 100000
set_option maxHeartbeats 4000000
def piece (key : Nat → Int) (p q : Nat) : List Nat := srtK key (List.range' p q)
theorem piece_len (key : Nat → Int) (p q : Nat) : (piece key p q).length = q := by unfold piece; rw [srtK_len, List.length_range']
theorem piece_mem {key : Nat → Int} {p q x : Nat} : x ∈ piece key p q ↔ p ≤ x ∧ x < p + q := by unfold piece; rw [srtK_mem, List.mem_range'_1]
theorem piece_asc (key : Nat → Int) (p q : Nat) : Asc key (piece key p q) := srtK_asc List.nodup_range'
theorem piece_zero (key : Nat → Int) (p : Nat) : piece key p 0 = [] := List.eq_nil_of_length_eq_zero (piece_len key p 0)
theorem piece_app (key : Nat → Int) (p m n : Nat) : srtK key (piece key p m ++ piece key (p + m) n) = piece key p (m + n) := by
  refine srtK_congr (((srtK_perm key _).append (srtK_perm key _)).trans ?_)
  rw [List.range'_append_1]
theorem merge_eq (key : Nat → Int) {X Y : List Nat} {p m n : Nat} (hX : X.length = p) : segS key (X ++ (piece key p m ++ (piece key (p + m) n ++ Y))) p (p + m + n) = X ++ (piece key p (m + n) ++ Y) := by
  rw [← List.append_assoc (piece key p m), segS_eq key hX (show p + (piece key p m ++ piece key (p + m) n).length = p + m + n by rw [List.length_append, piece_len, piece_len]; omega), piece_app]
theorem merge_ok {f n2 : Nat} {key : Nat → Int} {X Y : List Nat} {p m n : Nat} (hX : X.length = p) (hm : 0 < m) (hn : 0 < n) (h : ∀ x ∈ X ++ (piece key p m ++ (piece key (p + m) n ++ Y)), x < n2) (hf : m + n < f) : SymOk f key (X ++ (piece key p m ++ (piece key (p + m) n ++ Y))) (p : Int) ((p + m : Nat) : Int) ((p + m + n : Nat) : Int) n2 :=
  symok_of hX (by rw [piece_len]) (by rw [piece_len]) (piece_asc _ _ _) (piece_asc _ _ _) (fun x hx y hy => by rw [piece_mem] at hx hy; omega) (by omega) (by omega) h (by omega)
noncomputable def D40 (key : Nat → Int) (n : Nat) : List Nat := piece key 0 (min 40 n) ++ piece key 40 (n - 40)
noncomputable def D20 (key : Nat → Int) (n : Nat) : List Nat := piece key 0 (min 20 n) ++ (piece key 20 (min 20 (n - 20)) ++ piece key 40 (n - 40))
theorem min_a {a b : Nat} (h : a ≤ b) : min a b = a := Nat.min_eq_left h
theorem min_b {a b : Nat} (h : b ≤ a) : min a b = b := Nat.min_eq_right h
theorem st_exit (hm : Try.prog.follows .mixedOrders = true) (sq : Option Nat) (q n : Nat) (sp : Option Nat) (n2 k2 : Nat) (fs : List Value) (own1 own2 : Bool) (hv : IsFv fs n2) (h60 : n ≤ 60) (hn2 : n ≤ n2) (bs : Nat) (hb : n ≤ bs) (L : List Nat) (K : Post) (hK : K (.exit 2) (tmps 63 []) (hp (hS (pC L) sp n2 k2 fs own1 own2))) : LSays Try.prog 3 (sub body360 [0,0,1,1,1,1]) (T360o sq n q n bs) (hp (hS (pC L) sp n2 k2 fs own1 own2)) K := by
  refine (sure360 hm).roundX F360 (((Loops.noneE (P := Try.prog) (root := body360) (k := 3)).moreE (cut360i sq n q n bs L ⟨0, []⟩ sp n2 k2 fs own1 own2) fun x K hQ => ?_).gcX (at0 [1]) (at0 [])) [1] [] [1] [] [0,1,2,6] ?_
  · have := hQ.1.lt; omega
  rw [r360o, ltF (show ¬ (bs : Int) < (n : Int) by omega), alt_f]
  exact ⟨hS_flat hv, hK⟩
/-- the inner loop has nothing to do -/
theorem st_in0 (hm : Try.prog.follows .mixedOrders = true) (sq : Option Nat) (q n : Nat) (sp : Option Nat) (n2 k2 : Nat) (fs : List Value) (own1 own2 : Bool) (hv : IsFv fs n2) (h60 : n ≤ 60) (hn2 : n ≤ n2) (bs a b : Nat) (hb : n < b) (L : List Nat) (K : Post) (hK : K (.exit 4) (tmps 63 [(0, .slice (some ⟨0,0,sq⟩) n q), (1, .int .i64 n), (2, fnR), (6, .int .i64 bs), (7, .int .i64 a)]) (hp (hS (pC L) sp n2 k2 fs own1 own2))) : LSays Try.prog 3 (sub body360 [0,0,0,1,0,1,0,0,1,1,1,1]) (T360 sq n q n bs a b) (hp (hS (pC L) sp n2 k2 fs own1 own2)) K := by
  refine (sure360 hm).roundX F360 noLoops [1] [] [1] [] [0,1,2,6,7,8] ?_
  rw [r360i, show leI (b : Int) (n : Int) = false by rw [leI_eq, decide_eq_false (by omega)], alt_f]
  exact ⟨hS_flat hv, hK⟩
theorem st_40 (hm : Try.prog.follows .mixedOrders = true) (sq : Option Nat) (q n : Nat) (sp : Option Nat) (n2 k2 : Nat) (fs : List Value) (own1 own2 : Bool) (hv : IsFv fs n2) (h60 : n ≤ 60) (hn2 : n ≤ n2) (K : Post) (hK : K (.exit 2) (tmps 63 []) (hp (hS (pC (piece (rkAt fs) 0 n)) sp n2 k2 fs own1 own2))) : LSays Try.prog 3 (sub body360 [0,0,1,1,1,1]) (T360o sq n q n 40) (hp (hS (pC (D40 (rkAt fs) n)) sp n2 k2 fs own1 own2)) K := by
  by_cases h : n ≤ 40
  · have e : D40 (rkAt fs) n = piece (rkAt fs) 0 n := by unfold D40; rw [min_b h, show n - 40 = 0 by omega, piece_zero, List.append_nil]
    rw [e]
    exact st_exit hm sq q n sp n2 k2 fs own1 own2 hv h60 hn2 40 h _ K hK
  · have e : D40 (rkAt fs) n = [] ++ (piece (rkAt fs) 0 40 ++ (piece (rkAt fs) (0 + 40) (n - 40) ++ [])) := by unfold D40; rw [min_a (by omega)]; simp
    refine (sure360 hm).roundX F360 (((Loops.noneE (P := Try.prog) (root := body360) (k := 3)).moreE (cut360i sq n q n 40 (D40 (rkAt fs) n) ⟨0, D40 (rkAt fs) n⟩ sp n2 k2 fs own1 own2) fun x K hQ => ?_).gcX (at0 [1]) (at0 [])) [1] [] [1] [] [0,1,2,6] ?_
    · show LSays Try.prog 3 (sub body360 [0,0,0,1,0,1,0,0,1,1,1,1]) (T360 sq n q n 40 0 (2 * 40)) (hp (hS (pC (D40 (rkAt fs) n)) sp n2 k2 fs own1 own2)) K
      exact st_in0 hm sq q n sp n2 k2 fs own1 own2 hv h60 hn2 40 0 (2 * 40) (by omega) _ K hQ.2
    have hl : (D40 (rkAt fs) n).length = n := by rw [e]; simp only [List.length_append, piece_len, List.length_nil]; omega
    have hlt : ∀ x ∈ D40 (rkAt fs) n, x < n2 := fun x hx => by
      unfold D40 at hx
      rw [List.mem_append, piece_mem, piece_mem] at hx; omega
    have hok := merge_ok (f := 100) (n2 := n2) (key := rkAt fs) (X := []) (Y := []) (p := 0) (m := 40) (n := n - 40) rfl (by omega) (by omega) (by rw [← e]; exact hlt) (by omega)
    have hme := merge_eq (rkAt fs) (X := []) (Y := []) (p := 0) (m := 40) (n := n - 40) rfl
    rw [← e, show 0 + 40 + (n - 40) = n by omega] at hok hme
    rw [List.nil_append, List.append_nil] at hme
    have nx := st_exit hm sq q n sp n2 k2 fs own1 own2 hv h60 hn2 80 (by omega) _ K hK
    rw [r360o, ltT (show ((40 : Nat) : Int) < (n : Int) by omega), alt_t]
    have w1 : wr .i64 (2 * ((40 : Nat) : Int)) = ((2 * 40 : Nat) : Int) := wrn 80 (by omega)
    have w2 : wr .i64 (((0 : Nat) : Int) + ((40 : Nat) : Int)) = ((0 + 40 : Nat) : Int) := wra 0 40 (by omega)
    have w3 : wr .i64 (((40 : Nat) : Int) * 2) = ((80 : Nat) : Int) := wrn 80 (by omega)
    simp only [w1, w2, w3, plAt_pC]
    refine ⟨hS_flat hv, 0, (by first | trivial | rfl), (by first | trivial | rfl), ⟨by omega⟩, ?_⟩
    rw [ltT (show ((0 + 40 : Nat) : Int) < (n : Int) by omega), alt_t, Int.toNat_natCast, Int.toNat_natCast, hme]
    exact ⟨⟨pC_flat _, rfl, hv.flat, trivial⟩, ⟨(by first | trivial | rfl), .mk _ rfl hl (by omega), hv, hok⟩, hS_flat hv, nx⟩
theorem st_20 (hm : Try.prog.follows .mixedOrders = true) (sq : Option Nat) (q n : Nat) (sp : Option Nat) (n2 k2 : Nat) (fs : List Value) (own1 own2 : Bool) (hv : IsFv fs n2) (h60 : n ≤ 60) (hn2 : n ≤ n2) (K : Post) (hK : K (.exit 2) (tmps 63 []) (hp (hS (pC (piece (rkAt fs) 0 n)) sp n2 k2 fs own1 own2))) : LSays Try.prog 3 (sub body360 [0,0,1,1,1,1]) (T360o sq n q n 20) (hp (hS (pC (D20 (rkAt fs) n)) sp n2 k2 fs own1 own2)) K := by
  have hl : (D20 (rkAt fs) n).length = n := by
    unfold D20; simp only [List.length_append, piece_len]; omega
  have hlt : ∀ x ∈ D20 (rkAt fs) n, x < n2 := fun x hx => by
    unfold D20 at hx
    rw [List.mem_append, List.mem_append, piece_mem, piece_mem, piece_mem] at hx; omega
  have w1 : wr .i64 (2 * ((20 : Nat) : Int)) = ((2 * 20 : Nat) : Int) := wrn 40 (by omega)
  have w3 : wr .i64 (((20 : Nat) : Int) * 2) = ((40 : Nat) : Int) := wrn 40 (by omega)
  have nx := st_40 hm sq q n sp n2 k2 fs own1 own2 hv h60 hn2 K hK
  by_cases h : n ≤ 20
  · have e : D20 (rkAt fs) n = piece (rkAt fs) 0 n := by unfold D20; rw [min_b h, show n - 40 = 0 by omega, show n - 20 = 0 by omega, min_b (Nat.zero_le _), piece_zero, piece_zero]; simp
    rw [e]
    exact st_exit hm sq q n sp n2 k2 fs own1 own2 hv h60 hn2 20 h _ K hK
  by_cases h4 : n < 40
  · have e : D20 (rkAt fs) n = [] ++ (piece (rkAt fs) 0 20 ++ (piece (rkAt fs) (0 + 20) (n - 20) ++ [])) := by unfold D20; rw [min_a (by omega), min_b (show n - 20 ≤ 20 by omega), show n - 40 = 0 by omega, piece_zero]; simp
    have e4 : D40 (rkAt fs) n = piece (rkAt fs) 0 n := by unfold D40; rw [min_b (by omega), show n - 40 = 0 by omega, piece_zero, List.append_nil]
    have hok := merge_ok (f := 100) (n2 := n2) (key := rkAt fs) (X := []) (Y := []) (p := 0) (m := 20) (n := n - 20) rfl (by omega) (by omega) (by rw [← e]; exact hlt) (by omega)
    have hme := merge_eq (rkAt fs) (X := []) (Y := []) (p := 0) (m := 20) (n := n - 20) rfl
    rw [← e, show 0 + 20 + (n - 20) = n by omega] at hok hme
    rw [List.nil_append, List.append_nil] at hme
    rw [e4] at nx
    refine (sure360 hm).roundX F360 (((Loops.noneE (P := Try.prog) (root := body360) (k := 3)).moreE (cut360i sq n q n 20 (D20 (rkAt fs) n) ⟨0, D20 (rkAt fs) n⟩ sp n2 k2 fs own1 own2) fun x K hQ => ?_).gcX (at0 [1]) (at0 [])) [1] [] [1] [] [0,1,2,6] ?_
    · show LSays Try.prog 3 (sub body360 [0,0,0,1,0,1,0,0,1,1,1,1]) (T360 sq n q n 20 0 (2 * 20)) (hp (hS (pC (D20 (rkAt fs) n)) sp n2 k2 fs own1 own2)) K
      exact st_in0 hm sq q n sp n2 k2 fs own1 own2 hv h60 hn2 20 0 (2 * 20) (by omega) _ K hQ.2
    rw [r360o, ltT (show ((20 : Nat) : Int) < (n : Int) by omega), alt_t]
    have w2 : wr .i64 (((0 : Nat) : Int) + ((20 : Nat) : Int)) = ((0 + 20 : Nat) : Int) := wra 0 20 (by omega)
    simp only [w1, w2, w3, plAt_pC]
    refine ⟨hS_flat hv, 0, (by first | trivial | rfl), (by first | trivial | rfl), ⟨by omega⟩, ?_⟩
    rw [ltT (show ((0 + 20 : Nat) : Int) < (n : Int) by omega), alt_t, Int.toNat_natCast, Int.toNat_natCast, hme]
    exact ⟨⟨pC_flat _, rfl, hv.flat, trivial⟩, ⟨(by first | trivial | rfl), .mk _ rfl hl (by omega), hv, hok⟩, hS_flat hv, nx⟩
  · have e : D20 (rkAt fs) n = [] ++ (piece (rkAt fs) 0 20 ++ (piece (rkAt fs) (0 + 20) 20 ++ piece (rkAt fs) 40 (n - 40))) := by unfold D20; rw [min_a (by omega), min_a (show 20 ≤ n - 20 by omega)]; simp
    have e4 : D40 (rkAt fs) n = piece (rkAt fs) 0 40 ++ piece (rkAt fs) 40 (n - 40) := by unfold D40; rw [min_a (by omega)]
    have hok := merge_ok (f := 100) (n2 := n2) (key := rkAt fs) (X := []) (Y := piece (rkAt fs) 40 (n - 40)) (p := 0) (m := 20) (n := 20) rfl (by omega) (by omega) (by rw [← e]; exact hlt) (by omega)
    have hme := merge_eq (rkAt fs) (X := []) (Y := piece (rkAt fs) 40 (n - 40)) (p := 0) (m := 20) (n := 20) rfl
    rw [← e] at hok hme
    rw [List.nil_append, ← e4] at hme
    refine (sure360 hm).roundX F360 (((Loops.noneE (P := Try.prog) (root := body360) (k := 3)).moreE (cut360i sq n q n 20 (D20 (rkAt fs) n) ⟨40, D40 (rkAt fs) n⟩ sp n2 k2 fs own1 own2) fun x K hQ => ?_).gcX (at0 [1]) (at0 [])) [1] [] [1] [] [0,1,2,6] ?_
    · show LSays Try.prog 3 (sub body360 [0,0,0,1,0,1,0,0,1,1,1,1]) (T360 sq n q n 20 0 (2 * 20)) (hp (hS (pC (D20 (rkAt fs) n)) sp n2 k2 fs own1 own2)) K
      have nx2 := st_in0 hm sq q n sp n2 k2 fs own1 own2 hv h60 hn2 20 40 80 (by omega) _ K hQ.2
      refine (sure360 hm).roundX F360 noLoops [1] [] [1] [] [0,1,2,6,7,8] ?_
      have w2 : wr .i64 (((0 : Nat) : Int) + ((20 : Nat) : Int)) = ((0 + 20 : Nat) : Int) := wra 0 20 (by omega)
      have w4 : wr .i64 (((2 * 20 : Nat) : Int) + ((2 * 20 : Nat) : Int)) = ((80 : Nat) : Int) := wra 40 40 (by omega)
      rw [r360i, leT (show ((2 * 20 : Nat) : Int) ≤ (n : Int) by omega), alt_t]
      simp only [w1, w2, w4, plAt_pC]
      rw [Int.toNat_natCast, Int.toNat_natCast, show segS (rkAt fs) (D20 (rkAt fs) n) 0 (2 * 20) = D40 (rkAt fs) n from hme]
      exact ⟨⟨pC_flat _, rfl, hv.flat, trivial⟩, ⟨(by first | trivial | rfl), .mk _ rfl hl (by omega), hv, hok⟩, hS_flat hv, nx2⟩
    rw [r360o, ltT (show ((20 : Nat) : Int) < (n : Int) by omega), alt_t]
    have w2 : wr .i64 (((40 : Nat) : Int) + ((20 : Nat) : Int)) = ((40 + 20 : Nat) : Int) := wra 40 20 (by omega)
    simp only [w1, w2, w3, plAt_pC]
    refine ⟨hS_flat hv, 0, (by first | trivial | rfl), (by first | trivial | rfl), ⟨by omega⟩, ?_⟩
    rw [ltF (show ¬ ((40 + 20 : Nat) : Int) < (n : Int) by omega), alt_f]
    exact ⟨hS_flat hv, nx⟩
end Go.Proofs.Ytglfkchcmjmmlaa
