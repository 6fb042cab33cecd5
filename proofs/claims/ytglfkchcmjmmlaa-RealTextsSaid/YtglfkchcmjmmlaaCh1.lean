/- Proved: what functions of the program come to, by their conditions over the abstract machine. Conditions: those that each theorem states. -/
import Derived.Test.YtglfkchcmjmmlaaAm4
import Derived.Test.YtglfkchcmjmmlaaProg
import Derived.WalkKit
import Derived.ProofKit
import Derived.Laws.BitsLemmas
set_option linter.unusedVariables false
set_option linter.unusedSimpArgs false
namespace Go.Proofs.Ytglfkchcmjmmlaa
open Go.RowKit Go.Proofs.Ytglfkchcmjmmlaa.AM
set_option maxRecDepth 100000
set_option maxHeartbeats 4000000
noncomputable def S0 : Book := fun _ => none
theorem named : (Try.prog.funcs.toList.all fun fn => !(fn.name == "runtime.NumGoroutine")) = true := by decide +kernel
theorem plain : Plain Try.prog := fun f fn hf _ hn => by
  have h1 := List.all_eq_true.1 named fn (by simpa using Array.mem_of_getElem? hf)
  rw [hn] at h1
  exact absurd h1 (by decide)
theorem sums0 : SumsOk Try.prog S0.sums := fun f s hs => by cases hs
theorem sure0 (hmix : Try.prog.follows .mixedOrders = true) : Sure Try.prog S0 := ⟨hmix, plain, sums0⟩
theorem f64_of {x : Nat} (h : (Lit.float .f64 x).wf = true) : x < 18446744073709551616 := by simpa [Lit.wf] using h
theorem u64_of {x : Int} (h : (Lit.int .u64 x).wf = true) : 0 ≤ x ∧ x < 18446744073709551616 := by
  simp [Lit.wf, IntKind.min, IntKind.max, IntKind.bits, IntKind.signed] at h; omega
theorem wr_u64 (n : Int) (h0 : 0 ≤ n) (h1 : n < 18446744073709551616) : wr .u64 n = n := by
  rw [wr_eq]; simp [IntKind.wrap, IntKind.bits, IntKind.signed]; omega
theorem ofInt_nat (n : Nat) : BitVec.ofInt 64 (n : Int) = BitVec.ofNat 64 n := by simp
/-- the highest bit -/
theorem and_high (n : Nat) (h : n < 18446744073709551616) : bitsW .and .u64 (n : Int) 9223372036854775808 = if n < 9223372036854775808 then 0 else 9223372036854775808 := by
  have e : ((BitVec.ofInt 64 (n : Int)) &&& BitVec.ofInt 64 9223372036854775808).toNat = if n < 9223372036854775808 then 0 else 9223372036854775808 := by
    have e1 : BitVec.ofInt 64 9223372036854775808 = BitVec.twoPow 64 63 := by decide
    rw [ofInt_nat, e1, BitVec.and_twoPow]
    have hg : (BitVec.ofNat 64 n).getLsbD 63 = n.testBit 63 := by
      simp only [BitVec.getLsbD, BitVec.toNat_ofNat]
      rw [Nat.mod_eq_of_lt (by simpa using h)]
    rw [hg]
    by_cases hn : n < 9223372036854775808
    · rw [Nat.testBit_lt_two_pow (by simpa using hn), if_pos hn]; rfl
    · rw [if_neg hn, show n.testBit 63 = true from by
        rw [Nat.testBit_eq_decide_div_mod_eq, decide_eq_true_iff]; omega]
      decide
  show wr .u64 (((BitVec.ofInt 64 (n : Int)) &&& BitVec.ofInt 64 9223372036854775808).toNat : Int) = _
  rw [e]
  split
  · rfl
  · rfl
theorem or_high (n : Nat) (h : n < 9223372036854775808) : bitsW .or .u64 (n : Int) 9223372036854775808 = (n : Int) + 9223372036854775808 := by
  have e : ((BitVec.ofInt 64 (n : Int)) ||| BitVec.ofInt 64 9223372036854775808).toNat = n + 9223372036854775808 := by
    rw [ofInt_nat, show (9223372036854775808 : Int) = ((9223372036854775808 : Nat) : Int) from rfl, ofInt_nat, BitVec.toNat_or, BitVec.toNat_ofNat, BitVec.toNat_ofNat, Nat.mod_eq_of_lt (by simp; omega)]
    rw [show 9223372036854775808 % 2 ^ 64 = 2 ^ 63 * 1 by decide, Nat.or_comm, Nat.two_pow_add_eq_or_of_lt (by simpa using h) 1 |>.symm]
    omega
  show wr .u64 (((BitVec.ofInt 64 (n : Int)) ||| BitVec.ofInt 64 9223372036854775808).toNat : Int) = _
  rw [e, wr_u64 _ (by omega) (by omega)]; rfl
theorem not_all (n : Nat) (h : n < 18446744073709551616) : (BitVec.ofInt 64 18446744073709551615 ^^^ BitVec.ofInt 64 (n : Int)).toNat = 18446744073709551615 - n := by
  have e1 : BitVec.ofInt 64 18446744073709551615 = BitVec.allOnes 64 := by decide
  rw [e1, BitVec.allOnes_xor, BitVec.toNat_not, ofInt_nat, BitVec.toNat_ofNat, Nat.mod_eq_of_lt (by simpa using h)]
end Go.Proofs.Ytglfkchcmjmmlaa

namespace Go.Proofs.Ytglfkchcmjmmlaa
open Go.RowKit Go.Proofs.Ytglfkchcmjmmlaa.AM
set_option maxRecDepth 100000
set_option maxHeartbeats 4000000
/-- a contract of a function that asks no memory -/
noncomputable def flC (ok : List Value → Prop) (g : List Value → Value) : Ctr where
  pre := fun args blks => match blks with
    | [] => ok args
    | _ => False
  val := fun args _ => g args
  new := fun _ _ => []
theorem flC_of {f : FuncId} {ok : List Value → Prop} {g : List Value → Value} (hs : ∀ args, ok args → FunSays Try.prog f args (hp []) fun v h' => v = g args ∧ h' = hp []) : (flC ok g).Holds Try.prog f := by
  intro args blks hf hp
  refine ⟨trivial, ?_⟩
  simp only [flC] at hp ⊢
  split at hp
  · exact hs _ hp
  · exact hp.elim
noncomputable def body342 : Code := (Try.f42.body).getD .skip
def F342 : List Nat → Option (List Nat) := fun p => match p with
  | [1] => some [0]
  | [1, 1] => some [2]
  | _ => none
noncomputable def body330 : Code := (Try.f30.body).getD .skip
def F330 : List Nat → Option (List Nat) := fun p => match p with
  | [1] => some [0]
  | [1, 0, 1] => some [0, 5]
  | [1, 0, 1, 0, 1] => some [2]
  | [1, 1] => some [0]
  | [1, 1, 1] => some [2]
  | _ => none
noncomputable def body344 : Code := (Try.f44.body).getD .skip
def F344 : List Nat → Option (List Nat) := fun p => match p with
  | [1] => some [0]
  | [1, 1] => some [2]
  | _ => none
noncomputable def body315 : Code := (Try.f15.body).getD .skip
def F315 : List Nat → Option (List Nat) := fun p => match p with
  | [1] => some []
  | [1, 1] => some [0]
  | _ => none
noncomputable def body332 : Code := (Try.f32.body).getD .skip
def F332 : List Nat → Option (List Nat) := fun p => match p with
  | [1] => some [0]
  | [1, 1] => some [0]
  | [1, 0, 1, 1] => some [5]
  | [1, 1, 1] => some [3]
  | [1, 1, 1, 1] => some [2]
  | _ => none
noncomputable def body313 : Code := (Try.f13.body).getD .skip
def F313 : List Nat → Option (List Nat) := fun p => match p with
  | [1] => some [0, 1]
  | [1, 1] => some [4]
  | _ => none
noncomputable def body329 : Code := (Try.f29.body).getD .skip
def F329 : List Nat → Option (List Nat) := fun p => match p with
  | [1] => some [0]
  | [1, 1] => some [0, 4]
  | [1, 0, 1, 1] => some [4, 13]
  | [1, 0, 1, 0, 1, 1] => some [2, 3]
  | [1, 1, 1] => some [4]
  | [1, 1, 1, 1] => some [2, 3]
  | _ => none

theorem w342 (a : Nat) (K : Value → Heap → Prop) :
  funK Try.prog S0 noLoop F342 body342 Try.f42 [.float .f64 a] (hp []) K = (
K (Value.bool !fEq a a) (hp [])) := by kernel_rfl

theorem w330 (a : Nat) (K : Value → Heap → Prop) :
  funK Try.prog S0 noLoop F330 body330 Try.f30 [.float .f64 a] (hp []) K = (
Alt (!fEq a a) (K (Value.int IntKind.u64 9221120237041090561) (hp [])) (K (Value.int IntKind.u64 (↑a : Int)) (hp []))) := by kernel_rfl

theorem w344 (a : Nat) (K : Value → Heap → Prop) :
  funK Try.prog S0 noLoop F344 body344 Try.f44 [.float .f64 a] (hp []) K = (
K (Value.bool (ltI (wr IntKind.i64 (↑a : Int)) 0)) (hp [])) := by kernel_rfl

theorem w315 (K : Value → Heap → Prop) :
  funK Try.prog S0 noLoop F315 body315 Try.f15 [] (hp []) K = (
K (Value.float FloatKind.f64 9221120237041090561) (hp [])) := by kernel_rfl

theorem w332 (s : Int) (K : Value → Heap → Prop) :
  funK Try.prog S0 noLoop F332 body332 Try.f32 [.int .i64 s] (hp []) K = (
Alt (leI 0 s) (K (Value.float FloatKind.f64 9218868437227405312) (hp []))
  (K (Value.float FloatKind.f64 18442240474082181120) (hp []))) := by kernel_rfl

theorem w313 (a b : Nat) (K : Value → Heap → Prop) :
  funK Try.prog S0 noLoop F313 body313 Try.f13 [.float .f64 a, .float .f64 b] (hp []) K = (
K
  (Value.float FloatKind.f64
    (bitsW BinOp.or IntKind.u64 (bitsW BinOp.andNot IntKind.u64 (↑a : Int) 9223372036854775808)
        (bitsW BinOp.and IntKind.u64 (↑b : Int) 9223372036854775808)).toNat)
  (hp [])) := by kernel_rfl

theorem w329 (u : Int) (K : Value → Heap → Prop) :
  funK Try.prog S0 noLoop F329 body329 Try.f29 [.int .u64 u] (hp []) K = (
Alt (!fEq u.toNat u.toNat)
  (Alt (!eqI u 9221120237041090561) (K (Value.tuple #[Value.float FloatKind.f64 0, Value.bool false]) (hp []))
    (K (Value.tuple #[Value.float FloatKind.f64 u.toNat, Value.bool true]) (hp [])))
  (K (Value.tuple #[Value.float FloatKind.f64 u.toNat, Value.bool true]) (hp []))) := by kernel_rfl

theorem fEq_self (a : Nat) : fEq a a = !fNan a := by unfold fEq; simp
/-- a float's bits, all that are no number one -/
def fBits (a : Nat) : Int := cond (fNan a) 9221120237041090561 (a : Int)
def okF : List Value → Prop := fun xs => match xs with
  | [.float .f64 a] => Need (leN a 18446744073709551615) True
  | _ => False
noncomputable def fltA (xs : List Value) (i : Nat) : Nat := fltV ((getO xs i).getD (.bool false))
theorem okF_eq {xs : List Value} (h : okF xs) : ∃ a : Nat, xs = [.float .f64 a] ∧ a ≤ 18446744073709551615 := by
  unfold okF at h
  split at h
  · simp only [Alt_iff, Need_iff, ltI_eq, leI_eq, eqI_eq, leN_eq, eqN_eq, decide_eq_true_eq, decide_eq_false_iff_not, decide_true, decide_false, true_and, and_true, Bool.true_eq_false, Bool.false_eq_true, false_implies, true_implies, implies_true, not_true_eq_false, not_false_eq_true, Bool.not_eq_true', Bool.not_eq_false'] at h
    exact ⟨_, rfl, h⟩
  · exact h.elim
def okFF : List Value → Prop := fun xs => match xs with
  | [.float .f64 a, .float .f64 b] => Need (leN a 18446744073709551615) (Need (leN b 18446744073709551615) True)
  | _ => False
theorem okFF_eq {xs : List Value} (h : okFF xs) : ∃ a b : Nat, xs = [.float .f64 a, .float .f64 b] ∧ a ≤ 18446744073709551615 ∧ b ≤ 18446744073709551615 := by
  unfold okFF at h
  split at h
  · simp only [Alt_iff, Need_iff, ltI_eq, leI_eq, eqI_eq, leN_eq, eqN_eq, decide_eq_true_eq, decide_eq_false_iff_not, decide_true, decide_false, true_and, and_true, Bool.true_eq_false, Bool.false_eq_true, false_implies, true_implies, implies_true, not_true_eq_false, not_false_eq_true, Bool.not_eq_true', Bool.not_eq_false'] at h
    exact ⟨_, _, rfl, h⟩
  · exact h.elim
def okU : List Value → Prop := fun xs => match xs with
  | [.int .u64 u] => Need (leI 0 u) (Need (leI u 18446744073709551615) True)
  | _ => False
theorem okU_eq {xs : List Value} (h : okU xs) : ∃ u : Int, xs = [.int .u64 u] ∧ 0 ≤ u ∧ u ≤ 18446744073709551615 := by
  unfold okU at h
  split at h
  · simp only [Alt_iff, Need_iff, ltI_eq, leI_eq, eqI_eq, leN_eq, eqN_eq, decide_eq_true_eq, decide_eq_false_iff_not, decide_true, decide_false, true_and, and_true, Bool.true_eq_false, Bool.false_eq_true, false_implies, true_implies, implies_true, not_true_eq_false, not_false_eq_true, Bool.not_eq_true', Bool.not_eq_false'] at h
    exact ⟨_, rfl, h⟩
  · exact h.elim
noncomputable def noC : Ctr := flC okF fun xs => .bool (fNan (fltA xs 0))
noncomputable def bitsC : Ctr := flC okF fun xs => .int .u64 (fBits (fltA xs 0))
noncomputable def signC : Ctr := flC okF fun xs => .bool (leN 9223372036854775808 (fltA xs 0))
def ok0 : List Value → Prop := fun xs => match xs with
  | [] => True
  | _ => False
noncomputable def nanC : Ctr := flC ok0 fun xs => .float .f64 9221120237041090561
def okI : List Value → Prop := fun xs => match xs with
  | [.int .i64 _] => True
  | _ => False
noncomputable def infC : Ctr := flC okI fun xs => .float .f64 (cond (leI 0 (intV ((getO xs 0).getD (.bool false)))) 9218868437227405312 18442240474082181120)
noncomputable def copyC : Ctr := flC okFF fun xs => .float .f64 (bitsW BinOp.or IntKind.u64 (bitsW BinOp.andNot IntKind.u64 (fltA xs 0 : Int) 9223372036854775808) (bitsW BinOp.and IntKind.u64 (fltA xs 1 : Int) 9223372036854775808)).toNat
def fBad (u : Int) : Bool := fNan u.toNat && !eqI u 9221120237041090561
noncomputable def ofC : Ctr := flC okU fun xs => .tuple #[.float .f64 (cond (fBad (intV ((getO xs 0).getD (.bool false)))) 0 (intV ((getO xs 0).getD (.bool false))).toNat), .bool (!fBad (intV ((getO xs 0).getD (.bool false))))]
theorem no_says (hmix : Try.prog.follows .mixedOrders = true) : noC.Holds Try.prog 42 := flC_of fun xs h => by
  obtain ⟨a, rfl, ha⟩ := okF_eq h
  refine (sure0 hmix).fun F342 body342 Try.func42 rfl noLoops ?_
  rw [w342, fEq_self, Bool.not_not]
  exact ⟨rfl, FlatH.empty, rfl, rfl⟩
theorem rbits_says (hmix : Try.prog.follows .mixedOrders = true) : bitsC.Holds Try.prog 30 := flC_of fun xs h => by
  obtain ⟨a, rfl, ha⟩ := okF_eq h
  refine (sure0 hmix).fun F330 body330 Try.func30 rfl noLoops ?_
  rw [w330, fEq_self, Bool.not_not]
  show Alt _ (_ ∧ _ ∧ _ = Value.int .u64 (fBits a) ∧ _) (_ ∧ _ ∧ _ = Value.int .u64 (fBits a) ∧ _)
  unfold fBits
  cases fNan a <;> exact ⟨rfl, FlatH.empty, rfl, rfl⟩
theorem sign_says (hmix : Try.prog.follows .mixedOrders = true) : signC.Holds Try.prog 44 := flC_of fun xs h => by
  obtain ⟨a, rfl, ha⟩ := okF_eq h
  refine (sure0 hmix).fun F344 body344 Try.func44 rfl noLoops ?_
  rw [w344]
  refine ⟨rfl, FlatH.empty, ?_, rfl⟩
  show Value.bool _ = Value.bool (leN 9223372036854775808 a)
  congr 1
  rw [wr_eq, ltI_eq, leN_eq]
  by_cases h : 9223372036854775808 ≤ a
  · simp only [h, decide_true, decide_eq_true_eq]; simp [IntKind.wrap, IntKind.bits, IntKind.signed]; omega
  · simp only [h, decide_false, decide_eq_false_iff_not]; simp [IntKind.wrap, IntKind.bits, IntKind.signed]; omega
theorem nan_says (hmix : Try.prog.follows .mixedOrders = true) : nanC.Holds Try.prog 15 := flC_of fun xs h => by
  cases xs with
  | cons => exact h.elim
  | nil =>
    refine (sure0 hmix).fun F315 body315 Try.func15 rfl noLoops ?_
    rw [w315]
    exact ⟨rfl, FlatH.empty, rfl, rfl⟩
theorem inf_says (hmix : Try.prog.follows .mixedOrders = true) : infC.Holds Try.prog 32 := flC_of fun xs h => by
  unfold okI at h
  split at h
  · rename_i s
    refine (sure0 hmix).fun F332 body332 Try.func32 rfl noLoops ?_
    rw [w332]
    show Alt _ (_ ∧ _ ∧ _ = Value.float .f64 (cond (leI 0 s) _ _) ∧ _) (_ ∧ _ ∧ _ = Value.float .f64 (cond (leI 0 s) _ _) ∧ _)
    cases leI 0 s <;> exact ⟨rfl, FlatH.empty, rfl, rfl⟩
  · exact h.elim
theorem copy_says (hmix : Try.prog.follows .mixedOrders = true) : copyC.Holds Try.prog 13 := flC_of fun xs h => by
  obtain ⟨a, b, rfl, ha, hb⟩ := okFF_eq h
  refine (sure0 hmix).fun F313 body313 Try.func13 rfl noLoops ?_
  rw [w313]
  exact ⟨rfl, FlatH.empty, rfl, rfl⟩
theorem rof_says (hmix : Try.prog.follows .mixedOrders = true) : ofC.Holds Try.prog 29 := flC_of fun xs h => by
  obtain ⟨u, rfl, h0, h1⟩ := okU_eq h
  refine (sure0 hmix).fun F329 body329 Try.func29 rfl noLoops ?_
  rw [w329, fEq_self, Bool.not_not]
  show Alt _ (Alt _ (_ ∧ _ ∧ _ = Value.tuple #[.float .f64 (cond (fBad u) 0 u.toNat), .bool (!fBad u)] ∧ _) (_ ∧ _ ∧ _ = Value.tuple #[.float .f64 (cond (fBad u) 0 u.toNat), .bool (!fBad u)] ∧ _)) (_ ∧ _ ∧ _ = Value.tuple #[.float .f64 (cond (fBad u) 0 u.toNat), .bool (!fBad u)] ∧ _)
  unfold fBad
  cases fNan u.toNat <;> cases eqI u 9221120237041090561 <;> exact ⟨rfl, FlatH.empty, rfl, rfl⟩
noncomputable def S31 : Book := bookOf [(30, bitsC), (42, noC), (44, signC)]
theorem sure31 (hmix : Try.prog.follows .mixedOrders = true) : Sure Try.prog S31 := ⟨hmix, plain, bookOf_ok ⟨rbits_says hmix, no_says hmix, sign_says hmix, trivial⟩⟩
noncomputable def body320 : Code := (Try.f20.body).getD .skip
def F320 : List Nat → Option (List Nat) := fun p => match p with
  | [1] => some [0]
  | [1, 0, 1] => some [0, 4]
  | [1, 0, 1, 0, 1] => some [2]
  | [1, 1] => some [0]
  | [1, 1, 1] => some [2]
  | _ => none
noncomputable def body326 : Code := (Try.f26.body).getD .skip
def F326 : List Nat → Option (List Nat) := fun p => match p with
  | [1] => some [0]
  | [1, 1] => some [3]
  | [1, 0, 1, 1] => some [3, 8]
  | [1, 0, 1, 0, 1, 1] => some [2]
  | [1, 1, 1] => some [3]
  | [1, 1, 1, 1] => some [2]
  | _ => none
noncomputable def body324 : Code := (Try.f24.body).getD .skip
def F324 : List Nat → Option (List Nat) := fun p => match p with
  | [1] => some [0, 1]
  | [1, 0, 1] => some [0, 1, 12]
  | [1, 0, 1, 0, 1] => some [4]
  | [1, 1] => some [0, 1]
  | [1, 0, 1, 1] => some [0, 1, 23]
  | [1, 0, 1, 0, 1, 1] => some [4]
  | [1, 1, 1] => some [0, 1]
  | [1, 1, 1, 1] => some [4]
  | _ => none

theorem w320 (a : Nat) (K : Value → Heap → Prop) :
  funK Try.prog S31 noLoop F320 body320 Try.f20 [.float .f64 a] (hp []) K = (
True ∧
  Need (leN a 18446744073709551615) True ∧
    Alt (fNan (fltA [Value.float FloatKind.f64 a] 0)) (K (Value.int IntKind.u64 9221120237041090561) (hp []))
      (K (Value.int IntKind.u64 (↑a : Int)) (hp []))) := by kernel_rfl

theorem w326 (a : Nat) (K : Value → Heap → Prop) :
  funK Try.prog S31 noLoop F326 body326 Try.f26 [.float .f64 a] (hp []) K = (
True ∧
  Need (leN a 18446744073709551615) True ∧
    Alt (eqI ((fBits (fltA [Value.float FloatKind.f64 a] 0)).fdiv 9223372036854775808) 1)
      (K
        (Value.int IntKind.u64
          (IntKind.u64.wrap
            (↑(BitVec.ofInt 64 18446744073709551615 ^^^
                    BitVec.ofInt 64 (fBits (fltA [Value.float FloatKind.f64 a] 0))).toNat :
              Int)))
        (hp []))
      (K
        (Value.int IntKind.u64
          (bitsW BinOp.or IntKind.u64 (fBits (fltA [Value.float FloatKind.f64 a] 0)) 9223372036854775808))
        (hp []))) := by kernel_rfl

theorem w324 (a b : Nat) (K : Value → Heap → Prop) :
  funK Try.prog S31 noLoop F324 body324 Try.f24 [.float .f64 a, .float .f64 b] (hp []) K = (
Alt (!fEq a a) (Alt (fEq a a) (K (Value.bool !fEq b b) (hp [])) (K (Value.bool false) (hp [])))
  (Alt (!fEq b b) (Alt (fEq a a) (K (Value.bool !fEq b b) (hp [])) (K (Value.bool false) (hp [])))
    (Alt (!fEq a b) (K (Value.bool (fLt a b)) (hp []))
      (True ∧
        Need (leN a 18446744073709551615) True ∧
          Alt (leN 9223372036854775808 (fltA [Value.float FloatKind.f64 a] 0))
            (True ∧
              Need (leN b 18446744073709551615) True ∧
                K (Value.bool !leN 9223372036854775808 (fltA [Value.float FloatKind.f64 b] 0)) (hp []))
            (K (Value.bool false) (hp [])))))) := by kernel_rfl

theorem flt0 (k : FloatKind) (a : Nat) (t : List Value) : fltA (.float k a :: t) 0 = a := rfl
theorem flt1 (k l : FloatKind) (a b : Nat) (t : List Value) : fltA (.float k a :: .float l b :: t) 1 = b := rfl
theorem bits_says (hmix : Try.prog.follows .mixedOrders = true) : bitsC.Holds Try.prog 20 := flC_of fun xs h => by
  obtain ⟨a, rfl, ha⟩ := okF_eq h
  refine (sure31 hmix).fun F320 body320 Try.func20 rfl noLoops ?_
  rw [w320, flt0]
  refine ⟨trivial, Need_iff.2 ⟨leN_iff.2 ha, trivial⟩, ?_⟩
  show Alt _ (_ ∧ _ ∧ _ = Value.int .u64 (fBits a) ∧ _) (_ ∧ _ ∧ _ = Value.int .u64 (fBits a) ∧ _)
  unfold fBits
  cases fNan a <;> exact ⟨rfl, FlatH.empty, rfl, rfl⟩
/-- the number by which a float stands in the order -/
def fKey (a : Nat) : Int := if fBits a < 9223372036854775808 then fBits a + 9223372036854775808 else 18446744073709551615 - fBits a
theorem fBits_nat (a : Nat) (ha : a ≤ 18446744073709551615) : ∃ b : Nat, fBits a = (b : Int) ∧ b < 18446744073709551616 := by
  unfold fBits
  cases fNan a with
  | true => exact ⟨9221120237041090561, rfl, by decide⟩
  | false => exact ⟨a, rfl, by omega⟩
noncomputable def keyC : Ctr := flC okF fun xs => .int .u64 (fKey (fltA xs 0))
theorem rkey_says (hmix : Try.prog.follows .mixedOrders = true) : keyC.Holds Try.prog 26 := flC_of fun xs h => by
  obtain ⟨a, rfl, ha⟩ := okF_eq h
  refine (sure31 hmix).fun F326 body326 Try.func26 rfl noLoops ?_
  rw [w326, flt0]
  refine ⟨trivial, Need_iff.2 ⟨leN_iff.2 ha, trivial⟩, ?_⟩
  show Alt _ (_ ∧ _ ∧ _ = Value.int .u64 (fKey a) ∧ _) (_ ∧ _ ∧ _ = Value.int .u64 (fKey a) ∧ _)
  unfold fKey
  obtain ⟨b, hb, hb1⟩ := fBits_nat a ha
  rw [hb]
  have e1 : (b : Int).fdiv 9223372036854775808 = (b : Int) / 9223372036854775808 := Int.fdiv_eq_ediv_of_nonneg _ (by decide)
  rw [e1]
  by_cases h1 : b < 9223372036854775808
  · rw [if_pos (by omega), show eqI ((b : Int) / 9223372036854775808) 1 = false by rw [eqI_eq]; simp; omega, or_high b h1]
    exact ⟨rfl, FlatH.empty, rfl, rfl⟩
  · rw [if_neg (by omega), show eqI ((b : Int) / 9223372036854775808) 1 = true by rw [eqI_eq]; simp; omega, not_all b hb1]
    refine ⟨rfl, FlatH.empty, ?_, rfl⟩
    rw [← wr_eq, wr_u64 _ (by omega) (by omega)]
    congr 1
    omega
/-- the reference's order -/
def rLess (a b : Nat) : Bool := cond (fNan a || fNan b) (!fNan a && fNan b) (cond (!fEq a b) (fLt a b) (leN 9223372036854775808 a && !leN 9223372036854775808 b))
/-- the two orders are one -/
theorem rLess_eq (a b : Nat) (ha : a ≤ 18446744073709551615) (hb : b ≤ 18446744073709551615) : rLess a b = ltI (fKey a) (fKey b) := by
  have na : fNan a = decide (9218868437227405312 < a % 9223372036854775808) := by rw [Bool.eq_iff_iff, fNan_iff, decide_eq_true_iff]; rfl
  have nb : fNan b = decide (9218868437227405312 < b % 9223372036854775808) := by rw [Bool.eq_iff_iff, fNan_iff, decide_eq_true_iff]; rfl
  have sa : fSr a = if 9223372036854775808 ≤ a then -((a % 9223372036854775808 : Nat) : Int) else ((a % 9223372036854775808 : Nat) : Int) := by
    unfold fSr sg fNeg fRung
    by_cases h : 9223372036854775808 ≤ a
    · rw [show (a / 9223372036854775808 % 2 == 1) = true by simp; omega, if_pos h]; rfl
    · rw [show (a / 9223372036854775808 % 2 == 1) = false by simp; omega, if_neg h]; rfl
  have sb : fSr b = if 9223372036854775808 ≤ b then -((b % 9223372036854775808 : Nat) : Int) else ((b % 9223372036854775808 : Nat) : Int) := by
    unfold fSr sg fNeg fRung
    by_cases h : 9223372036854775808 ≤ b
    · rw [show (b / 9223372036854775808 % 2 == 1) = true by simp; omega, if_pos h]; rfl
    · rw [show (b / 9223372036854775808 % 2 == 1) = false by simp; omega, if_neg h]; rfl
  unfold rLess fKey fBits fEq fLt
  rw [na, nb, ltI_eq, leN_eq, leN_eq]
  by_cases h1 : 9218868437227405312 < a % 9223372036854775808 <;> by_cases h2 : 9218868437227405312 < b % 9223372036854775808
  · simp [h1, h2]
  · simp only [h1, h2, decide_true, decide_false, Bool.true_or, cond_true, cond_false, Bool.not_true, Bool.false_and, Bool.and_false]
    rw [eq_comm, decide_eq_false_iff_not]
    rw [if_pos (by decide)]
    split <;> omega
  · simp only [h1, h2, decide_true, decide_false, Bool.false_or, cond_true, cond_false, Bool.not_false, Bool.true_and]
    rw [eq_comm, decide_eq_true_iff]
    rw [if_pos (show (9221120237041090561 : Int) < 9223372036854775808 by decide)]
    split <;> omega
  · simp only [h1, h2, decide_false, Bool.false_or, cond_false, Bool.not_false, Bool.true_and]
    rw [sa, sb]
    by_cases h3 : 9223372036854775808 ≤ a <;> by_cases h4 : 9223372036854775808 ≤ b
    all_goals
      simp only [h3, h4, if_true, if_false, decide_true, decide_false, Bool.not_true, Bool.not_false, Bool.true_and, Bool.false_and, Bool.and_true, Bool.and_false]
      first
        | rw [if_neg (show ¬ (a : Int) < 9223372036854775808 by omega)]
        | rw [if_pos (show (a : Int) < 9223372036854775808 by omega)]
      first
        | rw [if_neg (show ¬ (b : Int) < 9223372036854775808 by omega)]
        | rw [if_pos (show (b : Int) < 9223372036854775808 by omega)]
      generalize hu : (a % 9223372036854775808 : Nat) = u at *
      generalize hv : (b % 9223372036854775808 : Nat) = v at *
      rw [Bool.eq_iff_iff]
      simp only [Bool.cond_eq_ite, Bool.not_eq_true', decide_eq_false_iff_not, decide_eq_true_eq]
      split <;> simp <;> omega
end Go.Proofs.Ytglfkchcmjmmlaa

namespace Go.Proofs.Ytglfkchcmjmmlaa
open Go.RowKit Go.Proofs.Ytglfkchcmjmmlaa.AM
set_option maxRecDepth 100000
set_option maxHeartbeats 4000000
noncomputable def lessC : Ctr := flC okFF fun xs => .bool (ltI (fKey (fltA xs 0)) (fKey (fltA xs 1)))
theorem rless_says (hmix : Try.prog.follows .mixedOrders = true) : lessC.Holds Try.prog 24 := flC_of fun xs h => by
  obtain ⟨a, b, rfl, ha, hb⟩ := okFF_eq h
  refine (sure31 hmix).fun F324 body324 Try.func24 rfl noLoops ?_
  rw [w324, flt0, flt0, fEq_self, fEq_self]
  have e : ∀ x : Bool, (Value.bool x = Value.bool (ltI (fKey a) (fKey b))) = (x = rLess a b) := fun x => by rw [rLess_eq a b ha hb]; simp
  show Alt _ (Alt _ (_ ∧ _ ∧ _ = Value.bool (ltI (fKey a) (fKey b)) ∧ _) (_ ∧ _ ∧ _ = Value.bool (ltI (fKey a) (fKey b)) ∧ _)) (Alt _ (Alt _ (_ ∧ _ ∧ _ = Value.bool (ltI (fKey a) (fKey b)) ∧ _) (_ ∧ _ ∧ _ = Value.bool (ltI (fKey a) (fKey b)) ∧ _)) (Alt _ (_ ∧ _ ∧ _ = Value.bool (ltI (fKey a) (fKey b)) ∧ _) (True ∧ Need _ True ∧ Alt _ (True ∧ Need _ True ∧ _ ∧ _ ∧ _ = Value.bool (ltI (fKey a) (fKey b)) ∧ _) (_ ∧ _ ∧ _ = Value.bool (ltI (fKey a) (fKey b)) ∧ _))))
  have ha' := leN_iff.2 ha
  have hb' := leN_iff.2 hb
  simp only [flt0, e, ha', hb', FlatH.empty, isJunk, rLess]
  cases fNan a <;> cases fNan b <;> cases fEq a b <;> cases leN 9223372036854775808 a <;> simp [Alt, Need]
noncomputable def S32 : Book := bookOf [(20, bitsC), (30, bitsC), (42, noC)]
theorem sure32 (hmix : Try.prog.follows .mixedOrders = true) : Sure Try.prog S32 := ⟨hmix, plain, bookOf_ok ⟨bits_says hmix, rbits_says hmix, no_says hmix, trivial⟩⟩
noncomputable def body325 : Code := (Try.f25.body).getD .skip
def F325 : List Nat → Option (List Nat) := fun p => match p with
  | [1] => some [0]
  | [1, 1] => some [3]
  | [1, 0, 1, 1] => some [3, 8]
  | [1, 0, 1, 0, 1, 1] => some [2]
  | [1, 1, 1] => some [3]
  | [1, 1, 1, 1] => some [2]
  | _ => none
noncomputable def body328 : Code := (Try.f28.body).getD .skip
def F328 : List Nat → Option (List Nat) := fun p => match p with
  | [1] => some [0]
  | [1, 1] => some [0, 4]
  | [1, 0, 1, 1] => some [4, 10]
  | [1, 0, 1, 0, 1, 1] => some [2, 3]
  | [1, 1, 1] => some [4]
  | [1, 1, 1, 1] => some [2, 3]
  | _ => none
noncomputable def body321 : Code := (Try.f21.body).getD .skip
def F321 : List Nat → Option (List Nat) := fun p => match p with
  | [1] => some [1]
  | [1, 0, 1] => some [1, 4]
  | [1, 0, 1, 0, 1] => some [2]
  | [1, 1] => some [1]
  | [1, 1, 1] => some [2]
  | _ => none
noncomputable def body322 : Code := (Try.f22.body).getD .skip
def F322 : List Nat → Option (List Nat) := fun p => match p with
  | [1] => some [1]
  | [1, 0, 1] => some [1, 4]
  | [1, 0, 1, 0, 1] => some [2]
  | [1, 1] => some [1]
  | [1, 1, 1] => some [2]
  | _ => none

theorem w325 (a : Nat) (K : Value → Heap → Prop) :
  funK Try.prog S32 noLoop F325 body325 Try.f25 [.float .f64 a] (hp []) K = (
True ∧
  Need (leN a 18446744073709551615) True ∧
    Alt (eqI (bitsW BinOp.and IntKind.u64 (fBits (fltA [Value.float FloatKind.f64 a] 0)) 9223372036854775808) 0)
      (K
        (Value.int IntKind.u64
          (bitsW BinOp.or IntKind.u64 (fBits (fltA [Value.float FloatKind.f64 a] 0)) 9223372036854775808))
        (hp []))
      (K
        (Value.int IntKind.u64
          (IntKind.u64.wrap
            (↑(BitVec.ofInt 64 18446744073709551615 ^^^
                    BitVec.ofInt 64 (fBits (fltA [Value.float FloatKind.f64 a] 0))).toNat :
              Int)))
        (hp []))) := by kernel_rfl

theorem w328 (u : Int) (K : Value → Heap → Prop) :
  funK Try.prog S32 noLoop F328 body328 Try.f28 [.int .u64 u] (hp []) K = (
True ∧
  Need (leN u.toNat 18446744073709551615) True ∧
    Alt (!eqI (fBits (fltA [Value.float FloatKind.f64 u.toNat] 0)) u)
      (K (Value.tuple #[Value.float FloatKind.f64 0, Value.bool false]) (hp []))
      (K (Value.tuple #[Value.float FloatKind.f64 u.toNat, Value.bool true]) (hp []))) := by kernel_rfl

theorem w321 (y : Bool) (a b : Nat) (K : Value → Heap → Prop) :
  funK Try.prog S32 noLoop F321 body321 Try.f21 [.agg #[.bool y, .float .f64 a, .float .f64 b]] (hp []) K = (
Alt (boolV (Value.bool y))
  (True ∧
    Need (leN (fltV (Value.float FloatKind.f64 a)) 18446744073709551615) True ∧
      Alt (eqI (fBits (fltA [Value.float FloatKind.f64 (fltV (Value.float FloatKind.f64 a))] 0)) 0)
        (True ∧
          Need (leN (fltV (Value.float FloatKind.f64 b)) 18446744073709551615) True ∧
            K (Value.bool (eqI (fBits (fltA [Value.float FloatKind.f64 (fltV (Value.float FloatKind.f64 b))] 0)) 0))
              (hp []))
        (K (Value.bool false) (hp [])))
  (K
    (Value.bool
      (fLt (fltV (Value.float FloatKind.f64 a)) (fltV (Value.float FloatKind.f64 b)) ||
        fEq (fltV (Value.float FloatKind.f64 a)) (fltV (Value.float FloatKind.f64 b))))
    (hp []))) := by kernel_rfl

theorem w322 (y : Bool) (a b : Nat) (K : Value → Heap → Prop) :
  funK Try.prog S32 noLoop F322 body322 Try.f22 [.agg #[.bool y, .float .f64 a, .float .f64 b]] (hp []) K = (
Alt (boolV (Value.bool y))
  (True ∧
    Need (leN (fltV (Value.float FloatKind.f64 a)) 18446744073709551615) True ∧
      Alt (eqI (fBits (fltA [Value.float FloatKind.f64 (fltV (Value.float FloatKind.f64 a))] 0)) 0)
        (True ∧
          Need (leN (fltV (Value.float FloatKind.f64 b)) 18446744073709551615) True ∧
            K (Value.bool (eqI (fBits (fltA [Value.float FloatKind.f64 (fltV (Value.float FloatKind.f64 b))] 0)) 0))
              (hp []))
        (K (Value.bool false) (hp [])))
  (K
    (Value.bool
      (fLt (fltV (Value.float FloatKind.f64 a)) (fltV (Value.float FloatKind.f64 b)) ||
        fEq (fltV (Value.float FloatKind.f64 a)) (fltV (Value.float FloatKind.f64 b))))
    (hp []))) := by kernel_rfl

theorem key_says (hmix : Try.prog.follows .mixedOrders = true) : keyC.Holds Try.prog 25 := flC_of fun xs h => by
  obtain ⟨a, rfl, ha⟩ := okF_eq h
  refine (sure32 hmix).fun F325 body325 Try.func25 rfl noLoops ?_
  rw [w325, flt0]
  refine ⟨trivial, Need_iff.2 ⟨leN_iff.2 ha, trivial⟩, ?_⟩
  show Alt _ (_ ∧ _ ∧ _ = Value.int .u64 (fKey a) ∧ _) (_ ∧ _ ∧ _ = Value.int .u64 (fKey a) ∧ _)
  unfold fKey
  obtain ⟨b, hb, hb1⟩ := fBits_nat a ha
  rw [hb, and_high b hb1]
  by_cases h1 : b < 9223372036854775808
  · rw [if_pos (show (b : Int) < 9223372036854775808 by omega), if_pos h1, or_high b h1]
    exact ⟨rfl, FlatH.empty, rfl, rfl⟩
  · rw [if_neg (show ¬ (b : Int) < 9223372036854775808 by omega), if_neg h1, not_all b hb1]
    refine ⟨rfl, FlatH.empty, ?_, rfl⟩
    rw [← wr_eq, wr_u64 _ (by omega) (by omega)]
    congr 1
    omega
theorem of_says (hmix : Try.prog.follows .mixedOrders = true) : ofC.Holds Try.prog 28 := flC_of fun xs h => by
  obtain ⟨u, rfl, h0, h1⟩ := okU_eq h
  refine (sure32 hmix).fun F328 body328 Try.func28 rfl noLoops ?_
  rw [w328, flt0]
  have e : eqI (fBits u.toNat) u = !fBad u := by
    unfold fBits fBad
    cases hn : fNan u.toNat with
    | true => simp only [cond_true, Bool.true_and, Bool.not_not]; rw [eqI_eq, eqI_eq, Bool.eq_iff_iff, decide_eq_true_iff, decide_eq_true_iff]; exact eq_comm
    | false => simp only [cond_false, Bool.false_and, Bool.not_false]; rw [eqI_eq, decide_eq_true_iff]; omega
  rw [e, Bool.not_not]
  refine ⟨trivial, Need_iff.2 ⟨leN_iff.2 (by omega), trivial⟩, ?_⟩
  show Alt _ (_ ∧ _ ∧ _ = Value.tuple #[.float .f64 (cond (fBad u) 0 u.toNat), .bool (!fBad u)] ∧ _) (_ ∧ _ ∧ _ = Value.tuple #[.float .f64 (cond (fBad u) 0 u.toNat), .bool (!fBad u)] ∧ _)
  cases fBad u <;> exact ⟨rfl, FlatH.empty, rfl, rfl⟩
/-- whether a band may be -/
def mayB (y : Bool) (a b : Nat) : Bool := cond y (eqI (fBits a) 0 && eqI (fBits b) 0) (fLt a b || fEq a b)
def inB (y : Bool) (a b f : Nat) : Bool := mayB y a b && (y || ((fLt a f || fEq a f) && (fLt f b || fEq f b)))
noncomputable def bq (xs : List Value) (i : Nat) : Value := match getO xs 0 with
  | some (.agg cs) => (getO cs.toList i).getD (.bool false)
  | _ => .bool false
def isBand (v : Value) : Prop := match v with
  | .agg cs => match cs.toList with
    | [.bool _, .float .f64 a, .float .f64 b] => Need (leN a 18446744073709551615) (Need (leN b 18446744073709551615) True)
    | _ => False
  | _ => False
theorem isBand_eq {v : Value} (h : isBand v) : ∃ (y : Bool) (a b : Nat), v = .agg #[.bool y, .float .f64 a, .float .f64 b] ∧ a ≤ 18446744073709551615 ∧ b ≤ 18446744073709551615 := by
  unfold isBand at h
  split at h
  · rename_i cs
    obtain ⟨cs⟩ := cs
    split at h
    · rename_i y a b e
      simp only at e
      subst e
      simp only [Alt_iff, Need_iff, ltI_eq, leI_eq, eqI_eq, leN_eq, eqN_eq, decide_eq_true_eq, decide_eq_false_iff_not, decide_true, decide_false, true_and, and_true, Bool.true_eq_false, Bool.false_eq_true, false_implies, true_implies, implies_true, not_true_eq_false, not_false_eq_true, Bool.not_eq_true', Bool.not_eq_false'] at h
      exact ⟨_, _, _, rfl, h⟩
    · exact h.elim
  · exact h.elim
def okB : List Value → Prop := fun xs => match xs with
  | [v] => isBand v
  | _ => False
def okBF : List Value → Prop := fun xs => match xs with
  | [v, .float .f64 f] => isBand v ∧ Need (leN f 18446744073709551615) True
  | _ => False
theorem okB_eq {xs : List Value} (h : okB xs) : ∃ (y : Bool) (a b : Nat), xs = [.agg #[.bool y, .float .f64 a, .float .f64 b]] ∧ a ≤ 18446744073709551615 ∧ b ≤ 18446744073709551615 := by
  unfold okB at h
  split at h
  · obtain ⟨y, a, b, rfl, q⟩ := isBand_eq h
    exact ⟨y, a, b, rfl, q⟩
  · exact h.elim
theorem okBF_eq {xs : List Value} (h : okBF xs) : ∃ (y : Bool) (a b f : Nat), xs = [.agg #[.bool y, .float .f64 a, .float .f64 b], .float .f64 f] ∧ a ≤ 18446744073709551615 ∧ b ≤ 18446744073709551615 ∧ f ≤ 18446744073709551615 := by
  unfold okBF at h
  split at h
  · obtain ⟨h, hf⟩ := h
    obtain ⟨y, a, b, rfl, q1, q2⟩ := isBand_eq h
    simp only [Alt_iff, Need_iff, ltI_eq, leI_eq, eqI_eq, leN_eq, eqN_eq, decide_eq_true_eq, decide_eq_false_iff_not, decide_true, decide_false, true_and, and_true, Bool.true_eq_false, Bool.false_eq_true, false_implies, true_implies, implies_true, not_true_eq_false, not_false_eq_true, Bool.not_eq_true', Bool.not_eq_false'] at hf
    exact ⟨y, a, b, _, rfl, q1, q2, hf⟩
  · exact h.elim
noncomputable def mayC : Ctr := flC okB fun xs => .bool (mayB (boolV (bq xs 0)) (fltV (bq xs 1)) (fltV (bq xs 2)))
noncomputable def inC : Ctr := flC okBF fun xs => .bool (inB (boolV (bq xs 0)) (fltV (bq xs 1)) (fltV (bq xs 2)) (fltA xs 1))
theorem may_says (hmix : Try.prog.follows .mixedOrders = true) : mayC.Holds Try.prog 21 := flC_of fun xs h => by
  obtain ⟨y, a, b, rfl, ha, hb⟩ := okB_eq h
  refine (sure32 hmix).fun F321 body321 Try.func21 rfl noLoops ?_
  rw [w321]
  show Alt y (True ∧ Need (leN a _) True ∧ Alt (eqI (fBits a) 0) (True ∧ Need (leN b _) True ∧ _ ∧ _ ∧ _ = Value.bool (mayB y a b) ∧ _) (_ ∧ _ ∧ _ = Value.bool (mayB y a b) ∧ _)) (_ ∧ _ ∧ _ = Value.bool (mayB y a b) ∧ _)
  simp only [leN_iff.2 ha, leN_iff.2 hb, FlatH.empty, mayB]
  cases y <;> cases hh : eqI (fBits a) 0 <;> simp [Alt, Need, flt0, fltV, hh, isJunk]
theorem rmay_says (hmix : Try.prog.follows .mixedOrders = true) : mayC.Holds Try.prog 22 := flC_of fun xs h => by
  obtain ⟨y, a, b, rfl, ha, hb⟩ := okB_eq h
  refine (sure32 hmix).fun F322 body322 Try.func22 rfl noLoops ?_
  rw [w322]
  show Alt y (True ∧ Need (leN a _) True ∧ Alt (eqI (fBits a) 0) (True ∧ Need (leN b _) True ∧ _ ∧ _ ∧ _ = Value.bool (mayB y a b) ∧ _) (_ ∧ _ ∧ _ = Value.bool (mayB y a b) ∧ _)) (_ ∧ _ ∧ _ = Value.bool (mayB y a b) ∧ _)
  simp only [leN_iff.2 ha, leN_iff.2 hb, FlatH.empty, mayB]
  cases y <;> cases hh : eqI (fBits a) 0 <;> simp [Alt, Need, flt0, fltV, hh, isJunk]
noncomputable def S33 : Book := bookOf [(21, mayC), (22, mayC), (25, keyC)]
theorem sure33 (hmix : Try.prog.follows .mixedOrders = true) : Sure Try.prog S33 := ⟨hmix, plain, bookOf_ok ⟨may_says hmix, rmay_says hmix, key_says hmix, trivial⟩⟩
noncomputable def body316 : Code := (Try.f16.body).getD .skip
def F316 : List Nat → Option (List Nat) := fun p => match p with
  | [1] => some [0, 1]
  | [1, 1] => some [4]
  | _ => none
noncomputable def body317 : Code := (Try.f17.body).getD .skip
def F317 : List Nat → Option (List Nat) := fun p => match p with
  | [1] => some [1, 2]
  | [1, 1] => some [4]
  | _ => none
noncomputable def body323 : Code := (Try.f23.body).getD .skip
def F323 : List Nat → Option (List Nat) := fun p => match p with
  | [1] => some [1, 2]
  | [1, 0, 1] => some [1, 2, 7]
  | [1, 0, 1, 0, 1] => some [4]
  | [1, 1] => some [1, 2]
  | [1, 1, 1] => some [4]
  | _ => none

theorem w316 (a b : Nat) (K : Value → Heap → Prop) :
  funK Try.prog S33 noLoop F316 body316 Try.f16 [.float .f64 a, .float .f64 b] (hp []) K = (
True ∧
  Need (leN a 18446744073709551615) True ∧
    True ∧
      Need (leN b 18446744073709551615) True ∧
        K (Value.bool (ltI (fKey (fltA [Value.float FloatKind.f64 a] 0)) (fKey (fltA [Value.float FloatKind.f64 b] 0))))
          (hp [])) := by kernel_rfl

theorem w317 (y : Bool) (a b f : Nat) (K : Value → Heap → Prop) :
  funK Try.prog S33 noLoop F317 body317 Try.f17 [.agg #[.bool y, .float .f64 a, .float .f64 b], .float .f64 f] (hp []) K = (
True ∧
  Need (leN (fltV (Value.float FloatKind.f64 a)) 18446744073709551615)
      (Need (leN (fltV (Value.float FloatKind.f64 b)) 18446744073709551615) True) ∧
    Alt
      (mayB (boolV (Value.bool (boolV (Value.bool y))))
        (fltV (Value.float FloatKind.f64 (fltV (Value.float FloatKind.f64 a))))
        (fltV (Value.float FloatKind.f64 (fltV (Value.float FloatKind.f64 b)))))
      (Alt (boolV (Value.bool y)) (K (Value.bool true) (hp []))
        (Alt (fLt (fltV (Value.float FloatKind.f64 a)) f || fEq (fltV (Value.float FloatKind.f64 a)) f)
          (K (Value.bool (fLt f (fltV (Value.float FloatKind.f64 b)) || fEq f (fltV (Value.float FloatKind.f64 b))))
            (hp []))
          (K (Value.bool false) (hp []))))
      (K (Value.bool false) (hp []))) := by kernel_rfl

theorem w323 (y : Bool) (a b f : Nat) (K : Value → Heap → Prop) :
  funK Try.prog S33 noLoop F323 body323 Try.f23 [.agg #[.bool y, .float .f64 a, .float .f64 b], .float .f64 f] (hp []) K = (
True ∧
  Need (leN (fltV (Value.float FloatKind.f64 a)) 18446744073709551615)
      (Need (leN (fltV (Value.float FloatKind.f64 b)) 18446744073709551615) True) ∧
    Alt
      (!mayB (boolV (Value.bool (boolV (Value.bool y))))
          (fltV (Value.float FloatKind.f64 (fltV (Value.float FloatKind.f64 a))))
          (fltV (Value.float FloatKind.f64 (fltV (Value.float FloatKind.f64 b)))))
      (K (Value.bool false) (hp []))
      (Alt (boolV (Value.bool y)) (K (Value.bool true) (hp []))
        (Alt (fLt (fltV (Value.float FloatKind.f64 a)) f || fEq (fltV (Value.float FloatKind.f64 a)) f)
          (K (Value.bool (fLt f (fltV (Value.float FloatKind.f64 b)) || fEq f (fltV (Value.float FloatKind.f64 b))))
            (hp []))
          (K (Value.bool false) (hp []))))) := by kernel_rfl

theorem less_says (hmix : Try.prog.follows .mixedOrders = true) : lessC.Holds Try.prog 16 := flC_of fun xs h => by
  obtain ⟨a, b, rfl, ha, hb⟩ := okFF_eq h
  refine (sure33 hmix).fun F316 body316 Try.func16 rfl noLoops ?_
  rw [w316]
  simp only [leN_iff.2 ha, leN_iff.2 hb, FlatH.empty, flt0, flt1]
  and_intros <;> first | trivial | rfl
end Go.Proofs.Ytglfkchcmjmmlaa

namespace Go.Proofs.Ytglfkchcmjmmlaa
open Go.RowKit Go.Proofs.Ytglfkchcmjmmlaa.AM
set_option maxRecDepth 100000
set_option maxHeartbeats 4000000
theorem fltV_f (k : FloatKind) (a : Nat) : fltV (.float k a) = a := rfl
theorem boolV_b (b : Bool) : boolV (.bool b) = b := rfl
theorem intV_i (k : IntKind) (n : Int) : intV (.int k n) = n := rfl
theorem in_says (hmix : Try.prog.follows .mixedOrders = true) : inC.Holds Try.prog 17 := flC_of fun xs h => by
  obtain ⟨y, a, b, f, rfl, ha, hb, hf⟩ := okBF_eq h
  refine (sure33 hmix).fun F317 body317 Try.func17 rfl noLoops ?_
  rw [w317]
  simp only [fltV_f, boolV_b, leN_iff.2 ha, leN_iff.2 hb, FlatH.empty]
  show True ∧ _ ∧ Alt _ (Alt y (_ ∧ _ ∧ _ = Value.bool (inB y a b f) ∧ _) (Alt _ (_ ∧ _ ∧ _ = Value.bool (inB y a b f) ∧ _) (_ ∧ _ ∧ _ = Value.bool (inB y a b f) ∧ _))) (_ ∧ _ ∧ _ = Value.bool (inB y a b f) ∧ _)
  unfold inB
  cases mayB y a b <;> cases y <;> cases (fLt a f || fEq a f) <;> simp [Alt, Need, isJunk]
theorem rin_says (hmix : Try.prog.follows .mixedOrders = true) : inC.Holds Try.prog 23 := flC_of fun xs h => by
  obtain ⟨y, a, b, f, rfl, ha, hb, hf⟩ := okBF_eq h
  refine (sure33 hmix).fun F323 body323 Try.func23 rfl noLoops ?_
  rw [w323]
  simp only [fltV_f, boolV_b, leN_iff.2 ha, leN_iff.2 hb, FlatH.empty]
  show True ∧ _ ∧ Alt _ (_ ∧ _ ∧ _ = Value.bool (inB y a b f) ∧ _) (Alt y (_ ∧ _ ∧ _ = Value.bool (inB y a b f) ∧ _) (Alt _ (_ ∧ _ ∧ _ = Value.bool (inB y a b f) ∧ _) (_ ∧ _ ∧ _ = Value.bool (inB y a b f) ∧ _)))
  unfold inB
  cases mayB y a b <;> cases y <;> cases (fLt a f || fEq a f) <;> simp [Alt, Need, isJunk]
/-- a law that says true of itself -/
noncomputable def trueC : Ctr := flC ok0 fun _ => .bool true
theorem runs_run : isTrueR (acall Try.prog (fun _ => none) 300 3 [] Heap.empty) = true := by decide +kernel
theorem runs_holds (hmix : Try.prog.follows .mixedOrders = true) : trueC.Holds Try.prog 3 := flC_of fun xs h => by
  cases xs with
  | cons => exact h.elim
  | nil => exact FunSays.of_run hmix plain Try.func3 rfl runs_run
noncomputable def S34 : Book := bookOf [(3, trueC), (13, copyC), (15, nanC), (16, lessC), (17, inC), (20, bitsC), (21, mayC), (22, mayC), (23, inC), (24, lessC), (25, keyC), (26, keyC), (28, ofC), (29, ofC), (30, bitsC), (32, infC)]
theorem sure34 (hmix : Try.prog.follows .mixedOrders = true) : Sure Try.prog S34 := ⟨hmix, plain, bookOf_ok ⟨runs_holds hmix, copy_says hmix, nan_says hmix, less_says hmix, in_says hmix, bits_says hmix, may_says hmix, rmay_says hmix, rin_says hmix, rless_says hmix, key_says hmix, rkey_says hmix, of_says hmix, rof_says hmix, rbits_says hmix, inf_says hmix, trivial⟩⟩
noncomputable def body305 : Code := (Try.f5.body).getD .skip
def F305 : List Nat → Option (List Nat) := fun p => match p with
  | [1] => some [1, 2]
  | [1, 1] => some [4]
  | _ => none
noncomputable def body307 : Code := (Try.f7.body).getD .skip
def F307 : List Nat → Option (List Nat) := fun p => match p with
  | [1] => some [0, 1]
  | [1, 1] => some [4]
  | _ => none

theorem w305 (y : Bool) (a b f : Nat) (K : Value → Heap → Prop) :
  funK Try.prog S34 noLoop F305 body305 Try.f5 [.agg #[.bool y, .float .f64 a, .float .f64 b], .float .f64 f] (hp []) K = (
True ∧
  Need (leN (fltV (Value.float FloatKind.f64 a)) 18446744073709551615)
      (Need (leN (fltV (Value.float FloatKind.f64 b)) 18446744073709551615) True) ∧
    True ∧
      Need (leN (fltV (Value.float FloatKind.f64 a)) 18446744073709551615)
          (Need (leN (fltV (Value.float FloatKind.f64 b)) 18446744073709551615) True) ∧
        Alt
          (mayB (boolV (Value.bool (boolV (Value.bool y))))
              (fltV (Value.float FloatKind.f64 (fltV (Value.float FloatKind.f64 a))))
              (fltV (Value.float FloatKind.f64 (fltV (Value.float FloatKind.f64 b)))) ==
            mayB (boolV (Value.bool (boolV (Value.bool y))))
              (fltV (Value.float FloatKind.f64 (fltV (Value.float FloatKind.f64 a))))
              (fltV (Value.float FloatKind.f64 (fltV (Value.float FloatKind.f64 b)))))
          (True ∧
            (Need (leN (fltV (Value.float FloatKind.f64 a)) 18446744073709551615)
                  (Need (leN (fltV (Value.float FloatKind.f64 b)) 18446744073709551615) True) ∧
                Need (leN f 18446744073709551615) True) ∧
              True ∧
                (Need (leN (fltV (Value.float FloatKind.f64 a)) 18446744073709551615)
                      (Need (leN (fltV (Value.float FloatKind.f64 b)) 18446744073709551615) True) ∧
                    Need (leN f 18446744073709551615) True) ∧
                  Alt
                    (inB (boolV (Value.bool (boolV (Value.bool y))))
                        (fltV (Value.float FloatKind.f64 (fltV (Value.float FloatKind.f64 a))))
                        (fltV (Value.float FloatKind.f64 (fltV (Value.float FloatKind.f64 b))))
                        (fltA
                          [Value.agg
                              #[Value.bool (boolV (Value.bool y)),
                                Value.float FloatKind.f64 (fltV (Value.float FloatKind.f64 a)),
                                Value.float FloatKind.f64 (fltV (Value.float FloatKind.f64 b))],
                            Value.float FloatKind.f64 f]
                          1) ==
                      inB (boolV (Value.bool (boolV (Value.bool y))))
                        (fltV (Value.float FloatKind.f64 (fltV (Value.float FloatKind.f64 a))))
                        (fltV (Value.float FloatKind.f64 (fltV (Value.float FloatKind.f64 b))))
                        (fltA
                          [Value.agg
                              #[Value.bool (boolV (Value.bool y)),
                                Value.float FloatKind.f64 (fltV (Value.float FloatKind.f64 a)),
                                Value.float FloatKind.f64 (fltV (Value.float FloatKind.f64 b))],
                            Value.float FloatKind.f64 f]
                          1))
                    (True ∧
                      True ∧
                        Need (beqV 64 (Value.float FloatKind.f64 f) (Value.float FloatKind.f64 f))
                          (Need
                            (beqV 64
                              (Value.agg
                                #[Value.bool (boolV (Value.bool y)),
                                  Value.float FloatKind.f64 (fltV (Value.float FloatKind.f64 a)),
                                  Value.float FloatKind.f64 (fltV (Value.float FloatKind.f64 b))])
                              (Value.agg
                                #[Value.bool (boolV (Value.bool y)),
                                  Value.float FloatKind.f64 (fltV (Value.float FloatKind.f64 a)),
                                  Value.float FloatKind.f64 (fltV (Value.float FloatKind.f64 b))]))
                            (Need
                              (beqV 64
                                (Value.agg
                                  #[Value.bool (boolV (Value.bool y)),
                                    Value.float FloatKind.f64 (fltV (Value.float FloatKind.f64 a)),
                                    Value.float FloatKind.f64 (fltV (Value.float FloatKind.f64 b))])
                                (Value.agg
                                  #[Value.bool (boolV (Value.bool y)),
                                    Value.float FloatKind.f64 (fltV (Value.float FloatKind.f64 a)),
                                    Value.float FloatKind.f64 (fltV (Value.float FloatKind.f64 b))]))
                              (K (Value.bool true) (hp [])))))
                    (Need (beqV 64 (Value.float FloatKind.f64 f) (Value.float FloatKind.f64 f))
                      (Need
                        (beqV 64
                          (Value.agg
                            #[Value.bool (boolV (Value.bool y)),
                              Value.float FloatKind.f64 (fltV (Value.float FloatKind.f64 a)),
                              Value.float FloatKind.f64 (fltV (Value.float FloatKind.f64 b))])
                          (Value.agg
                            #[Value.bool (boolV (Value.bool y)),
                              Value.float FloatKind.f64 (fltV (Value.float FloatKind.f64 a)),
                              Value.float FloatKind.f64 (fltV (Value.float FloatKind.f64 b))]))
                        (Need
                          (beqV 64
                            (Value.agg
                              #[Value.bool (boolV (Value.bool y)),
                                Value.float FloatKind.f64 (fltV (Value.float FloatKind.f64 a)),
                                Value.float FloatKind.f64 (fltV (Value.float FloatKind.f64 b))])
                            (Value.agg
                              #[Value.bool (boolV (Value.bool y)),
                                Value.float FloatKind.f64 (fltV (Value.float FloatKind.f64 a)),
                                Value.float FloatKind.f64 (fltV (Value.float FloatKind.f64 b))]))
                          (K (Value.bool false) (hp []))))))
          (Need
            (beqV 64
              (Value.agg
                #[Value.bool (boolV (Value.bool y)), Value.float FloatKind.f64 (fltV (Value.float FloatKind.f64 a)),
                  Value.float FloatKind.f64 (fltV (Value.float FloatKind.f64 b))])
              (Value.agg
                #[Value.bool (boolV (Value.bool y)), Value.float FloatKind.f64 (fltV (Value.float FloatKind.f64 a)),
                  Value.float FloatKind.f64 (fltV (Value.float FloatKind.f64 b))]))
            (K (Value.bool false) (hp [])))) := by kernel_rfl

theorem w307 (a b : Nat) (K : Value → Heap → Prop) :
  funK Try.prog S34 noLoop F307 body307 Try.f7 [.float .f64 a, .float .f64 b] (hp []) K = (
True ∧
  Need (leN a 18446744073709551615) (Need (leN b 18446744073709551615) True) ∧
    True ∧
      Need (leN a 18446744073709551615) (Need (leN b 18446744073709551615) True) ∧
        Alt
          (ltI (fKey (fltA [Value.float FloatKind.f64 a, Value.float FloatKind.f64 b] 0))
              (fKey (fltA [Value.float FloatKind.f64 a, Value.float FloatKind.f64 b] 1)) ==
            ltI (fKey (fltA [Value.float FloatKind.f64 a, Value.float FloatKind.f64 b] 0))
              (fKey (fltA [Value.float FloatKind.f64 a, Value.float FloatKind.f64 b] 1)))
          (True ∧
            Need (leN a 18446744073709551615) True ∧
              True ∧
                Need (leN a 18446744073709551615) True ∧
                  Alt (eqI (fKey (fltA [Value.float FloatKind.f64 a] 0)) (fKey (fltA [Value.float FloatKind.f64 a] 0)))
                    (True ∧
                      Need (leN a 18446744073709551615) True ∧
                        True ∧
                          Need (leN b 18446744073709551615) True ∧
                            True ∧
                              Need (leN a 18446744073709551615) (Need (leN b 18446744073709551615) True) ∧
                                Alt
                                  (ltI (fKey (fltA [Value.float FloatKind.f64 a] 0))
                                      (fKey (fltA [Value.float FloatKind.f64 b] 0)) ==
                                    ltI (fKey (fltA [Value.float FloatKind.f64 a, Value.float FloatKind.f64 b] 0))
                                      (fKey (fltA [Value.float FloatKind.f64 a, Value.float FloatKind.f64 b] 1)))
                                  (True ∧ True ∧ K (Value.bool true) (hp [])) (K (Value.bool false) (hp [])))
                    (K (Value.bool false) (hp [])))
          (K (Value.bool false) (hp []))) := by kernel_rfl

theorem law307 (hmix : Try.prog.follows .mixedOrders = true) (a b : Nat) (ha : a ≤ 18446744073709551615) (hb : b ≤ 18446744073709551615) : FunSays Try.prog 7 [.float .f64 a, .float .f64 b] (hp []) fun v _ => v = .bool true := by
  refine (sure34 hmix).fun F307 body307 Try.func7 rfl noLoops ?_
  rw [w307]
  have e : ∀ x : Int, eqI x x = true := fun x => by rw [eqI_iff]
  simp only [flt0, flt1, leN_iff.2 ha, leN_iff.2 hb, FlatH.empty, beq_self_eq_true, e, Alt_iff, Need_iff, ltI_eq, leI_eq, eqI_eq, leN_eq, eqN_eq, decide_eq_true_eq, decide_eq_false_iff_not, decide_true, decide_false, true_and, and_true, Bool.true_eq_false, Bool.false_eq_true, false_implies, true_implies, implies_true, not_true_eq_false, not_false_eq_true, Bool.not_eq_true', Bool.not_eq_false']
  rfl
theorem law305 (hmix : Try.prog.follows .mixedOrders = true) (y : Bool) (a b f : Nat) (ha : a ≤ 18446744073709551615) (hb : b ≤ 18446744073709551615) (hf : f ≤ 18446744073709551615) : FunSays Try.prog 5 [.agg #[.bool y, .float .f64 a, .float .f64 b], .float .f64 f] (hp []) fun v _ => v = .bool true := by
  refine (sure34 hmix).fun F305 body305 Try.func5 rfl noLoops ?_
  rw [w305]
  simp only [fltV_f, boolV_b, flt0, flt1, leN_iff.2 ha, leN_iff.2 hb, leN_iff.2 hf, FlatH.empty, beq_self_eq_true, Alt_iff, Need_iff, ltI_eq, leI_eq, eqI_eq, leN_eq, eqN_eq, decide_eq_true_eq, decide_eq_false_iff_not, decide_true, decide_false, true_and, and_true, Bool.true_eq_false, Bool.false_eq_true, false_implies, true_implies, implies_true, not_true_eq_false, not_false_eq_true, Bool.not_eq_true', Bool.not_eq_false']
  have hg : beqV 64 (.agg #[.bool y, .float .f64 a, .float .f64 b]) (.agg #[.bool y, .float .f64 a, .float .f64 b]) = true := by simp [beqV]
  and_intros <;> first | exact hg | exact beqV_flt _ _ _ | rfl
end Go.Proofs.Ytglfkchcmjmmlaa

namespace Go.Proofs.Ytglfkchcmjmmlaa
open Go.RowKit Go.Proofs.Ytglfkchcmjmmlaa.AM
set_option maxRecDepth 100000
set_option maxHeartbeats 4000000
noncomputable def body304 : Code := (Try.f4.body).getD .skip
def F304 : List Nat → Option (List Nat) := fun p => match p with
  | [1] => some [0, 1, 2]
  | [1, 1] => some [1000000, 0, 1, 2, 7, 8, 9]
  | [1, 0, 1, 1] => some [0, 1, 2, 7, 48]
  | [1, 0, 1, 0, 1, 1] => some [6]
  | [1, 1, 1] => some [1000000, 0, 1, 2, 7]
  | [1, 0, 1, 1, 1] => some [0, 1, 7, 60]
  | [1, 0, 1, 0, 1, 1, 1] => some [6]
  | [1, 1, 1, 1] => some [1000000, 0, 1, 7]
  | [1, 0, 1, 1, 1, 1] => some [89]
  | [1, 0, 1, 0, 1, 1, 1, 1] => some [6]
  | [1, 1, 1, 1, 1] => some [1000000]
  | [1, 1, 1, 1, 1, 1] => some [6]
  | _ => none
noncomputable def Q304 : Post → Prop := fun K => K .ret (tmps 91 [(6, .bool true)]) (hp [])
noncomputable def c304_0 (a b c : Nat) (x y s : Bool) : Cut := ⟨[1,1], tmps 91 [(0, .float .f64 a), (1, .float .f64 b), (2, .float .f64 c), (7, .bool x), (8, .bool y), (9, .bool s)], hp [], Q304⟩
noncomputable def c304_1 (a b c : Nat) (x : Bool) : Cut := ⟨[1,1,1], tmps 91 [(0, .float .f64 a), (1, .float .f64 b), (2, .float .f64 c), (7, .bool x)], hp [], Q304⟩
noncomputable def c304_2 (a b : Nat) (x : Bool) : Cut := ⟨[1,1,1,1], tmps 91 [(0, .float .f64 a), (1, .float .f64 b), (7, .bool x)], hp [], Q304⟩
noncomputable def c304_3 : Cut := ⟨[1,1,1,1,1], tmps 91 [], hp [], Q304⟩
noncomputable def l304 (a b c : Nat) (x y s : Bool) : List Cut := [c304_0 a b c x y s, c304_1 a b c x, c304_2 a b x, c304_3]

theorem w304 (a b c : Nat) (x y s : Bool) (K : Value → Heap → Prop) :
  funK Try.prog S34 (gcLK 0 (cutLK (l304 a b c x y s))) F304 body304 Try.f4 [.float .f64 a, .float .f64 b, .float .f64 c] (hp []) K = (
True ∧
  Need (leN a 18446744073709551615) (Need (leN b 18446744073709551615) True) ∧
    True ∧
      Need (leN b 18446744073709551615) (Need (leN a 18446744073709551615) True) ∧
        True ∧
          Need (leN a 18446744073709551615) True ∧
            True ∧
              Need (leN b 18446744073709551615) True ∧
                FlatH (hp []) ∧
                  tmps 91
                        [(0, Value.float FloatKind.f64 a), (1, Value.float FloatKind.f64 b),
                          (2, Value.float FloatKind.f64 c),
                          (7,
                            Value.bool
                              (ltI (fKey (fltA [Value.float FloatKind.f64 a, Value.float FloatKind.f64 b] 0))
                                (fKey (fltA [Value.float FloatKind.f64 a, Value.float FloatKind.f64 b] 1)))),
                          (8,
                            Value.bool
                              (ltI (fKey (fltA [Value.float FloatKind.f64 b, Value.float FloatKind.f64 a] 0))
                                (fKey (fltA [Value.float FloatKind.f64 b, Value.float FloatKind.f64 a] 1)))),
                          (9,
                            Value.bool
                              (eqI (fBits (fltA [Value.float FloatKind.f64 a] 0))
                                (fBits (fltA [Value.float FloatKind.f64 b] 0))))] =
                      tmps 91
                        [(0, Value.float FloatKind.f64 a), (1, Value.float FloatKind.f64 b),
                          (2, Value.float FloatKind.f64 c), (7, Value.bool x), (8, Value.bool y), (9, Value.bool s)] ∧
                    hp [] = hp [] ∧ K (Value.bool true) (hp [])) := by kernel_rfl

theorem s304_0A (a b c : Nat) (K : Post) :
  roundK Try.prog S34 (gcLK 0 (cutLK ((l304 a b c true false false).drop 1))) F304 body304 0 [] [1,1] (c304_0 a b c true false false).t (hp []) K = (
FlatH (hp []) ∧
  tmps 91
        [(0, Value.float FloatKind.f64 a), (1, Value.float FloatKind.f64 b), (2, Value.float FloatKind.f64 c),
          (7, Value.bool true)] =
      tmps 91
        [(0, Value.float FloatKind.f64 a), (1, Value.float FloatKind.f64 b), (2, Value.float FloatKind.f64 c),
          (7, Value.bool true)] ∧
    hp [] = hp [] ∧ K AE.ret (tmps 91 [(6, Value.bool true)]) (hp [])) := by kernel_rfl

theorem s304_0B (a b c : Nat) (K : Post) :
  roundK Try.prog S34 (gcLK 0 (cutLK ((l304 a b c false true false).drop 1))) F304 body304 0 [] [1,1] (c304_0 a b c false true false).t (hp []) K = (
FlatH (hp []) ∧
  tmps 91
        [(0, Value.float FloatKind.f64 a), (1, Value.float FloatKind.f64 b), (2, Value.float FloatKind.f64 c),
          (7, Value.bool false)] =
      tmps 91
        [(0, Value.float FloatKind.f64 a), (1, Value.float FloatKind.f64 b), (2, Value.float FloatKind.f64 c),
          (7, Value.bool false)] ∧
    hp [] = hp [] ∧ K AE.ret (tmps 91 [(6, Value.bool true)]) (hp [])) := by kernel_rfl

theorem s304_0C (a b c : Nat) (K : Post) :
  roundK Try.prog S34 (gcLK 0 (cutLK ((l304 a b c false false true).drop 1))) F304 body304 0 [] [1,1] (c304_0 a b c false false true).t (hp []) K = (
FlatH (hp []) ∧
  tmps 91
        [(0, Value.float FloatKind.f64 a), (1, Value.float FloatKind.f64 b), (2, Value.float FloatKind.f64 c),
          (7, Value.bool false)] =
      tmps 91
        [(0, Value.float FloatKind.f64 a), (1, Value.float FloatKind.f64 b), (2, Value.float FloatKind.f64 c),
          (7, Value.bool false)] ∧
    hp [] = hp [] ∧ K AE.ret (tmps 91 [(6, Value.bool true)]) (hp [])) := by kernel_rfl

theorem s304_1A (a b c : Nat) (y s : Bool) (K : Post) :
  roundK Try.prog S34 (gcLK 0 (cutLK ((l304 a b c true y s).drop 2))) F304 body304 0 [] [1,1,1] (c304_1 a b c true).t (hp []) K = (
True ∧
  Need (leN b 18446744073709551615) (Need (leN c 18446744073709551615) True) ∧
    Alt
      (ltI (fKey (fltA [Value.float FloatKind.f64 b, Value.float FloatKind.f64 c] 0))
        (fKey (fltA [Value.float FloatKind.f64 b, Value.float FloatKind.f64 c] 1)))
      (True ∧
        Need (leN a 18446744073709551615) (Need (leN c 18446744073709551615) True) ∧
          Alt
            (!ltI (fKey (fltA [Value.float FloatKind.f64 a, Value.float FloatKind.f64 c] 0))
                (fKey (fltA [Value.float FloatKind.f64 a, Value.float FloatKind.f64 c] 1)))
            (K AE.ret (tmps 91 [(6, Value.bool false)]) (hp []))
            (FlatH (hp []) ∧
              tmps 91 [(0, Value.float FloatKind.f64 a), (1, Value.float FloatKind.f64 b), (7, Value.bool true)] =
                  tmps 91 [(0, Value.float FloatKind.f64 a), (1, Value.float FloatKind.f64 b), (7, Value.bool true)] ∧
                hp [] = hp [] ∧ K AE.ret (tmps 91 [(6, Value.bool true)]) (hp [])))
      (FlatH (hp []) ∧
        tmps 91 [(0, Value.float FloatKind.f64 a), (1, Value.float FloatKind.f64 b), (7, Value.bool true)] =
            tmps 91 [(0, Value.float FloatKind.f64 a), (1, Value.float FloatKind.f64 b), (7, Value.bool true)] ∧
          hp [] = hp [] ∧ K AE.ret (tmps 91 [(6, Value.bool true)]) (hp []))) := by kernel_rfl

theorem s304_2A (a b c : Nat) (y s : Bool) (K : Post) :
  roundK Try.prog S34 (gcLK 0 (cutLK ((l304 a b c true y s).drop 3))) F304 body304 0 [] [1,1,1,1] (c304_2 a b true).t (hp []) K = (
Alt (fLt a b)
  (Alt (!fEq a a) (K AE.ret (tmps 91 [(6, Value.bool false)]) (hp []))
    (Alt (fEq a a)
      (Alt (!fEq b b)
        (FlatH (hp []) ∧ tmps 91 [] = tmps 91 [] ∧ hp [] = hp [] ∧ K AE.ret (tmps 91 [(6, Value.bool true)]) (hp []))
        (FlatH (hp []) ∧ tmps 91 [] = tmps 91 [] ∧ hp [] = hp [] ∧ K AE.ret (tmps 91 [(6, Value.bool true)]) (hp [])))
      (FlatH (hp []) ∧ tmps 91 [] = tmps 91 [] ∧ hp [] = hp [] ∧ K AE.ret (tmps 91 [(6, Value.bool true)]) (hp []))))
  (Alt (!fEq a a) (K AE.ret (tmps 91 [(6, Value.bool false)]) (hp []))
    (Alt (fEq a a)
      (Alt (!fEq b b)
        (FlatH (hp []) ∧ tmps 91 [] = tmps 91 [] ∧ hp [] = hp [] ∧ K AE.ret (tmps 91 [(6, Value.bool true)]) (hp []))
        (FlatH (hp []) ∧ tmps 91 [] = tmps 91 [] ∧ hp [] = hp [] ∧ K AE.ret (tmps 91 [(6, Value.bool true)]) (hp [])))
      (FlatH (hp []) ∧ tmps 91 [] = tmps 91 [] ∧ hp [] = hp [] ∧ K AE.ret (tmps 91 [(6, Value.bool true)]) (hp []))))) := by kernel_rfl

theorem s304_1B (a b c : Nat) (y s : Bool) (K : Post) :
  roundK Try.prog S34 (gcLK 0 (cutLK ((l304 a b c false y s).drop 2))) F304 body304 0 [] [1,1,1] (c304_1 a b c false).t (hp []) K = (
FlatH (hp []) ∧
  tmps 91 [(0, Value.float FloatKind.f64 a), (1, Value.float FloatKind.f64 b), (7, Value.bool false)] =
      tmps 91 [(0, Value.float FloatKind.f64 a), (1, Value.float FloatKind.f64 b), (7, Value.bool false)] ∧
    hp [] = hp [] ∧ K AE.ret (tmps 91 [(6, Value.bool true)]) (hp [])) := by kernel_rfl

theorem s304_2B (a b c : Nat) (y s : Bool) (K : Post) :
  roundK Try.prog S34 (gcLK 0 (cutLK ((l304 a b c false y s).drop 3))) F304 body304 0 [] [1,1,1,1] (c304_2 a b false).t (hp []) K = (
Alt (fLt a b) (K AE.ret (tmps 91 [(6, Value.bool false)]) (hp []))
  (Alt (!fEq a a)
    (Alt (fEq a a)
      (Alt (!fEq b b) (K AE.ret (tmps 91 [(6, Value.bool false)]) (hp []))
        (FlatH (hp []) ∧ tmps 91 [] = tmps 91 [] ∧ hp [] = hp [] ∧ K AE.ret (tmps 91 [(6, Value.bool true)]) (hp [])))
      (FlatH (hp []) ∧ tmps 91 [] = tmps 91 [] ∧ hp [] = hp [] ∧ K AE.ret (tmps 91 [(6, Value.bool true)]) (hp [])))
    (Alt (fEq a a)
      (Alt (!fEq b b) (K AE.ret (tmps 91 [(6, Value.bool false)]) (hp []))
        (FlatH (hp []) ∧ tmps 91 [] = tmps 91 [] ∧ hp [] = hp [] ∧ K AE.ret (tmps 91 [(6, Value.bool true)]) (hp [])))
      (FlatH (hp []) ∧ tmps 91 [] = tmps 91 [] ∧ hp [] = hp [] ∧ K AE.ret (tmps 91 [(6, Value.bool true)]) (hp []))))) := by kernel_rfl

theorem s304_3 (a b c : Nat) (x y s : Bool) (K : Post) :
  roundK Try.prog S34 (gcLK 0 (cutLK ((l304 a b c x y s).drop 4))) F304 body304 0 [] [1,1,1,1,1] (c304_3).t (hp []) K = (
True ∧ True ∧ K AE.ret (tmps 91 [(6, Value.bool true)]) (hp [])) := by kernel_rfl

theorem fLt_facts (a b : Nat) (h : fLt a b = true) : fNan a = false ∧ fNan b = false ∧ fEq a b = false := by
  unfold fLt at h
  simp only [Bool.and_eq_true, Bool.not_eq_true', decide_eq_true_eq] at h
  refine ⟨h.1, h.2.1, ?_⟩
  unfold fEq
  rw [h.1, h.2.1, show decide (fSr a = fSr b) = false by simp; omega]; rfl
theorem key_tri (a b : Nat) (ha : a ≤ 18446744073709551615) (hb : b ≤ 18446744073709551615) :
    (ltI (fKey a) (fKey b) = true ∧ ltI (fKey b) (fKey a) = false ∧ eqI (fBits a) (fBits b) = false) ∨ (ltI (fKey a) (fKey b) = false ∧ ltI (fKey b) (fKey a) = true ∧ eqI (fBits a) (fBits b) = false) ∨ (ltI (fKey a) (fKey b) = false ∧ ltI (fKey b) (fKey a) = false ∧ eqI (fBits a) (fBits b) = true) := by
  obtain ⟨u, hu, hu1⟩ := fBits_nat a ha
  obtain ⟨v, hv, hv1⟩ := fBits_nat b hb
  unfold fKey
  rw [hu, hv]
  simp only [ltI_eq, eqI_eq, decide_eq_true_eq, decide_eq_false_iff_not]
  split <;> split <;> omega
theorem seg304_3 (hmix : Try.prog.follows .mixedOrders = true) (a b c : Nat) (x y s : Bool) (hL : Loops Try.prog body304 0 (gcLK 0 (cutLK ((l304 a b c x y s).drop 4)))) (K : Post) (hK : Q304 K) : Says Try.prog 0 (sub body304 [1,1,1,1,1]) c304_3.t (hp []) K := by
  refine (sure34 hmix).cut F304 hL ?_
  rw [s304_3]
  exact ⟨trivial, trivial, FlatH.empty, hK⟩
theorem seg304_2 (hmix : Try.prog.follows .mixedOrders = true) (a b c : Nat) (x y s : Bool) (ha : a ≤ 18446744073709551615) (hb : b ≤ 18446744073709551615) (hx : x = ltI (fKey a) (fKey b)) (hL : Loops Try.prog body304 0 (gcLK 0 (cutLK ((l304 a b c x y s).drop 3)))) (K : Post) (hK : Q304 K) :
    Says Try.prog 0 (sub body304 [1,1,1,1]) (c304_2 a b x).t (hp []) K := by
  have r : x = rLess a b := by rw [hx, rLess_eq a b ha hb]
  have el := fLt_facts a b
  unfold rLess at r
  simp only [Q304] at hK
  cases x with
  | true =>
    refine (sure34 hmix).cut F304 hL ?_
    rw [s304_2A]
    simp only [fEq_self, FlatH.empty, hK]
    revert r el
    cases fNan a <;> cases fNan b <;> cases fEq a b <;> cases fLt a b <;> simp [Alt]
  | false =>
    refine (sure34 hmix).cut F304 hL ?_
    rw [s304_2B]
    simp only [fEq_self, FlatH.empty, hK]
    revert r el
    cases fNan a <;> cases fNan b <;> cases fEq a b <;> cases fLt a b <;> simp [Alt]
theorem seg304_1 (hmix : Try.prog.follows .mixedOrders = true) (a b c : Nat) (x y s : Bool) (ha : a ≤ 18446744073709551615) (hb : b ≤ 18446744073709551615) (hc : c ≤ 18446744073709551615) (hx : x = ltI (fKey a) (fKey b)) (hL : Loops Try.prog body304 0 (gcLK 0 (cutLK ((l304 a b c x y s).drop 2)))) (K : Post) (hK : Q304 K) :
    Says Try.prog 0 (sub body304 [1,1,1]) (c304_1 a b c x).t (hp []) K := by
  simp only [Q304] at hK
  cases x with
  | true =>
    refine (sure34 hmix).cut F304 hL ?_
    rw [s304_1A]
    have h1 := ltI_iff.1 hx.symm
    simp only [flt0, flt1, leN_iff.2 ha, leN_iff.2 hb, leN_iff.2 hc, FlatH.empty, hK, Alt_iff, Need_iff, ltI_eq, leI_eq, eqI_eq, leN_eq, eqN_eq, decide_eq_true_eq, decide_eq_false_iff_not, decide_true, decide_false, true_and, and_true, Bool.true_eq_false, Bool.false_eq_true, false_implies, true_implies, implies_true, not_true_eq_false, not_false_eq_true, Bool.not_eq_true', Bool.not_eq_false']
    exact fun h h2 => absurd (Int.lt_trans h1 h) h2
  | false =>
    refine (sure34 hmix).cut F304 hL ?_
    rw [s304_1B]
    simp only [flt0, flt1, leN_iff.2 ha, leN_iff.2 hb, leN_iff.2 hc, FlatH.empty, hK, Alt_iff, Need_iff, ltI_eq, leI_eq, eqI_eq, leN_eq, eqN_eq, decide_eq_true_eq, decide_eq_false_iff_not, decide_true, decide_false, true_and, and_true, Bool.true_eq_false, Bool.false_eq_true, false_implies, true_implies, implies_true, not_true_eq_false, not_false_eq_true, Bool.not_eq_true', Bool.not_eq_false']
theorem seg304_0 (hmix : Try.prog.follows .mixedOrders = true) (a b c : Nat) (x y s : Bool) (h : (x = true ∧ y = false ∧ s = false) ∨ (x = false ∧ y = true ∧ s = false) ∨ (x = false ∧ y = false ∧ s = true)) (hL : Loops Try.prog body304 0 (gcLK 0 (cutLK ((l304 a b c x y s).drop 1)))) (K : Post) (hK : Q304 K) :
    Says Try.prog 0 (sub body304 [1,1]) (c304_0 a b c x y s).t (hp []) K := by
  simp only [Q304] at hK
  rcases h with ⟨rfl, rfl, rfl⟩ | ⟨rfl, rfl, rfl⟩ | ⟨rfl, rfl, rfl⟩
  all_goals
    refine (sure34 hmix).cut F304 hL ?_
    first
      | rw [s304_0A]
      | rw [s304_0B]
      | rw [s304_0C]
    and_intros <;> first | exact FlatH.empty | exact hK | rfl
theorem law304 (hmix : Try.prog.follows .mixedOrders = true) (a b c : Nat) (ha : a ≤ 18446744073709551615) (hb : b ≤ 18446744073709551615) (hc : c ≤ 18446744073709551615) : FunSays Try.prog 4 [.float .f64 a, .float .f64 b, .float .f64 c] (hp []) fun v _ => v = .bool true := by
  have tri := key_tri a b ha hb
  generalize hx : ltI (fKey a) (fKey b) = x at tri
  generalize hy : ltI (fKey b) (fKey a) = y at tri
  generalize hs : eqI (fBits a) (fBits b) = s at tri
  have L4 := (show Loops Try.prog body304 0 (cutLK ((l304 a b c x y s).drop 4)) from Loops.none)
  have L3 := (show Loops Try.prog body304 0 (cutLK ((l304 a b c x y s).drop 3)) from L4.more c304_3 fun K hK => seg304_3 hmix a b c x y s L4.gc K hK)
  have L2 := (show Loops Try.prog body304 0 (cutLK ((l304 a b c x y s).drop 2)) from L3.more (c304_2 a b x) fun K hK => seg304_2 hmix a b c x y s ha hb hx.symm L3.gc K hK)
  have L1 := (show Loops Try.prog body304 0 (cutLK ((l304 a b c x y s).drop 1)) from L2.more (c304_1 a b c x) fun K hK => seg304_1 hmix a b c x y s ha hb hc hx.symm L2.gc K hK)
  have L0 := (show Loops Try.prog body304 0 (cutLK (l304 a b c x y s)) from L1.more (c304_0 a b c x y s) fun K hK => seg304_0 hmix a b c x y s tri L1.gc K hK)
  refine (sure34 hmix).fun F304 body304 Try.func4 rfl L0.gc ?_
  rw [w304]
  simp only [flt0, flt1, leN_iff.2 ha, leN_iff.2 hb, leN_iff.2 hc, FlatH.empty, beqV_bool, beqV_int, hx, hy, hs, Alt_iff, Need_iff, ltI_eq, leI_eq, eqI_eq, leN_eq, eqN_eq, decide_eq_true_eq, decide_eq_false_iff_not, decide_true, decide_false, true_and, and_true, Bool.true_eq_false, Bool.false_eq_true, false_implies, true_implies, implies_true, not_true_eq_false, not_false_eq_true, Bool.not_eq_true', Bool.not_eq_false']
  rfl
end Go.Proofs.Ytglfkchcmjmmlaa

namespace Go.Proofs.Ytglfkchcmjmmlaa
open Go.RowKit Go.Proofs.Ytglfkchcmjmmlaa.AM
set_option maxRecDepth 100000
set_option maxHeartbeats 4000000
noncomputable def body309 : Code := (Try.f9.body).getD .skip
def F309 : List Nat → Option (List Nat) := fun p => match p with
  | [1] => some [0, 1]
  | [1, 1] => some [1000000, 0, 1, 5, 6]
  | [1, 1, 1] => some [1000000, 0, 1, 5, 6, 7, 8]
  | [1, 0, 1, 1, 1] => some [0, 1, 5, 6, 37]
  | [1, 0, 1, 0, 1, 1, 1] => some [4]
  | [1, 1, 1, 1] => some [1000000, 0, 1, 5, 6]
  | [1, 1, 1, 1, 1] => some [1000000, 0, 1, 5, 6, 9, 10]
  | [1, 1, 1, 1, 1, 1] => some [4]
  | _ => none
noncomputable def Q309 : Post → Prop := fun K => K .ret (tmps 74 [(4, .bool true)]) (hp [])
noncomputable def c309_0 (f : Nat) (u : Int) (x : Nat) (k : Bool) : Cut := ⟨[1,1], tmps 74 [(0, .float .f64 f), (1, .int .u64 u), (5, .float .f64 x), (6, .bool k)], hp [], Q309⟩
noncomputable def c309_1 (f : Nat) (u : Int) (x : Nat) (k : Bool) : Cut := ⟨[1,1,1], tmps 74 [(0, .float .f64 f), (1, .int .u64 u), (5, .float .f64 x), (6, .bool k), (7, .float .f64 x), (8, .bool k)], hp [], Q309⟩
noncomputable def c309_2 (f : Nat) (u : Int) (x : Nat) (k : Bool) : Cut := ⟨[1,1,1,1], tmps 74 [(0, .float .f64 f), (1, .int .u64 u), (5, .float .f64 x), (6, .bool k)], hp [], Q309⟩
noncomputable def c309_3 (f : Nat) (u : Int) (x z : Nat) (k : Bool) : Cut := ⟨[1,1,1,1,1], tmps 74 [(0, .float .f64 f), (1, .int .u64 u), (5, .float .f64 x), (6, .bool k), (9, .float .f64 z), (10, .bool true)], hp [], Q309⟩
noncomputable def l309 (f : Nat) (u : Int) (x z : Nat) (k : Bool) : List Cut := [c309_0 f u x k, c309_1 f u x k, c309_2 f u x k, c309_3 f u x z k]

theorem w309 (f : Nat) (u : Int) (x z : Nat) (k : Bool) (K : Value → Heap → Prop) :
  funK Try.prog S34 (gcLK 0 (cutLK (l309 f u x z k))) F309 body309 Try.f9 [.float .f64 f, .int .u64 u] (hp []) K = (
True ∧
  Need (leI 0 u) (Need (leI u 18446744073709551615) True) ∧
    FlatH (hp []) ∧
      tmps 74
            [(0, Value.float FloatKind.f64 f), (1, Value.int IntKind.u64 u),
              (5,
                Value.float FloatKind.f64
                  (bif fBad (intV (Value.int IntKind.u64 u)) then 0 else (intV (Value.int IntKind.u64 u)).toNat)),
              (6, Value.bool !fBad (intV (Value.int IntKind.u64 u)))] =
          tmps 74
            [(0, Value.float FloatKind.f64 f), (1, Value.int IntKind.u64 u), (5, Value.float FloatKind.f64 x),
              (6, Value.bool k)] ∧
        hp [] = hp [] ∧ K (Value.bool true) (hp [])) := by kernel_rfl

theorem s309_0 (f : Nat) (u : Int) (x z : Nat) (k : Bool) (K : Post) :
  roundK Try.prog S34 (gcLK 0 (cutLK ((l309 f u x z k).drop 1))) F309 body309 0 [] [1,1] (c309_0 f u x k).t (hp []) K = (
True ∧
  Need (leI 0 u) (Need (leI u 18446744073709551615) True) ∧
    FlatH (hp []) ∧
      tmps 74
            [(0, Value.float FloatKind.f64 f), (1, Value.int IntKind.u64 u), (5, Value.float FloatKind.f64 x),
              (6, Value.bool k),
              (7,
                Value.float FloatKind.f64
                  (bif fBad (intV (Value.int IntKind.u64 u)) then 0 else (intV (Value.int IntKind.u64 u)).toNat)),
              (8, Value.bool !fBad (intV (Value.int IntKind.u64 u)))] =
          tmps 74
            [(0, Value.float FloatKind.f64 f), (1, Value.int IntKind.u64 u), (5, Value.float FloatKind.f64 x),
              (6, Value.bool k), (7, Value.float FloatKind.f64 x), (8, Value.bool k)] ∧
        hp [] = hp [] ∧ K AE.ret (tmps 74 [(4, Value.bool true)]) (hp [])) := by kernel_rfl

theorem s309_2 (f : Nat) (u : Int) (x z : Nat) (k : Bool) (K : Post) :
  roundK Try.prog S34 (gcLK 0 (cutLK ((l309 f u x z k).drop 3))) F309 body309 0 [] [1,1,1,1] (c309_2 f u x k).t (hp []) K = (
True ∧
  Need (leN f 18446744073709551615) True ∧
    True ∧
      Need (leI 0 (fBits (fltA [Value.float FloatKind.f64 f] 0)))
          (Need (leI (fBits (fltA [Value.float FloatKind.f64 f] 0)) 18446744073709551615) True) ∧
        FlatH (hp []) ∧
          tmps 74
                [(0, Value.float FloatKind.f64 f), (1, Value.int IntKind.u64 u), (5, Value.float FloatKind.f64 x),
                  (6, Value.bool k),
                  (9,
                    Value.float FloatKind.f64
                      (bif fBad (intV (Value.int IntKind.u64 (fBits (fltA [Value.float FloatKind.f64 f] 0)))) then 0
                      else (intV (Value.int IntKind.u64 (fBits (fltA [Value.float FloatKind.f64 f] 0)))).toNat)),
                  (10,
                    Value.bool !fBad (intV (Value.int IntKind.u64 (fBits (fltA [Value.float FloatKind.f64 f] 0)))))] =
              tmps 74
                [(0, Value.float FloatKind.f64 f), (1, Value.int IntKind.u64 u), (5, Value.float FloatKind.f64 x),
                  (6, Value.bool k), (9, Value.float FloatKind.f64 z), (10, Value.bool true)] ∧
            hp [] = hp [] ∧ K AE.ret (tmps 74 [(4, Value.bool true)]) (hp [])) := by kernel_rfl

theorem s309_1A (f : Nat) (u : Int) (x z : Nat) (K : Post) :
  roundK Try.prog S34 (gcLK 0 (cutLK ((l309 f u x z true).drop 2))) F309 body309 0 [] [1,1,1] (c309_1 f u x true).t (hp []) K = (
True ∧
  Need (leN f 18446744073709551615) True ∧
    True ∧
      Need (leN f 18446744073709551615) True ∧
        Alt (!eqI (fBits (fltA [Value.float FloatKind.f64 f] 0)) (fBits (fltA [Value.float FloatKind.f64 f] 0)))
          (K AE.ret (tmps 74 [(4, Value.bool false)]) (hp []))
          (True ∧
            Need (leN x 18446744073709551615) True ∧
              True ∧
                Need (leN x 18446744073709551615) True ∧
                  Alt
                    (!eqI (fBits (fltA [Value.float FloatKind.f64 x] 0)) (fBits (fltA [Value.float FloatKind.f64 x] 0)))
                    (K AE.ret (tmps 74 [(4, Value.bool false)]) (hp []))
                    (FlatH (hp []) ∧
                      tmps 74
                            [(0, Value.float FloatKind.f64 f), (1, Value.int IntKind.u64 u),
                              (5, Value.float FloatKind.f64 x), (6, Value.bool true)] =
                          tmps 74
                            [(0, Value.float FloatKind.f64 f), (1, Value.int IntKind.u64 u),
                              (5, Value.float FloatKind.f64 x), (6, Value.bool true)] ∧
                        hp [] = hp [] ∧ K AE.ret (tmps 74 [(4, Value.bool true)]) (hp [])))) := by kernel_rfl

theorem s309_1B (f : Nat) (u : Int) (x z : Nat) (K : Post) :
  roundK Try.prog S34 (gcLK 0 (cutLK ((l309 f u x z false).drop 2))) F309 body309 0 [] [1,1,1] (c309_1 f u x false).t (hp []) K = (
True ∧
  Need (leN f 18446744073709551615) True ∧
    True ∧
      Need (leN f 18446744073709551615) True ∧
        Alt (!eqI (fBits (fltA [Value.float FloatKind.f64 f] 0)) (fBits (fltA [Value.float FloatKind.f64 f] 0)))
          (K AE.ret (tmps 74 [(4, Value.bool false)]) (hp []))
          (True ∧
            Need (leN x 18446744073709551615) True ∧
              True ∧
                Need (leN x 18446744073709551615) True ∧
                  Alt
                    (!eqI (fBits (fltA [Value.float FloatKind.f64 x] 0)) (fBits (fltA [Value.float FloatKind.f64 x] 0)))
                    (K AE.ret (tmps 74 [(4, Value.bool false)]) (hp []))
                    (FlatH (hp []) ∧
                      tmps 74
                            [(0, Value.float FloatKind.f64 f), (1, Value.int IntKind.u64 u),
                              (5, Value.float FloatKind.f64 x), (6, Value.bool false)] =
                          tmps 74
                            [(0, Value.float FloatKind.f64 f), (1, Value.int IntKind.u64 u),
                              (5, Value.float FloatKind.f64 x), (6, Value.bool false)] ∧
                        hp [] = hp [] ∧ K AE.ret (tmps 74 [(4, Value.bool true)]) (hp [])))) := by kernel_rfl

theorem s309_3A (f : Nat) (u : Int) (x z : Nat) (K : Post) :
  roundK Try.prog S34 (gcLK 0 (cutLK ((l309 f u x z true).drop 4))) F309 body309 0 [] [1,1,1,1,1] (c309_3 f u x z true).t (hp []) K = (
True ∧
  Need (leN f 18446744073709551615) True ∧
    Alt (eqI (↑z : Int) (fBits (fltA [Value.float FloatKind.f64 f] 0)))
      (Alt ((!fEq f f) == !fEq z z)
        (Alt (eqI (↑x : Int) u) (True ∧ True ∧ K AE.ret (tmps 74 [(4, Value.bool true)]) (hp []))
          (K AE.ret (tmps 74 [(4, Value.bool false)]) (hp [])))
        (K AE.ret (tmps 74 [(4, Value.bool false)]) (hp [])))
      (K AE.ret (tmps 74 [(4, Value.bool false)]) (hp []))) := by kernel_rfl

theorem s309_3B (f : Nat) (u : Int) (x z : Nat) (K : Post) :
  roundK Try.prog S34 (gcLK 0 (cutLK ((l309 f u x z false).drop 4))) F309 body309 0 [] [1,1,1,1,1] (c309_3 f u x z false).t (hp []) K = (
True ∧
  Need (leN f 18446744073709551615) True ∧
    Alt (eqI (↑z : Int) (fBits (fltA [Value.float FloatKind.f64 f] 0)))
      (Alt ((!fEq f f) == !fEq z z) (True ∧ True ∧ K AE.ret (tmps 74 [(4, Value.bool true)]) (hp []))
        (K AE.ret (tmps 74 [(4, Value.bool false)]) (hp [])))
      (K AE.ret (tmps 74 [(4, Value.bool false)]) (hp []))) := by kernel_rfl

theorem eqI_self (x : Int) : eqI x x = true := by rw [eqI_iff]
structure F309F (f : Nat) (u : Int) (x z : Nat) (k : Bool) : Prop where
  f1 : f ≤ 18446744073709551615
  u0 : 0 ≤ u
  u1 : u ≤ 18446744073709551615
  x1 : x ≤ 18446744073709551615
  xk : k = true → x = u.toNat
  z1 : fBits f = (z : Int)
  zn : fNan z = fNan f
  zb : fBad (z : Int) = false
theorem bits_facts (f : Nat) (hf : f ≤ 18446744073709551615) : ∃ z : Nat, fBits f = (z : Int) ∧ z ≤ 18446744073709551615 ∧ fNan z = fNan f ∧ fBad (z : Int) = false := by
  unfold fBits fBad
  cases h : fNan f with
  | true => exact ⟨9221120237041090561, rfl, by decide, by decide, by decide⟩
  | false => exact ⟨f, rfl, hf, h, by rw [Int.toNat_natCast, h]; rfl⟩
theorem seg309_3 (hmix : Try.prog.follows .mixedOrders = true) (f : Nat) (u : Int) (x z : Nat) (k : Bool) (hF : F309F f u x z k) (hL : Loops Try.prog body309 0 (gcLK 0 (cutLK ((l309 f u x z k).drop 4)))) (K : Post) (hK : Q309 K) : Says Try.prog 0 (sub body309 [1,1,1,1,1]) (c309_3 f u x z k).t (hp []) K := by
  simp only [Q309] at hK
  cases k with
  | true =>
    have e : eqI (x : Int) u = true := by
      rw [eqI_iff, hF.xk rfl]
      have := hF.u0
      omega
    refine (sure34 hmix).cut F309 hL ?_
    rw [s309_3A]
    simp only [flt0, leN_iff.2 hF.f1, hF.z1, eqI_self, fEq_self, hF.zn, beq_self_eq_true, e, FlatH.empty, hK, Alt_iff, Need_iff, ltI_eq, leI_eq, eqI_eq, leN_eq, eqN_eq, decide_eq_true_eq, decide_eq_false_iff_not, decide_true, decide_false, true_and, and_true, Bool.true_eq_false, Bool.false_eq_true, false_implies, true_implies, implies_true, not_true_eq_false, not_false_eq_true, Bool.not_eq_true', Bool.not_eq_false']
  | false =>
    refine (sure34 hmix).cut F309 hL ?_
    rw [s309_3B]
    simp only [flt0, leN_iff.2 hF.f1, hF.z1, eqI_self, fEq_self, hF.zn, beq_self_eq_true, FlatH.empty, hK, Alt_iff, Need_iff, ltI_eq, leI_eq, eqI_eq, leN_eq, eqN_eq, decide_eq_true_eq, decide_eq_false_iff_not, decide_true, decide_false, true_and, and_true, Bool.true_eq_false, Bool.false_eq_true, false_implies, true_implies, implies_true, not_true_eq_false, not_false_eq_true, Bool.not_eq_true', Bool.not_eq_false']
theorem seg309_2 (hmix : Try.prog.follows .mixedOrders = true) (f : Nat) (u : Int) (x z : Nat) (k : Bool) (hF : F309F f u x z k) (hL : Loops Try.prog body309 0 (gcLK 0 (cutLK ((l309 f u x z k).drop 3)))) (K : Post) (hK : Q309 K) : Says Try.prog 0 (sub body309 [1,1,1,1]) (c309_2 f u x k).t (hp []) K := by
  simp only [Q309] at hK
  refine (sure34 hmix).cut F309 hL ?_
  rw [s309_2]
  obtain ⟨b, hb, hb1⟩ := fBits_nat f hF.f1
  have hz := hF.z1
  have hbz : b = z := by omega
  subst hbz
  simp only [flt0, intV_i, leN_iff.2 hF.f1, hF.z1, hF.zb, cond_false, Int.toNat_natCast, Bool.not_false, FlatH.empty, hK, show (0 : Int) ≤ (b : Int) by omega, show (b : Int) ≤ 18446744073709551615 by omega, Alt_iff, Need_iff, ltI_eq, leI_eq, eqI_eq, leN_eq, eqN_eq, decide_eq_true_eq, decide_eq_false_iff_not, decide_true, decide_false, true_and, and_true, Bool.true_eq_false, Bool.false_eq_true, false_implies, true_implies, implies_true, not_true_eq_false, not_false_eq_true, Bool.not_eq_true', Bool.not_eq_false']
theorem seg309_1 (hmix : Try.prog.follows .mixedOrders = true) (f : Nat) (u : Int) (x z : Nat) (k : Bool) (hF : F309F f u x z k) (hL : Loops Try.prog body309 0 (gcLK 0 (cutLK ((l309 f u x z k).drop 2)))) (K : Post) (hK : Q309 K) : Says Try.prog 0 (sub body309 [1,1,1]) (c309_1 f u x k).t (hp []) K := by
  simp only [Q309] at hK
  cases k with
  | true =>
    refine (sure34 hmix).cut F309 hL ?_
    rw [s309_1A]
    simp only [flt0, leN_iff.2 hF.f1, leN_iff.2 hF.x1, eqI_self, FlatH.empty, hK, Alt_iff, Need_iff, ltI_eq, leI_eq, eqI_eq, leN_eq, eqN_eq, decide_eq_true_eq, decide_eq_false_iff_not, decide_true, decide_false, true_and, and_true, Bool.true_eq_false, Bool.false_eq_true, false_implies, true_implies, implies_true, not_true_eq_false, not_false_eq_true, Bool.not_eq_true', Bool.not_eq_false']
  | false =>
    refine (sure34 hmix).cut F309 hL ?_
    rw [s309_1B]
    simp only [flt0, leN_iff.2 hF.f1, leN_iff.2 hF.x1, eqI_self, FlatH.empty, hK, Alt_iff, Need_iff, ltI_eq, leI_eq, eqI_eq, leN_eq, eqN_eq, decide_eq_true_eq, decide_eq_false_iff_not, decide_true, decide_false, true_and, and_true, Bool.true_eq_false, Bool.false_eq_true, false_implies, true_implies, implies_true, not_true_eq_false, not_false_eq_true, Bool.not_eq_true', Bool.not_eq_false']
theorem law309 (hmix : Try.prog.follows .mixedOrders = true) (f : Nat) (u : Int) (hf : f ≤ 18446744073709551615) (h0 : 0 ≤ u) (h1 : u ≤ 18446744073709551615) : FunSays Try.prog 9 [.float .f64 f, .int .u64 u] (hp []) fun v _ => v = .bool true := by
  obtain ⟨z, z1, z2, z3, z4⟩ := bits_facts f hf
  have hF : F309F f u (cond (fBad u) 0 u.toNat) z (!fBad u) := ⟨hf, h0, h1, by cases fBad u <;> simp <;> omega, fun h => by rw [show fBad u = false by simpa using h]; rfl, z1, z3, z4⟩
  generalize hx : cond (fBad u) 0 u.toNat = x at hF
  generalize hk : (!fBad u) = k at hF
  have hL4 : Loops Try.prog body309 0 (cutLK ((l309 f u x z k).drop 4)) := Loops.none
  have hL3 : Loops Try.prog body309 0 (cutLK ((l309 f u x z k).drop 3)) := hL4.more (c309_3 f u x z k) fun K hK => seg309_3 hmix f u x z k hF hL4.gc K hK
  have hL2 : Loops Try.prog body309 0 (cutLK ((l309 f u x z k).drop 2)) := hL3.more (c309_2 f u x k) fun K hK => seg309_2 hmix f u x z k hF hL3.gc K hK
  have hL1 : Loops Try.prog body309 0 (cutLK ((l309 f u x z k).drop 1)) := hL2.more (c309_1 f u x k) fun K hK => seg309_1 hmix f u x z k hF hL2.gc K hK
  have hL0 : Loops Try.prog body309 0 (cutLK (l309 f u x z k)) := hL1.more (c309_0 f u x k) fun K hK => by
    simp only [c309_0, Q309] at hK
    show Says Try.prog 0 (sub body309 [1,1]) (c309_0 f u x k).t (hp []) K
    refine (sure34 hmix).cut F309 hL1.gc ?_
    rw [s309_0]
    simp only [intV_i, hx, hk, leI_iff.2 h0, leI_iff.2 h1, FlatH.empty, hK, Alt_iff, Need_iff, ltI_eq, leI_eq, eqI_eq, leN_eq, eqN_eq, decide_eq_true_eq, decide_eq_false_iff_not, decide_true, decide_false, true_and, and_true, Bool.true_eq_false, Bool.false_eq_true, false_implies, true_implies, implies_true, not_true_eq_false, not_false_eq_true, Bool.not_eq_true', Bool.not_eq_false']
  refine (sure34 hmix).fun F309 body309 Try.func9 rfl hL0.gc ?_
  rw [w309]
  simp only [intV_i, hx, hk, h0, h1, FlatH.empty, Alt_iff, Need_iff, ltI_eq, leI_eq, eqI_eq, leN_eq, eqN_eq, decide_eq_true_eq, decide_eq_false_iff_not, decide_true, decide_false, true_and, and_true, Bool.true_eq_false, Bool.false_eq_true, false_implies, true_implies, implies_true, not_true_eq_false, not_false_eq_true, Bool.not_eq_true', Bool.not_eq_false']
  rfl
end Go.Proofs.Ytglfkchcmjmmlaa

namespace Go.Proofs.Ytglfkchcmjmmlaa
open Go.RowKit Go.Proofs.Ytglfkchcmjmmlaa.AM
set_option maxRecDepth 100000
set_option maxHeartbeats 4000000
noncomputable def body319 : Code := (Try.f19.body).getD .skip
def F319 : List Nat → Option (List Nat) := fun p => match p with
  | [1] => some [0]
  | [1, 1] => some [3]
  | [1, 0, 1, 1] => some [3, 8]
  | [1, 0, 1, 0, 1, 1] => some [3, 8, 9]
  | [1, 0, 1, 0, 1, 0, 1, 1] => some [2]
  | [1, 1, 1, 0, 1, 0, 1, 1] => some [3, 8, 11]
  | [1, 0, 1, 1, 1, 0, 1, 0, 1, 1] => some [2]
  | [1, 1, 1, 1, 1, 0, 1, 0, 1, 1] => some [3, 8, 13]
  | [1, 0, 1, 1, 1, 1, 1, 0, 1, 0, 1, 1] => some [2]
  | [1, 1, 1, 1, 1, 1, 1, 0, 1, 0, 1, 1] => some [3, 8, 15]
  | [1, 0, 1, 1, 1, 1, 1, 1, 1, 0, 1, 0, 1, 1] => some [2]
  | [1, 1, 1, 1, 1, 1, 1, 1, 1, 0, 1, 0, 1, 1] => some [3, 17]
  | [1, 0, 1, 1, 1, 1, 1, 1, 1, 1, 1, 0, 1, 0, 1, 1] => some [2]
  | [1, 1, 1] => some [3]
  | [1, 1, 1, 1] => some [3, 4]
  | [1, 0, 1, 1, 1, 1] => some [3, 4, 19]
  | [1, 0, 0, 1, 0, 1, 1, 1, 1] => some [3, 4, 19, 20]
  | [1, 0, 1, 0, 0, 1, 0, 1, 1, 1, 1] => some [4]
  | [1, 1, 0, 0, 1, 0, 1, 1, 1, 1] => some [3, 4, 19]
  | [1, 0, 0, 1, 1, 0, 0, 1, 0, 1, 1, 1, 1] => some [3, 4, 5, 19]
  | [1, 1, 1, 0, 0, 1, 0, 1, 1, 1, 1] => some [3, 4, 19]
  | [1, 1, 1, 1, 1] => some [4]
  | [1, 1, 1, 1, 1, 1] => some [2]
  | _ => none
noncomputable def S50 : Book := bookOf [(20, bitsC)]
theorem sure50 (hm : Try.prog.follows .mixedOrders = true) : Sure Try.prog S50 := ⟨hm, plain, bookOf_ok (l := [(20, bitsC)]) ⟨bits_says hm, trivial⟩⟩

theorem w319 (f : Nat) (K : Value → Heap → Prop) :
  funX Try.prog S50 (unrK Try.prog S50 noLoop F319 body319 17) F319 body319 Try.f19 [] [] [.float .f64 f] (hp []) K = (
True ∧ Need (leN f 18446744073709551615) True ∧ Alt (eqI (fBits (fltA [Value.float FloatKind.f64 f] 0)) 9221120237041090561) (K (Value.string { data := #[OfNat.ofNat 110, OfNat.ofNat 97, OfNat.ofNat 110] : ByteArray })
(hp [])) (Alt (eqI (fBits (fltA [Value.float FloatKind.f64 f] 0)) 9218868437227405312) (K (Value.string { data := #[OfNat.ofNat 43, OfNat.ofNat 105, OfNat.ofNat 110, OfNat.ofNat 102] : ByteArray }) (hp [])) (Alt (eqI
(fBits (fltA [Value.float FloatKind.f64 f] 0)) 18442240474082181120) (K (Value.string { data := #[OfNat.ofNat 45, OfNat.ofNat 105, OfNat.ofNat 110, OfNat.ofNat 102] : ByteArray }) (hp [])) (Alt (eqI (fBits (fltA
[Value.float FloatKind.f64 f] 0)) 0) (K (Value.string { data := #[OfNat.ofNat 43, OfNat.ofNat 48] : ByteArray }) (hp [])) (Alt (eqI (fBits (fltA [Value.float FloatKind.f64 f] 0)) 9223372036854775808) (K (Value.string
{ data := #[OfNat.ofNat 45, OfNat.ofNat 48] : ByteArray }) (hp [])) (Need (ltI (bitsW BinOp.and IntKind.u64 ((fBits (fltA [Value.float FloatKind.f64 f] 0)).fdiv 1152921504606846976) 15) 16) (Need (ltI (bitsW BinOp.and
IntKind.u64 ((fBits (fltA [Value.float FloatKind.f64 f] 0)).fdiv 72057594037927936) 15) 16) (Need (ltI (bitsW BinOp.and IntKind.u64 ((fBits (fltA [Value.float FloatKind.f64 f] 0)).fdiv 4503599627370496) 15) 16) (Need
(ltI (bitsW BinOp.and IntKind.u64 ((fBits (fltA [Value.float FloatKind.f64 f] 0)).fdiv 281474976710656) 15) 16) (Need (ltI (bitsW BinOp.and IntKind.u64 ((fBits (fltA [Value.float FloatKind.f64 f] 0)).fdiv 17592186044416)
15) 16) (Need (ltI (bitsW BinOp.and IntKind.u64 ((fBits (fltA [Value.float FloatKind.f64 f] 0)).fdiv 1099511627776) 15) 16) (Need (ltI (bitsW BinOp.and IntKind.u64 ((fBits (fltA [Value.float FloatKind.f64 f] 0)).fdiv
68719476736) 15) 16) (Need (ltI (bitsW BinOp.and IntKind.u64 ((fBits (fltA [Value.float FloatKind.f64 f] 0)).fdiv 4294967296) 15) 16) (Need (ltI (bitsW BinOp.and IntKind.u64 ((fBits (fltA [Value.float FloatKind.f64 f]
0)).fdiv 268435456) 15) 16) (Need (ltI (bitsW BinOp.and IntKind.u64 ((fBits (fltA [Value.float FloatKind.f64 f] 0)).fdiv 16777216) 15) 16) (Need (ltI (bitsW BinOp.and IntKind.u64 ((fBits (fltA [Value.float FloatKind.f64
f] 0)).fdiv 1048576) 15) 16) (Need (ltI (bitsW BinOp.and IntKind.u64 ((fBits (fltA [Value.float FloatKind.f64 f] 0)).fdiv 65536) 15) 16) (Need (ltI (bitsW BinOp.and IntKind.u64 ((fBits (fltA [Value.float FloatKind.f64 f]
0)).fdiv 4096) 15) 16) (Need (ltI (bitsW BinOp.and IntKind.u64 ((fBits (fltA [Value.float FloatKind.f64 f] 0)).fdiv 256) 15) 16) (Need (ltI (bitsW BinOp.and IntKind.u64 ((fBits (fltA [Value.float FloatKind.f64 f]
0)).fdiv 16) 15) 16) (Need (ltI (bitsW BinOp.and IntKind.u64 ((fBits (fltA [Value.float FloatKind.f64 f] 0)).fdiv 1) 15) 16) (K (Value.string { data := ((strOf [Value.int IntKind.u8
(↑({ data := #[OfNat.ofNat 48, OfNat.ofNat 49, OfNat.ofNat 50, OfNat.ofNat 51, OfNat.ofNat 52, OfNat.ofNat 53, OfNat.ofNat 54, OfNat.ofNat 55, OfNat.ofNat 56, OfNat.ofNat 57, OfNat.ofNat 97, OfNat.ofNat 98, OfNat.ofNat 99, OfNat.ofNat 100, OfNat.ofNat 101, OfNat.ofNat 102] : ByteArray }.data.toList.getD
(bitsW BinOp.and IntKind.u64 ((fBits (fltA [Value.float FloatKind.f64 f] 0)).fdiv 1152921504606846976) 15).toNat (OfNat.ofNat 0)).toNat : Int), Value.int IntKind.u8
(↑({ data := #[OfNat.ofNat 48, OfNat.ofNat 49, OfNat.ofNat 50, OfNat.ofNat 51, OfNat.ofNat 52, OfNat.ofNat 53, OfNat.ofNat 54, OfNat.ofNat 55, OfNat.ofNat 56, OfNat.ofNat 57, OfNat.ofNat 97, OfNat.ofNat 98, OfNat.ofNat 99, OfNat.ofNat 100, OfNat.ofNat 101, OfNat.ofNat 102] : ByteArray }.data.toList.getD
(bitsW BinOp.and IntKind.u64 ((fBits (fltA [Value.float FloatKind.f64 f] 0)).fdiv 72057594037927936) 15).toNat (OfNat.ofNat 0)).toNat : Int), Value.int IntKind.u8
(↑({ data := #[OfNat.ofNat 48, OfNat.ofNat 49, OfNat.ofNat 50, OfNat.ofNat 51, OfNat.ofNat 52, OfNat.ofNat 53, OfNat.ofNat 54, OfNat.ofNat 55, OfNat.ofNat 56, OfNat.ofNat 57, OfNat.ofNat 97, OfNat.ofNat 98, OfNat.ofNat 99, OfNat.ofNat 100, OfNat.ofNat 101, OfNat.ofNat 102] : ByteArray }.data.toList.getD
(bitsW BinOp.and IntKind.u64 ((fBits (fltA [Value.float FloatKind.f64 f] 0)).fdiv 4503599627370496) 15).toNat (OfNat.ofNat 0)).toNat : Int), Value.int IntKind.u8
(↑({ data := #[OfNat.ofNat 48, OfNat.ofNat 49, OfNat.ofNat 50, OfNat.ofNat 51, OfNat.ofNat 52, OfNat.ofNat 53, OfNat.ofNat 54, OfNat.ofNat 55, OfNat.ofNat 56, OfNat.ofNat 57, OfNat.ofNat 97, OfNat.ofNat 98, OfNat.ofNat 99, OfNat.ofNat 100, OfNat.ofNat 101, OfNat.ofNat 102] : ByteArray }.data.toList.getD
(bitsW BinOp.and IntKind.u64 ((fBits (fltA [Value.float FloatKind.f64 f] 0)).fdiv 281474976710656) 15).toNat (OfNat.ofNat 0)).toNat : Int), Value.int IntKind.u8
(↑({ data := #[OfNat.ofNat 48, OfNat.ofNat 49, OfNat.ofNat 50, OfNat.ofNat 51, OfNat.ofNat 52, OfNat.ofNat 53, OfNat.ofNat 54, OfNat.ofNat 55, OfNat.ofNat 56, OfNat.ofNat 57, OfNat.ofNat 97, OfNat.ofNat 98, OfNat.ofNat 99, OfNat.ofNat 100, OfNat.ofNat 101, OfNat.ofNat 102] : ByteArray }.data.toList.getD
(bitsW BinOp.and IntKind.u64 ((fBits (fltA [Value.float FloatKind.f64 f] 0)).fdiv 17592186044416) 15).toNat (OfNat.ofNat 0)).toNat : Int), Value.int IntKind.u8
(↑({ data := #[OfNat.ofNat 48, OfNat.ofNat 49, OfNat.ofNat 50, OfNat.ofNat 51, OfNat.ofNat 52, OfNat.ofNat 53, OfNat.ofNat 54, OfNat.ofNat 55, OfNat.ofNat 56, OfNat.ofNat 57, OfNat.ofNat 97, OfNat.ofNat 98, OfNat.ofNat 99, OfNat.ofNat 100, OfNat.ofNat 101, OfNat.ofNat 102] : ByteArray }.data.toList.getD
(bitsW BinOp.and IntKind.u64 ((fBits (fltA [Value.float FloatKind.f64 f] 0)).fdiv 1099511627776) 15).toNat (OfNat.ofNat 0)).toNat : Int), Value.int IntKind.u8
(↑({ data := #[OfNat.ofNat 48, OfNat.ofNat 49, OfNat.ofNat 50, OfNat.ofNat 51, OfNat.ofNat 52, OfNat.ofNat 53, OfNat.ofNat 54, OfNat.ofNat 55, OfNat.ofNat 56, OfNat.ofNat 57, OfNat.ofNat 97, OfNat.ofNat 98, OfNat.ofNat 99, OfNat.ofNat 100, OfNat.ofNat 101, OfNat.ofNat 102] : ByteArray }.data.toList.getD
(bitsW BinOp.and IntKind.u64 ((fBits (fltA [Value.float FloatKind.f64 f] 0)).fdiv 68719476736) 15).toNat (OfNat.ofNat 0)).toNat : Int), Value.int IntKind.u8
(↑({ data := #[OfNat.ofNat 48, OfNat.ofNat 49, OfNat.ofNat 50, OfNat.ofNat 51, OfNat.ofNat 52, OfNat.ofNat 53, OfNat.ofNat 54, OfNat.ofNat 55, OfNat.ofNat 56, OfNat.ofNat 57, OfNat.ofNat 97, OfNat.ofNat 98, OfNat.ofNat 99, OfNat.ofNat 100, OfNat.ofNat 101, OfNat.ofNat 102] : ByteArray }.data.toList.getD
(bitsW BinOp.and IntKind.u64 ((fBits (fltA [Value.float FloatKind.f64 f] 0)).fdiv 4294967296) 15).toNat (OfNat.ofNat 0)).toNat : Int), Value.int IntKind.u8
(↑({ data := #[OfNat.ofNat 48, OfNat.ofNat 49, OfNat.ofNat 50, OfNat.ofNat 51, OfNat.ofNat 52, OfNat.ofNat 53, OfNat.ofNat 54, OfNat.ofNat 55, OfNat.ofNat 56, OfNat.ofNat 57, OfNat.ofNat 97, OfNat.ofNat 98, OfNat.ofNat 99, OfNat.ofNat 100, OfNat.ofNat 101, OfNat.ofNat 102] : ByteArray }.data.toList.getD
(bitsW BinOp.and IntKind.u64 ((fBits (fltA [Value.float FloatKind.f64 f] 0)).fdiv 268435456) 15).toNat (OfNat.ofNat 0)).toNat : Int), Value.int IntKind.u8
(↑({ data := #[OfNat.ofNat 48, OfNat.ofNat 49, OfNat.ofNat 50, OfNat.ofNat 51, OfNat.ofNat 52, OfNat.ofNat 53, OfNat.ofNat 54, OfNat.ofNat 55, OfNat.ofNat 56, OfNat.ofNat 57, OfNat.ofNat 97, OfNat.ofNat 98, OfNat.ofNat 99, OfNat.ofNat 100, OfNat.ofNat 101, OfNat.ofNat 102] : ByteArray }.data.toList.getD
(bitsW BinOp.and IntKind.u64 ((fBits (fltA [Value.float FloatKind.f64 f] 0)).fdiv 16777216) 15).toNat (OfNat.ofNat 0)).toNat : Int), Value.int IntKind.u8
(↑({ data := #[OfNat.ofNat 48, OfNat.ofNat 49, OfNat.ofNat 50, OfNat.ofNat 51, OfNat.ofNat 52, OfNat.ofNat 53, OfNat.ofNat 54, OfNat.ofNat 55, OfNat.ofNat 56, OfNat.ofNat 57, OfNat.ofNat 97, OfNat.ofNat 98, OfNat.ofNat 99, OfNat.ofNat 100, OfNat.ofNat 101, OfNat.ofNat 102] : ByteArray }.data.toList.getD
(bitsW BinOp.and IntKind.u64 ((fBits (fltA [Value.float FloatKind.f64 f] 0)).fdiv 1048576) 15).toNat (OfNat.ofNat 0)).toNat : Int), Value.int IntKind.u8
(↑({ data := #[OfNat.ofNat 48, OfNat.ofNat 49, OfNat.ofNat 50, OfNat.ofNat 51, OfNat.ofNat 52, OfNat.ofNat 53, OfNat.ofNat 54, OfNat.ofNat 55, OfNat.ofNat 56, OfNat.ofNat 57, OfNat.ofNat 97, OfNat.ofNat 98, OfNat.ofNat 99, OfNat.ofNat 100, OfNat.ofNat 101, OfNat.ofNat 102] : ByteArray }.data.toList.getD
(bitsW BinOp.and IntKind.u64 ((fBits (fltA [Value.float FloatKind.f64 f] 0)).fdiv 65536) 15).toNat (OfNat.ofNat 0)).toNat : Int), Value.int IntKind.u8
(↑({ data := #[OfNat.ofNat 48, OfNat.ofNat 49, OfNat.ofNat 50, OfNat.ofNat 51, OfNat.ofNat 52, OfNat.ofNat 53, OfNat.ofNat 54, OfNat.ofNat 55, OfNat.ofNat 56, OfNat.ofNat 57, OfNat.ofNat 97, OfNat.ofNat 98, OfNat.ofNat 99, OfNat.ofNat 100, OfNat.ofNat 101, OfNat.ofNat 102] : ByteArray }.data.toList.getD
(bitsW BinOp.and IntKind.u64 ((fBits (fltA [Value.float FloatKind.f64 f] 0)).fdiv 4096) 15).toNat (OfNat.ofNat 0)).toNat : Int), Value.int IntKind.u8
(↑({ data := #[OfNat.ofNat 48, OfNat.ofNat 49, OfNat.ofNat 50, OfNat.ofNat 51, OfNat.ofNat 52, OfNat.ofNat 53, OfNat.ofNat 54, OfNat.ofNat 55, OfNat.ofNat 56, OfNat.ofNat 57, OfNat.ofNat 97, OfNat.ofNat 98, OfNat.ofNat 99, OfNat.ofNat 100, OfNat.ofNat 101, OfNat.ofNat 102] : ByteArray }.data.toList.getD
(bitsW BinOp.and IntKind.u64 ((fBits (fltA [Value.float FloatKind.f64 f] 0)).fdiv 256) 15).toNat (OfNat.ofNat 0)).toNat : Int), Value.int IntKind.u8
(↑({ data := #[OfNat.ofNat 48, OfNat.ofNat 49, OfNat.ofNat 50, OfNat.ofNat 51, OfNat.ofNat 52, OfNat.ofNat 53, OfNat.ofNat 54, OfNat.ofNat 55, OfNat.ofNat 56, OfNat.ofNat 57, OfNat.ofNat 97, OfNat.ofNat 98, OfNat.ofNat 99, OfNat.ofNat 100, OfNat.ofNat 101, OfNat.ofNat 102] : ByteArray }.data.toList.getD
(bitsW BinOp.and IntKind.u64 ((fBits (fltA [Value.float FloatKind.f64 f] 0)).fdiv 16) 15).toNat (OfNat.ofNat 0)).toNat : Int), Value.int IntKind.u8
(↑({ data := #[OfNat.ofNat 48, OfNat.ofNat 49, OfNat.ofNat 50, OfNat.ofNat 51, OfNat.ofNat 52, OfNat.ofNat 53, OfNat.ofNat 54, OfNat.ofNat 55, OfNat.ofNat 56, OfNat.ofNat 57, OfNat.ofNat 97, OfNat.ofNat 98, OfNat.ofNat 99, OfNat.ofNat 100, OfNat.ofNat 101, OfNat.ofNat 102] : ByteArray }.data.toList.getD
(bitsW BinOp.and IntKind.u64 ((fBits (fltA [Value.float FloatKind.f64 f] 0)).fdiv 1) 15).toNat (OfNat.ofNat 0)).toNat : Int)]).getD []).toArray : ByteArray }) (hp []))))))))))))))))))))))) := by kernel_rfl

noncomputable def body338 : Code := (Try.f38.body).getD .skip
def F338 : List Nat → Option (List Nat) := fun p => match p with
  | [1] => some [0]
  | [1, 1] => some [3]
  | [1, 0, 1, 1] => some [3, 6]
  | [1, 0, 1, 0, 1, 1] => some [3, 6, 7]
  | [1, 0, 1, 0, 1, 0, 1, 1] => some [2]
  | [1, 1, 1, 0, 1, 0, 1, 1] => some [3, 6, 9]
  | [1, 0, 1, 1, 1, 0, 1, 0, 1, 1] => some [2]
  | [1, 1, 1, 1, 1, 0, 1, 0, 1, 1] => some [3, 6, 11]
  | [1, 0, 1, 1, 1, 1, 1, 0, 1, 0, 1, 1] => some [2]
  | [1, 1, 1, 1, 1, 1, 1, 0, 1, 0, 1, 1] => some [3, 6, 13]
  | [1, 0, 1, 1, 1, 1, 1, 1, 1, 0, 1, 0, 1, 1] => some [2]
  | [1, 1, 1, 1, 1, 1, 1, 1, 1, 0, 1, 0, 1, 1] => some [3, 15]
  | [1, 0, 1, 1, 1, 1, 1, 1, 1, 1, 1, 0, 1, 0, 1, 1] => some [2]
  | [1, 1, 1] => some [3]
  | [1, 1, 1, 1] => some [2]
  | _ => none
noncomputable def body348 : Code := (Try.f51.body).getD .skip
def F348 : List Nat → Option (List Nat) := fun p => match p with
  | [1] => some [0]
  | [1, 1] => some [0, 3]
  | [1, 0, 1, 1] => some [0, 3, 4]
  | [1, 0, 0, 0, 1, 0, 1, 1] => some [0, 3, 4, 8]
  | [1, 1, 0, 0, 0, 1, 0, 1, 1] => some [3]
  | [1, 0, 0, 1, 0, 1, 1] => some [0, 3, 4]
  | [1, 1, 0, 0, 1, 0, 1, 1] => some [0, 3, 4]
  | [1, 1, 1] => some [3]
  | [1, 1, 1, 1] => some [2]
  | _ => none
noncomputable def body15 : Code := (Try.f52.body).getD .skip
def F15 : List Nat → Option (List Nat) := fun p => match p with
  | [1] => some [0]
  | [1, 1] => some [0, 3]
  | [1, 0, 1, 1] => some [0, 3, 4]
  | [1, 0, 0, 0, 1, 0, 1, 1] => some [0, 3, 4, 7]
  | [1, 1, 0, 0, 0, 1, 0, 1, 1] => some [3]
  | [1, 0, 0, 1, 0, 1, 1] => some [0, 3, 4]
  | [1, 1, 0, 0, 1, 0, 1, 1] => some [0, 3, 4]
  | [1, 1, 1] => some [3]
  | [1, 1, 1, 1] => some [2]
  | _ => none
noncomputable def S51 : Book := addI Try.prog [(51, Try.f51, body348), (52, Try.f52, body15)] (bookOf [(30, bitsC)])
theorem sure51 (hm : Try.prog.follows .mixedOrders = true) : Sure Try.prog S51 := Sure.addI ⟨hm, plain, bookOf_ok (l := [(30, bitsC)]) ⟨rbits_says hm, trivial⟩⟩ (l := [(51, Try.f51, body348), (52, Try.f52, body15)]) ⟨⟨Try.func51, rfl⟩, ⟨Try.func52, rfl⟩, trivial⟩

theorem w338 (f : Nat) (K : Value → Heap → Prop) :
  funX Try.prog S51 noLoop F338 body338 Try.f38 [] [] [.float .f64 f] (hp []) K = (
True ∧ Need (leN f 18446744073709551615) True ∧ Alt (eqI (fBits (fltA [Value.float FloatKind.f64 f] 0)) 9221120237041090561) (K (Value.string { data := #[OfNat.ofNat 110, OfNat.ofNat 97, OfNat.ofNat 110] : ByteArray })
(hp [])) (Alt (eqI (fBits (fltA [Value.float FloatKind.f64 f] 0)) 9218868437227405312) (K (Value.string { data := #[OfNat.ofNat 43, OfNat.ofNat 105, OfNat.ofNat 110, OfNat.ofNat 102] : ByteArray }) (hp [])) (Alt (eqI
(fBits (fltA [Value.float FloatKind.f64 f] 0)) 18442240474082181120) (K (Value.string { data := #[OfNat.ofNat 45, OfNat.ofNat 105, OfNat.ofNat 110, OfNat.ofNat 102] : ByteArray }) (hp [])) (Alt (eqI (fBits (fltA
[Value.float FloatKind.f64 f] 0)) 0) (K (Value.string { data := #[OfNat.ofNat 43, OfNat.ofNat 48] : ByteArray }) (hp [])) (Alt (eqI (fBits (fltA [Value.float FloatKind.f64 f] 0)) 9223372036854775808) (K (Value.string
{ data := #[OfNat.ofNat 45, OfNat.ofNat 48] : ByteArray }) (hp [])) (Need (leI 0 (wr IntKind.u8 ((intV (Value.int IntKind.u8 (wr IntKind.u8 ((fBits (fltA [Value.float FloatKind.f64 f] 0)).fdiv 72057594037927936)))).tdiv
16))) (Need (ltI (wr IntKind.u8 ((intV (Value.int IntKind.u8 (wr IntKind.u8 ((fBits (fltA [Value.float FloatKind.f64 f] 0)).fdiv 72057594037927936)))).tdiv 16)) 16) (Need (leI 0 ((intV (Value.int IntKind.u8 (wr
IntKind.u8 ((fBits (fltA [Value.float FloatKind.f64 f] 0)).fdiv 72057594037927936)))).tmod 16)) (Need (ltI ((intV (Value.int IntKind.u8 (wr IntKind.u8 ((fBits (fltA [Value.float FloatKind.f64 f] 0)).fdiv
72057594037927936)))).tmod 16) 16) (Need (leI 0 (wr IntKind.u8 ((intV (Value.int IntKind.u8 (wr IntKind.u8 ((fBits (fltA [Value.float FloatKind.f64 f] 0)).fdiv 281474976710656)))).tdiv 16))) (Need (ltI (wr IntKind.u8
((intV (Value.int IntKind.u8 (wr IntKind.u8 ((fBits (fltA [Value.float FloatKind.f64 f] 0)).fdiv 281474976710656)))).tdiv 16)) 16) (Need (leI 0 ((intV (Value.int IntKind.u8 (wr IntKind.u8 ((fBits (fltA [Value.float
FloatKind.f64 f] 0)).fdiv 281474976710656)))).tmod 16)) (Need (ltI ((intV (Value.int IntKind.u8 (wr IntKind.u8 ((fBits (fltA [Value.float FloatKind.f64 f] 0)).fdiv 281474976710656)))).tmod 16) 16) (Need (leI 0 (wr
IntKind.u8 ((intV (Value.int IntKind.u8 (wr IntKind.u8 ((fBits (fltA [Value.float FloatKind.f64 f] 0)).fdiv 1099511627776)))).tdiv 16))) (Need (ltI (wr IntKind.u8 ((intV (Value.int IntKind.u8 (wr IntKind.u8 ((fBits (fltA
[Value.float FloatKind.f64 f] 0)).fdiv 1099511627776)))).tdiv 16)) 16) (Need (leI 0 ((intV (Value.int IntKind.u8 (wr IntKind.u8 ((fBits (fltA [Value.float FloatKind.f64 f] 0)).fdiv 1099511627776)))).tmod 16)) (Need (ltI
((intV (Value.int IntKind.u8 (wr IntKind.u8 ((fBits (fltA [Value.float FloatKind.f64 f] 0)).fdiv 1099511627776)))).tmod 16) 16) (Need (leI 0 (wr IntKind.u8 ((intV (Value.int IntKind.u8 (wr IntKind.u8 ((fBits (fltA
[Value.float FloatKind.f64 f] 0)).fdiv 4294967296)))).tdiv 16))) (Need (ltI (wr IntKind.u8 ((intV (Value.int IntKind.u8 (wr IntKind.u8 ((fBits (fltA [Value.float FloatKind.f64 f] 0)).fdiv 4294967296)))).tdiv 16)) 16)
(Need (leI 0 ((intV (Value.int IntKind.u8 (wr IntKind.u8 ((fBits (fltA [Value.float FloatKind.f64 f] 0)).fdiv 4294967296)))).tmod 16)) (Need (ltI ((intV (Value.int IntKind.u8 (wr IntKind.u8 ((fBits (fltA [Value.float
FloatKind.f64 f] 0)).fdiv 4294967296)))).tmod 16) 16) (Need (leI 0 (wr IntKind.u8 ((intV (Value.int IntKind.u8 (wr IntKind.u8 ((fBits (fltA [Value.float FloatKind.f64 f] 0)).fdiv 16777216)))).tdiv 16))) (Need (ltI (wr
IntKind.u8 ((intV (Value.int IntKind.u8 (wr IntKind.u8 ((fBits (fltA [Value.float FloatKind.f64 f] 0)).fdiv 16777216)))).tdiv 16)) 16) (Need (leI 0 ((intV (Value.int IntKind.u8 (wr IntKind.u8 ((fBits (fltA [Value.float
FloatKind.f64 f] 0)).fdiv 16777216)))).tmod 16)) (Need (ltI ((intV (Value.int IntKind.u8 (wr IntKind.u8 ((fBits (fltA [Value.float FloatKind.f64 f] 0)).fdiv 16777216)))).tmod 16) 16) (Need (leI 0 (wr IntKind.u8 ((intV
(Value.int IntKind.u8 (wr IntKind.u8 ((fBits (fltA [Value.float FloatKind.f64 f] 0)).fdiv 65536)))).tdiv 16))) (Need (ltI (wr IntKind.u8 ((intV (Value.int IntKind.u8 (wr IntKind.u8 ((fBits (fltA [Value.float
FloatKind.f64 f] 0)).fdiv 65536)))).tdiv 16)) 16) (Need (leI 0 ((intV (Value.int IntKind.u8 (wr IntKind.u8 ((fBits (fltA [Value.float FloatKind.f64 f] 0)).fdiv 65536)))).tmod 16)) (Need (ltI ((intV (Value.int IntKind.u8
(wr IntKind.u8 ((fBits (fltA [Value.float FloatKind.f64 f] 0)).fdiv 65536)))).tmod 16) 16) (Need (leI 0 (wr IntKind.u8 ((intV (Value.int IntKind.u8 (wr IntKind.u8 ((fBits (fltA [Value.float FloatKind.f64 f] 0)).fdiv
256)))).tdiv 16))) (Need (ltI (wr IntKind.u8 ((intV (Value.int IntKind.u8 (wr IntKind.u8 ((fBits (fltA [Value.float FloatKind.f64 f] 0)).fdiv 256)))).tdiv 16)) 16) (Need (leI 0 ((intV (Value.int IntKind.u8 (wr IntKind.u8
((fBits (fltA [Value.float FloatKind.f64 f] 0)).fdiv 256)))).tmod 16)) (Need (ltI ((intV (Value.int IntKind.u8 (wr IntKind.u8 ((fBits (fltA [Value.float FloatKind.f64 f] 0)).fdiv 256)))).tmod 16) 16) (Need (leI 0 (wr
IntKind.u8 ((intV (Value.int IntKind.u8 (wr IntKind.u8 ((fBits (fltA [Value.float FloatKind.f64 f] 0)).fdiv 1)))).tdiv 16))) (Need (ltI (wr IntKind.u8 ((intV (Value.int IntKind.u8 (wr IntKind.u8 ((fBits (fltA
[Value.float FloatKind.f64 f] 0)).fdiv 1)))).tdiv 16)) 16) (Need (leI 0 ((intV (Value.int IntKind.u8 (wr IntKind.u8 ((fBits (fltA [Value.float FloatKind.f64 f] 0)).fdiv 1)))).tmod 16)) (Need (ltI ((intV (Value.int
IntKind.u8 (wr IntKind.u8 ((fBits (fltA [Value.float FloatKind.f64 f] 0)).fdiv 1)))).tmod 16) 16) (K (Value.string { data := ((strOf [Value.int IntKind.u8
(↑({ data := #[OfNat.ofNat 48, OfNat.ofNat 49, OfNat.ofNat 50, OfNat.ofNat 51, OfNat.ofNat 52, OfNat.ofNat 53, OfNat.ofNat 54, OfNat.ofNat 55, OfNat.ofNat 56, OfNat.ofNat 57, OfNat.ofNat 97, OfNat.ofNat 98, OfNat.ofNat 99, OfNat.ofNat 100, OfNat.ofNat 101, OfNat.ofNat 102] : ByteArray }.data.toList.getD
(wr IntKind.u8 ((intV (Value.int IntKind.u8 (wr IntKind.u8 ((fBits (fltA [Value.float FloatKind.f64 f] 0)).fdiv 72057594037927936)))).tdiv 16)).toNat (OfNat.ofNat 0)).toNat : Int), Value.int IntKind.u8
(↑({ data := #[OfNat.ofNat 48, OfNat.ofNat 49, OfNat.ofNat 50, OfNat.ofNat 51, OfNat.ofNat 52, OfNat.ofNat 53, OfNat.ofNat 54, OfNat.ofNat 55, OfNat.ofNat 56, OfNat.ofNat 57, OfNat.ofNat 97, OfNat.ofNat 98, OfNat.ofNat 99, OfNat.ofNat 100, OfNat.ofNat 101, OfNat.ofNat 102] : ByteArray }.data.toList.getD
((intV (Value.int IntKind.u8 (wr IntKind.u8 ((fBits (fltA [Value.float FloatKind.f64 f] 0)).fdiv 72057594037927936)))).tmod 16).toNat (OfNat.ofNat 0)).toNat : Int), Value.int IntKind.u8
(↑({ data := #[OfNat.ofNat 48, OfNat.ofNat 49, OfNat.ofNat 50, OfNat.ofNat 51, OfNat.ofNat 52, OfNat.ofNat 53, OfNat.ofNat 54, OfNat.ofNat 55, OfNat.ofNat 56, OfNat.ofNat 57, OfNat.ofNat 97, OfNat.ofNat 98, OfNat.ofNat 99, OfNat.ofNat 100, OfNat.ofNat 101, OfNat.ofNat 102] : ByteArray }.data.toList.getD
(wr IntKind.u8 ((intV (Value.int IntKind.u8 (wr IntKind.u8 ((fBits (fltA [Value.float FloatKind.f64 f] 0)).fdiv 281474976710656)))).tdiv 16)).toNat (OfNat.ofNat 0)).toNat : Int), Value.int IntKind.u8
(↑({ data := #[OfNat.ofNat 48, OfNat.ofNat 49, OfNat.ofNat 50, OfNat.ofNat 51, OfNat.ofNat 52, OfNat.ofNat 53, OfNat.ofNat 54, OfNat.ofNat 55, OfNat.ofNat 56, OfNat.ofNat 57, OfNat.ofNat 97, OfNat.ofNat 98, OfNat.ofNat 99, OfNat.ofNat 100, OfNat.ofNat 101, OfNat.ofNat 102] : ByteArray }.data.toList.getD
((intV (Value.int IntKind.u8 (wr IntKind.u8 ((fBits (fltA [Value.float FloatKind.f64 f] 0)).fdiv 281474976710656)))).tmod 16).toNat (OfNat.ofNat 0)).toNat : Int), Value.int IntKind.u8
(↑({ data := #[OfNat.ofNat 48, OfNat.ofNat 49, OfNat.ofNat 50, OfNat.ofNat 51, OfNat.ofNat 52, OfNat.ofNat 53, OfNat.ofNat 54, OfNat.ofNat 55, OfNat.ofNat 56, OfNat.ofNat 57, OfNat.ofNat 97, OfNat.ofNat 98, OfNat.ofNat 99, OfNat.ofNat 100, OfNat.ofNat 101, OfNat.ofNat 102] : ByteArray }.data.toList.getD
(wr IntKind.u8 ((intV (Value.int IntKind.u8 (wr IntKind.u8 ((fBits (fltA [Value.float FloatKind.f64 f] 0)).fdiv 1099511627776)))).tdiv 16)).toNat (OfNat.ofNat 0)).toNat : Int), Value.int IntKind.u8
(↑({ data := #[OfNat.ofNat 48, OfNat.ofNat 49, OfNat.ofNat 50, OfNat.ofNat 51, OfNat.ofNat 52, OfNat.ofNat 53, OfNat.ofNat 54, OfNat.ofNat 55, OfNat.ofNat 56, OfNat.ofNat 57, OfNat.ofNat 97, OfNat.ofNat 98, OfNat.ofNat 99, OfNat.ofNat 100, OfNat.ofNat 101, OfNat.ofNat 102] : ByteArray }.data.toList.getD
((intV (Value.int IntKind.u8 (wr IntKind.u8 ((fBits (fltA [Value.float FloatKind.f64 f] 0)).fdiv 1099511627776)))).tmod 16).toNat (OfNat.ofNat 0)).toNat : Int), Value.int IntKind.u8
(↑({ data := #[OfNat.ofNat 48, OfNat.ofNat 49, OfNat.ofNat 50, OfNat.ofNat 51, OfNat.ofNat 52, OfNat.ofNat 53, OfNat.ofNat 54, OfNat.ofNat 55, OfNat.ofNat 56, OfNat.ofNat 57, OfNat.ofNat 97, OfNat.ofNat 98, OfNat.ofNat 99, OfNat.ofNat 100, OfNat.ofNat 101, OfNat.ofNat 102] : ByteArray }.data.toList.getD
(wr IntKind.u8 ((intV (Value.int IntKind.u8 (wr IntKind.u8 ((fBits (fltA [Value.float FloatKind.f64 f] 0)).fdiv 4294967296)))).tdiv 16)).toNat (OfNat.ofNat 0)).toNat : Int), Value.int IntKind.u8
(↑({ data := #[OfNat.ofNat 48, OfNat.ofNat 49, OfNat.ofNat 50, OfNat.ofNat 51, OfNat.ofNat 52, OfNat.ofNat 53, OfNat.ofNat 54, OfNat.ofNat 55, OfNat.ofNat 56, OfNat.ofNat 57, OfNat.ofNat 97, OfNat.ofNat 98, OfNat.ofNat 99, OfNat.ofNat 100, OfNat.ofNat 101, OfNat.ofNat 102] : ByteArray }.data.toList.getD
((intV (Value.int IntKind.u8 (wr IntKind.u8 ((fBits (fltA [Value.float FloatKind.f64 f] 0)).fdiv 4294967296)))).tmod 16).toNat (OfNat.ofNat 0)).toNat : Int), Value.int IntKind.u8
(↑({ data := #[OfNat.ofNat 48, OfNat.ofNat 49, OfNat.ofNat 50, OfNat.ofNat 51, OfNat.ofNat 52, OfNat.ofNat 53, OfNat.ofNat 54, OfNat.ofNat 55, OfNat.ofNat 56, OfNat.ofNat 57, OfNat.ofNat 97, OfNat.ofNat 98, OfNat.ofNat 99, OfNat.ofNat 100, OfNat.ofNat 101, OfNat.ofNat 102] : ByteArray }.data.toList.getD
(wr IntKind.u8 ((intV (Value.int IntKind.u8 (wr IntKind.u8 ((fBits (fltA [Value.float FloatKind.f64 f] 0)).fdiv 16777216)))).tdiv 16)).toNat (OfNat.ofNat 0)).toNat : Int), Value.int IntKind.u8
(↑({ data := #[OfNat.ofNat 48, OfNat.ofNat 49, OfNat.ofNat 50, OfNat.ofNat 51, OfNat.ofNat 52, OfNat.ofNat 53, OfNat.ofNat 54, OfNat.ofNat 55, OfNat.ofNat 56, OfNat.ofNat 57, OfNat.ofNat 97, OfNat.ofNat 98, OfNat.ofNat 99, OfNat.ofNat 100, OfNat.ofNat 101, OfNat.ofNat 102] : ByteArray }.data.toList.getD
((intV (Value.int IntKind.u8 (wr IntKind.u8 ((fBits (fltA [Value.float FloatKind.f64 f] 0)).fdiv 16777216)))).tmod 16).toNat (OfNat.ofNat 0)).toNat : Int), Value.int IntKind.u8
(↑({ data := #[OfNat.ofNat 48, OfNat.ofNat 49, OfNat.ofNat 50, OfNat.ofNat 51, OfNat.ofNat 52, OfNat.ofNat 53, OfNat.ofNat 54, OfNat.ofNat 55, OfNat.ofNat 56, OfNat.ofNat 57, OfNat.ofNat 97, OfNat.ofNat 98, OfNat.ofNat 99, OfNat.ofNat 100, OfNat.ofNat 101, OfNat.ofNat 102] : ByteArray }.data.toList.getD
(wr IntKind.u8 ((intV (Value.int IntKind.u8 (wr IntKind.u8 ((fBits (fltA [Value.float FloatKind.f64 f] 0)).fdiv 65536)))).tdiv 16)).toNat (OfNat.ofNat 0)).toNat : Int), Value.int IntKind.u8
(↑({ data := #[OfNat.ofNat 48, OfNat.ofNat 49, OfNat.ofNat 50, OfNat.ofNat 51, OfNat.ofNat 52, OfNat.ofNat 53, OfNat.ofNat 54, OfNat.ofNat 55, OfNat.ofNat 56, OfNat.ofNat 57, OfNat.ofNat 97, OfNat.ofNat 98, OfNat.ofNat 99, OfNat.ofNat 100, OfNat.ofNat 101, OfNat.ofNat 102] : ByteArray }.data.toList.getD
((intV (Value.int IntKind.u8 (wr IntKind.u8 ((fBits (fltA [Value.float FloatKind.f64 f] 0)).fdiv 65536)))).tmod 16).toNat (OfNat.ofNat 0)).toNat : Int), Value.int IntKind.u8
(↑({ data := #[OfNat.ofNat 48, OfNat.ofNat 49, OfNat.ofNat 50, OfNat.ofNat 51, OfNat.ofNat 52, OfNat.ofNat 53, OfNat.ofNat 54, OfNat.ofNat 55, OfNat.ofNat 56, OfNat.ofNat 57, OfNat.ofNat 97, OfNat.ofNat 98, OfNat.ofNat 99, OfNat.ofNat 100, OfNat.ofNat 101, OfNat.ofNat 102] : ByteArray }.data.toList.getD
(wr IntKind.u8 ((intV (Value.int IntKind.u8 (wr IntKind.u8 ((fBits (fltA [Value.float FloatKind.f64 f] 0)).fdiv 256)))).tdiv 16)).toNat (OfNat.ofNat 0)).toNat : Int), Value.int IntKind.u8
(↑({ data := #[OfNat.ofNat 48, OfNat.ofNat 49, OfNat.ofNat 50, OfNat.ofNat 51, OfNat.ofNat 52, OfNat.ofNat 53, OfNat.ofNat 54, OfNat.ofNat 55, OfNat.ofNat 56, OfNat.ofNat 57, OfNat.ofNat 97, OfNat.ofNat 98, OfNat.ofNat 99, OfNat.ofNat 100, OfNat.ofNat 101, OfNat.ofNat 102] : ByteArray }.data.toList.getD
((intV (Value.int IntKind.u8 (wr IntKind.u8 ((fBits (fltA [Value.float FloatKind.f64 f] 0)).fdiv 256)))).tmod 16).toNat (OfNat.ofNat 0)).toNat : Int), Value.int IntKind.u8
(↑({ data := #[OfNat.ofNat 48, OfNat.ofNat 49, OfNat.ofNat 50, OfNat.ofNat 51, OfNat.ofNat 52, OfNat.ofNat 53, OfNat.ofNat 54, OfNat.ofNat 55, OfNat.ofNat 56, OfNat.ofNat 57, OfNat.ofNat 97, OfNat.ofNat 98, OfNat.ofNat 99, OfNat.ofNat 100, OfNat.ofNat 101, OfNat.ofNat 102] : ByteArray }.data.toList.getD
(wr IntKind.u8 ((intV (Value.int IntKind.u8 (wr IntKind.u8 ((fBits (fltA [Value.float FloatKind.f64 f] 0)).fdiv 1)))).tdiv 16)).toNat (OfNat.ofNat 0)).toNat : Int), Value.int IntKind.u8
(↑({ data := #[OfNat.ofNat 48, OfNat.ofNat 49, OfNat.ofNat 50, OfNat.ofNat 51, OfNat.ofNat 52, OfNat.ofNat 53, OfNat.ofNat 54, OfNat.ofNat 55, OfNat.ofNat 56, OfNat.ofNat 57, OfNat.ofNat 97, OfNat.ofNat 98, OfNat.ofNat 99, OfNat.ofNat 100, OfNat.ofNat 101, OfNat.ofNat 102] : ByteArray }.data.toList.getD
((intV (Value.int IntKind.u8 (wr IntKind.u8 ((fBits (fltA [Value.float FloatKind.f64 f] 0)).fdiv 1)))).tmod 16).toNat (OfNat.ofNat 0)).toNat : Int)]).getD []).toArray : ByteArray }) (hp
[]))))))))))))))))))))))))))))))))))))))) := by kernel_rfl

end Go.Proofs.Ytglfkchcmjmmlaa

namespace Go.Proofs.Ytglfkchcmjmmlaa
open Go.RowKit Go.Proofs.Ytglfkchcmjmmlaa.AM
set_option maxRecDepth 100000
set_option maxHeartbeats 4000000
def hexT : List UInt8 := [48,49,50,51,52,53,54,55,56,57,97,98,99,100,101,102]
/-- a digit -/
def dg (m : Int) : UInt8 := hexT.getD m.toNat 0
def hexL (u : Int) : List UInt8 := [dg (u / 1152921504606846976 % 16), dg (u / 72057594037927936 % 16), dg (u / 4503599627370496 % 16), dg (u / 281474976710656 % 16), dg (u / 17592186044416 % 16), dg (u / 1099511627776 % 16), dg (u / 68719476736 % 16), dg (u / 4294967296 % 16), dg (u / 268435456 % 16), dg (u / 16777216 % 16), dg (u / 1048576 % 16), dg (u / 65536 % 16), dg (u / 4096 % 16), dg (u / 256 % 16), dg (u / 16 % 16), dg (u / 1 % 16)]
/-- a value's text -/
def tx (u : Int) : List UInt8 := if u = 9221120237041090561 then [110,97,110] else if u = 9218868437227405312 then [43,105,110,102] else if u = 18442240474082181120 then [45,105,110,102] else if u = 0 then [43,48] else if u = 9223372036854775808 then [45,48] else hexL u
noncomputable def textC : Ctr := flC okF fun xs => .string ⟨(tx (fBits (fltA xs 0))).toArray⟩
theorem and15 (n : Nat) (h : n < 18446744073709551616) : bitsW .and .u64 (n : Int) 15 = (n : Int) % 16 := by
  have e : ((BitVec.ofInt 64 (n : Int)) &&& BitVec.ofInt 64 15).toNat = n % 16 := by
    rw [ofInt_nat, show (15 : Int) = ((15 : Nat) : Int) from rfl, ofInt_nat, BitVec.toNat_and, BitVec.toNat_ofNat, BitVec.toNat_ofNat, Nat.mod_eq_of_lt (show n < 2 ^ 64 by omega), show 15 % 2 ^ 64 = 2 ^ 4 - 1 by decide, Nat.and_two_pow_sub_one_eq_mod]
  show wr .u64 (((BitVec.ofInt 64 (n : Int)) &&& BitVec.ofInt 64 15).toNat : Int) = _
  rw [e, wr_u64 _ (by omega) (by omega)]; omega
theorem hexA (b : Nat) (h : b < 18446744073709551616) (c : Int) (hc : 0 ≤ c) : bitsW .and .u64 ((b : Int).fdiv c) 15 = (b : Int) / c % 16 := by
  rw [Int.fdiv_eq_ediv_of_nonneg _ hc]
  obtain ⟨d, rfl⟩ := Int.eq_ofNat_of_zero_le hc
  rw [show (b : Int) / (d : Int) = ((b / d : Nat) : Int) by simp, and15]
  exact Nat.lt_of_le_of_lt (Nat.div_le_self b d) h
theorem hexB (b : Nat) (c : Int) (hc : 0 ≤ c) : wr .u8 ((wr .u8 ((b : Int).fdiv c)).tdiv 16) = (b : Int) / c / 16 % 16 := by
  rw [Int.fdiv_eq_ediv_of_nonneg _ hc]
  generalize (b : Int) / c = q
  simp only [wr_eq, IntKind.wrap, IntKind.bits, IntKind.signed]
  rw [Int.tdiv_eq_ediv_of_nonneg (by simp; omega)]
  simp
  omega
theorem hexC (b : Nat) (c : Int) (hc : 0 ≤ c) : (wr .u8 ((b : Int).fdiv c)).tmod 16 = (b : Int) / c % 16 := by
  rw [Int.fdiv_eq_ediv_of_nonneg _ hc]
  generalize (b : Int) / c = q
  simp only [wr_eq, IntKind.wrap, IntKind.bits, IntKind.signed]
  rw [Int.tmod_eq_emod_of_nonneg (by simp; omega)]
  simp
theorem m16 (x : Int) : x % 16 < 16 := by omega
theorem m16p (x : Int) : 0 ≤ x % 16 := by omega
theorem u8n (x : UInt8) : UInt8.ofNat (((x.toNat : Nat) : Int).toNat) = x := by simp
theorem hexD (b : Nat) : [dg ((b : Int) / 72057594037927936 / 16 % 16), dg ((b : Int) / 72057594037927936 % 16), dg ((b : Int) / 281474976710656 / 16 % 16), dg ((b : Int) / 281474976710656 % 16), dg ((b : Int) / 1099511627776 / 16 % 16), dg ((b : Int) / 1099511627776 % 16), dg ((b : Int) / 4294967296 / 16 % 16), dg ((b : Int) / 4294967296 % 16), dg ((b : Int) / 16777216 / 16 % 16), dg ((b : Int) / 16777216 % 16), dg ((b : Int) / 65536 / 16 % 16), dg ((b : Int) / 65536 % 16), dg ((b : Int) / 256 / 16 % 16), dg ((b : Int) / 256 % 16), dg ((b : Int) / 1 / 16 % 16), dg ((b : Int) / 1 % 16)] = hexL b := by
  unfold hexL
  have e : ∀ c : Int, 0 ≤ c → (b : Int) / c / 16 = (b : Int) / (c * 16) := fun c hc => Int.ediv_ediv_of_nonneg hc
  rw [e 72057594037927936 (by decide), e 281474976710656 (by decide), e 1099511627776 (by decide), e 4294967296 (by decide), e 16777216 (by decide), e 65536 (by decide), e 256 (by decide), e 1 (by decide)]
  rfl
theorem text_says (hm : Try.prog.follows .mixedOrders = true) : textC.Holds Try.prog 19 := flC_of fun xs h => by
  obtain ⟨a, rfl, ha⟩ := okF_eq h
  refine (sure50 hm).funX F319 body319 [] [] Try.func19 rfl (Loops.unr (sure50 hm) F319 noLoops 17) ?_
  rw [w319, flt0]
  refine ⟨trivial, Need_iff.2 ⟨leN_iff.2 ha, trivial⟩, ?_⟩
  obtain ⟨b, hb, hb1⟩ := fBits_nat a ha
  rw [hb]
  have fin : ∀ v : List UInt8, v = tx b → FlatD [] (hp []) ∧ Value.string ⟨v.toArray⟩ = Value.string ⟨(tx b).toArray⟩ := fun v h => ⟨FlatD.hp trivial, by rw [h]⟩
  simp only [hexA b hb1, m16, Int.reduceLE, Alt_iff, Need_iff, ltI_eq, leI_eq, eqI_eq, leN_eq, eqN_eq, decide_eq_true_eq, decide_eq_false_iff_not, decide_true, decide_false, true_and, and_true, Bool.true_eq_false, Bool.false_eq_true, false_implies, true_implies, implies_true, not_true_eq_false, not_false_eq_true, Bool.not_eq_true', Bool.not_eq_false', Nat.zero_add, Nat.add_zero, Nat.sub_zero, Nat.zero_mul, Nat.mul_one, Int.toNat_natCast, List.drop_zero, beqV_int, beqV_sl, beqV_str, beqV_bool, beqV_ptr, beqV_flt, beqV_agg, beqV_tuple, List.all_cons, List.all_nil, Bool.and_self, Bool.and_true, Bool.true_and, Nat.le_refl, Int.le_refl, Nat.zero_le, Option.getD_some, isStr, strV, isInt, intV, isBool, boolV, kindEq, at0, isJunk, Option.isSome_some, Option.isSome_none, if_true, if_false, Nat.add_sub_cancel_left, Nat.add_sub_cancel]
  unfold tx at fin ⊢
  refine ⟨fun h => fin _ (by rw [if_pos h]), fun h1 => ⟨fun h => fin _ (by rw [if_neg h1, if_pos h]), fun h2 => ⟨fun h => fin _ (by rw [if_neg h1, if_neg h2, if_pos h]), fun h3 => ⟨fun h => fin _ (by rw [if_neg h1, if_neg h2, if_neg h3, if_pos h]), fun h4 => ⟨fun h => fin _ (by rw [if_neg h1, if_neg h2, if_neg h3, if_neg h4, if_pos h]), fun h5 => fin _ ?_⟩⟩⟩⟩⟩
  rw [if_neg h1, if_neg h2, if_neg h3, if_neg h4, if_neg h5]
  simp only [strOf, Option.map_some, Option.getD_some, u8n]
  rfl
theorem rtext_says (hm : Try.prog.follows .mixedOrders = true) : textC.Holds Try.prog 38 := flC_of fun xs h => by
  obtain ⟨a, rfl, ha⟩ := okF_eq h
  refine (sure51 hm).funX F338 body338 [] [] Try.func38 rfl noLoops ?_
  rw [w338, flt0]
  refine ⟨trivial, Need_iff.2 ⟨leN_iff.2 ha, trivial⟩, ?_⟩
  obtain ⟨b, hb, hb1⟩ := fBits_nat a ha
  rw [hb]
  have fin : ∀ v : List UInt8, v = tx b → FlatD [] (hp []) ∧ Value.string ⟨v.toArray⟩ = Value.string ⟨(tx b).toArray⟩ := fun v h => ⟨FlatD.hp trivial, by rw [h]⟩
  simp only [hexB b, hexC b, m16, m16p, Int.reduceLE, Alt_iff, Need_iff, ltI_eq, leI_eq, eqI_eq, leN_eq, eqN_eq, decide_eq_true_eq, decide_eq_false_iff_not, decide_true, decide_false, true_and, and_true, Bool.true_eq_false, Bool.false_eq_true, false_implies, true_implies, implies_true, not_true_eq_false, not_false_eq_true, Bool.not_eq_true', Bool.not_eq_false', Nat.zero_add, Nat.add_zero, Nat.sub_zero, Nat.zero_mul, Nat.mul_one, Int.toNat_natCast, List.drop_zero, beqV_int, beqV_sl, beqV_str, beqV_bool, beqV_ptr, beqV_flt, beqV_agg, beqV_tuple, List.all_cons, List.all_nil, Bool.and_self, Bool.and_true, Bool.true_and, Nat.le_refl, Int.le_refl, Nat.zero_le, Option.getD_some, isStr, strV, isInt, intV, isBool, boolV, kindEq, at0, isJunk, Option.isSome_some, Option.isSome_none, if_true, if_false, Nat.add_sub_cancel_left, Nat.add_sub_cancel]
  unfold tx at fin ⊢
  refine ⟨fun h => fin _ (by rw [if_pos h]), fun h1 => ⟨fun h => fin _ (by rw [if_neg h1, if_pos h]), fun h2 => ⟨fun h => fin _ (by rw [if_neg h1, if_neg h2, if_pos h]), fun h3 => ⟨fun h => fin _ (by rw [if_neg h1, if_neg h2, if_neg h3, if_pos h]), fun h4 => ⟨fun h => fin _ (by rw [if_neg h1, if_neg h2, if_neg h3, if_neg h4, if_pos h]), fun h5 => fin _ ?_⟩⟩⟩⟩⟩
  rw [if_neg h1, if_neg h2, if_neg h3, if_neg h4, if_neg h5, ← hexD]
  simp only [strOf, Option.map_some, Option.getD_some, u8n]
  rfl
/-- a text's bytes as numbers -/
def sI (s : ByteArray) : List Int := s.data.toList.map fun b => (b.toNat : Int)
def idxD (c : Int) : Int := if 48 ≤ c ∧ c ≤ 57 then c - 48 else if 97 ≤ c ∧ c ≤ 102 then c - 87 else -1
def nibD (c : Int) : Int := if 48 ≤ c ∧ c ≤ 57 then c - 48 else if 97 ≤ c ∧ c ≤ 102 then c - 87 else 16
def idx0 (c : Int) : Int := if idxD c > 0 then idxD c else 0
/-- what digits come to -/
def decR : List Int → Int → Int
  | [], u => u
  | c :: t, u => decR t (u * 16 % 18446744073709551616 + idx0 c)
theorem idx0_lt (c : Int) : 0 ≤ idx0 c ∧ idx0 c < 16 := by unfold idx0 idxD; split <;> split <;> (try split) <;> omega
end Go.Proofs.Ytglfkchcmjmmlaa

namespace Go.Proofs.Ytglfkchcmjmmlaa
open Go.RowKit Go.Proofs.Ytglfkchcmjmmlaa.AM
set_option maxRecDepth 100000
set_option maxHeartbeats 4000000
noncomputable def body346 : Code := (Try.f48.body).getD .skip
def F346 : List Nat → Option (List Nat) := fun p => match p with
  | [1] => some [0]
  | [1, 0, 1] => some [0, 4]
  | [1, 0, 0, 1, 0, 1] => some [0, 4, 5]
  | [1, 0, 1, 0, 0, 1, 0, 1] => some []
  | [1, 1, 0, 0, 1, 0, 1] => some [0, 4]
  | [1, 0, 0, 1, 1, 0, 0, 1, 0, 1] => some [0, 3, 4]
  | [1, 1, 0, 0, 1, 1, 0, 0, 1, 0, 1] => some [0, 3, 4, 10]
  | [1, 0, 1, 1, 0, 0, 1, 1, 0, 0, 1, 0, 1] => some [2]
  | [1, 1, 1, 0, 0, 1, 0, 1] => some [0, 4]
  | [1, 1] => some []
  | [1, 1, 1] => some [2]
  | _ => none
noncomputable def body336 : Code := (Try.f36.body).getD .skip
def F336 : List Nat → Option (List Nat) := fun p => match p with
  | [1] => some [0]
  | [1, 1] => some [0, 4]
  | [1, 0, 1, 1] => some [0, 4, 8]
  | [1, 0, 1, 0, 1, 1] => some [0, 4, 8, 24]
  | [1, 1, 1, 0, 1, 0, 1, 1] => some [0, 4, 8, 26]
  | [1, 1, 1, 1, 1, 0, 1, 0, 1, 1] => some [0, 4, 8, 28]
  | [1, 1, 1, 1, 1, 1, 1, 0, 1, 0, 1, 1] => some [0, 4, 8, 30]
  | [1, 1, 1, 1, 1, 1, 1, 1, 1, 0, 1, 0, 1, 1] => some [0, 4, 32]
  | [1, 1, 1, 1, 1, 1, 1, 1, 1, 1, 1, 0, 1, 0, 1, 1] => some [0, 4, 10, 11]
  | [1, 0, 0, 1, 1, 1, 1, 1, 1, 1, 1, 1, 1, 1, 0, 1, 0, 1, 1] => some [0, 4, 10, 11, 12]
  | [1, 0, 1, 0, 0, 1, 1, 1, 1, 1, 1, 1, 1, 1, 1, 1, 0, 1, 0, 1, 1] => some [0, 4]
  | [1, 1, 0, 0, 1, 1, 1, 1, 1, 1, 1, 1, 1, 1, 1, 0, 1, 0, 1, 1] => some [0, 4, 10, 11]
  | [1, 0, 0, 1, 1, 0, 0, 1, 1, 1, 1, 1, 1, 1, 1, 1, 1, 1, 0, 1, 0, 1, 1] => some [0, 4, 5, 10, 11]
  | [1, 1, 1, 0, 0, 1, 1, 1, 1, 1, 1, 1, 1, 1, 1, 1, 0, 1, 0, 1, 1] => some [0, 4, 10, 11]
  | [1, 1, 1] => some [0, 4]
  | [1, 1, 1, 1] => some [0, 6, 7]
  | [1, 0, 1, 1, 1, 1] => some [6, 46]
  | [1, 0, 1, 0, 1, 1, 1, 1] => some [2, 3]
  | [1, 1, 1, 1, 1] => some [6]
  | [1, 1, 1, 1, 1, 1] => some [2, 3]
  | _ => none
noncomputable def body349 : Code := (Try.f55.body).getD .skip
def F349 : List Nat → Option (List Nat) := fun p => match p with
  | [1] => some [0]
  | [1, 0, 0, 1] => some [0, 3]
  | [1, 0, 1, 0, 0, 1] => some [2]
  | [1, 1, 1, 0, 0, 1] => some [0, 12]
  | [1, 0, 1, 1, 1, 0, 0, 1] => some [2]
  | [1, 1] => some []
  | [1, 1, 1] => some [2]
  | _ => none

theorem w346 (c : Int) (K : Value → Heap → Prop) :
  funX Try.prog S0 (unrK Try.prog S0 noLoop F346 body346 17) F346 body346 Try.f48 [] [] [.int .u8 c] (hp []) K = (
Alt (eqI 48 c) (K (Value.int IntKind.i64 0) (hp []))
  (Alt (eqI 49 c) (K (Value.int IntKind.i64 1) (hp []))
    (Alt (eqI 50 c) (K (Value.int IntKind.i64 2) (hp []))
      (Alt (eqI 51 c) (K (Value.int IntKind.i64 3) (hp []))
        (Alt (eqI 52 c) (K (Value.int IntKind.i64 4) (hp []))
          (Alt (eqI 53 c) (K (Value.int IntKind.i64 5) (hp []))
            (Alt (eqI 54 c) (K (Value.int IntKind.i64 6) (hp []))
              (Alt (eqI 55 c) (K (Value.int IntKind.i64 7) (hp []))
                (Alt (eqI 56 c) (K (Value.int IntKind.i64 8) (hp []))
                  (Alt (eqI 57 c) (K (Value.int IntKind.i64 9) (hp []))
                    (Alt (eqI 97 c) (K (Value.int IntKind.i64 10) (hp []))
                      (Alt (eqI 98 c) (K (Value.int IntKind.i64 11) (hp []))
                        (Alt (eqI 99 c) (K (Value.int IntKind.i64 12) (hp []))
                          (Alt (eqI 100 c) (K (Value.int IntKind.i64 13) (hp []))
                            (Alt (eqI 101 c) (K (Value.int IntKind.i64 14) (hp []))
                              (Alt (eqI 102 c) (K (Value.int IntKind.i64 15) (hp []))
                                (K (Value.int IntKind.i64 (-1)) (hp [])))))))))))))))))) := by kernel_rfl

theorem w349 (c : Int) (K : Value → Heap → Prop) :
  funX Try.prog S0 noLoop F349 body349 Try.f55 [] [] [.int .u8 c] (hp []) K = (
Alt (leI 48 c)
  (Alt (leI c 57) (K (Value.int IntKind.u8 (wr IntKind.u8 (c - 48))) (hp []))
    (Alt (leI 97 c)
      (Alt (leI c 102) (K (Value.int IntKind.u8 (wr IntKind.u8 (wr IntKind.u8 (c - 97) + 10))) (hp []))
        (K (Value.int IntKind.u8 16) (hp [])))
      (K (Value.int IntKind.u8 16) (hp []))))
  (Alt (leI 97 c)
    (Alt (leI c 102) (K (Value.int IntKind.u8 (wr IntKind.u8 (wr IntKind.u8 (c - 97) + 10))) (hp []))
      (K (Value.int IntKind.u8 16) (hp [])))
    (K (Value.int IntKind.u8 16) (hp [])))) := by kernel_rfl

noncomputable def idxC : Ctr where
  pre := fun args blks => match args, blks with
    | [.int .u8 _], [] => True
    | _, _ => False
  val := fun args blks => match args, blks with
    | [.int .u8 c], [] => .int .i64 (idxD c)
    | _, _ => undef
  new := fun _ _ => []
noncomputable def nibC : Ctr where
  pre := fun args blks => match args, blks with
    | [.int .u8 _], [] => True
    | _, _ => False
  val := fun args blks => match args, blks with
    | [.int .u8 c], [] => .int .u8 (nibD c)
    | _, _ => undef
  new := fun _ _ => []
theorem idx_says (hm : Try.prog.follows .mixedOrders = true) : idxC.Holds Try.prog 48 := by
  intro args blks hf hpre
  refine ⟨trivial, ?_⟩
  simp only [idxC] at hpre ⊢
  split at hpre
  · rename_i c
    refine (sure0 hm).funX F346 body346 [] [] Try.func48 rfl (Loops.unr (sure0 hm) F346 noLoops 17) ?_
    rw [w346]
    have fin : ∀ v : Int, v = idxD c → FlatD [] (hp []) ∧ Value.int IntKind.i64 v = Value.int IntKind.i64 (idxD c) ∧ hp [] = hp ([] ++ []) := fun v h => ⟨FlatD.hp trivial, by rw [h], rfl⟩
    simp only [Alt_iff, Need_iff, ltI_eq, leI_eq, eqI_eq, leN_eq, eqN_eq, decide_eq_true_eq, decide_eq_false_iff_not, decide_true, decide_false, true_and, and_true, Bool.true_eq_false, Bool.false_eq_true, false_implies, true_implies, implies_true, not_true_eq_false, not_false_eq_true, Bool.not_eq_true', Bool.not_eq_false', Nat.zero_add, Nat.add_zero, Nat.sub_zero, Nat.zero_mul, Nat.mul_one, Int.toNat_natCast, List.drop_zero, beqV_int, beqV_sl, beqV_str, beqV_bool, beqV_ptr, beqV_flt, beqV_agg, beqV_tuple, List.all_cons, List.all_nil, Bool.and_self, Bool.and_true, Bool.true_and, Nat.le_refl, Int.le_refl, Nat.zero_le, Option.getD_some, isStr, strV, isInt, intV, isBool, boolV, kindEq, at0, isJunk, Option.isSome_some, Option.isSome_none, if_true, if_false, Nat.add_sub_cancel_left, Nat.add_sub_cancel]
    unfold idxD at fin ⊢
    refine ⟨fun h => fin _ ?_, fun _ => ⟨fun h => fin _ ?_, fun _ => ⟨fun h => fin _ ?_, fun _ => ⟨fun h => fin _ ?_, fun _ => ⟨fun h => fin _ ?_, fun _ => ⟨fun h => fin _ ?_, fun _ => ⟨fun h => fin _ ?_, fun _ => ⟨fun h => fin _ ?_, fun _ => ⟨fun h => fin _ ?_, fun _ => ⟨fun h => fin _ ?_, fun _ => ⟨fun h => fin _ ?_, fun _ => ⟨fun h => fin _ ?_, fun _ => ⟨fun h => fin _ ?_, fun _ => ⟨fun h => fin _ ?_, fun _ => ⟨fun h => fin _ ?_, fun _ => ⟨fun h => fin _ ?_, fun _ => fin _ ?_⟩⟩⟩⟩⟩⟩⟩⟩⟩⟩⟩⟩⟩⟩⟩⟩
    all_goals (split <;> first | omega | (split <;> omega))
  · exact hpre.elim
theorem nib_says (hm : Try.prog.follows .mixedOrders = true) : nibC.Holds Try.prog 55 := by
  intro args blks hf hpre
  refine ⟨trivial, ?_⟩
  simp only [nibC] at hpre ⊢
  split at hpre
  · rename_i c
    refine (sure0 hm).funX F349 body349 [] [] Try.func55 rfl noLoops ?_
    rw [w349]
    have fin : ∀ v : Int, v = nibD c → FlatD [] (hp []) ∧ Value.int IntKind.u8 v = Value.int IntKind.u8 (nibD c) ∧ hp [] = hp ([] ++ []) := fun v h => ⟨FlatD.hp trivial, by rw [h], rfl⟩
    simp only [Alt_iff, Need_iff, ltI_eq, leI_eq, eqI_eq, leN_eq, eqN_eq, decide_eq_true_eq, decide_eq_false_iff_not, decide_true, decide_false, true_and, and_true, Bool.true_eq_false, Bool.false_eq_true, false_implies, true_implies, implies_true, not_true_eq_false, not_false_eq_true, Bool.not_eq_true', Bool.not_eq_false', Nat.zero_add, Nat.add_zero, Nat.sub_zero, Nat.zero_mul, Nat.mul_one, Int.toNat_natCast, List.drop_zero, beqV_int, beqV_sl, beqV_str, beqV_bool, beqV_ptr, beqV_flt, beqV_agg, beqV_tuple, List.all_cons, List.all_nil, Bool.and_self, Bool.and_true, Bool.true_and, Nat.le_refl, Int.le_refl, Nat.zero_le, Option.getD_some, isStr, strV, isInt, intV, isBool, boolV, kindEq, at0, isJunk, Option.isSome_some, Option.isSome_none, if_true, if_false, Nat.add_sub_cancel_left, Nat.add_sub_cancel, wr_eq, IntKind.wrap, IntKind.bits, IntKind.signed]
    unfold nibD at fin ⊢
    refine ⟨fun _ => ⟨fun _ => fin _ ?_, fun _ => ⟨fun _ => ⟨fun _ => fin _ ?_, fun _ => fin _ ?_⟩, fun _ => fin _ ?_⟩⟩, fun _ => ⟨fun _ => ⟨fun _ => fin _ ?_, fun _ => fin _ ?_⟩, fun _ => fin _ ?_⟩⟩
    all_goals (simp at *; split <;> first | omega | (split <;> omega))
  · exact hpre.elim
noncomputable def T336 (s : ByteArray) (u : Int) (i : Nat) : List Value := tmps 48 [(0, .string s), (4, .int .u64 u), (10, .int .i64 s.size), (11, .int .i64 i)]
noncomputable def S336 : Book := bookOf [(48, idxC), (19, textC), (28, ofC)]
theorem sure336 (hm : Try.prog.follows .mixedOrders = true) : Sure Try.prog S336 := ⟨hm, plain, bookOf_ok (l := [(48, idxC), (19, textC), (28, ofC)]) ⟨idx_says hm, text_says hm, of_says hm, trivial⟩⟩

theorem r336 (s : ByteArray) (u : Int) (i : Nat) (K : Post) :
  roundX Try.prog S336 noLoop F336 body336 0 [] [] [] [] [0,4,10,11] [0,0,1,1,1,1,1,1,1,1,1,1,1,0,1,0,1,1] (T336 s u i) (hp []) K = (
Alt (ltI (↑i : Int) (↑s.size : Int))
  (Need (ltI (↑i : Int) (↑s.size : Int))
    (True ∧
      True ∧
        K AE.normal
          (tmps 48
            [(0, Value.string s),
              (4,
                Value.int IntKind.u64
                  (bitsW BinOp.or IntKind.u64 (wr IntKind.u64 (u * 16))
                    (wr IntKind.u64
                      (if idxD (↑(s.data.toList.getD (↑i : Int).toNat (OfNat.ofNat 0)).toNat : Int) > 0 then
                        idxD (↑(s.data.toList.getD (↑i : Int).toNat (OfNat.ofNat 0)).toNat : Int)
                      else 0)))),
              (10, Value.int IntKind.i64 (↑s.size : Int)),
              (11, Value.int IntKind.i64 (wr IntKind.i64 ((↑i : Int) + 1)))])
          (hp [])))
  (K (AE.exit 1) (tmps 48 [(0, Value.string s), (4, Value.int IntKind.u64 u)]) (hp []))) := by kernel_rfl

noncomputable def cut336 (s : ByteArray) : CutE where
  β := Nat
  p := [0,1,1,1,1,1,1,1,1,1,1,1,0,1,0,1,1]
  t := fun _ => T336 s 0 0
  h := fun _ => hp []
  Q := fun _ K => ∀ u : Nat, u < 18446744073709551616 → (u : Int) = decR (sI s) 0 → K (.exit 1) (tmps 48 [(0, .string s), (4, .int .u64 u)]) (hp [])

theorem w336 (s : ByteArray) (K : Value → Heap → Prop) :
  funX Try.prog S336 (cutE [cut336 s]) F336 body336 Try.f36 [] [] [.string s] (hp []) K = (
Alt (eqS s { data := #[OfNat.ofNat 110, OfNat.ofNat 97, OfNat.ofNat 110] : ByteArray })
  (True ∧
    True ∧
      True ∧
        True ∧
          Alt (!eqS { data := (tx (fBits 9221120237041090561)).toArray : ByteArray } s)
            (K (Value.tuple #[Value.float FloatKind.f64 0, Value.bool false]) (hp []))
            (K (Value.tuple #[Value.float FloatKind.f64 9221120237041090561, Value.bool true]) (hp [])))
  (Alt (eqS s { data := #[OfNat.ofNat 43, OfNat.ofNat 105, OfNat.ofNat 110, OfNat.ofNat 102] : ByteArray })
    (True ∧
      True ∧
        True ∧
          True ∧
            Alt (!eqS { data := (tx (fBits 9218868437227405312)).toArray : ByteArray } s)
              (K (Value.tuple #[Value.float FloatKind.f64 0, Value.bool false]) (hp []))
              (K (Value.tuple #[Value.float FloatKind.f64 9218868437227405312, Value.bool true]) (hp [])))
    (Alt (eqS s { data := #[OfNat.ofNat 45, OfNat.ofNat 105, OfNat.ofNat 110, OfNat.ofNat 102] : ByteArray })
      (True ∧
        True ∧
          True ∧
            True ∧
              Alt (!eqS { data := (tx (fBits 18442240474082181120)).toArray : ByteArray } s)
                (K (Value.tuple #[Value.float FloatKind.f64 0, Value.bool false]) (hp []))
                (K (Value.tuple #[Value.float FloatKind.f64 18442240474082181120, Value.bool true]) (hp [])))
      (Alt (eqS s { data := #[OfNat.ofNat 43, OfNat.ofNat 48] : ByteArray })
        (True ∧
          True ∧
            True ∧
              True ∧
                Alt (!eqS { data := (tx (fBits 0)).toArray : ByteArray } s)
                  (K (Value.tuple #[Value.float FloatKind.f64 0, Value.bool false]) (hp []))
                  (K (Value.tuple #[Value.float FloatKind.f64 0, Value.bool true]) (hp [])))
        (Alt (eqS s { data := #[OfNat.ofNat 45, OfNat.ofNat 48] : ByteArray })
          (True ∧
            True ∧
              True ∧
                True ∧
                  Alt (!eqS { data := (tx (fBits 9223372036854775808)).toArray : ByteArray } s)
                    (K (Value.tuple #[Value.float FloatKind.f64 0, Value.bool false]) (hp []))
                    (K (Value.tuple #[Value.float FloatKind.f64 9223372036854775808, Value.bool true]) (hp [])))
          (∃ (b : Nat),
            tmps 48
                  [(0, Value.string s), (4, Value.int IntKind.u64 0), (10, Value.int IntKind.i64 (↑s.size : Int)),
                    (11, Value.int IntKind.i64 0)] =
                tmps 48
                  [(0, Value.string s), (4, Value.int IntKind.u64 0), (10, Value.int IntKind.i64 (↑s.size : Int)),
                    (11, Value.int IntKind.i64 0)] ∧
              hp [] = hp [] ∧
                ∀ (u : Nat),
                  u.succ.le 18446744073709551616 →
                    (↑u : Int) = decR (sI s) 0 →
                      True ∧
                        Need (leI (↑u : Int) 18446744073709551615) True ∧
                          Alt (!!fBad (intV (Value.int IntKind.u64 (↑u : Int))))
                            (K (Value.tuple #[Value.float FloatKind.f64 0, Value.bool false]) (hp []))
                            (True ∧
                              Need
                                  (leN
                                    (bif fBad (intV (Value.int IntKind.u64 (↑u : Int))) then 0
                                    else (intV (Value.int IntKind.u64 (↑u : Int))).toNat)
                                    18446744073709551615)
                                  True ∧
                                Alt
                                  (!eqS
                                      {
                                        data :=
                                          (tx
                                              (fBits
                                                (fltA
                                                  [Value.float FloatKind.f64
                                                      (bif fBad (intV (Value.int IntKind.u64 (↑u : Int))) then 0
                                                      else (intV (Value.int IntKind.u64 (↑u : Int))).toNat)]
                                                  0))).toArray :
                                        ByteArray }
                                      s)
                                  (K (Value.tuple #[Value.float FloatKind.f64 0, Value.bool false]) (hp []))
                                  (K
                                    (Value.tuple
                                      #[Value.float FloatKind.f64
                                          (bif fBad (intV (Value.int IntKind.u64 (↑u : Int))) then 0
                                          else (intV (Value.int IntKind.u64 (↑u : Int))).toNat),
                                        Value.bool true])
                                    (hp []))))))))) := by kernel_rfl

end Go.Proofs.Ytglfkchcmjmmlaa

namespace Go.Proofs.Ytglfkchcmjmmlaa
open Go.RowKit Go.Proofs.Ytglfkchcmjmmlaa.AM
set_option maxRecDepth 100000
set_option maxHeartbeats 4000000
noncomputable def body347 : Code := (Try.f49.body).getD .skip
def F347 : List Nat → Option (List Nat) := fun p => match p with
  | [1] => some [0]
  | [1, 0, 1] => some [0, 11]
  | [1, 0, 1, 0, 1] => some [2, 3]
  | [1, 1] => some [0]
  | [1, 1, 1] => some [0, 4]
  | [1, 0, 1, 1, 1] => some [0, 4, 5]
  | [1, 0, 0, 0, 1, 0, 1, 1, 1] => some [0, 4, 5, 15]
  | [1, 1, 0, 0, 0, 1, 0, 1, 1, 1] => some [4]
  | [1, 0, 0, 1, 0, 1, 1, 1] => some [0, 4, 5]
  | [1, 0, 0, 1, 0, 0, 1, 0, 1, 1, 1] => some [0, 4, 5, 6, 7]
  | [1, 0, 1, 0, 0, 1, 0, 0, 1, 0, 1, 1, 1] => some [0, 4, 5, 6, 7, 32]
  | [1, 0, 1, 0, 1, 0, 0, 1, 0, 0, 1, 0, 1, 1, 1] => some [2, 3]
  | [1, 1, 0, 0, 1, 0, 0, 1, 0, 1, 1, 1] => some [0, 4, 5, 6, 7]
  | [1, 1, 0, 0, 1, 0, 1, 1, 1] => some [0, 4, 5]
  | [1, 1, 1, 1] => some [4]
  | [1, 1, 1, 1, 1] => some [2, 3]
  | _ => none
noncomputable def body337 : Code := (Try.f37.body).getD .skip
def F337 : List Nat → Option (List Nat) := fun p => match p with
  | [1] => some [0]
  | [1, 0, 1] => some [0, 10]
  | [1, 0, 1, 0, 1] => some [0, 10, 11]
  | [1, 0, 1, 0, 1, 0, 1] => some [2, 3]
  | [1, 1, 1, 0, 1, 0, 1] => some [0, 10, 14]
  | [1, 0, 1, 1, 1, 0, 1, 0, 1] => some [2, 3]
  | [1, 1, 1, 1, 1, 0, 1, 0, 1] => some [0, 10, 17]
  | [1, 0, 1, 1, 1, 1, 1, 0, 1, 0, 1] => some [2, 3]
  | [1, 1, 1, 1, 1, 1, 1, 0, 1, 0, 1] => some [0, 10, 20]
  | [1, 0, 1, 1, 1, 1, 1, 1, 1, 0, 1, 0, 1] => some [2, 3]
  | [1, 1, 1, 1, 1, 1, 1, 1, 1, 0, 1, 0, 1] => some [0, 22]
  | [1, 0, 1, 1, 1, 1, 1, 1, 1, 1, 1, 0, 1, 0, 1] => some [2, 3]
  | [1, 1] => some [0]
  | [1, 1, 1] => some [0, 4, 5]
  | [1, 0, 1, 1, 1] => some [0, 4, 36]
  | [1, 0, 1, 0, 1, 1, 1] => some [2, 3]
  | [1, 1, 1, 1] => some [0, 4]
  | [1, 1, 1, 1, 1] => some [0, 6]
  | [1, 1, 1, 1, 1, 1] => some [0, 8, 9]
  | [1, 0, 1, 1, 1, 1, 1, 1] => some [8, 54]
  | [1, 0, 1, 0, 1, 1, 1, 1, 1, 1] => some [2, 3]
  | [1, 1, 1, 1, 1, 1, 1] => some [8]
  | [1, 1, 1, 1, 1, 1, 1, 1] => some [2, 3]
  | _ => none
noncomputable def body20 : Code := (Try.f50.body).getD .skip
def F20 : List Nat → Option (List Nat) := fun p => match p with
  | [1] => some [0]
  | [1, 0, 1] => some [0, 8]
  | [1, 0, 1, 0, 1] => some [2, 3]
  | [1, 1] => some [0]
  | [1, 1, 1] => some [0, 4]
  | [1, 0, 1, 1, 1] => some [0, 4, 5]
  | [1, 0, 0, 0, 1, 0, 1, 1, 1] => some [0, 4, 5, 10]
  | [1, 1, 0, 0, 0, 1, 0, 1, 1, 1] => some [4]
  | [1, 0, 0, 1, 0, 1, 1, 1] => some [0, 4, 5]
  | [1, 1, 0, 0, 1, 0, 1, 1, 1] => some [0, 4, 5]
  | [1, 1, 1, 1] => some [4]
  | [1, 1, 1, 1, 1] => some [2, 3]
  | _ => none
/-- bytes of digits -/
def uh : List Int → Option (List Int)
  | [] => some []
  | [_] => none
  | a :: b :: t => if 15 < nibD a ∨ 15 < nibD b then none else (uh t).map fun l => (16 * nibD a + nibD b) :: l
def uhR (l : List Int) : Option (List Int) := if l.length % 2 = 0 then uh l else none
def u8C (l : List Int) : List Value := l.map fun c => .int .u8 c
noncomputable def sl1' (B n : Nat) : Value := .slice (some ⟨B,0,some 1⟩) n n
noncomputable def unhC : Ctr where
  pre := fun args blks => match args, blks with
    | [.string s], [] => s.size ≤ 60
    | _, _ => False
  val := fun args blks => match args, blks with
    | [.string s], [] => .tuple #[sl1' 0 ((uhR (sI s)).getD []).length, .bool (uhR (sI s)).isSome]
    | _, _ => undef
  new := fun args blks => match args, blks with
    | [.string s], [] => [.cells (u8C ((uhR (sI s)).getD [])) 1 true]
    | _, _ => []
noncomputable def S347 : Book := bookOf [(55, nibC)]
theorem sure347 (hm : Try.prog.follows .mixedOrders = true) : Sure Try.prog S347 := ⟨hm, plain, bookOf_ok (l := [(55, nibC)]) ⟨nib_says hm, trivial⟩⟩
noncomputable def T347 (s : ByteArray) (x i : Nat) : List Value := tmps 41 [(0, .string s), (4, sl1' 0 x), (5, .int .i64 i)]

theorem r347 (s : ByteArray) (x i : Nat) (cl : List Value) (K : Post) :
  roundX Try.prog S347 noLoop F347 body347 0 [] [.tmp 4 1] [] [.tmp 2 1] [0,4,5] [0,0,1,0,1,1,1] (T347 s x i) (hp [.cells cl 1 true]) K = (
Alt (ltI (↑i : Int) (↑s.size : Int))
  (Need (ltI (↑i : Int) (↑s.size : Int))
    (True ∧
      True ∧
        Need (leI 0 (wr IntKind.i64 ((↑i : Int) + 1)))
          (Need (ltI (wr IntKind.i64 ((↑i : Int) + 1)) (↑s.size : Int))
            (True ∧
              True ∧
                Need (leI 0 (wr IntKind.i64 ((↑i : Int) + 1)))
                  (Need (ltI (wr IntKind.i64 ((↑i : Int) + 1)) (↑s.size : Int))
                    (Need
                      (beqV 64
                        (Value.int IntKind.u8
                          (↑(s.data.toList.getD (wr IntKind.i64 ((↑i : Int) + 1)).toNat (OfNat.ofNat 0)).toNat : Int))
                        (Value.int IntKind.u8
                          (↑(s.data.toList.getD (wr IntKind.i64 ((↑i : Int) + 1)).toNat (OfNat.ofNat 0)).toNat : Int)))
                      (Need
                        (beqV 64 (Value.int IntKind.i64 (wr IntKind.i64 ((↑i : Int) + 1)))
                          (Value.int IntKind.i64 (wr IntKind.i64 ((↑i : Int) + 1))))
                        (Need (beqV 64 (Value.int IntKind.i64 (↑i : Int)) (Value.int IntKind.i64 (↑i : Int)))
                          (Need (beqV 64 (Value.string s) (Value.string s))
                            (Alt (ltI 15 (nibD (↑(s.data.toList.getD (↑i : Int).toNat (OfNat.ofNat 0)).toNat : Int)))
                              (K AE.ret
                                (tmps 41
                                  [(2, Value.slice (some { block := 0, off := 0, spot := some 1 : Addr }) 0 0),
                                    (3, Value.bool false)])
                                (hp [Blk.cells [] 1 true]))
                              (Alt
                                (ltI 15
                                  (nibD
                                    (↑(s.data.toList.getD (wr IntKind.i64 ((↑i : Int) + 1)).toNat
                                            (OfNat.ofNat 0)).toNat :
                                      Int)))
                                (K AE.ret
                                  (tmps 41
                                    [(2, Value.slice (some { block := 0, off := 0, spot := some 1 : Addr }) 0 0),
                                      (3, Value.bool false)])
                                  (hp [Blk.cells [] 1 true]))
                                (Need (leN (0 + x * 1) cl.length)
                                  (Need (leN ((x + 1) * 1) 1099511627776)
                                    (Need (leN (x + 1) 1099511627776)
                                      (K AE.normal
                                        (tmps 41
                                          [(0, Value.string s),
                                            (4,
                                              Value.slice (some { block := 0, off := 0, spot := some 1 : Addr }) (x + 1)
                                                (x + 1)),
                                            (5, Value.int IntKind.i64 (wr IntKind.i64 ((↑i : Int) + 2)))])
                                        (hp
                                          [Blk.cells
                                              (List.take (x * 1) (List.drop 0 cl) ++
                                                [Value.int IntKind.u8
                                                    (wr IntKind.u8
                                                      (wr IntKind.u8
                                                          (16 *
                                                            nibD
                                                              (↑(s.data.toList.getD (↑i : Int).toNat
                                                                      (OfNat.ofNat 0)).toNat :
                                                                Int)) +
                                                        nibD
                                                          (↑(s.data.toList.getD (wr IntKind.i64 ((↑i : Int) + 1)).toNat
                                                                  (OfNat.ofNat 0)).toNat :
                                                            Int)))])
                                              1 true]))))))))))))))))
  (K (AE.exit 0) (tmps 41 [(4, Value.slice (some { block := 0, off := 0, spot := some 1 : Addr }) x x)])
    (hp [Blk.cells cl 1 true]))) := by kernel_rfl

noncomputable def cut347 (s : ByteArray) : CutE where
  β := Nat
  p := [0,1,0,1,1,1]
  t := fun _ => T347 s 0 0
  h := fun _ => hp [.cells [] 1 true]
  Q := fun _ K => s.size % 2 = 0 ∧ (∀ l, uh (sI s) = some l → K (.exit 0) (tmps 41 [(4, sl1' 0 l.length)]) (hp [.cells (u8C l) 1 true])) ∧ (uh (sI s) = none → K .ret (tmps 41 [(2, sl1' 0 0), (3, .bool false)]) (hp [.cells [] 1 true]))

theorem w347 (s : ByteArray) (K : Value → Heap → Prop) :
  funX Try.prog S347 (gcLKX (at0 []) (at0 [.tmp 4 1]) 0 (cutE [cut347 s])) F347 body347 Try.f49 [] [.tup 0 0 1] [.string s] (hp []) K = (
Alt (!eqI ((↑s.size : Int).tmod 2) 0)
  (K (Value.tuple #[Value.slice (some { block := 0, off := 0, spot := some 1 : Addr }) 0 0, Value.bool false])
    (hp [Blk.cells [] 1 true]))
  (FlatD [] (hp [Blk.cells [] 1 true]) ∧
    ∃ (b : Nat),
      tmps 41
            [(0, Value.string s), (4, Value.slice (some { block := 0, off := 0, spot := some 1 : Addr }) 0 0),
              (5, Value.int IntKind.i64 0)] =
          tmps 41
            [(0, Value.string s), (4, Value.slice (some { block := 0, off := 0, spot := some 1 : Addr }) 0 0),
              (5, Value.int IntKind.i64 0)] ∧
        hp [Blk.cells [] 1 true] = hp [Blk.cells [] 1 true] ∧
          s.size % 2 = 0 ∧
            (∀ (l : List Int),
                uh (sI s) = some l →
                  K
                    (Value.tuple
                      #[Value.slice (some { block := 0, off := 0, spot := some 1 : Addr }) l.length l.length,
                        Value.bool true])
                    (hp [Blk.cells (u8C l) 1 true])) ∧
              (uh (sI s) = none →
                K
                  (Value.tuple
                    #[Value.slice (some { block := 0, off := 0, spot := some 1 : Addr }) 0 0, Value.bool false])
                  (hp [Blk.cells [] 1 true])))) := by kernel_rfl

/-- a word's value -/
def w8 (cs : List Value) : Int := cs.foldl (fun u v => u * 256 + intV v) 0
inductive IsW8 (cs : List Value) (n : Nat) : Prop
  | mk (b0 b1 b2 b3 b4 b5 b6 b7 : Int) (h : cs = u8C [b0, b1, b2, b3, b4, b5, b6, b7]) (hn : n = 8) (hb : ∀ x ∈ [b0, b1, b2, b3, b4, b5, b6, b7], 0 ≤ x ∧ x < 256) : IsW8 cs n
noncomputable def wordC : Ctr where
  pre := fun args blks => match args, blks with
    | [.slice (some ⟨0,0,_⟩) n _], [.cells cs 1 _] => IsW8 cs n
    | _, _ => False
  val := fun args blks => match args, blks with
    | [.slice (some ⟨0,0,_⟩) n _], [.cells cs 1 _] => .tuple #[.int .u64 (w8 cs), .bool true]
    | _, _ => undef
  new := fun _ _ => []

theorem w20 (b0 b1 b2 b3 b4 b5 b6 b7 : Int) (sp : Option Nat) (cap : Nat) (own : Bool) (K : Value → Heap → Prop) :
  funX Try.prog S0 (unrK Try.prog S0 noLoop F20 body20 9) F20 body20 Try.f50 [] [] [.slice (some ⟨0,0,sp⟩) 8 cap] (hp [.cells [.int .u8 b0, .int .u8 b1, .int .u8 b2, .int .u8 b3, .int .u8 b4, .int .u8 b5, .int .u8 b6, .int .u8 b7] 1 own]) K = (
K
  (Value.tuple
    #[Value.int IntKind.u64
        (bitsW BinOp.or IntKind.u64
          (wr IntKind.u64
            (bitsW BinOp.or IntKind.u64
                (wr IntKind.u64
                  (bitsW BinOp.or IntKind.u64
                      (wr IntKind.u64
                        (bitsW BinOp.or IntKind.u64
                            (wr IntKind.u64
                              (bitsW BinOp.or IntKind.u64
                                  (wr IntKind.u64
                                    (bitsW BinOp.or IntKind.u64
                                        (wr IntKind.u64
                                          (bitsW BinOp.or IntKind.u64
                                              (wr IntKind.u64
                                                (bitsW BinOp.or IntKind.u64 0
                                                    (wr IntKind.u64 (intV (Value.int IntKind.u8 b0))) *
                                                  256))
                                              (wr IntKind.u64 (intV (Value.int IntKind.u8 b1))) *
                                            256))
                                        (wr IntKind.u64 (intV (Value.int IntKind.u8 b2))) *
                                      256))
                                  (wr IntKind.u64 (intV (Value.int IntKind.u8 b3))) *
                                256))
                            (wr IntKind.u64 (intV (Value.int IntKind.u8 b4))) *
                          256))
                      (wr IntKind.u64 (intV (Value.int IntKind.u8 b5))) *
                    256))
                (wr IntKind.u64 (intV (Value.int IntKind.u8 b6))) *
              256))
          (wr IntKind.u64 (intV (Value.int IntKind.u8 b7)))),
      Value.bool true])
  (hp
    [Blk.cells
        [Value.int IntKind.u8 b0, Value.int IntKind.u8 b1, Value.int IntKind.u8 b2, Value.int IntKind.u8 b3,
          Value.int IntKind.u8 b4, Value.int IntKind.u8 b5, Value.int IntKind.u8 b6, Value.int IntKind.u8 b7]
        1 own])) := by kernel_rfl

noncomputable def S337 : Book := bookOf [(49, unhC), (38, textC), (29, ofC), (50, wordC), (32, infC), (13, copyC)]

theorem w337 (s : ByteArray) (K : Value → Heap → Prop) :
  funX Try.prog S337 noLoop F337 body337 Try.f37 [] [] [.string s] (hp []) K = (
Alt (eqS s { data := #[OfNat.ofNat 110, OfNat.ofNat 97, OfNat.ofNat 110] : ByteArray })
  (K (Value.tuple #[Value.float FloatKind.f64 9221120237041090561, Value.bool true]) (hp []))
  (Alt (eqS s { data := #[OfNat.ofNat 43, OfNat.ofNat 105, OfNat.ofNat 110, OfNat.ofNat 102] : ByteArray })
    (True ∧ True ∧ K (Value.tuple #[Value.float FloatKind.f64 9218868437227405312, Value.bool true]) (hp []))
    (Alt (eqS s { data := #[OfNat.ofNat 45, OfNat.ofNat 105, OfNat.ofNat 110, OfNat.ofNat 102] : ByteArray })
      (True ∧ True ∧ K (Value.tuple #[Value.float FloatKind.f64 18442240474082181120, Value.bool true]) (hp []))
      (Alt (eqS s { data := #[OfNat.ofNat 43, OfNat.ofNat 48] : ByteArray })
        (K (Value.tuple #[Value.float FloatKind.f64 0, Value.bool true]) (hp []))
        (Alt (eqS s { data := #[OfNat.ofNat 45, OfNat.ofNat 48] : ByteArray })
          (True ∧ True ∧ K (Value.tuple #[Value.float FloatKind.f64 9223372036854775808, Value.bool true]) (hp []))
          (True ∧
            s.size.le 60 ∧
              Alt (!(uhR (sI s)).isSome) (K (Value.tuple #[Value.float FloatKind.f64 0, Value.bool false]) (hp []))
                (Alt (!eqI (↑((uhR (sI s)).getD []).length : Int) 8)
                  (K (Value.tuple #[Value.float FloatKind.f64 0, Value.bool false]) (hp []))
                  ((FlatL (u8C ((uhR (sI s)).getD [])) ∧ True) ∧
                    IsW8 (u8C ((uhR (sI s)).getD [])) ((uhR (sI s)).getD []).length ∧
                      True ∧
                        Need (leI 0 (w8 (u8C ((uhR (sI s)).getD []))))
                            (Need (leI (w8 (u8C ((uhR (sI s)).getD []))) 18446744073709551615) True) ∧
                          Alt (!!fBad (intV (Value.int IntKind.u64 (w8 (u8C ((uhR (sI s)).getD []))))))
                            (K (Value.tuple #[Value.float FloatKind.f64 0, Value.bool false]) (hp []))
                            (True ∧
                              Need
                                  (leN
                                    (bif fBad (intV (Value.int IntKind.u64 (w8 (u8C ((uhR (sI s)).getD []))))) then 0
                                    else (intV (Value.int IntKind.u64 (w8 (u8C ((uhR (sI s)).getD []))))).toNat)
                                    18446744073709551615)
                                  True ∧
                                Alt
                                  (!eqS
                                      {
                                        data :=
                                          (tx
                                              (fBits
                                                (fltA
                                                  [Value.float FloatKind.f64
                                                      (bif
                                                          fBad
                                                            (intV
                                                              (Value.int IntKind.u64
                                                                (w8 (u8C ((uhR (sI s)).getD []))))) then
                                                        0
                                                      else
                                                        (intV
                                                            (Value.int IntKind.u64
                                                              (w8 (u8C ((uhR (sI s)).getD []))))).toNat)]
                                                  0))).toArray :
                                        ByteArray }
                                      s)
                                  (K (Value.tuple #[Value.float FloatKind.f64 0, Value.bool false]) (hp []))
                                  (K
                                    (Value.tuple
                                      #[Value.float FloatKind.f64
                                          (bif
                                              fBad (intV (Value.int IntKind.u64 (w8 (u8C ((uhR (sI s)).getD []))))) then
                                            0
                                          else (intV (Value.int IntKind.u64 (w8 (u8C ((uhR (sI s)).getD []))))).toNat),
                                        Value.bool true])
                                    (hp []))))))))))) := by kernel_rfl

end Go.Proofs.Ytglfkchcmjmmlaa

namespace Go.Proofs.Ytglfkchcmjmmlaa
open Go.RowKit Go.Proofs.Ytglfkchcmjmmlaa.AM
set_option maxRecDepth 100000
set_option maxHeartbeats 4000000
theorem eqS_l (s : ByteArray) (l : List UInt8) : eqS s ⟨l.toArray⟩ = decide (s.data.toList = l) := by
  unfold eqS
  rw [Bool.eq_iff_iff]; simp
theorem eqS_r (s : ByteArray) (l : List UInt8) : eqS ⟨l.toArray⟩ s = decide (l = s.data.toList) := by
  unfold eqS
  rw [Bool.eq_iff_iff]; simp
/-- the texts of their own -/
def sp (l : List UInt8) : Option Nat := if l = [110,97,110] then some 9221120237041090561 else if l = [43,105,110,102] then some 9218868437227405312 else if l = [45,105,110,102] then some 18442240474082181120 else if l = [43,48] then some 0 else if l = [45,48] then some 9223372036854775808 else none
/-- the bits that a text tells -/
def rdN (s : ByteArray) : Nat := (sp s.data.toList).getD (decR (sI s) 0).toNat
def good (s : ByteArray) : Bool := !fBad (rdN s : Nat) && decide (tx (rdN s : Nat) = s.data.toList)
def rdF (s : ByteArray) : Nat := cond (good s) (rdN s) 0
theorem decR_lt : ∀ (t : List Int) (u : Int), 0 ≤ u → u < 18446744073709551616 → 0 ≤ decR t u ∧ decR t u < 18446744073709551616 := by
  intro t
  induction t with
  | nil => intro u h0 h1; exact ⟨h0, h1⟩
  | cons c t ih =>
    intro u h0 h1
    have := idx0_lt c
    exact ih _ (by omega) (by omega)
theorem orR (u : Int) (h0 : 0 ≤ u) (d : Int) (d0 : 0 ≤ d) (d1 : d < 16) : bitsW .or .u64 (wr .u64 (u * 16)) (wr .u64 d) = u * 16 % 18446744073709551616 + d := by
  rw [wr_u64 d d0 (by omega)]
  have e0 : wr .u64 (u * 16) = u * 16 % 18446744073709551616 := by rw [wr_eq]; simp [IntKind.wrap, IntKind.bits, IntKind.signed]
  rw [e0]
  obtain ⟨q, hq⟩ : ∃ q : Nat, u * 16 % 18446744073709551616 = ((16 * q : Nat) : Int) := ⟨(u * 16 % 18446744073709551616 / 16).toNat, by omega⟩
  obtain ⟨e, rfl⟩ := Int.eq_ofNat_of_zero_le d0
  have hq1 : 16 * q < 18446744073709551616 := by omega
  rw [hq]
  have : ((BitVec.ofInt 64 ((16 * q : Nat) : Int)) ||| BitVec.ofInt 64 (e : Int)).toNat = 16 * q + e := by
    rw [ofInt_nat, ofInt_nat, BitVec.toNat_or, BitVec.toNat_ofNat, BitVec.toNat_ofNat, Nat.mod_eq_of_lt (show 16 * q < 2 ^ 64 by omega), Nat.mod_eq_of_lt (show e < 2 ^ 64 by omega)]
    rw [show 16 * q = 2 ^ 4 * q from rfl, Nat.two_pow_add_eq_or_of_lt (by omega) q]
  show wr .u64 (((BitVec.ofInt 64 ((16 * q : Nat) : Int)) ||| BitVec.ofInt 64 (e : Int)).toNat : Int) = _
  rw [this, wr_u64 _ (by omega) (by omega)]
  omega
theorem or256 (u : Int) (h0 : 0 ≤ u) (h1 : u < 72057594037927936) (d : Int) (d0 : 0 ≤ d) (d1 : d < 256) : bitsW .or .u64 (wr .u64 (u * 256)) (wr .u64 d) = u * 256 + d := by
  rw [wr_u64 d d0 (by omega), wr_u64 (u * 256) (by omega) (by omega)]
  obtain ⟨q, rfl⟩ := Int.eq_ofNat_of_zero_le h0
  obtain ⟨e, rfl⟩ := Int.eq_ofNat_of_zero_le d0
  rw [show (q : Int) * 256 = ((256 * q : Nat) : Int) by omega]
  have : ((BitVec.ofInt 64 ((256 * q : Nat) : Int)) ||| BitVec.ofInt 64 (e : Int)).toNat = 256 * q + e := by
    rw [ofInt_nat, ofInt_nat, BitVec.toNat_or, BitVec.toNat_ofNat, BitVec.toNat_ofNat, Nat.mod_eq_of_lt (show 256 * q < 2 ^ 64 by omega), Nat.mod_eq_of_lt (show e < 2 ^ 64 by omega)]
    rw [show 256 * q = 2 ^ 8 * q from rfl, Nat.two_pow_add_eq_or_of_lt (by omega) q]
  show wr .u64 (((BitVec.ofInt 64 ((256 * q : Nat) : Int)) ||| BitVec.ofInt 64 (e : Int)).toNat : Int) = _
  rw [this, wr_u64 _ (by omega) (by omega)]
  omega
theorem sI_len (s : ByteArray) : (sI s).length = s.size := by unfold sI; rw [List.length_map]; rfl
theorem sI_get {s : ByteArray} {i : Nat} {c : Int} {t : List Int} (h : (sI s).drop i = c :: t) : i < s.size ∧ ((s.data.toList.getD i 0).toNat : Int) = c ∧ (sI s).drop (i + 1) = t := by
  have h1 : (sI s)[i]? = some c := by
    have := congrArg List.head? h
    rw [List.head?_drop] at this; exact this
  have h2 : i < (sI s).length := (List.getElem?_eq_some_iff.1 h1).1
  refine ⟨by rw [sI_len] at h2; exact h2, ?_, by rw [← List.drop_drop, h]; rfl⟩
  unfold sI at h1
  rw [List.getElem?_map] at h1
  cases hg : s.data.toList[i]? with
  | none => rw [hg] at h1; cases h1
  | some b =>
    rw [hg] at h1
    simp at h1
    rw [List.getD_eq_getElem?_getD, hg]
    simpa using h1
theorem fBits_of (u : Nat) (h : fBad (u : Int) = false) : fBits u = (u : Int) := by
  unfold fBad at h
  unfold fBits
  rw [Int.toNat_natCast] at h
  cases hn : fNan u with
  | false => rfl
  | true =>
    rw [hn, Bool.true_and] at h
    simp only [Bool.not_eq_false', eqI_iff] at h
    rw [cond_true, h]
theorem rd_sp (s : ByteArray) (l : List UInt8) (n : Nat) (hs : s.data.toList = l) (h1 : sp l = some n) (h2 : (!fBad (n : Int) && decide (tx (n : Int) = l)) = true) : n = rdF s ∧ true = good s := by
  have e1 : rdN s = n := by unfold rdN; rw [hs, h1]; rfl
  have e2 : good s = true := by unfold good; rw [e1, hs]; exact h2
  exact ⟨by unfold rdF; rw [e2, e1]; rfl, e2.symm⟩
theorem sp_none (s : ByteArray) (h1 : ¬ s.data.toList = [110,97,110]) (h2 : ¬ s.data.toList = [43,105,110,102]) (h3 : ¬ s.data.toList = [45,105,110,102]) (h4 : ¬ s.data.toList = [43,48]) (h5 : ¬ s.data.toList = [45,48]) : sp s.data.toList = none := by
  unfold sp; rw [if_neg h1, if_neg h2, if_neg h3, if_neg h4, if_neg h5]
def okS : List Value → Prop := fun xs => match xs with
  | [.string s] => s.size ≤ 60
  | _ => False
theorem okS_eq {xs : List Value} (h : okS xs) : ∃ s : ByteArray, xs = [.string s] ∧ s.size ≤ 60 := by
  unfold okS at h
  split at h
  · exact ⟨_, rfl, h⟩
  · exact h.elim
noncomputable def strA (xs : List Value) : ByteArray := strV ((getO xs 0).getD (.bool false))
noncomputable def readC : Ctr := flC okS fun xs => .tuple #[.float .f64 (rdF (strA xs)), .bool (good (strA xs))]
theorem read_loop (hm : Try.prog.follows .mixedOrders = true) (s : ByteArray) (hs : s.size ≤ 60) (K : Post) (hK : ∀ u : Nat, u < 18446744073709551616 → (u : Int) = decR (sI s) 0 → K (.exit 1) (tmps 48 [(0, .string s), (4, .int .u64 u)]) (hp [])) : ∀ (t : List Int) (i : Nat) (u : Int), (sI s).drop i = t → 0 ≤ u → u < 18446744073709551616 → decR t u = decR (sI s) 0 →
    LSays Try.prog 0 (sub body336 [0,0,1,1,1,1,1,1,1,1,1,1,1,0,1,0,1,1]) (T336 s u i) (hp []) K := by
  have hF : FlatD [] (hp []) := FlatD.hp trivial
  intro t
  induction t with
  | nil =>
    intro i u ht h0 h1 hd
    have hge : ¬ ((i : Int) < (s.size : Int)) := by have := List.drop_eq_nil_iff.1 ht; rw [sI_len] at this; omega
    refine (sure336 hm).roundX F336 noLoops [] [] [] [] [0,4,10,11] ?_
    rw [r336]
    simp only [hge, hF, Alt_iff, Need_iff, ltI_eq, leI_eq, eqI_eq, leN_eq, eqN_eq, decide_eq_true_eq, decide_eq_false_iff_not, decide_true, decide_false, true_and, and_true, Bool.true_eq_false, Bool.false_eq_true, false_implies, true_implies, implies_true, not_true_eq_false, not_false_eq_true, Bool.not_eq_true', Bool.not_eq_false', Nat.zero_add, Nat.add_zero, Nat.sub_zero, Nat.zero_mul, Nat.mul_one, Int.toNat_natCast, List.drop_zero, beqV_int, beqV_sl, beqV_str, beqV_bool, beqV_ptr, beqV_flt, beqV_agg, beqV_tuple, List.all_cons, List.all_nil, Bool.and_self, Bool.and_true, Bool.true_and, Nat.le_refl, Int.le_refl, Nat.zero_le, Option.getD_some, isStr, strV, isInt, intV, isBool, boolV, kindEq, at0, isJunk, Option.isSome_some, Option.isSome_none, if_true, if_false, Nat.add_sub_cancel_left, Nat.add_sub_cancel]
    obtain ⟨w, rfl⟩ := Int.eq_ofNat_of_zero_le h0
    exact hK w (by omega) hd
  | cons c t ih =>
    intro i u ht h0 h1 hd
    obtain ⟨a1, a2, a3⟩ := sI_get ht
    have hc := idx0_lt c
    have next := ih (i + 1) (u * 16 % 18446744073709551616 + idx0 c) a3 (by omega) (by omega) hd
    have hw : wr .i64 ((i : Int) + 1) = ((i + 1 : Nat) : Int) := by rw [wr_eq]; simp [IntKind.wrap, IntKind.bits, IntKind.signed]; omega
    refine (sure336 hm).roundX F336 noLoops [] [] [] [] [0,4,10,11] ?_
    rw [r336]
    have a2' : ((s.data.toList.getD i (OfNat.ofNat 0)).toNat : Int) = c := a2
    simp only [Int.toNat_natCast, a2']
    rw [show (if idxD c > 0 then idxD c else 0) = idx0 c from rfl, orR u h0 _ hc.1 hc.2]
    simp only [show ((i : Int) < (s.size : Int)) by omega, hF, hw, Alt_iff, Need_iff, ltI_eq, leI_eq, eqI_eq, leN_eq, eqN_eq, decide_eq_true_eq, decide_eq_false_iff_not, decide_true, decide_false, true_and, and_true, Bool.true_eq_false, Bool.false_eq_true, false_implies, true_implies, implies_true, not_true_eq_false, not_false_eq_true, Bool.not_eq_true', Bool.not_eq_false', Nat.zero_add, Nat.add_zero, Nat.sub_zero, Nat.zero_mul, Nat.mul_one, Int.toNat_natCast, List.drop_zero, beqV_int, beqV_sl, beqV_str, beqV_bool, beqV_ptr, beqV_flt, beqV_agg, beqV_tuple, List.all_cons, List.all_nil, Bool.and_self, Bool.and_true, Bool.true_and, Nat.le_refl, Int.le_refl, Nat.zero_le, Option.getD_some, isStr, strV, isInt, intV, isBool, boolV, kindEq, at0, isJunk, Option.isSome_some, Option.isSome_none, if_true, if_false, Nat.add_sub_cancel_left, Nat.add_sub_cancel]
    exact next
theorem rd_none (s : ByteArray) (hsp : sp s.data.toList = none) (u : Nat) (hu : (u : Int) = decR (sI s) 0) : rdN s = u := by
  unfold rdN; rw [hsp, ← hu]; rfl
theorem rd_bad (s : ByteArray) (u : Nat) (hu : rdN s = u) (h : fBad (u : Int) = true) : 0 = rdF s ∧ false = good s := by
  have e : good s = false := by unfold good; rw [hu, h]; rfl
  exact ⟨by unfold rdF; rw [e]; rfl, e.symm⟩
theorem rd_not (s : ByteArray) (u : Nat) (hu : rdN s = u) (h : ¬ tx (u : Int) = s.data.toList) : 0 = rdF s ∧ false = good s := by
  have e : good s = false := by unfold good; rw [hu, decide_eq_false h, Bool.and_false]
  exact ⟨by unfold rdF; rw [e]; rfl, e.symm⟩
theorem rd_good (s : ByteArray) (u : Nat) (hu : rdN s = u) (hb : fBad (u : Int) = false) (h : tx (u : Int) = s.data.toList) : u = rdF s ∧ true = good s := by
  have e : good s = true := by unfold good; rw [hu, hb, decide_eq_true h]; rfl
  exact ⟨by unfold rdF; rw [e]; exact hu.symm, e.symm⟩
theorem read_says (hm : Try.prog.follows .mixedOrders = true) : readC.Holds Try.prog 36 := flC_of fun xs h => by
  obtain ⟨s, rfl, hs⟩ := okS_eq h
  have hL : Loops Try.prog body336 0 (cutE [cut336 s]) := Loops.noneE.moreE _ fun x K hQ => by
    show LSays Try.prog 0 (sub body336 [0,0,1,1,1,1,1,1,1,1,1,1,1,0,1,0,1,1]) (T336 s 0 (0 : Nat)) (hp []) K
    exact read_loop hm s hs K hQ (sI s) 0 0 rfl (by decide) (by decide) rfl
  refine (sure336 hm).funX F336 body336 [] [] Try.func36 rfl hL ?_
  rw [w336]
  have fin : ∀ (n : Nat) (b : Bool), n = rdF s ∧ b = good s → FlatD [] (hp []) ∧ isJunk (Value.tuple #[.float .f64 n, .bool b]) = false ∧ Value.tuple #[.float .f64 n, .bool b] = Value.tuple #[.float .f64 (rdF (strA [.string s])), .bool (good (strA [.string s]))] ∧ hp [] = hp [] := fun n b h => ⟨FlatD.hp trivial, rfl, by rw [h.1, h.2]; rfl, rfl⟩
  have spec : ∀ (l : List UInt8) (n : Nat), s.data.toList = l → sp l = some n → (!fBad (n : Int) && decide (tx (n : Int) = l)) = true → eqS ⟨(tx (fBits n)).toArray⟩ s = true := fun l n h1 h2 h3 => by
    rw [Bool.and_eq_true, decide_eq_true_iff, Bool.not_eq_true'] at h3
    rw [fBits_of n h3.1, eqS_r, h1, h3.2]; simp
  refine Alt_iff.2 ⟨fun h => ?_, fun h1 => Alt_iff.2 ⟨fun h => ?_, fun h2 => Alt_iff.2 ⟨fun h => ?_, fun h3 => Alt_iff.2 ⟨fun h => ?_, fun h4 => Alt_iff.2 ⟨fun h => ?_, fun h5 => ?_⟩⟩⟩⟩⟩
  · have hl : s.data.toList = [110,97,110] := by rw [eqS_l, decide_eq_true_iff] at h; exact h
    rw [spec _ 9221120237041090561 hl (by decide) (by decide)]
    exact ⟨trivial, trivial, trivial, trivial, fin _ _ (rd_sp s _ 9221120237041090561 hl (by decide) (by decide))⟩
  · have hl : s.data.toList = [43,105,110,102] := by rw [eqS_l, decide_eq_true_iff] at h; exact h
    rw [spec _ 9218868437227405312 hl (by decide) (by decide)]
    exact ⟨trivial, trivial, trivial, trivial, fin _ _ (rd_sp s _ 9218868437227405312 hl (by decide) (by decide))⟩
  · have hl : s.data.toList = [45,105,110,102] := by rw [eqS_l, decide_eq_true_iff] at h; exact h
    rw [spec _ 18442240474082181120 hl (by decide) (by decide)]
    exact ⟨trivial, trivial, trivial, trivial, fin _ _ (rd_sp s _ 18442240474082181120 hl (by decide) (by decide))⟩
  · have hl : s.data.toList = [43,48] := by rw [eqS_l, decide_eq_true_iff] at h; exact h
    rw [spec _ 0 hl (by decide) (by decide)]
    exact ⟨trivial, trivial, trivial, trivial, fin _ _ (rd_sp s _ 0 hl (by decide) (by decide))⟩
  · have hl : s.data.toList = [45,48] := by rw [eqS_l, decide_eq_true_iff] at h; exact h
    rw [spec _ 9223372036854775808 hl (by decide) (by decide)]
    exact ⟨trivial, trivial, trivial, trivial, fin _ _ (rd_sp s _ 9223372036854775808 hl (by decide) (by decide))⟩
  · refine ⟨0, rfl, rfl, fun u hu1 hu => ⟨trivial, ?_, ?_⟩⟩
    · rw [Need_iff]; exact ⟨leI_iff.2 (by have : u + 1 ≤ 18446744073709551616 := hu1; omega), trivial⟩
    rw [eqS_l, decide_eq_false_iff_not] at h1 h2 h3 h4 h5
    have hr := rd_none s (sp_none s h1 h2 h3 h4 h5) u hu
    have fin2 : ∀ (n : Nat) (b : Bool), n = rdF s ∧ b = good s → FlatD [] (hp []) ∧ isJunk (Value.tuple #[.float .f64 n, .bool b]) = false ∧ Value.tuple #[.float .f64 n, .bool b] = Value.tuple #[.float .f64 (rdF (strA [.string s])), .bool (good (strA [.string s]))] ∧ True := fun n b h => ⟨(fin n b h).1, rfl, (fin n b h).2.2.1, trivial⟩
    simp only [intV_i, Int.toNat_natCast, flt0, Bool.not_not]
    cases hb : fBad (u : Int) with
    | true => exact fin2 _ _ (rd_bad s u hr hb)
    | false =>
      refine ⟨trivial, ?_, ?_⟩
      · rw [Need_iff]; exact ⟨leN_iff.2 (by have : u + 1 ≤ 18446744073709551616 := hu1; show u ≤ _; omega), trivial⟩
      rw [cond_false, fBits_of u hb, eqS_r]
      by_cases ht : tx (u : Int) = s.data.toList
      · rw [decide_eq_true ht]; exact fin2 _ _ (rd_good s u hr hb ht)
      · rw [decide_eq_false ht]; exact fin2 _ _ (rd_not s u hr ht)
end Go.Proofs.Ytglfkchcmjmmlaa

namespace Go.Proofs.Ytglfkchcmjmmlaa
open Go.RowKit Go.Proofs.Ytglfkchcmjmmlaa.AM
set_option maxRecDepth 100000
set_option maxHeartbeats 4000000
theorem nibD_ge (c : Int) : 0 ≤ nibD c ∧ nibD c ≤ 16 := by unfold nibD; split <;> (try split) <;> omega
theorem nib_idx (c : Int) (h : ¬ 15 < nibD c) : idx0 c = nibD c := by
  unfold nibD at h ⊢
  unfold idx0 idxD
  by_cases h1 : 48 ≤ c ∧ c ≤ 57
  · rw [if_pos h1, if_pos h1]; split <;> omega
  · rw [if_neg h1, if_neg h1]
    rw [if_neg h1] at h
    by_cases h2 : 97 ≤ c ∧ c ≤ 102
    · rw [if_pos h2, if_pos h2]; split <;> omega
    · rw [if_neg h2] at h; omega
theorem uh_cons {a b : Int} {t : List Int} {l : List Int} (h : uh (a :: b :: t) = some l) : ¬ 15 < nibD a ∧ ¬ 15 < nibD b ∧ ∃ r, uh t = some r ∧ l = (16 * nibD a + nibD b) :: r := by
  unfold uh at h
  split at h
  · cases h
  · rename_i hn
    cases hr : uh t with
    | none => rw [hr] at h; cases h
    | some r =>
      rw [hr] at h
      simp at h
      exact ⟨fun x => hn (.inl x), fun x => hn (.inr x), r, rfl, h.symm⟩
theorem uh_step {a b : Int} {t : List Int} (h1 : ¬ 15 < nibD a) (h2 : ¬ 15 < nibD b) : uh (a :: b :: t) = (uh t).map fun l => (16 * nibD a + nibD b) :: l := by
  rw [uh, if_neg (by omega)]
theorem uh_ok : ∀ (n : Nat) (l bs : List Int), l.length ≤ n → uh l = some bs → l.length = 2 * bs.length ∧ ∀ x ∈ bs, 0 ≤ x ∧ x < 256 := by
  intro n
  induction n with
  | zero =>
    intro l bs hl h
    obtain rfl := List.eq_nil_of_length_eq_zero (Nat.le_zero.1 hl)
    simp [uh] at h; subst h; simp
  | succ n ih =>
    intro l bs hl h
    match l, h with
    | [], h => simp [uh] at h; subst h; simp
    | [_], h => simp [uh] at h
    | a :: b :: t, h =>
      obtain ⟨h1, h2, r, h3, rfl⟩ := uh_cons h
      obtain ⟨e1, e2⟩ := ih t r (by simp at hl; omega) h3
      have := nibD_ge a
      have := nibD_ge b
      refine ⟨by simp; omega, fun x hx => ?_⟩
      rcases List.mem_cons.1 hx with rfl | hx
      · omega
      · exact e2 x hx
theorem uh_dec : ∀ (n k : Nat) (l bs : List Int) (u : Int), l.length ≤ n → uh l = some bs → 0 ≤ u → u < 256 ^ k → k + bs.length ≤ 8 → decR l u = bs.foldl (fun u v => u * 256 + v) u := by
  intro n
  induction n with
  | zero =>
    intro k l bs u hl h h0 h1 hk
    obtain rfl := List.eq_nil_of_length_eq_zero (Nat.le_zero.1 hl)
    simp [uh] at h; subst h; rfl
  | succ n ih =>
    intro k l bs u hl h h0 h1 hk
    match l, h with
    | [], h => simp [uh] at h; subst h; rfl
    | [_], h => simp [uh] at h
    | a :: b :: t, h =>
      obtain ⟨g1, g2, r, h3, rfl⟩ := uh_cons h
      simp only [List.length_cons] at hl hk
      have ea := nib_idx a g1
      have eb := nib_idx b g2
      have na := nibD_ge a
      have nb := nibD_ge b
      have hk7 : (256 : Int) ^ k ≤ 256 ^ 7 := by exact_mod_cast Nat.pow_le_pow_right (by decide) (by omega)
      have hu : u < 72057594037927936 := by
        have : (256 : Int) ^ 7 = 72057594037927936 := by decide
        omega
      have hs : (256 : Int) ^ (k + 1) = 256 ^ k * 256 := Int.pow_succ ..
      show decR t ((u * 16 % 18446744073709551616 + idx0 a) * 16 % 18446744073709551616 + idx0 b) = r.foldl (fun u v => u * 256 + v) (u * 256 + (16 * nibD a + nibD b))
      rw [show (u * 16 % 18446744073709551616 + idx0 a) * 16 % 18446744073709551616 + idx0 b = u * 256 + (16 * nibD a + nibD b) by omega]
      exact ih (k + 1) t r _ (by omega) h3 (by omega) (by omega) (by omega)
theorem w8_eq (bs : List Int) : w8 (u8C bs) = bs.foldl (fun u v => u * 256 + v) 0 := by
  unfold w8 u8C
  rw [List.foldl_map]; rfl
theorem u8C_len (l : List Int) : (u8C l).length = l.length := by unfold u8C; simp
theorem u8C_app (l m : List Int) : u8C (l ++ m) = u8C l ++ u8C m := by unfold u8C; simp
theorem u8C_flat (l : List Int) : FlatL (u8C l) := ⟨by intro v hv; obtain ⟨c, _, rfl⟩ := List.mem_map.1 hv; rfl⟩
theorem word_says (hm : Try.prog.follows .mixedOrders = true) : wordC.Holds Try.prog 50 := by
  intro args blks hf hpre
  refine ⟨trivial, ?_⟩
  simp only [wordC] at hpre ⊢
  split at hpre
  · rename_i sp n k cs own
    obtain ⟨b0, b1, b2, b3, b4, b5, b6, b7, rfl, rfl, hb⟩ := hpre
    have g0 := hb b0 (by simp)
    have g1 := hb b1 (by simp)
    have g2 := hb b2 (by simp)
    have g3 := hb b3 (by simp)
    have g4 := hb b4 (by simp)
    have g5 := hb b5 (by simp)
    have g6 := hb b6 (by simp)
    have g7 := hb b7 (by simp)
    refine (sure0 hm).funX F20 body20 [] [] Try.func50 rfl (Loops.unr (sure0 hm) F20 noLoops 9) ?_
    show funX Try.prog S0 (unrK Try.prog S0 noLoop F20 body20 9) F20 body20 Try.f50 [] [] [.slice (some ⟨0,0,sp⟩) 8 k] (hp [.cells [.int .u8 b0, .int .u8 b1, .int .u8 b2, .int .u8 b3, .int .u8 b4, .int .u8 b5, .int .u8 b6, .int .u8 b7] 1 own]) _
    rw [w20]
    simp only [intV_i]
    have z : bitsW .or .u64 0 (wr .u64 b0) = b0 := by
      have := or256 0 (by decide) (by decide) b0 g0.1 g0.2
      rw [show (0 : Int) * 256 = 0 from rfl, show wr .u64 0 = 0 from rfl] at this
      omega
    rw [z, or256 b0 (by omega) (by omega) b1 g1.1 g1.2, or256 _ (by omega) (by omega) b2 g2.1 g2.2, or256 _ (by omega) (by omega) b3 g3.1 g3.2, or256 _ (by omega) (by omega) b4 g4.1 g4.2, or256 _ (by omega) (by omega) b5 g5.1 g5.2, or256 _ (by omega) (by omega) b6 g6.1 g6.2, or256 _ (by omega) (by omega) b7 g7.1 g7.2]
    refine ⟨FlatD.hp ⟨u8C_flat [b0, b1, b2, b3, b4, b5, b6, b7], trivial⟩, rfl, ?_, rfl⟩
    rw [w8_eq]
    simp only [List.foldl_cons, List.foldl_nil, Int.zero_mul, Int.zero_add]
  · exact hpre.elim
theorem unhex_loop (hm : Try.prog.follows .mixedOrders = true) (s : ByteArray) (hs : s.size ≤ 60) (he : s.size % 2 = 0) (K : Post) (hK : (∀ l, uh (sI s) = some l → K (.exit 0) (tmps 41 [(4, sl1' 0 l.length)]) (hp [.cells (u8C l) 1 true])) ∧ (uh (sI s) = none → K .ret (tmps 41 [(2, sl1' 0 0), (3, .bool false)]) (hp [.cells [] 1 true]))) : ∀ (n : Nat) (t : List Int) (i : Nat) (l : List Int), t.length ≤ n → (sI s).drop i = t → i % 2 = 0 → l.length ≤ i → uh (sI s) = (uh t).map (l ++ ·) →
    LSays Try.prog 0 (sub body347 [0,0,1,0,1,1,1]) (T347 s l.length i) (hp [.cells (u8C l) 1 true]) K := by
  have hF0 : FlatD [] (hp [.cells [] 1 true]) := FlatD.hp ⟨u8C_flat [], trivial⟩
  have hF : ∀ l, FlatD [] (hp [.cells (u8C l) 1 true]) := fun l => FlatD.hp ⟨u8C_flat l, trivial⟩
  have hfin : ∀ (i : Nat) (l : List Int), (sI s).drop i = [] → uh (sI s) = (uh []).map (l ++ ·) → LSays Try.prog 0 (sub body347 [0,0,1,0,1,1,1]) (T347 s l.length i) (hp [.cells (u8C l) 1 true]) K := fun i l ht hu => by
    have hge : ¬ ((i : Int) < (s.size : Int)) := by have := List.drop_eq_nil_iff.1 ht; rw [sI_len] at this; omega
    refine (sure347 hm).roundX F347 noLoops [] [.tmp 4 1] [] [.tmp 2 1] [0,4,5] ?_
    rw [r347]
    simp only [hge, hF, hF0, Alt_iff, Need_iff, ltI_eq, leI_eq, eqI_eq, leN_eq, eqN_eq, decide_eq_true_eq, decide_eq_false_iff_not, decide_true, decide_false, true_and, and_true, Bool.true_eq_false, Bool.false_eq_true, false_implies, true_implies, implies_true, not_true_eq_false, not_false_eq_true, Bool.not_eq_true', Bool.not_eq_false', Nat.zero_add, Nat.add_zero, Nat.sub_zero, Nat.zero_mul, Nat.mul_one, Int.toNat_natCast, List.drop_zero, beqV_int, beqV_sl, beqV_str, beqV_bool, beqV_ptr, beqV_flt, beqV_agg, beqV_tuple, List.all_cons, List.all_nil, Bool.and_self, Bool.and_true, Bool.true_and, Nat.le_refl, Int.le_refl, Nat.zero_le, Option.getD_some, isStr, strV, isInt, intV, isBool, boolV, kindEq, at0, isJunk, Option.isSome_some, Option.isSome_none, if_true, if_false, Nat.add_sub_cancel_left, Nat.add_sub_cancel]
    exact hK.1 l (by rw [hu]; simp [uh])
  intro n
  induction n with
  | zero =>
    intro t i l hn ht hi hl hu
    obtain rfl := List.eq_nil_of_length_eq_zero (Nat.le_zero.1 hn)
    exact hfin i l ht hu
  | succ n ih =>
    intro t i l hn ht hi hl hu
    match t with
    | [] => exact hfin i l ht hu
    | [a] =>
      have := congrArg List.length ht
      rw [List.length_drop, sI_len] at this
      simp at this
      omega
    | a :: b :: t =>
      obtain ⟨a1, a2, a3⟩ := sI_get ht
      obtain ⟨b1, b2, b3⟩ := sI_get a3
      have a2' : ((s.data.toList.getD i (OfNat.ofNat 0)).toNat : Int) = a := a2
      have b2' : ((s.data.toList.getD (i + 1) (OfNat.ofNat 0)).toNat : Int) = b := b2
      have hw : wr .i64 ((i : Int) + 1) = ((i + 1 : Nat) : Int) := by rw [wr_eq]; simp [IntKind.wrap, IntKind.bits, IntKind.signed]; omega
      have hw2 : wr .i64 ((i : Int) + 2) = ((i + 2 : Nat) : Int) := by rw [wr_eq]; simp [IntKind.wrap, IntKind.bits, IntKind.signed]; omega
      refine (sure347 hm).roundX F347 noLoops [] [.tmp 4 1] [] [.tmp 2 1] [0,4,5] ?_
      rw [r347]
      simp only [hw, hw2, Int.toNat_natCast, a2', b2']
      have na := nibD_ge a
      have nb := nibD_ge b
      by_cases h1 : 15 < nibD a
      · have hn : uh (sI s) = none := by rw [hu]; unfold uh; rw [if_pos (.inl h1)]; rfl
        simp only [show ((i : Int) < (s.size : Int)) by omega, show (((i + 1 : Nat) : Int) < (s.size : Int)) by omega, show (0 : Int) ≤ ((i + 1 : Nat) : Int) by omega, h1, hF, hF0, Alt_iff, Need_iff, ltI_eq, leI_eq, eqI_eq, leN_eq, eqN_eq, decide_eq_true_eq, decide_eq_false_iff_not, decide_true, decide_false, true_and, and_true, Bool.true_eq_false, Bool.false_eq_true, false_implies, true_implies, implies_true, not_true_eq_false, not_false_eq_true, Bool.not_eq_true', Bool.not_eq_false', Nat.zero_add, Nat.add_zero, Nat.sub_zero, Nat.zero_mul, Nat.mul_one, Int.toNat_natCast, List.drop_zero, beqV_int, beqV_sl, beqV_str, beqV_bool, beqV_ptr, beqV_flt, beqV_agg, beqV_tuple, List.all_cons, List.all_nil, Bool.and_self, Bool.and_true, Bool.true_and, Nat.le_refl, Int.le_refl, Nat.zero_le, Option.getD_some, isStr, strV, isInt, intV, isBool, boolV, kindEq, at0, isJunk, Option.isSome_some, Option.isSome_none, if_true, if_false, Nat.add_sub_cancel_left, Nat.add_sub_cancel]
        exact hK.2 hn
      · by_cases h2 : 15 < nibD b
        · have hn : uh (sI s) = none := by rw [hu]; unfold uh; rw [if_pos (.inr h2)]; rfl
          simp only [show ((i : Int) < (s.size : Int)) by omega, show (((i + 1 : Nat) : Int) < (s.size : Int)) by omega, show (0 : Int) ≤ ((i + 1 : Nat) : Int) by omega, h1, h2, hF, hF0, Alt_iff, Need_iff, ltI_eq, leI_eq, eqI_eq, leN_eq, eqN_eq, decide_eq_true_eq, decide_eq_false_iff_not, decide_true, decide_false, true_and, and_true, Bool.true_eq_false, Bool.false_eq_true, false_implies, true_implies, implies_true, not_true_eq_false, not_false_eq_true, Bool.not_eq_true', Bool.not_eq_false', Nat.zero_add, Nat.add_zero, Nat.sub_zero, Nat.zero_mul, Nat.mul_one, Int.toNat_natCast, List.drop_zero, beqV_int, beqV_sl, beqV_str, beqV_bool, beqV_ptr, beqV_flt, beqV_agg, beqV_tuple, List.all_cons, List.all_nil, Bool.and_self, Bool.and_true, Bool.true_and, Nat.le_refl, Int.le_refl, Nat.zero_le, Option.getD_some, isStr, strV, isInt, intV, isBool, boolV, kindEq, at0, isJunk, Option.isSome_some, Option.isSome_none, if_true, if_false, Nat.add_sub_cancel_left, Nat.add_sub_cancel]
          exact hK.2 hn
        · have hwr : wr .u8 (wr .u8 (16 * nibD a) + nibD b) = 16 * nibD a + nibD b := by rw [wr_eq, wr_eq]; simp [IntKind.wrap, IntKind.bits, IntKind.signed]; omega
          have next := ih t (i + 2) (l ++ [16 * nibD a + nibD b]) (by simp at hn; omega) b3 (by omega) (by simp; omega) (by
            rw [hu]; rw [uh_step h1 h2, Option.map_map]
            congr 1
            funext x; simp)
          have hlen : (u8C l).length = l.length := u8C_len l
          have hcell : List.take l.length (u8C l) ++ [Value.int .u8 (16 * nibD a + nibD b)] = u8C (l ++ [16 * nibD a + nibD b]) := by
            rw [← hlen, List.take_length, u8C_app]; rfl
          simp only [show ((i : Int) < (s.size : Int)) by omega, show (((i + 1 : Nat) : Int) < (s.size : Int)) by omega, show (0 : Int) ≤ ((i + 1 : Nat) : Int) by omega, h1, h2, hF, hF0, hwr, hlen, hcell, Alt_iff, Need_iff, ltI_eq, leI_eq, eqI_eq, leN_eq, eqN_eq, decide_eq_true_eq, decide_eq_false_iff_not, decide_true, decide_false, true_and, and_true, Bool.true_eq_false, Bool.false_eq_true, false_implies, true_implies, implies_true, not_true_eq_false, not_false_eq_true, Bool.not_eq_true', Bool.not_eq_false', Nat.zero_add, Nat.add_zero, Nat.sub_zero, Nat.zero_mul, Nat.mul_one, Int.toNat_natCast, List.drop_zero, beqV_int, beqV_sl, beqV_str, beqV_bool, beqV_ptr, beqV_flt, beqV_agg, beqV_tuple, List.all_cons, List.all_nil, Bool.and_self, Bool.and_true, Bool.true_and, Nat.le_refl, Int.le_refl, Nat.zero_le, Option.getD_some, isStr, strV, isInt, intV, isBool, boolV, kindEq, at0, isJunk, Option.isSome_some, Option.isSome_none, if_true, if_false, Nat.add_sub_cancel_left, Nat.add_sub_cancel]
          simp only [List.length_append, List.length_cons, List.length_nil, Nat.zero_add] at next
          have e := sI_len s
          exact ⟨by omega, by omega, next⟩
theorem unhex_says (hm : Try.prog.follows .mixedOrders = true) : unhC.Holds Try.prog 49 := by
  intro args blks hf hpre
  simp only [unhC] at hpre ⊢
  split at hpre
  · rename_i s
    refine ⟨⟨u8C_flat _, trivial⟩, ?_⟩
    have hF : ∀ l, FlatD [] (hp [.cells (u8C l) 1 true]) := fun l => FlatD.hp ⟨u8C_flat l, trivial⟩
    by_cases he : s.size % 2 = 0
    · have hL : Loops Try.prog body347 0 (cutE [cut347 s]) := Loops.noneE.moreE _ fun x K hQ => by
        show LSays Try.prog 0 (sub body347 [0,0,1,0,1,1,1]) (T347 s ([] : List Int).length (0 : Nat)) (hp [.cells (u8C []) 1 true]) K
        exact unhex_loop hm s hpre he K hQ.2 (sI s).length (sI s) 0 [] (Nat.le_refl _) rfl rfl (Nat.le_refl _) (by simp)
      refine (sure347 hm).funX F347 body347 [] [.tup 0 0 1] Try.func49 rfl (hL.gcX (at0 []) (at0 [.tmp 4 1])) ?_
      rw [w347]
      rw [show eqI ((s.size : Int).tmod 2) 0 = true by rw [eqI_iff, Int.tmod_eq_emod_of_nonneg (by omega)]; omega]
      refine ⟨hF [], 0, rfl, rfl, he, fun l h => ?_, fun h => ?_⟩
      · rw [show uhR (sI s) = some l by unfold uhR; rw [if_pos (by rw [sI_len]; exact he), h]]
        exact ⟨hF l, rfl, rfl, rfl⟩
      · rw [show uhR (sI s) = none by unfold uhR; rw [if_pos (by rw [sI_len]; exact he), h]]
        exact ⟨hF [], rfl, rfl, rfl⟩
    · have hL : Loops Try.prog body347 0 (cutE [cut347 s]) := Loops.noneE.moreE _ fun x K hQ => by
        exact absurd hQ.1 he
      refine (sure347 hm).funX F347 body347 [] [.tup 0 0 1] Try.func49 rfl (hL.gcX (at0 []) (at0 [.tmp 4 1])) ?_
      rw [w347]
      rw [show eqI ((s.size : Int).tmod 2) 0 = false by rw [eqI_eq, decide_eq_false_iff_not, Int.tmod_eq_emod_of_nonneg (by omega)]; omega]
      rw [show uhR (sI s) = none by unfold uhR; rw [if_neg (by rw [sI_len]; exact he)]]
      exact ⟨hF [], rfl, rfl, rfl⟩
  · exact hpre.elim
end Go.Proofs.Ytglfkchcmjmmlaa

namespace Go.Proofs.Ytglfkchcmjmmlaa
open Go.RowKit Go.Proofs.Ytglfkchcmjmmlaa.AM
set_option maxRecDepth 100000
set_option maxHeartbeats 4000000
theorem sure337 (hm : Try.prog.follows .mixedOrders = true) : Sure Try.prog S337 := ⟨hm, plain, bookOf_ok (l := [(49, unhC), (38, textC), (29, ofC), (50, wordC), (32, infC), (13, copyC)]) ⟨unhex_says hm, rtext_says hm, rof_says hm, word_says hm, inf_says hm, copy_says hm, trivial⟩⟩
theorem sI_of (l : List UInt8) : sI ⟨l.toArray⟩ = l.map fun b => (b.toNat : Int) := rfl
theorem sI_eq {s : ByteArray} {l : List UInt8} (h : s.data.toList = l) : sI s = l.map fun b => (b.toNat : Int) := by unfold sI; rw [h]
theorem dg_get : ∀ m : Fin 16, nibD ((dg (m.val : Int)).toNat : Int) = (m.val : Int) ∧ idx0 ((dg (m.val : Int)).toNat : Int) = (m.val : Int) := by decide
theorem dg_nib (x : Int) : nibD ((dg (x % 16)).toNat : Int) = x % 16 := by
  obtain ⟨q, hq⟩ := Int.eq_ofNat_of_zero_le (m16p x)
  rw [hq]; exact (dg_get ⟨q, by omega⟩).1
theorem dg_idx (x : Int) : idx0 ((dg (x % 16)).toNat : Int) = x % 16 := by
  obtain ⟨q, hq⟩ := Int.eq_ofNat_of_zero_le (m16p x)
  rw [hq]; exact (dg_get ⟨q, by omega⟩).2
theorem uh_hex (u : Int) : ∃ bs : List Int, uhR ((hexL u).map fun b => (b.toNat : Int)) = some bs ∧ bs.length = 8 := by
  have hn : ∀ x : Int, ¬ 15 < nibD ((dg (x % 16)).toNat : Int) := fun x => by rw [dg_nib]; omega
  have hl : ((hexL u).map fun b => (b.toNat : Int)).length % 2 = 0 := by simp [hexL]
  unfold uhR
  rw [if_pos hl]
  unfold hexL
  simp only [List.map_cons, List.map_nil]
  rw [uh_step (hn _) (hn _), uh_step (hn _) (hn _), uh_step (hn _) (hn _), uh_step (hn _) (hn _), uh_step (hn _) (hn _), uh_step (hn _) (hn _), uh_step (hn _) (hn _), uh_step (hn _) (hn _)]
  exact ⟨_, rfl, rfl⟩
theorem dec_step (u c : Int) (t : List Int) (h0 : 0 ≤ u) (h1 : u < 18446744073709551616) (hc : 0 < c) (b : Int) (hb : b = c * 16) : decR (((dg (u / c % 16)).toNat : Int) :: t) (u / b) = decR t (u / c) := by
  show decR t (u / b * 16 % 18446744073709551616 + idx0 _) = _
  rw [dg_idx, hb, ← Int.ediv_ediv_of_nonneg (Int.le_of_lt hc)]
  have a0 : 0 ≤ u / c := Int.ediv_nonneg h0 (Int.le_of_lt hc)
  have a1 : u / c ≤ u := Int.ediv_le_self _ h0
  congr 1
  generalize u / c = q at *
  omega
theorem dec_hex (u : Int) (h0 : 0 ≤ u) (h1 : u < 18446744073709551616) : decR ((hexL u).map fun b => (b.toNat : Int)) 0 = u := by
  have e : (0 : Int) = u / 18446744073709551616 := by omega
  unfold hexL
  simp only [List.map_cons, List.map_nil]
  have d := dec_step u
  rw [show decR _ (0 : Int) = decR _ (u / 18446744073709551616) from congrArg _ e]
  rw [d 1152921504606846976 _ h0 h1 (by decide) _ (by decide), d 72057594037927936 _ h0 h1 (by decide) _ (by decide), d 4503599627370496 _ h0 h1 (by decide) _ (by decide), d 281474976710656 _ h0 h1 (by decide) _ (by decide), d 17592186044416 _ h0 h1 (by decide) _ (by decide), d 1099511627776 _ h0 h1 (by decide) _ (by decide), d 68719476736 _ h0 h1 (by decide) _ (by decide), d 4294967296 _ h0 h1 (by decide) _ (by decide), d 268435456 _ h0 h1 (by decide) _ (by decide), d 16777216 _ h0 h1 (by decide) _ (by decide), d 1048576 _ h0 h1 (by decide) _ (by decide), d 65536 _ h0 h1 (by decide) _ (by decide), d 4096 _ h0 h1 (by decide) _ (by decide), d 256 _ h0 h1 (by decide) _ (by decide), d 16 _ h0 h1 (by decide) _ (by decide), d 1 _ h0 h1 (by decide) _ (by decide)]
  show u / 1 = u
  omega
/-- a text that is no value's own text, though it tells one -/
theorem tx_hex (u : Int) (s : ByteArray) (hs : sp s.data.toList = none) (h : tx u = s.data.toList) : s.data.toList = hexL u := by
  rw [← h] at hs ⊢
  unfold tx at hs ⊢
  by_cases h1 : u = 9221120237041090561
  · rw [if_pos h1] at hs; cases hs
  by_cases h2 : u = 9218868437227405312
  · rw [if_neg h1, if_pos h2] at hs; cases hs
  by_cases h3 : u = 18442240474082181120
  · rw [if_neg h1, if_neg h2, if_pos h3] at hs; cases hs
  by_cases h4 : u = 0
  · rw [if_neg h1, if_neg h2, if_neg h3, if_pos h4] at hs; cases hs
  by_cases h5 : u = 9223372036854775808
  · rw [if_neg h1, if_neg h2, if_neg h3, if_neg h4, if_pos h5] at hs; cases hs
  rw [if_neg h1, if_neg h2, if_neg h3, if_neg h4, if_neg h5]
theorem foldl_w8 (bs : List Int) (hb : ∀ x ∈ bs, 0 ≤ x ∧ x < 256) (hl : bs.length = 8) : 0 ≤ w8 (u8C bs) ∧ w8 (u8C bs) < 18446744073709551616 ∧ IsW8 (u8C bs) bs.length := by
  match bs, hl with
  | [b0, b1, b2, b3, b4, b5, b6, b7], _ =>
    have g0 := hb b0 (by simp)
    have g1 := hb b1 (by simp)
    have g2 := hb b2 (by simp)
    have g3 := hb b3 (by simp)
    have g4 := hb b4 (by simp)
    have g5 := hb b5 (by simp)
    have g6 := hb b6 (by simp)
    have g7 := hb b7 (by simp)
    rw [w8_eq]
    simp only [List.foldl_cons, List.foldl_nil]
    exact ⟨by omega, by omega, b0, b1, b2, b3, b4, b5, b6, b7, rfl, rfl, hb⟩
theorem rdn_not (s : ByteArray) (hsp : sp s.data.toList = none) (h : ∀ bs, uhR (sI s) = some bs → bs.length ≠ 8) : 0 = rdF s ∧ false = good s := by
  obtain ⟨d0, d1⟩ := decR_lt (sI s) 0 (by decide) (by decide)
  refine rd_not s (decR (sI s) 0).toNat (by unfold rdN; rw [hsp]; rfl) fun ht => ?_
  obtain ⟨bs, hb, hl⟩ := uh_hex (((decR (sI s) 0).toNat : Nat) : Int)
  have := tx_hex _ s hsp ht
  rw [← sI_eq this] at hb
  exact h bs hb hl
theorem rread_says (hm : Try.prog.follows .mixedOrders = true) : readC.Holds Try.prog 37 := flC_of fun xs h => by
  obtain ⟨s, rfl, hs⟩ := okS_eq h
  refine (sure337 hm).funX F337 body337 [] [] Try.func37 rfl noLoops ?_
  rw [w337]
  have fin : ∀ (n : Nat) (b : Bool), n = rdF s ∧ b = good s → FlatD [] (hp []) ∧ isJunk (Value.tuple #[.float .f64 n, .bool b]) = false ∧ Value.tuple #[.float .f64 n, .bool b] = Value.tuple #[.float .f64 (rdF (strA [.string s])), .bool (good (strA [.string s]))] ∧ hp [] = hp [] := fun n b h => ⟨FlatD.hp trivial, rfl, by rw [h.1, h.2]; rfl, rfl⟩
  refine Alt_iff.2 ⟨fun h => ?_, fun h1 => Alt_iff.2 ⟨fun h => ?_, fun h2 => Alt_iff.2 ⟨fun h => ?_, fun h3 => Alt_iff.2 ⟨fun h => ?_, fun h4 => Alt_iff.2 ⟨fun h => ?_, fun h5 => ?_⟩⟩⟩⟩⟩
  · have hl : s.data.toList = [110,97,110] := by rw [eqS_l, decide_eq_true_iff] at h; exact h
    exact fin _ _ (rd_sp s _ 9221120237041090561 hl (by decide) (by decide))
  · have hl : s.data.toList = [43,105,110,102] := by rw [eqS_l, decide_eq_true_iff] at h; exact h
    exact ⟨trivial, trivial, fin _ _ (rd_sp s _ 9218868437227405312 hl (by decide) (by decide))⟩
  · have hl : s.data.toList = [45,105,110,102] := by rw [eqS_l, decide_eq_true_iff] at h; exact h
    exact ⟨trivial, trivial, fin _ _ (rd_sp s _ 18442240474082181120 hl (by decide) (by decide))⟩
  · have hl : s.data.toList = [43,48] := by rw [eqS_l, decide_eq_true_iff] at h; exact h
    exact fin _ _ (rd_sp s _ 0 hl (by decide) (by decide))
  · have hl : s.data.toList = [45,48] := by rw [eqS_l, decide_eq_true_iff] at h; exact h
    exact ⟨trivial, trivial, fin _ _ (rd_sp s _ 9223372036854775808 hl (by decide) (by decide))⟩
  · rw [eqS_l, decide_eq_false_iff_not] at h1 h2 h3 h4 h5
    have hsp := sp_none s h1 h2 h3 h4 h5
    refine ⟨trivial, hs, ?_⟩
    cases hu : uhR (sI s) with
    | none => exact fin _ _ (rdn_not s hsp fun bs h => by rw [hu] at h; cases h)
    | some bs =>
      rw [Option.getD_some, Option.isSome_some]
      by_cases h8 : bs.length = 8
      · have hu2 : uh (sI s) = some bs := by
          unfold uhR at hu
          split at hu
          · exact hu
          · cases hu
        obtain ⟨f1, f2⟩ := uh_ok _ _ _ (Nat.le_refl _) hu2
        obtain ⟨w0, w1, w2⟩ := foldl_w8 bs f2 h8
        have hd : decR (sI s) 0 = w8 (u8C bs) := by
          rw [w8_eq]
          exact uh_dec _ 0 _ _ 0 (Nat.le_refl _) hu2 (by decide) (by decide) (by omega)
        obtain ⟨u, hw⟩ := Int.eq_ofNat_of_zero_le w0
        have hr := rd_none s hsp u (by rw [hd, hw])
        rw [show eqI (bs.length : Int) 8 = true by rw [eqI_iff]; omega, hw]
        rw [hw] at w1
        refine ⟨⟨u8C_flat bs, trivial⟩, w2, trivial, ?_, ?_⟩
        · rw [Need_iff, Need_iff]; exact ⟨leI_iff.2 (by omega), leI_iff.2 (by omega), trivial⟩
        simp only [intV_i, Int.toNat_natCast, flt0, Bool.not_not]
        have fin2 : ∀ (n : Nat) (b : Bool), n = rdF s ∧ b = good s → FlatD [] (hp []) ∧ isJunk (Value.tuple #[.float .f64 n, .bool b]) = false ∧ Value.tuple #[.float .f64 n, .bool b] = Value.tuple #[.float .f64 (rdF (strA [.string s])), .bool (good (strA [.string s]))] ∧ True := fun n b h => ⟨(fin n b h).1, rfl, (fin n b h).2.2.1, trivial⟩
        cases hb : fBad (u : Int) with
        | true => exact fin2 _ _ (rd_bad s u hr hb)
        | false =>
          refine ⟨trivial, ?_, ?_⟩
          · rw [Need_iff]; exact ⟨leN_iff.2 (by show u ≤ _; omega), trivial⟩
          rw [cond_false, fBits_of u hb, eqS_r]
          by_cases ht : tx (u : Int) = s.data.toList
          · rw [decide_eq_true ht]; exact fin2 _ _ (rd_good s u hr hb ht)
          · rw [decide_eq_false ht]; exact fin2 _ _ (rd_not s u hr ht)
      · rw [show eqI (bs.length : Int) 8 = false by rw [eqI_eq, decide_eq_false_iff_not]; omega]
        exact fin _ _ (rdn_not s hsp fun b h => by rw [hu] at h; cases h; exact h8)
noncomputable def body312 : Code := (Try.f12.body).getD .skip
def F312 : List Nat → Option (List Nat) := fun p => match p with
  | [1] => some [0, 1]
  | [1, 0, 1] => some [0, 1, 13]
  | [1, 0, 1, 0, 1] => some [4]
  | [1, 1] => some [0, 1]
  | [1, 1, 1] => some [0, 1, 5, 6]
  | [1, 1, 1, 1] => some [0, 1, 5, 6, 7, 8]
  | [1, 1, 1, 1, 1] => some [0, 1, 5, 6, 7, 8, 9, 10]
  | [1, 0, 1, 1, 1, 1, 1] => some [1, 5, 6, 58]
  | [1, 0, 1, 0, 1, 1, 1, 1, 1] => some [4]
  | [1, 1, 1, 1, 1, 1] => some [1, 5, 6]
  | [1, 1, 1, 1, 1, 1, 1] => some [4]
  | _ => none
noncomputable def S312 : Book := bookOf [(36, readC), (37, readC), (19, textC), (38, textC), (20, bitsC), (3, trueC)]
theorem sure312 (hm : Try.prog.follows .mixedOrders = true) : Sure Try.prog S312 := ⟨hm, plain, bookOf_ok (l := [(36, readC), (37, readC), (19, textC), (38, textC), (20, bitsC), (3, trueC)]) ⟨read_says hm, rread_says hm, text_says hm, rtext_says hm, bits_says hm, runs_holds hm, trivial⟩⟩

theorem w312 (f : Nat) (s : ByteArray) (K : Value → Heap → Prop) :
  funX Try.prog S312 noLoop F312 body312 Try.f12 [] [] [.float .f64 f, .string s] (hp []) K = (
Alt (ltI 60 (↑s.size : Int)) (True ∧ True ∧ K (Value.bool true) (hp []))
  (True ∧
    s.size.le 60 ∧
      True ∧
        s.size.le 60 ∧
          True ∧
            Need (leN f 18446744073709551615) True ∧
              True ∧
                { data := (tx (fBits (fltA [Value.float FloatKind.f64 f] 0))).toArray : ByteArray }.size.le 60 ∧
                  True ∧
                    Need (leN f 18446744073709551615) True ∧
                      True ∧
                        Need (leN f 18446744073709551615) True ∧
                          Alt
                            (!eqS { data := (tx (fBits (fltA [Value.float FloatKind.f64 f] 0))).toArray : ByteArray }
                                { data := (tx (fBits (fltA [Value.float FloatKind.f64 f] 0))).toArray : ByteArray })
                            (K (Value.bool false) (hp []))
                            (Alt (!good (strA [Value.string s]) == good (strA [Value.string s]))
                              (K (Value.bool false) (hp []))
                              (Alt (!eqI (↑(rdF (strA [Value.string s])) : Int) (↑(rdF (strA [Value.string s])) : Int))
                                (K (Value.bool false) (hp []))
                                (Alt
                                  (!good
                                      (strA
                                        [Value.string
                                            { data := (tx (fBits (fltA [Value.float FloatKind.f64 f] 0))).toArray :
                                              ByteArray }]))
                                  (K (Value.bool false) (hp []))
                                  (True ∧
                                    Need (leN f 18446744073709551615) True ∧
                                      Alt
                                        (!eqI
                                            (↑(rdF
                                                  (strA
                                                    [Value.string
                                                        {
                                                          data :=
                                                            (tx
                                                                (fBits
                                                                  (fltA [Value.float FloatKind.f64 f] 0))).toArray :
                                                          ByteArray }])) :
                                              Int)
                                            (fBits (fltA [Value.float FloatKind.f64 f] 0)))
                                        (K (Value.bool false) (hp []))
                                        (Alt (!good (strA [Value.string s])) (True ∧ True ∧ K (Value.bool true) (hp []))
                                          (True ∧
                                            Need (leN (rdF (strA [Value.string s])) 18446744073709551615) True ∧
                                              Alt
                                                (eqS
                                                  {
                                                    data :=
                                                      (tx
                                                          (fBits
                                                            (fltA
                                                              [Value.float FloatKind.f64 (rdF (strA [Value.string s]))]
                                                              0))).toArray :
                                                    ByteArray }
                                                  s)
                                                (True ∧ True ∧ K (Value.bool true) (hp []))
                                                (K (Value.bool false) (hp [])))))))))) := by kernel_rfl

end Go.Proofs.Ytglfkchcmjmmlaa

namespace Go.Proofs.Ytglfkchcmjmmlaa
open Go.RowKit Go.Proofs.Ytglfkchcmjmmlaa.AM
set_option maxRecDepth 100000
set_option maxHeartbeats 4000000
theorem tx_len (u : Int) : (tx u).length ≤ 16 := by
  unfold tx hexL
  repeat' split
  all_goals simp
theorem tx_size (u : Int) : (⟨(tx u).toArray⟩ : ByteArray).size ≤ 60 := by
  have h1 := tx_len u
  have h2 : (⟨(tx u).toArray⟩ : ByteArray).size = (tx u).length := by simp [ByteArray.size]
  omega
theorem tx_read (u : Nat) (hu : u < 18446744073709551616) (hb : fBad (u : Int) = false) : u = rdF ⟨(tx (u : Int)).toArray⟩ ∧ true = good ⟨(tx (u : Int)).toArray⟩ := by
  have hd : (⟨(tx (u : Int)).toArray⟩ : ByteArray).data.toList = tx (u : Int) := rfl
  have hr : rdN ⟨(tx (u : Int)).toArray⟩ = u := by
    unfold rdN
    rw [hd, sI_eq hd]
    by_cases h1 : (u : Int) = 9221120237041090561
    · rw [show tx (u : Int) = [110,97,110] by unfold tx; rw [if_pos h1]]
      show 9221120237041090561 = u
      omega
    by_cases h2 : (u : Int) = 9218868437227405312
    · rw [show tx (u : Int) = [43,105,110,102] by unfold tx; rw [if_neg h1, if_pos h2]]
      show 9218868437227405312 = u
      omega
    by_cases h3 : (u : Int) = 18442240474082181120
    · rw [show tx (u : Int) = [45,105,110,102] by unfold tx; rw [if_neg h1, if_neg h2, if_pos h3]]
      show 18442240474082181120 = u
      omega
    by_cases h4 : (u : Int) = 0
    · rw [show tx (u : Int) = [43,48] by unfold tx; rw [if_neg h1, if_neg h2, if_neg h3, if_pos h4]]
      show 0 = u
      omega
    by_cases h5 : (u : Int) = 9223372036854775808
    · rw [show tx (u : Int) = [45,48] by unfold tx; rw [if_neg h1, if_neg h2, if_neg h3, if_neg h4, if_pos h5]]
      show 9223372036854775808 = u
      omega
    rw [show tx (u : Int) = hexL u by unfold tx; rw [if_neg h1, if_neg h2, if_neg h3, if_neg h4, if_neg h5], dec_hex u (by omega) (by omega)]
    have : sp (hexL (u : Int)) = none := by
      have hl : (hexL (u : Int)).length = 16 := rfl
      have hne : ∀ l : List UInt8, l.length ≠ 16 → ¬ hexL (u : Int) = l := fun l h e => h (by rw [← e]; exact hl)
      unfold sp
      rw [if_neg (hne _ (by decide)), if_neg (hne _ (by decide)), if_neg (hne _ (by decide)), if_neg (hne _ (by decide)), if_neg (hne _ (by decide))]
    rw [this]
    rfl
  exact rd_good _ u hr hb hd.symm
theorem rdF_le (s : ByteArray) : rdF s ≤ 18446744073709551615 := by
  have e : rdN s ≤ 18446744073709551615 := by
    obtain ⟨d0, d1⟩ := decR_lt (sI s) 0 (by decide) (by decide)
    unfold rdN
    cases h : sp s.data.toList with
    | none => show (decR (sI s) 0).toNat ≤ _; omega
    | some n =>
      unfold sp at h
      show n ≤ _
      repeat' split at h
      all_goals simp at h
      all_goals omega
  unfold rdF
  cases good s <;> simp only [cond_true, cond_false] <;> omega
theorem good_tx (s : ByteArray) (h : good s = true) : tx (fBits (rdF s)) = s.data.toList := by
  have e : rdF s = rdN s := by unfold rdF; rw [h]; rfl
  unfold good at h
  rw [Bool.and_eq_true, Bool.not_eq_true', decide_eq_true_iff] at h
  rw [e, fBits_of _ h.1]; exact h.2
theorem law312 (hm : Try.prog.follows .mixedOrders = true) (f : Nat) (s : ByteArray) (hf : f ≤ 18446744073709551615) : FunSays Try.prog 12 [.float .f64 f, .string s] (hp []) fun v _ => v = .bool true := by
  obtain ⟨z, z1, z2, z3, z4⟩ := bits_facts f hf
  obtain ⟨t1, t2⟩ := tx_read z (by omega) z4
  have hF : FlatD [] (hp []) := FlatD.hp trivial
  refine (sure312 hm).funX F312 body312 [] [] Try.func12 rfl noLoops ?_
  rw [w312]
  have hn : Need (leN f 18446744073709551615) True := Need_iff.2 ⟨leN_iff.2 hf, trivial⟩
  have hA : strA [.string s] = s := rfl
  have hB : ∀ x : ByteArray, strA [.string x] = x := fun _ => rfl
  rw [flt0, z1]
  simp only [hB]
  refine Alt_iff.2 ⟨fun h => ⟨trivial, trivial, hF, rfl, trivial⟩, fun h => ?_⟩
  have hs : s.size ≤ 60 := by rw [ltI_eq, decide_eq_false_iff_not] at h; omega
  refine ⟨trivial, hs, trivial, hs, trivial, hn, trivial, tx_size _, trivial, hn, trivial, hn, ?_⟩
  rw [show eqS (⟨(tx (z : Int)).toArray⟩ : ByteArray) ⟨(tx (z : Int)).toArray⟩ = true by rw [eqS_l]; simp, ← t1, ← t2]
  have e1 : eqI (rdF s : Int) (rdF s : Int) = true := eqI_self _
  have e2 : eqI (z : Int) (z : Int) = true := eqI_self _
  rw [e1, e2]
  have hr : Need (leN (rdF s) 18446744073709551615) True := Need_iff.2 ⟨leN_iff.2 (rdF_le s), trivial⟩
  cases hg : good s with
  | false => exact ⟨trivial, hn, trivial, trivial, hF, rfl, trivial⟩
  | true =>
    refine ⟨trivial, hn, trivial, hr, ?_⟩
    rw [flt0, eqS_r, good_tx s hg, decide_eq_true rfl]
    exact ⟨trivial, trivial, hF, rfl, trivial⟩
end Go.Proofs.Ytglfkchcmjmmlaa
