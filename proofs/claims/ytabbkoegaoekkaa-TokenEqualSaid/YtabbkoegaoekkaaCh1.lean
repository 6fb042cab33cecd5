/- Proved: what functions of the program come to, by their conditions over the abstract machine. Conditions: those that each theorem states. -/
import Derived.Test.YtabbkoegaoekkaaAm4
import Derived.Test.YtabbkoegaoekkaaProg
import Derived.WalkKit
import Derived.ProofKit
import Derived.Laws.BitsLemmas
set_option linter.unusedVariables false
set_option linter.unusedSimpArgs false
namespace Go.Proofs.Ytabbkoegaoekkaa
open Go.RowKit Go.Proofs.Ytabbkoegaoekkaa.AM
set_option maxRecDepth 100000
set_option maxHeartbeats 4000000
noncomputable def S0 : Book := fun _ => none
theorem named : (Try.prog.funcs.toList.all fun fn => !(fn.name == "runtime.NumGoroutine")) = true := by decide +kernel
theorem plain : Plain Try.prog := fun f fn hf _ hn => by
  have h1 := List.all_eq_true.1 named fn (by simpa using Array.mem_of_getElem? hf)
  rw [hn] at h1
  exact absurd h1 (by decide)
theorem sums0 : SumsOk Try.prog S0.sums := fun f s hs => by cases hs
theorem sure0 (hmix : Try.prog.follows .mixedOrders = true) : Sure Try.prog S0 := ⟨hmix, plain, sums0⟩
theorem f64_of {x : Nat} (h : (Lit.float .f64 x).wf = true) : x < 18446744073709551616 := by simpa [Lit.wf] using h
theorem u64_of {x : Int} (h : (Lit.int .u64 x).wf = true) : 0 ≤ x ∧ x < 18446744073709551616 := by
  simp [Lit.wf, IntKind.min, IntKind.max, IntKind.bits, IntKind.signed] at h; omega
theorem wr_u64 (n : Int) (h0 : 0 ≤ n) (h1 : n < 18446744073709551616) : wr .u64 n = n := by
  rw [wr_eq]; simp [IntKind.wrap, IntKind.bits, IntKind.signed]; omega
theorem ofInt_nat (n : Nat) : BitVec.ofInt 64 (n : Int) = BitVec.ofNat 64 n := by simp
/-- the highest bit -/
theorem and_high (n : Nat) (h : n < 18446744073709551616) : bitsW .and .u64 (n : Int) 9223372036854775808 = if n < 9223372036854775808 then 0 else 9223372036854775808 := by
  have e : ((BitVec.ofInt 64 (n : Int)) &&& BitVec.ofInt 64 9223372036854775808).toNat = if n < 9223372036854775808 then 0 else 9223372036854775808 := by
    have e1 : BitVec.ofInt 64 9223372036854775808 = BitVec.twoPow 64 63 := by decide
    rw [ofInt_nat, e1, BitVec.and_twoPow]
    have hg : (BitVec.ofNat 64 n).getLsbD 63 = n.testBit 63 := by
      simp only [BitVec.getLsbD, BitVec.toNat_ofNat]
      rw [Nat.mod_eq_of_lt (by simpa using h)]
    rw [hg]
    by_cases hn : n < 9223372036854775808
    · rw [Nat.testBit_lt_two_pow (by simpa using hn), if_pos hn]; rfl
    · rw [if_neg hn, show n.testBit 63 = true from by
        rw [Nat.testBit_eq_decide_div_mod_eq, decide_eq_true_iff]; omega]
      decide
  show wr .u64 (((BitVec.ofInt 64 (n : Int)) &&& BitVec.ofInt 64 9223372036854775808).toNat : Int) = _
  rw [e]
  split
  · rfl
  · rfl
theorem or_high (n : Nat) (h : n < 9223372036854775808) : bitsW .or .u64 (n : Int) 9223372036854775808 = (n : Int) + 9223372036854775808 := by
  have e : ((BitVec.ofInt 64 (n : Int)) ||| BitVec.ofInt 64 9223372036854775808).toNat = n + 9223372036854775808 := by
    rw [ofInt_nat, show (9223372036854775808 : Int) = ((9223372036854775808 : Nat) : Int) from rfl, ofInt_nat, BitVec.toNat_or, BitVec.toNat_ofNat, BitVec.toNat_ofNat, Nat.mod_eq_of_lt (by simp; omega)]
    rw [show 9223372036854775808 % 2 ^ 64 = 2 ^ 63 * 1 by decide, Nat.or_comm, Nat.two_pow_add_eq_or_of_lt (by simpa using h) 1 |>.symm]
    omega
  show wr .u64 (((BitVec.ofInt 64 (n : Int)) ||| BitVec.ofInt 64 9223372036854775808).toNat : Int) = _
  rw [e, wr_u64 _ (by omega) (by omega)]; rfl
theorem not_all (n : Nat) (h : n < 18446744073709551616) : (BitVec.ofInt 64 18446744073709551615 ^^^ BitVec.ofInt 64 (n : Int)).toNat = 18446744073709551615 - n := by
  have e1 : BitVec.ofInt 64 18446744073709551615 = BitVec.allOnes 64 := by decide
  rw [e1, BitVec.allOnes_xor, BitVec.toNat_not, ofInt_nat, BitVec.toNat_ofNat, Nat.mod_eq_of_lt (by simpa using h)]
end Go.Proofs.Ytabbkoegaoekkaa

namespace Go.Proofs.Ytabbkoegaoekkaa
open Go.RowKit Go.Proofs.Ytabbkoegaoekkaa.AM
set_option maxRecDepth 100000
set_option maxHeartbeats 4000000
noncomputable def body1910 : Code := (Try.f12.body).getD .skip
def F1910 : List Nat → Option (List Nat) := fun p => match p with
  | [1] => some [0, 1]
  | [1, 0, 1] => some [0, 1, 11]
  | [1, 0, 1, 0, 1] => some [4]
  | [1, 1] => some [0, 1]
  | [1, 1, 1] => some [0, 1, 5]
  | [1, 0, 1, 1, 1] => some [0, 1, 5, 13, 14]
  | [1, 0, 0, 1, 0, 1, 1, 1] => some [0, 1, 5, 13, 14, 15]
  | [1, 0, 1, 0, 0, 1, 0, 1, 1, 1] => some [5]
  | [1, 1, 0, 0, 1, 0, 1, 1, 1] => some [0, 1, 5, 13, 14]
  | [1, 0, 0, 1, 1, 0, 0, 1, 0, 1, 1, 1] => some [0, 1, 5, 6, 13, 14]
  | [1, 1, 1, 0, 0, 1, 0, 1, 1, 1] => some [0, 1, 5, 13, 14]
  | [1, 1, 1, 1] => some [5]
  | [1, 1, 1, 1, 1] => some [4]
  | _ => none
noncomputable def body1911 : Code := (Try.f11.body).getD .skip
def F1911 : List Nat → Option (List Nat) := fun p => match p with
  | [1] => some [0]
  | [1, 1] => some [2]
  | _ => none
noncomputable def body1912 : Code := (Try.f13.body).getD .skip
def F1912 : List Nat → Option (List Nat) := fun p => match p with
  | [1] => some [0]
  | [1, 1] => some [2]
  | _ => none

theorem w1911 (s : ByteArray) (K : Value → Heap → Prop) :
  funK Try.prog S0 noLoop F1911 body1911 Try.f11 [.string s] (hp []) K = (
Alt (leI 4 (↑s.size : Int)) (K (Value.bool (leI (↑s.size : Int) 16)) (hp [])) (K (Value.bool false) (hp []))) := by kernel_rfl

theorem w1912 (s : ByteArray) (K : Value → Heap → Prop) :
  funK Try.prog S0 noLoop F1912 body1912 Try.f13 [.string s] (hp []) K = (
Alt (leI 4 (↑s.size : Int)) (K (Value.bool (leI (↑s.size : Int) 16)) (hp [])) (K (Value.bool false) (hp []))) := by kernel_rfl

/-- a text's bytes, one -/
def byteAt (s : ByteArray) (i : Nat) : Int := ((s.data.toList.getD i 0).toNat : Int)
noncomputable def T1910 (a b : ByteArray) (d : Int) (n i : Nat) : List Value := tmps 29 [(0, .string a), (1, .string b), (5, .int .u8 d), (13, .int .i64 n), (14, .int .i64 i)]

theorem r1910 (a b : ByteArray) (d : Int) (n i : Nat) (K : Post) :
  roundK Try.prog S0 noLoop F1910 body1910 0 [0,1,5,13,14] [0,0,1,0,1,1,1] (T1910 a b d n i) (hp []) K = (
Alt (ltI (↑i : Int) (↑n : Int))
  (Need (ltI (↑i : Int) (↑a.size : Int))
    (Need (ltI (↑i : Int) (↑b.size : Int))
      (K AE.normal
        (tmps 29
          [(0, Value.string a), (1, Value.string b),
            (5,
              Value.int IntKind.u8
                (bitsW BinOp.or IntKind.u8 d
                  (bitsW BinOp.xor IntKind.u8 (↑(a.data.toList.getD (↑i : Int).toNat (OfNat.ofNat 0)).toNat : Int)
                    (↑(b.data.toList.getD (↑i : Int).toNat (OfNat.ofNat 0)).toNat : Int)))),
            (13, Value.int IntKind.i64 (↑n : Int)), (14, Value.int IntKind.i64 (wr IntKind.i64 ((↑i : Int) + 1)))])
        (hp []))))
  (K (AE.exit 0) (tmps 29 [(5, Value.int IntKind.u8 d)]) (hp []))) := by kernel_rfl

theorem byte_eq (s : ByteArray) (i : Nat) : (↑(s.data.toList.getD (↑i : Int).toNat (OfNat.ofNat 0)).toNat : Int) = byteAt s i := rfl
def bytesS (s : ByteArray) : List Int := s.data.toList.map fun b => (b.toNat : Int)
theorem bytesS_len (s : ByteArray) : (bytesS s).length = s.size := by simp [bytesS]
theorem byte_at (s : ByteArray) (i : Nat) (h : i < s.size) : (bytesS s)[i]? = some (byteAt s i) := by
  have h' : i < s.data.toList.length := by simpa using h
  rw [bytesS, List.getElem?_map, List.getElem?_eq_getElem h', byteAt, List.getD_eq_getElem?_getD, List.getElem?_eq_getElem h']; rfl
theorem byte_rng (s : ByteArray) (i : Nat) : 0 ≤ byteAt s i ∧ byteAt s i < 256 := by
  have := (s.data.toList.getD i 0).toNat_lt
  unfold byteAt
  omega
theorem bytesS_inj {a b : ByteArray} (h : bytesS a = bytesS b) : a = b := by
  have : a.data.toList = b.data.toList := by
    refine List.ext_getElem? fun i => ?_
    have := congrArg (fun l => l[i]?) h
    simp only [bytesS, List.getElem?_map] at this
    cases ha : a.data.toList[i]? <;> cases hb : b.data.toList[i]? <;> rw [ha, hb] at this <;> simp at this ⊢
    exact UInt8.toNat.inj (by omega)
  obtain ⟨⟨a⟩⟩ := a
  obtain ⟨⟨b⟩⟩ := b
  simp at this; rw [this]
theorem next_i (i : Nat) (h : i < 9223372036854775807) : wr .i64 ((i : Int) + 1) = ((i + 1 : Nat) : Int) := by
  rw [wr_eq]; simp [IntKind.wrap, IntKind.bits, IntKind.signed]; omega
theorem wr_u8 (n : Nat) (h : n < 256) : wr .u8 (n : Int) = (n : Int) := by
  rw [wr_eq]; simp [IntKind.wrap, IntKind.bits, IntKind.signed]; omega
theorem of8 (x : Int) (h0 : 0 ≤ x) (h1 : x < 256) : (BitVec.ofInt 8 x).toNat = x.toNat := by
  obtain ⟨n, rfl⟩ := Int.eq_ofNat_of_zero_le h0
  simp; omega
theorem or_xor (d x y : Int) (hd : 0 ≤ d ∧ d < 256) (hx : 0 ≤ x ∧ x < 256) (hy : 0 ≤ y ∧ y < 256) :
    (0 ≤ bitsW .or .u8 d (bitsW .xor .u8 x y) ∧ bitsW .or .u8 d (bitsW .xor .u8 x y) < 256) ∧ (bitsW .or .u8 d (bitsW .xor .u8 x y) = 0 ↔ d = 0 ∧ x = y) := by
  have e1 : bitsW .xor .u8 x y = ((BitVec.ofInt 8 x ^^^ BitVec.ofInt 8 y).toNat : Int) := wr_u8 _ (BitVec.isLt _)
  have e2 : BitVec.ofInt 8 (bitsW .xor .u8 x y) = BitVec.ofInt 8 x ^^^ BitVec.ofInt 8 y := by
    rw [e1]
    apply BitVec.eq_of_toNat_eq
    rw [of8 _ (by omega) (by have := (BitVec.ofInt 8 x ^^^ BitVec.ofInt 8 y).isLt; omega)]
    simp
  have e3 : bitsW .or .u8 d (bitsW .xor .u8 x y) = ((BitVec.ofInt 8 d ||| (BitVec.ofInt 8 x ^^^ BitVec.ofInt 8 y)).toNat : Int) := by
    rw [← e2]
    exact wr_u8 _ (BitVec.isLt _)
  rw [e3]
  have hlt := (BitVec.ofInt 8 d ||| (BitVec.ofInt 8 x ^^^ BitVec.ofInt 8 y)).isLt
  refine ⟨⟨by omega, by omega⟩, ?_⟩
  have z : ((BitVec.ofInt 8 d ||| (BitVec.ofInt 8 x ^^^ BitVec.ofInt 8 y)).toNat : Int) = 0 ↔ (BitVec.ofInt 8 d ||| (BitVec.ofInt 8 x ^^^ BitVec.ofInt 8 y)) = 0#8 := by
    rw [← BitVec.toNat_inj]; simp
  rw [z, BitVec.or_eq_zero_iff, BitVec.xor_eq_zero_iff, ← BitVec.toNat_inj, ← BitVec.toNat_inj, of8 d hd.1 hd.2, of8 x hx.1 hx.2, of8 y hy.1 hy.2]
  simp
  omega
theorem drop_cons {α : Type} {l t : List α} {c : α} {i : Nat} (h : l.drop i = c :: t) : i < l.length ∧ l[i]? = some c ∧ l.drop (i + 1) = t := by
  have hlt : i < l.length := by
    rcases Nat.lt_or_ge i l.length with h' | h'
    · exact h'
    · rw [List.drop_eq_nil_of_le h'] at h; cases h
  refine ⟨hlt, ?_, by rw [← List.drop_drop, h]; rfl⟩
  have := congrArg List.head? h
  rw [List.head?_drop] at this; exact this
theorem eq_loop (hmix : Try.prog.follows .mixedOrders = true) (a b : ByteArray) (hs : a.size ≤ 9223372036854775807) (he : a.size = b.size) (K : Post) : ∀ (t u : List Int) (i : Nat) (d : Int), (bytesS a).drop i = t → (bytesS b).drop i = u → i ≤ a.size → 0 ≤ d ∧ d < 256 →
    (∀ d' : Int, (d' = 0 ↔ d = 0 ∧ t = u) → K (.exit 0) (tmps 29 [(5, .int .u8 d')]) (hp [])) → LSays Try.prog 0 (sub body1910 [0,0,1,0,1,1,1]) (T1910 a b d a.size i) (hp []) K := by
  intro t
  induction t with
  | nil =>
    intro u i d ht hu hi hd hK
    have hz : a.size ≤ i := by have := List.drop_eq_nil_iff.1 ht; rw [bytesS_len] at this; omega
    have hu0 : u = [] := by rw [← hu]; exact List.drop_eq_nil_of_le (by rw [bytesS_len]; omega)
    subst hu0
    refine (sure0 hmix).round F1910 noLoops [0,1,5,13,14] ?_
    rw [r1910]
    simp only [show ¬ (i : Int) < (a.size : Int) by omega, FlatH.empty, Alt_iff, Need_iff, ltI_eq, leI_eq, eqI_eq, leN_eq, eqN_eq, decide_eq_true_eq, decide_eq_false_iff_not, decide_true, decide_false, true_and, and_true, Bool.true_eq_false, Bool.false_eq_true, false_implies, true_implies, implies_true, not_true_eq_false, not_false_eq_true, Bool.not_eq_true', Bool.not_eq_false']
    exact hK d (by simp)
  | cons x t ih =>
    intro u i d ht hu hi hd hK
    obtain ⟨hlt, hx, hdr⟩ := drop_cons ht
    rw [bytesS_len] at hlt
    cases u with
    | nil =>
      have := List.drop_eq_nil_iff.1 hu
      rw [bytesS_len] at this; omega
    | cons y u =>
      obtain ⟨hlt2, hy, hdr2⟩ := drop_cons hu
      rw [byte_at a i hlt] at hx
      rw [byte_at b i (by omega)] at hy
      injection hx with hx
      injection hy with hy
      have rx := byte_rng a i
      have ry := byte_rng b i
      rw [hx] at rx
      rw [hy] at ry
      obtain ⟨q1, q2⟩ := or_xor d x y hd rx ry
      refine (sure0 hmix).round F1910 noLoops [0,1,5,13,14] ?_
      rw [r1910]
      simp only [byte_eq, hx, hy, show (i : Int) < (a.size : Int) by omega, show (i : Int) < (b.size : Int) by omega, next_i i (by omega), FlatH.empty, Alt_iff, Need_iff, ltI_eq, leI_eq, eqI_eq, leN_eq, eqN_eq, decide_eq_true_eq, decide_eq_false_iff_not, decide_true, decide_false, true_and, and_true, Bool.true_eq_false, Bool.false_eq_true, false_implies, true_implies, implies_true, not_true_eq_false, not_false_eq_true, Bool.not_eq_true', Bool.not_eq_false']
      refine ih u (i + 1) _ hdr hdr2 (by omega) q1 fun d' hd' => hK d' ?_
      rw [hd', q2, List.cons.injEq, and_assoc]
noncomputable def c1910 (a b : ByteArray) (e : Bool) : Cut := ⟨[0,1,0,1,1,1], T1910 a b 0 a.size 0, hp [], fun K => a.size = b.size ∧ ∀ d' : Int, eqI d' 0 = e → K (.exit 0) (tmps 29 [(5, .int .u8 d')]) (hp [])⟩

theorem w1910 (a b : ByteArray) (e : Bool) (K : Value → Heap → Prop) :
  funK Try.prog S0 (gcLK 0 (cutLK [c1910 a b e])) F1910 body1910 Try.f12 [.string a, .string b] (hp []) K = (
Alt (!eqI (↑a.size : Int) (↑b.size : Int)) (K (Value.bool false) (hp []))
  (FlatH (hp []) ∧
    tmps 29
          [(0, Value.string a), (1, Value.string b), (5, Value.int IntKind.u8 0),
            (13, Value.int IntKind.i64 (↑a.size : Int)), (14, Value.int IntKind.i64 0)] =
        tmps 29
          [(0, Value.string a), (1, Value.string b), (5, Value.int IntKind.u8 0),
            (13, Value.int IntKind.i64 (↑a.size : Int)), (14, Value.int IntKind.i64 0)] ∧
      hp [] = hp [] ∧ a.size = b.size ∧ ∀ (d' : Int), eqI d' 0 = e → K (Value.bool (eqI d' 0)) (hp []))) := by kernel_rfl

noncomputable def eqTC : Ctr where
  pre := fun args blks => match args, blks with
    | [.string a, .string b], [] => Need (leN a.size 9223372036854775807) True
    | _, _ => False
  val := fun args blks => match args, blks with
    | [.string a, .string b], [] => .bool (eqS a b)
    | _, _ => .bool false
  new := fun _ _ => []
theorem eqT_says (hmix : Try.prog.follows .mixedOrders = true) : eqTC.Holds Try.prog 12 := by
  intro args blks hf hp
  refine ⟨trivial, ?_⟩
  simp only [eqTC] at hp ⊢
  split at hp
  · rename_i a b
    simp only [Alt_iff, Need_iff, ltI_eq, leI_eq, eqI_eq, leN_eq, eqN_eq, decide_eq_true_eq, decide_eq_false_iff_not, decide_true, decide_false, true_and, and_true, Bool.true_eq_false, Bool.false_eq_true, false_implies, true_implies, implies_true, not_true_eq_false, not_false_eq_true, Bool.not_eq_true', Bool.not_eq_false'] at hp
    have hL : Loops Try.prog body1910 0 (cutLK [c1910 a b (eqS a b)]) := Loops.none.more _ fun K hK => by
      obtain ⟨he, hK⟩ := hK
      refine eq_loop hmix a b hp he K (bytesS a) (bytesS b) 0 0 rfl rfl (by omega) (by omega) fun d' hd' => hK d' ?_
      rw [Bool.eq_iff_iff, eqI_iff, eqS_iff, hd']
      exact ⟨fun h => bytesS_inj h.2, fun h => ⟨rfl, by rw [h]⟩⟩
    refine (sure0 hmix).fun F1910 body1910 Try.func12 rfl hL.gc ?_
    rw [w1910]
    refine Alt_iff.2 ⟨fun h => ⟨rfl, FlatH.empty, ?_, rfl⟩, fun h => ⟨FlatH.empty, rfl, rfl, ?_, fun d' hd' => ⟨rfl, FlatH.empty, by rw [hd'], rfl⟩⟩⟩
    · have hne : a ≠ b := fun hab => by
        rw [hab] at h
        simp only [eqI_eq, Bool.not_eq_true', decide_eq_false_iff_not, not_true_eq_false] at h
      rw [show eqS a b = false by rw [Bool.eq_false_iff]; exact fun hh => hne (eqS_iff.1 hh)]
    · simp only [eqI_eq, Bool.not_eq_false', decide_eq_true_eq] at h
      omega
  · exact hp.elim
noncomputable def isTC : Ctr where
  pre := fun args blks => match args, blks with
    | [.string _], [] => True
    | _, _ => False
  val := fun args blks => match args, blks with
    | [.string s], [] => .bool (leI 4 (s.size : Int) && leI (s.size : Int) 16)
    | _, _ => .bool false
  new := fun _ _ => []
theorem isT_says (hmix : Try.prog.follows .mixedOrders = true) : isTC.Holds Try.prog 11 := by
  intro args blks hf hp
  refine ⟨trivial, ?_⟩
  simp only [isTC] at hp ⊢
  split at hp
  · rename_i s
    refine (sure0 hmix).fun F1911 body1911 Try.func11 rfl noLoops ?_
    rw [w1911]
    cases leI 4 (s.size : Int) <;> exact ⟨rfl, FlatH.empty, rfl, rfl⟩
  · exact hp.elim
theorem risT_says (hmix : Try.prog.follows .mixedOrders = true) : isTC.Holds Try.prog 13 := by
  intro args blks hf hp
  refine ⟨trivial, ?_⟩
  simp only [isTC] at hp ⊢
  split at hp
  · rename_i s
    refine (sure0 hmix).fun F1912 body1912 Try.func13 rfl noLoops ?_
    rw [w1912]
    cases leI 4 (s.size : Int) <;> exact ⟨rfl, FlatH.empty, rfl, rfl⟩
  · exact hp.elim
noncomputable def trueC : Ctr where
  pre := fun args blks => match args, blks with
    | [], [] => True
    | _, _ => False
  val := fun _ _ => .bool true
  new := fun _ _ => []
theorem runs_run : isTrueR (acall Try.prog (fun _ => none) 300 3 [] Heap.empty) = true := by decide +kernel
theorem runs_holds (hmix : Try.prog.follows .mixedOrders = true) : trueC.Holds Try.prog 3 := by
  intro args blks hf hp
  refine ⟨trivial, ?_⟩
  simp only [trueC] at hp ⊢
  split at hp
  · exact FunSays.of_run hmix plain Try.func3 rfl runs_run
  · exact hp.elim
noncomputable def S19 : Book := bookOf [(3, trueC), (12, eqTC), (11, isTC), (13, isTC)]
theorem sure19 (hmix : Try.prog.follows .mixedOrders = true) : Sure Try.prog S19 := ⟨hmix, plain, bookOf_ok ⟨runs_holds hmix, eqT_says hmix, isT_says hmix, risT_says hmix, trivial⟩⟩
noncomputable def body1904 : Code := (Try.f4.body).getD .skip
def F1904 : List Nat → Option (List Nat) := fun p => match p with
  | [1] => some [0, 1]
  | [1, 0, 1] => some [0, 1, 12]
  | [1, 0, 1, 0, 1] => some [4]
  | [1, 1] => some [0, 1]
  | [1, 1, 1] => some [4]
  | _ => none

theorem w1904 (a b : ByteArray) (K : Value → Heap → Prop) :
  funK Try.prog S19 noLoop F1904 body1904 Try.f4 [.string a, .string b] (hp []) K = (
Alt (ltI 100 (↑a.size : Int)) (True ∧ True ∧ K (Value.bool true) (hp []))
  (Alt (ltI 100 (↑b.size : Int)) (True ∧ True ∧ K (Value.bool true) (hp []))
    (True ∧
      Need (leN a.size 9223372036854775807) True ∧
        Alt (eqS a b == eqS a b)
          (True ∧
            Need (leN a.size 9223372036854775807) True ∧
              Alt (eqS a a)
                (True ∧
                  True ∧
                    True ∧
                      True ∧
                        Alt
                          ((leI 4 (↑a.size : Int) && leI (↑a.size : Int) 16) ==
                            (leI 4 (↑a.size : Int) && leI (↑a.size : Int) 16))
                          (True ∧ True ∧ K (Value.bool true) (hp [])) (K (Value.bool false) (hp [])))
                (K (Value.bool false) (hp [])))
          (K (Value.bool false) (hp []))))) := by kernel_rfl

theorem law1904 (hmix : Try.prog.follows .mixedOrders = true) (a b : ByteArray) (ha : a.size ≤ 9223372036854775807) : FunSays Try.prog 4 [.string a, .string b] (hp []) fun v _ => v = .bool true := by
  refine (sure19 hmix).fun F1904 body1904 Try.func4 rfl noLoops ?_
  rw [w1904]
  simp only [ha, eqS_rfl, beq_self_eq_true, FlatH.empty, beqV_str, beqV_bool, Alt_iff, Need_iff, ltI_eq, leI_eq, eqI_eq, leN_eq, eqN_eq, decide_eq_true_eq, decide_eq_false_iff_not, decide_true, decide_false, true_and, and_true, Bool.true_eq_false, Bool.false_eq_true, false_implies, true_implies, implies_true, not_true_eq_false, not_false_eq_true, Bool.not_eq_true', Bool.not_eq_false']
  exact ⟨fun _ => rfl, fun _ => ⟨fun _ => rfl, fun _ => rfl⟩⟩
end Go.Proofs.Ytabbkoegaoekkaa
