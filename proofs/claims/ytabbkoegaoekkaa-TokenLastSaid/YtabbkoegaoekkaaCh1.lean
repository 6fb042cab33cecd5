/- Proved: what functions of the program come to, by their conditions over the abstract machine. Conditions: those that each theorem states. -/
import Derived.Test.YtabbkoegaoekkaaAm5
import Derived.Test.YtabbkoegaoekkaaProg
import Derived.WalkKit
import Derived.ProofKit
import Derived.Laws.BitsLemmas
import Derived.Shelf.Sort.Plain
import Derived.Shelf.Slices.In.SortNone
import Derived.Lib.RowBridge
set_option linter.unusedVariables false
set_option linter.unusedSimpArgs false
namespace Go.Proofs.Ytabbkoegaoekkaa
open Go.RowKit Go.Proofs.Ytabbkoegaoekkaa.AM
set_option maxRecDepth 100000
set_option maxHeartbeats 4000000
noncomputable def S0 : Book := fun _ => none
theorem named : (Try.prog.funcs.toList.all fun fn => !(fn.name == "runtime.NumGoroutine")) = true := by decide +kernel
theorem plain : Plain Try.prog := fun f fn hf _ hn => by
  have h1 := List.all_eq_true.1 named fn (by simpa using Array.mem_of_getElem? hf)
  rw [hn] at h1
  exact absurd h1 (by decide)
theorem sums0 : SumsOk Try.prog S0.sums := fun f s hs => by cases hs
theorem sure0 (hmix : Try.prog.follows .mixedOrders = true) : Sure Try.prog S0 := ⟨hmix, plain, sums0⟩
theorem f64_of {x : Nat} (h : (Lit.float .f64 x).wf = true) : x < 18446744073709551616 := by simpa [Lit.wf] using h
theorem u64_of {x : Int} (h : (Lit.int .u64 x).wf = true) : 0 ≤ x ∧ x < 18446744073709551616 := by
  simp [Lit.wf, IntKind.min, IntKind.max, IntKind.bits, IntKind.signed] at h; omega
theorem wr_u64 (n : Int) (h0 : 0 ≤ n) (h1 : n < 18446744073709551616) : wr .u64 n = n := by
  rw [wr_eq]; simp [IntKind.wrap, IntKind.bits, IntKind.signed]; omega
theorem ofInt_nat (n : Nat) : BitVec.ofInt 64 (n : Int) = BitVec.ofNat 64 n := by simp
/-- the highest bit -/
theorem and_high (n : Nat) (h : n < 18446744073709551616) : bitsW .and .u64 (n : Int) 9223372036854775808 = if n < 9223372036854775808 then 0 else 9223372036854775808 := by
  have e : ((BitVec.ofInt 64 (n : Int)) &&& BitVec.ofInt 64 9223372036854775808).toNat = if n < 9223372036854775808 then 0 else 9223372036854775808 := by
    have e1 : BitVec.ofInt 64 9223372036854775808 = BitVec.twoPow 64 63 := by decide
    rw [ofInt_nat, e1, BitVec.and_twoPow]
    have hg : (BitVec.ofNat 64 n).getLsbD 63 = n.testBit 63 := by
      simp only [BitVec.getLsbD, BitVec.toNat_ofNat]
      rw [Nat.mod_eq_of_lt (by simpa using h)]
    rw [hg]
    by_cases hn : n < 9223372036854775808
    · rw [Nat.testBit_lt_two_pow (by simpa using hn), if_pos hn]; rfl
    · rw [if_neg hn, show n.testBit 63 = true from by
        rw [Nat.testBit_eq_decide_div_mod_eq, decide_eq_true_iff]; omega]
      decide
  show wr .u64 (((BitVec.ofInt 64 (n : Int)) &&& BitVec.ofInt 64 9223372036854775808).toNat : Int) = _
  rw [e]
  split
  · rfl
  · rfl
theorem or_high (n : Nat) (h : n < 9223372036854775808) : bitsW .or .u64 (n : Int) 9223372036854775808 = (n : Int) + 9223372036854775808 := by
  have e : ((BitVec.ofInt 64 (n : Int)) ||| BitVec.ofInt 64 9223372036854775808).toNat = n + 9223372036854775808 := by
    rw [ofInt_nat, show (9223372036854775808 : Int) = ((9223372036854775808 : Nat) : Int) from rfl, ofInt_nat, BitVec.toNat_or, BitVec.toNat_ofNat, BitVec.toNat_ofNat, Nat.mod_eq_of_lt (by simp; omega)]
    rw [show 9223372036854775808 % 2 ^ 64 = 2 ^ 63 * 1 by decide, Nat.or_comm, Nat.two_pow_add_eq_or_of_lt (by simpa using h) 1 |>.symm]
    omega
  show wr .u64 (((BitVec.ofInt 64 (n : Int)) ||| BitVec.ofInt 64 9223372036854775808).toNat : Int) = _
  rw [e, wr_u64 _ (by omega) (by omega)]; rfl
theorem not_all (n : Nat) (h : n < 18446744073709551616) : (BitVec.ofInt 64 18446744073709551615 ^^^ BitVec.ofInt 64 (n : Int)).toNat = 18446744073709551615 - n := by
  have e1 : BitVec.ofInt 64 18446744073709551615 = BitVec.allOnes 64 := by decide
  rw [e1, BitVec.allOnes_xor, BitVec.toNat_not, ofInt_nat, BitVec.toNat_ofNat, Nat.mod_eq_of_lt (by simpa using h)]
end Go.Proofs.Ytabbkoegaoekkaa

namespace Go.Proofs.Ytabbkoegaoekkaa
open Go.RowKit Go.Proofs.Ytabbkoegaoekkaa.AM
set_option maxRecDepth 100000
set_option maxHeartbeats 4000000
noncomputable def body1910 : Code := (Try.f12.body).getD .skip
def F1910 : List Nat → Option (List Nat) := fun p => match p with
  | [1] => some [0, 1]
  | [1, 0, 1] => some [0, 1, 11]
  | [1, 0, 1, 0, 1] => some [4]
  | [1, 1] => some [0, 1]
  | [1, 1, 1] => some [0, 1, 5]
  | [1, 0, 1, 1, 1] => some [0, 1, 5, 13, 14]
  | [1, 0, 0, 1, 0, 1, 1, 1] => some [0, 1, 5, 13, 14, 15]
  | [1, 0, 1, 0, 0, 1, 0, 1, 1, 1] => some [5]
  | [1, 1, 0, 0, 1, 0, 1, 1, 1] => some [0, 1, 5, 13, 14]
  | [1, 0, 0, 1, 1, 0, 0, 1, 0, 1, 1, 1] => some [0, 1, 5, 6, 13, 14]
  | [1, 1, 1, 0, 0, 1, 0, 1, 1, 1] => some [0, 1, 5, 13, 14]
  | [1, 1, 1, 1] => some [5]
  | [1, 1, 1, 1, 1] => some [4]
  | _ => none
noncomputable def body1911 : Code := (Try.f11.body).getD .skip
def F1911 : List Nat → Option (List Nat) := fun p => match p with
  | [1] => some [0]
  | [1, 1] => some [2]
  | _ => none
noncomputable def body1912 : Code := (Try.f13.body).getD .skip
def F1912 : List Nat → Option (List Nat) := fun p => match p with
  | [1] => some [0]
  | [1, 1] => some [2]
  | _ => none

theorem w1911 (s : ByteArray) (K : Value → Heap → Prop) :
  funK Try.prog S0 noLoop F1911 body1911 Try.f11 [.string s] (hp []) K = (
Alt (leI 4 (↑s.size : Int)) (K (Value.bool (leI (↑s.size : Int) 16)) (hp [])) (K (Value.bool false) (hp []))) := by kernel_rfl

theorem w1912 (s : ByteArray) (K : Value → Heap → Prop) :
  funK Try.prog S0 noLoop F1912 body1912 Try.f13 [.string s] (hp []) K = (
Alt (leI 4 (↑s.size : Int)) (K (Value.bool (leI (↑s.size : Int) 16)) (hp [])) (K (Value.bool false) (hp []))) := by kernel_rfl

/-- a text's bytes, one -/
def byteAt (s : ByteArray) (i : Nat) : Int := ((s.data.toList.getD i 0).toNat : Int)
noncomputable def T1910 (a b : ByteArray) (d : Int) (n i : Nat) : List Value := tmps 29 [(0, .string a), (1, .string b), (5, .int .u8 d), (13, .int .i64 n), (14, .int .i64 i)]

theorem r1910 (a b : ByteArray) (d : Int) (n i : Nat) (K : Post) :
  roundK Try.prog S0 noLoop F1910 body1910 0 [0,1,5,13,14] [0,0,1,0,1,1,1] (T1910 a b d n i) (hp []) K = (
Alt (ltI (↑i : Int) (↑n : Int))
  (Need (ltI (↑i : Int) (↑a.size : Int))
    (Need (ltI (↑i : Int) (↑b.size : Int))
      (K AE.normal
        (tmps 29
          [(0, Value.string a), (1, Value.string b),
            (5,
              Value.int IntKind.u8
                (bitsW BinOp.or IntKind.u8 d
                  (bitsW BinOp.xor IntKind.u8 (↑(a.data.toList.getD (↑i : Int).toNat (OfNat.ofNat 0)).toNat : Int)
                    (↑(b.data.toList.getD (↑i : Int).toNat (OfNat.ofNat 0)).toNat : Int)))),
            (13, Value.int IntKind.i64 (↑n : Int)), (14, Value.int IntKind.i64 (wr IntKind.i64 ((↑i : Int) + 1)))])
        (hp []))))
  (K (AE.exit 0) (tmps 29 [(5, Value.int IntKind.u8 d)]) (hp []))) := by kernel_rfl

theorem byte_eq (s : ByteArray) (i : Nat) : (↑(s.data.toList.getD (↑i : Int).toNat (OfNat.ofNat 0)).toNat : Int) = byteAt s i := rfl
def bytesS (s : ByteArray) : List Int := s.data.toList.map fun b => (b.toNat : Int)
theorem bytesS_len (s : ByteArray) : (bytesS s).length = s.size := by simp [bytesS]
theorem byte_at (s : ByteArray) (i : Nat) (h : i < s.size) : (bytesS s)[i]? = some (byteAt s i) := by
  have h' : i < s.data.toList.length := by simpa using h
  rw [bytesS, List.getElem?_map, List.getElem?_eq_getElem h', byteAt, List.getD_eq_getElem?_getD, List.getElem?_eq_getElem h']; rfl
theorem byte_rng (s : ByteArray) (i : Nat) : 0 ≤ byteAt s i ∧ byteAt s i < 256 := by
  have := (s.data.toList.getD i 0).toNat_lt
  unfold byteAt
  omega
theorem bytesS_inj {a b : ByteArray} (h : bytesS a = bytesS b) : a = b := by
  have : a.data.toList = b.data.toList := by
    refine List.ext_getElem? fun i => ?_
    have := congrArg (fun l => l[i]?) h
    simp only [bytesS, List.getElem?_map] at this
    cases ha : a.data.toList[i]? <;> cases hb : b.data.toList[i]? <;> rw [ha, hb] at this <;> simp at this ⊢
    exact UInt8.toNat.inj (by omega)
  obtain ⟨⟨a⟩⟩ := a
  obtain ⟨⟨b⟩⟩ := b
  simp at this; rw [this]
theorem next_i (i : Nat) (h : i < 9223372036854775807) : wr .i64 ((i : Int) + 1) = ((i + 1 : Nat) : Int) := by
  rw [wr_eq]; simp [IntKind.wrap, IntKind.bits, IntKind.signed]; omega
theorem wr_u8 (n : Nat) (h : n < 256) : wr .u8 (n : Int) = (n : Int) := by
  rw [wr_eq]; simp [IntKind.wrap, IntKind.bits, IntKind.signed]; omega
theorem of8 (x : Int) (h0 : 0 ≤ x) (h1 : x < 256) : (BitVec.ofInt 8 x).toNat = x.toNat := by
  obtain ⟨n, rfl⟩ := Int.eq_ofNat_of_zero_le h0
  simp; omega
theorem or_xor (d x y : Int) (hd : 0 ≤ d ∧ d < 256) (hx : 0 ≤ x ∧ x < 256) (hy : 0 ≤ y ∧ y < 256) :
    (0 ≤ bitsW .or .u8 d (bitsW .xor .u8 x y) ∧ bitsW .or .u8 d (bitsW .xor .u8 x y) < 256) ∧ (bitsW .or .u8 d (bitsW .xor .u8 x y) = 0 ↔ d = 0 ∧ x = y) := by
  have e1 : bitsW .xor .u8 x y = ((BitVec.ofInt 8 x ^^^ BitVec.ofInt 8 y).toNat : Int) := wr_u8 _ (BitVec.isLt _)
  have e2 : BitVec.ofInt 8 (bitsW .xor .u8 x y) = BitVec.ofInt 8 x ^^^ BitVec.ofInt 8 y := by
    rw [e1]
    apply BitVec.eq_of_toNat_eq
    rw [of8 _ (by omega) (by have := (BitVec.ofInt 8 x ^^^ BitVec.ofInt 8 y).isLt; omega)]
    simp
  have e3 : bitsW .or .u8 d (bitsW .xor .u8 x y) = ((BitVec.ofInt 8 d ||| (BitVec.ofInt 8 x ^^^ BitVec.ofInt 8 y)).toNat : Int) := by
    rw [← e2]
    exact wr_u8 _ (BitVec.isLt _)
  rw [e3]
  have hlt := (BitVec.ofInt 8 d ||| (BitVec.ofInt 8 x ^^^ BitVec.ofInt 8 y)).isLt
  refine ⟨⟨by omega, by omega⟩, ?_⟩
  have z : ((BitVec.ofInt 8 d ||| (BitVec.ofInt 8 x ^^^ BitVec.ofInt 8 y)).toNat : Int) = 0 ↔ (BitVec.ofInt 8 d ||| (BitVec.ofInt 8 x ^^^ BitVec.ofInt 8 y)) = 0#8 := by
    rw [← BitVec.toNat_inj]; simp
  rw [z, BitVec.or_eq_zero_iff, BitVec.xor_eq_zero_iff, ← BitVec.toNat_inj, ← BitVec.toNat_inj, of8 d hd.1 hd.2, of8 x hx.1 hx.2, of8 y hy.1 hy.2]
  simp
  omega
theorem drop_cons {α : Type} {l t : List α} {c : α} {i : Nat} (h : l.drop i = c :: t) : i < l.length ∧ l[i]? = some c ∧ l.drop (i + 1) = t := by
  have hlt : i < l.length := by
    rcases Nat.lt_or_ge i l.length with h' | h'
    · exact h'
    · rw [List.drop_eq_nil_of_le h'] at h; cases h
  refine ⟨hlt, ?_, by rw [← List.drop_drop, h]; rfl⟩
  have := congrArg List.head? h
  rw [List.head?_drop] at this; exact this
theorem eq_loop (hmix : Try.prog.follows .mixedOrders = true) (a b : ByteArray) (hs : a.size ≤ 9223372036854775807) (he : a.size = b.size) (K : Post) : ∀ (t u : List Int) (i : Nat) (d : Int), (bytesS a).drop i = t → (bytesS b).drop i = u → i ≤ a.size → 0 ≤ d ∧ d < 256 →
    (∀ d' : Int, (d' = 0 ↔ d = 0 ∧ t = u) → K (.exit 0) (tmps 29 [(5, .int .u8 d')]) (hp [])) → LSays Try.prog 0 (sub body1910 [0,0,1,0,1,1,1]) (T1910 a b d a.size i) (hp []) K := by
  intro t
  induction t with
  | nil =>
    intro u i d ht hu hi hd hK
    have hz : a.size ≤ i := by have := List.drop_eq_nil_iff.1 ht; rw [bytesS_len] at this; omega
    have hu0 : u = [] := by rw [← hu]; exact List.drop_eq_nil_of_le (by rw [bytesS_len]; omega)
    subst hu0
    refine (sure0 hmix).round F1910 noLoops [0,1,5,13,14] ?_
    rw [r1910]
    simp only [show ¬ (i : Int) < (a.size : Int) by omega, FlatH.empty, Alt_iff, Need_iff, ltI_eq, leI_eq, eqI_eq, leN_eq, eqN_eq, decide_eq_true_eq, decide_eq_false_iff_not, decide_true, decide_false, true_and, and_true, Bool.true_eq_false, Bool.false_eq_true, false_implies, true_implies, implies_true, not_true_eq_false, not_false_eq_true, Bool.not_eq_true', Bool.not_eq_false']
    exact hK d (by simp)
  | cons x t ih =>
    intro u i d ht hu hi hd hK
    obtain ⟨hlt, hx, hdr⟩ := drop_cons ht
    rw [bytesS_len] at hlt
    cases u with
    | nil =>
      have := List.drop_eq_nil_iff.1 hu
      rw [bytesS_len] at this; omega
    | cons y u =>
      obtain ⟨hlt2, hy, hdr2⟩ := drop_cons hu
      rw [byte_at a i hlt] at hx
      rw [byte_at b i (by omega)] at hy
      injection hx with hx
      injection hy with hy
      have rx := byte_rng a i
      have ry := byte_rng b i
      rw [hx] at rx
      rw [hy] at ry
      obtain ⟨q1, q2⟩ := or_xor d x y hd rx ry
      refine (sure0 hmix).round F1910 noLoops [0,1,5,13,14] ?_
      rw [r1910]
      simp only [byte_eq, hx, hy, show (i : Int) < (a.size : Int) by omega, show (i : Int) < (b.size : Int) by omega, next_i i (by omega), FlatH.empty, Alt_iff, Need_iff, ltI_eq, leI_eq, eqI_eq, leN_eq, eqN_eq, decide_eq_true_eq, decide_eq_false_iff_not, decide_true, decide_false, true_and, and_true, Bool.true_eq_false, Bool.false_eq_true, false_implies, true_implies, implies_true, not_true_eq_false, not_false_eq_true, Bool.not_eq_true', Bool.not_eq_false']
      refine ih u (i + 1) _ hdr hdr2 (by omega) q1 fun d' hd' => hK d' ?_
      rw [hd', q2, List.cons.injEq, and_assoc]
noncomputable def c1910 (a b : ByteArray) (e : Bool) : Cut := ⟨[0,1,0,1,1,1], T1910 a b 0 a.size 0, hp [], fun K => a.size = b.size ∧ ∀ d' : Int, eqI d' 0 = e → K (.exit 0) (tmps 29 [(5, .int .u8 d')]) (hp [])⟩

theorem w1910 (a b : ByteArray) (e : Bool) (K : Value → Heap → Prop) :
  funK Try.prog S0 (gcLK 0 (cutLK [c1910 a b e])) F1910 body1910 Try.f12 [.string a, .string b] (hp []) K = (
Alt (!eqI (↑a.size : Int) (↑b.size : Int)) (K (Value.bool false) (hp []))
  (FlatH (hp []) ∧
    tmps 29
          [(0, Value.string a), (1, Value.string b), (5, Value.int IntKind.u8 0),
            (13, Value.int IntKind.i64 (↑a.size : Int)), (14, Value.int IntKind.i64 0)] =
        tmps 29
          [(0, Value.string a), (1, Value.string b), (5, Value.int IntKind.u8 0),
            (13, Value.int IntKind.i64 (↑a.size : Int)), (14, Value.int IntKind.i64 0)] ∧
      hp [] = hp [] ∧ a.size = b.size ∧ ∀ (d' : Int), eqI d' 0 = e → K (Value.bool (eqI d' 0)) (hp []))) := by kernel_rfl

noncomputable def eqTC : Ctr where
  pre := fun args blks => match args, blks with
    | [.string a, .string b], [] => Need (leN a.size 9223372036854775807) True
    | _, _ => False
  val := fun args blks => match args, blks with
    | [.string a, .string b], [] => .bool (eqS a b)
    | _, _ => .bool false
  new := fun _ _ => []
theorem eqT_says (hmix : Try.prog.follows .mixedOrders = true) : eqTC.Holds Try.prog 12 := by
  intro args blks hf hp
  refine ⟨trivial, ?_⟩
  simp only [eqTC] at hp ⊢
  split at hp
  · rename_i a b
    simp only [Alt_iff, Need_iff, ltI_eq, leI_eq, eqI_eq, leN_eq, eqN_eq, decide_eq_true_eq, decide_eq_false_iff_not, decide_true, decide_false, true_and, and_true, Bool.true_eq_false, Bool.false_eq_true, false_implies, true_implies, implies_true, not_true_eq_false, not_false_eq_true, Bool.not_eq_true', Bool.not_eq_false'] at hp
    have hL : Loops Try.prog body1910 0 (cutLK [c1910 a b (eqS a b)]) := Loops.none.more _ fun K hK => by
      obtain ⟨he, hK⟩ := hK
      refine eq_loop hmix a b hp he K (bytesS a) (bytesS b) 0 0 rfl rfl (by omega) (by omega) fun d' hd' => hK d' ?_
      rw [Bool.eq_iff_iff, eqI_iff, eqS_iff, hd']
      exact ⟨fun h => bytesS_inj h.2, fun h => ⟨rfl, by rw [h]⟩⟩
    refine (sure0 hmix).fun F1910 body1910 Try.func12 rfl hL.gc ?_
    rw [w1910]
    refine Alt_iff.2 ⟨fun h => ⟨rfl, FlatH.empty, ?_, rfl⟩, fun h => ⟨FlatH.empty, rfl, rfl, ?_, fun d' hd' => ⟨rfl, FlatH.empty, by rw [hd'], rfl⟩⟩⟩
    · have hne : a ≠ b := fun hab => by
        rw [hab] at h
        simp only [eqI_eq, Bool.not_eq_true', decide_eq_false_iff_not, not_true_eq_false] at h
      rw [show eqS a b = false by rw [Bool.eq_false_iff]; exact fun hh => hne (eqS_iff.1 hh)]
    · simp only [eqI_eq, Bool.not_eq_false', decide_eq_true_eq] at h
      omega
  · exact hp.elim
noncomputable def isTC : Ctr where
  pre := fun args blks => match args, blks with
    | [.string _], [] => True
    | _, _ => False
  val := fun args blks => match args, blks with
    | [.string s], [] => .bool (leI 4 (s.size : Int) && leI (s.size : Int) 16)
    | _, _ => .bool false
  new := fun _ _ => []
theorem isT_says (hmix : Try.prog.follows .mixedOrders = true) : isTC.Holds Try.prog 11 := by
  intro args blks hf hp
  refine ⟨trivial, ?_⟩
  simp only [isTC] at hp ⊢
  split at hp
  · rename_i s
    refine (sure0 hmix).fun F1911 body1911 Try.func11 rfl noLoops ?_
    rw [w1911]
    cases leI 4 (s.size : Int) <;> exact ⟨rfl, FlatH.empty, rfl, rfl⟩
  · exact hp.elim
theorem risT_says (hmix : Try.prog.follows .mixedOrders = true) : isTC.Holds Try.prog 13 := by
  intro args blks hf hp
  refine ⟨trivial, ?_⟩
  simp only [isTC] at hp ⊢
  split at hp
  · rename_i s
    refine (sure0 hmix).fun F1912 body1912 Try.func13 rfl noLoops ?_
    rw [w1912]
    cases leI 4 (s.size : Int) <;> exact ⟨rfl, FlatH.empty, rfl, rfl⟩
  · exact hp.elim
noncomputable def trueC : Ctr where
  pre := fun args blks => match args, blks with
    | [], [] => True
    | _, _ => False
  val := fun _ _ => .bool true
  new := fun _ _ => []
theorem runs_run : isTrueR (acall Try.prog (fun _ => none) 300 3 [] Heap.empty) = true := by decide +kernel
theorem runs_holds (hmix : Try.prog.follows .mixedOrders = true) : trueC.Holds Try.prog 3 := by
  intro args blks hf hp
  refine ⟨trivial, ?_⟩
  simp only [trueC] at hp ⊢
  split at hp
  · exact FunSays.of_run hmix plain Try.func3 rfl runs_run
  · exact hp.elim
noncomputable def S19 : Book := bookOf [(3, trueC), (12, eqTC), (11, isTC), (13, isTC)]
theorem sure19 (hmix : Try.prog.follows .mixedOrders = true) : Sure Try.prog S19 := ⟨hmix, plain, bookOf_ok ⟨runs_holds hmix, eqT_says hmix, isT_says hmix, risT_says hmix, trivial⟩⟩
noncomputable def body1904 : Code := (Try.f4.body).getD .skip
def F1904 : List Nat → Option (List Nat) := fun p => match p with
  | [1] => some [0, 1]
  | [1, 0, 1] => some [0, 1, 12]
  | [1, 0, 1, 0, 1] => some [4]
  | [1, 1] => some [0, 1]
  | [1, 1, 1] => some [4]
  | _ => none

theorem w1904 (a b : ByteArray) (K : Value → Heap → Prop) :
  funK Try.prog S19 noLoop F1904 body1904 Try.f4 [.string a, .string b] (hp []) K = (
Alt (ltI 100 (↑a.size : Int)) (True ∧ True ∧ K (Value.bool true) (hp []))
  (Alt (ltI 100 (↑b.size : Int)) (True ∧ True ∧ K (Value.bool true) (hp []))
    (True ∧
      Need (leN a.size 9223372036854775807) True ∧
        Alt (eqS a b == eqS a b)
          (True ∧
            Need (leN a.size 9223372036854775807) True ∧
              Alt (eqS a a)
                (True ∧
                  True ∧
                    True ∧
                      True ∧
                        Alt
                          ((leI 4 (↑a.size : Int) && leI (↑a.size : Int) 16) ==
                            (leI 4 (↑a.size : Int) && leI (↑a.size : Int) 16))
                          (True ∧ True ∧ K (Value.bool true) (hp [])) (K (Value.bool false) (hp [])))
                (K (Value.bool false) (hp [])))
          (K (Value.bool false) (hp []))))) := by kernel_rfl

theorem law1904 (hmix : Try.prog.follows .mixedOrders = true) (a b : ByteArray) (ha : a.size ≤ 9223372036854775807) : FunSays Try.prog 4 [.string a, .string b] (hp []) fun v _ => v = .bool true := by
  refine (sure19 hmix).fun F1904 body1904 Try.func4 rfl noLoops ?_
  rw [w1904]
  simp only [ha, eqS_rfl, beq_self_eq_true, FlatH.empty, beqV_str, beqV_bool, Alt_iff, Need_iff, ltI_eq, leI_eq, eqI_eq, leN_eq, eqN_eq, decide_eq_true_eq, decide_eq_false_iff_not, decide_true, decide_false, true_and, and_true, Bool.true_eq_false, Bool.false_eq_true, false_implies, true_implies, implies_true, not_true_eq_false, not_false_eq_true, Bool.not_eq_true', Bool.not_eq_false']
  exact ⟨fun _ => rfl, fun _ => ⟨fun _ => rfl, fun _ => rfl⟩⟩
end Go.Proofs.Ytabbkoegaoekkaa

namespace Go.Proofs.Ytabbkoegaoekkaa
open Go.Shelf
def lays190_ren : Go.Shelf.Ren := ⟨fun | 125 => 37 | 128 => 48 | 129 => 49 | 190 => 28 | 258 => 36 | 302 => 39 | 303 => 40 | 304 => 41 | 305 => 42 | 306 => 43 | 307 => 44 | 308 => 45 | 309 => 46 | 310 => 47 | 329 => 51 | 330 => 52 | 333 => 50 | 334 => 53 | 335 => 54 | 336 => 55 | 344 => 56 | n => n, fun | 0 => 0 | 3 => 3 | 4 => 4 | 5 => 5 | 9 => 9 | 31 => 35 | 46 => 66 | 51 => 76 | 53 => 78 | 131 => 26 | 182 => 69 | 183 => 70 | 218 => 79 | 222 => 83 | 228 => 85 | 229 => 86 | n => n, fun | n => n⟩
theorem lays190 : Go.Proofs.Lays.n190 Try.prog lays190_ren := {
  mixed := by kernel_rfl
  f125 := Try.func37.trans (congrArg some (by kernel_rfl))
  f128 := Try.func48.trans (congrArg some (by kernel_rfl))
  f129 := Try.func49.trans (congrArg some (by kernel_rfl))
  f190 := Try.func28.trans (congrArg some (by kernel_rfl))
  f258 := Try.func36.trans (congrArg some (by kernel_rfl))
  f302 := Try.func39.trans (congrArg some (by kernel_rfl))
  f303 := Try.func40.trans (congrArg some (by kernel_rfl))
  f304 := Try.func41.trans (congrArg some (by kernel_rfl))
  f305 := Try.func42.trans (congrArg some (by kernel_rfl))
  f306 := Try.func43.trans (congrArg some (by kernel_rfl))
  f307 := Try.func44.trans (congrArg some (by kernel_rfl))
  f308 := Try.func45.trans (congrArg some (by kernel_rfl))
  f309 := Try.func46.trans (congrArg some (by kernel_rfl))
  f310 := Try.func47.trans (congrArg some (by kernel_rfl))
  f329 := Try.func51.trans (congrArg some (by kernel_rfl))
  f330 := Try.func52.trans (congrArg some (by kernel_rfl))
  f333 := Try.func50.trans (congrArg some (by kernel_rfl))
  f334 := Try.func53.trans (congrArg some (by kernel_rfl))
  f335 := Try.func54.trans (congrArg some (by kernel_rfl))
  f336 := Try.func55.trans (congrArg some (by kernel_rfl))
  f344 := Try.func56.trans (congrArg some (by kernel_rfl))
  t0 := Try.underlying0
  a0 := Try.isAgg0
  z0 := Try.sizeOf0
  v0 := Try.zeroValue0
  t3 := Try.underlying3
  a3 := Try.isAgg3
  z3 := Try.sizeOf3
  v3 := Try.zeroValue3
  t4 := Try.underlying4
  a4 := Try.isAgg4
  z4 := Try.sizeOf4
  v4 := Try.zeroValue4
  t5 := Try.underlying5
  a5 := Try.isAgg5
  z5 := Try.sizeOf5
  v5 := Try.zeroValue5
  t9 := Try.underlying9
  a9 := Try.isAgg9
  z9 := Try.sizeOf9
  v9 := Try.zeroValue9
  t31 := Try.underlying35
  a31 := Try.isAgg35
  z31 := Try.sizeOf35
  v31 := Try.zeroValue35
  t46 := Try.underlying66
  a46 := Try.isAgg66
  z46 := Try.sizeOf66
  v46 := Try.zeroValue66
  t51 := Try.underlying76
  a51 := Try.isAgg76
  z51 := Try.sizeOf76
  v51 := Try.zeroValue76
  t53 := Try.underlying78
  a53 := Try.isAgg78
  z53 := Try.sizeOf78
  v53 := Try.zeroValue78
  t131 := Try.underlying26
  a131 := Try.isAgg26
  z131 := Try.sizeOf26
  v131 := Try.zeroValue26
  t182 := Try.underlying69
  a182 := Try.isAgg69
  z182 := Try.sizeOf69
  v182 := Try.zeroValue69
  t183 := Try.underlying70
  a183 := Try.isAgg70
  z183 := Try.sizeOf70
  v183 := Try.zeroValue70
  t218 := Try.underlying79
  a218 := Try.isAgg79
  z218 := Try.sizeOf79
  v218 := Try.zeroValue79
  t222 := Try.underlying83
  a222 := Try.isAgg83
  z222 := Try.sizeOf83
  v222 := Try.zeroValue83
  t228 := Try.underlying85
  a228 := Try.isAgg85
  z228 := Try.sizeOf85
  v228 := Try.zeroValue85
  t229 := Try.underlying86
  a229 := Try.isAgg86
  z229 := Try.sizeOf86
  v229 := Try.zeroValue86 }
open Go.Sort Go.RowKit in
theorem slices_Sort_string (blk off cap : Nat) (ss : List (List UInt8)) (w : World) (hH : Holds encStr w blk off ss.toArray) (hblk : blk < w.heap.size) (hsz : ss.length < 4611686018427387904) :
    Calls Try.prog 28 #[.slice (some ⟨blk, off, none⟩) ss.length cap] w fun e w' =>
      e = .returned (.tuple #[]) ∧ ∃ n os, w' = grow (putRow encStr (Sort.ahead w n) blk off (ss.mergeSort fun x y => decide (x ≤ y)).toArray) os := Any.slices_Sort_string lays190 blk off cap ss w hH hblk hsz
open Go.RowKit Go.Sort in
theorem slices_Sort_string_none (p : Option Addr) (cap : Nat) (w : World) :
    Calls Try.prog 28 #[.slice p 0 cap] w fun e w' => e = .returned (.tuple #[]) ∧ w' = w := Any.slices_Sort_string_none lays190 p cap w
end Go.Proofs.Ytabbkoegaoekkaa

namespace Go.Proofs.Ytabbkoegaoekkaa
open Go.RowKit Go.Proofs.Ytabbkoegaoekkaa.AM
set_option maxRecDepth 100000
set_option maxHeartbeats 4000000
noncomputable def body1920 : Code := (Try.f26.body).getD .skip
def F1920 : List Nat → Option (List Nat) := fun p => match p with
  | [1] => some [0, 1]
  | [1, 1] => some [0, 1, 5]
  | [1, 0, 1, 1] => some [1, 5, 11, 12, 13]
  | [1, 0, 0, 1, 0, 1, 1] => some [1, 5, 11, 12, 13, 14]
  | [1, 0, 1, 0, 0, 1, 0, 1, 1] => some [5]
  | [1, 1, 0, 0, 1, 0, 1, 1] => some [1, 5, 11, 12, 13]
  | [1, 0, 0, 1, 1, 0, 0, 1, 0, 1, 1] => some [1, 5, 6, 7, 11, 12, 13]
  | [1, 1, 0, 0, 1, 1, 0, 0, 1, 0, 1, 1] => some [1, 5, 6, 11, 12, 13, 21]
  | [1, 1, 1, 0, 0, 1, 0, 1, 1] => some [1, 5, 11, 12, 13]
  | [1, 1, 1] => some [5]
  | [1, 1, 1, 1] => some [4]
  | _ => none
noncomputable def body1921 : Code := (Try.f15.body).getD .skip
def F1921 : List Nat → Option (List Nat) := fun p => match p with
  | [1] => some [0, 1]
  | [1, 1] => some [0, 1, 5]
  | [1, 0, 1, 1] => some [1, 5, 11, 12, 13]
  | [1, 0, 0, 1, 0, 1, 1] => some [1, 5, 11, 12, 13, 14]
  | [1, 0, 1, 0, 0, 1, 0, 1, 1] => some [5]
  | [1, 1, 0, 0, 1, 0, 1, 1] => some [1, 5, 11, 12, 13]
  | [1, 0, 0, 1, 1, 0, 0, 1, 0, 1, 1] => some [1, 5, 7, 11, 12, 13]
  | [1, 1, 0, 0, 1, 1, 0, 0, 1, 0, 1, 1] => some [1, 5, 7, 11, 12, 13, 20]
  | [1, 1, 1, 0, 0, 1, 0, 1, 1] => some [1, 5, 11, 12, 13]
  | [1, 1, 1] => some [5]
  | [1, 1, 1, 1] => some [5]
  | [1, 1, 1, 1, 1] => some [4]
  | _ => none
/-! ### rows of tokens, whose they are -/
abbrev Tk := ByteArray × Int
def tkF (x : Tk) : Value := .string x.1
def tkG (x : Tk) : Value := .int .i64 x.2
def tkD (a b : Value) : Tk := (strV a, intV b)
structure TkOk (x : Tk) : Prop where
  s : x.1.size ≤ 1000000
  o : ZP .i64 x.2
abbrev TSl (cs : List Value) (l : List Tk) : Prop := PSl tkF tkG TkOk cs l
abbrev IsT (cs : List Value) (len cap : Nat) : Prop := IsP tkF tkG TkOk cs len cap
structure IsTL (F : List Tk) (cs : List Value) (m k : Nat) : Prop where
  row : TSl cs F
  len : m = F.length
  le : m ≤ k
noncomputable def tksAt (cs : List Value) (n : Nat) : List Tk := pairAt tkD cs n
theorem tksAt_eq {cs : List Value} {l : List Tk} (h : TSl cs l) : tksAt cs l.length = l := h.at fun _ => rfl
noncomputable def hT (mo : Int) (sp : Option Nat) (m k : Nat) (cs : List Value) (own : Bool) : List Blk := [.cells [.int .i64 mo, .slice (some ⟨1,0,sp⟩) m k] 2 true, .cells cs 2 own]
noncomputable def S1920 : Book := bookOf [(12, eqTC)]
noncomputable def T1920 (s : ByteArray) (at_ : Int) (sp : Option Nat) (m k i : Nat) : List Value := tmps 25 [(1, .string s), (5, .int .i64 at_), (11, .slice (some ⟨1,0,sp⟩) m k), (12, .int .i64 m), (13, .int .i64 i)]

theorem r1920 (s : ByteArray) (at_ : Int) (mo : Int) (sp : Option Nat) (m k i : Nat) (cs : List Value) (own : Bool) (K : Post) :
  roundX Try.prog S1920 noLoop F1920 body1920 2 [0] [] [0] [] [1,5,11,12,13] [0,0,1,0,1,1] (T1920 s at_ sp m k i) (hp (hT mo sp m k cs own)) K = (
Alt (ltI (↑i : Int) (↑m : Int))
  (Need (ltI (↑i : Int) (↑m : Int))
    (Need (isStr ((getO cs (0 + (↑i : Int).toNat * 2)).getD undef))
      (Need (isInt IntKind.i64 ((getO cs (0 + (↑i : Int).toNat * 2 + 1)).getD undef))
        (True ∧
          Need
              (leN (strV (Value.string (strV ((getO cs (0 + (↑i : Int).toNat * 2)).getD undef)))).size
                9223372036854775807)
              True ∧
            Alt (eqS (strV (Value.string (strV ((getO cs (0 + (↑i : Int).toNat * 2)).getD undef)))) s)
              (K AE.normal
                (tmps 25
                  [(1, Value.string s), (5, Value.int IntKind.i64 (↑i : Int)),
                    (11, Value.slice (some { block := 1, off := 0, spot := sp : Addr }) m k),
                    (12, Value.int IntKind.i64 (↑m : Int)),
                    (13, Value.int IntKind.i64 (wr IntKind.i64 ((↑i : Int) + 1)))])
                (hp
                  [Blk.cells
                      [Value.int IntKind.i64 mo, Value.slice (some { block := 1, off := 0, spot := sp : Addr }) m k] 2
                      true,
                    Blk.cells cs 2 own]))
              (K AE.normal
                (tmps 25
                  [(1, Value.string s), (5, Value.int IntKind.i64 at_),
                    (11, Value.slice (some { block := 1, off := 0, spot := sp : Addr }) m k),
                    (12, Value.int IntKind.i64 (↑m : Int)),
                    (13, Value.int IntKind.i64 (wr IntKind.i64 ((↑i : Int) + 1)))])
                (hp
                  [Blk.cells
                      [Value.int IntKind.i64 mo, Value.slice (some { block := 1, off := 0, spot := sp : Addr }) m k] 2
                      true,
                    Blk.cells cs 2 own]))))))
  (K (AE.exit 0) (tmps 25 [(5, Value.int IntKind.i64 at_)])
    (hp
      [Blk.cells [Value.int IntKind.i64 mo, Value.slice (some { block := 1, off := 0, spot := sp : Addr }) m k] 2 true,
        Blk.cells cs 2 own]))) := by kernel_rfl

noncomputable def T1921 (o : Int) (q q2 : Nat) (sp : Option Nat) (m k i : Nat) : List Value := tmps 30 [(1, .int .i64 o), (5, .slice (some ⟨2,0,some 1⟩) q q2), (11, .slice (some ⟨1,0,sp⟩) m k), (12, .int .i64 m), (13, .int .i64 i)]

theorem r1921 (o : Int) (mo : Int) (q q2 : Nat) (cq : List Value) (sp : Option Nat) (m k i : Nat) (cs : List Value) (own : Bool) (K : Post) :
  roundX Try.prog S0 noLoop F1921 body1921 2 [0] [.tmp 5 1] [0] [] [1,5,11,12,13] [0,0,1,0,1,1] (T1921 o q q2 sp m k i) (hp (hT mo sp m k cs own ++ [.cells cq 1 true])) K = (
Alt (ltI (↑i : Int) (↑m : Int))
  (Need (ltI (↑i : Int) (↑m : Int))
    (Need (isStr ((getO cs (0 + (↑i : Int).toNat * 2)).getD undef))
      (Need (isInt IntKind.i64 ((getO cs (0 + (↑i : Int).toNat * 2 + 1)).getD undef))
        (Alt (eqI (intV (Value.int IntKind.i64 (intV ((getO cs (0 + (↑i : Int).toNat * 2 + 1)).getD undef)))) o)
          (Need (leN (0 + q * 1) cq.length)
            (Need (leN ((q + 1) * 16) 1099511627776)
              (Need (leN (q + 1) 1099511627776)
                (K AE.normal
                  (tmps 30
                    [(1, Value.int IntKind.i64 o),
                      (5, Value.slice (some { block := 2, off := 0, spot := some 1 : Addr }) (q + 1) (q + 1)),
                      (11, Value.slice (some { block := 1, off := 0, spot := sp : Addr }) m k),
                      (12, Value.int IntKind.i64 (↑m : Int)),
                      (13, Value.int IntKind.i64 (wr IntKind.i64 ((↑i : Int) + 1)))])
                  (hp
                    [Blk.cells
                        [Value.int IntKind.i64 mo, Value.slice (some { block := 1, off := 0, spot := sp : Addr }) m k] 2
                        true,
                      Blk.cells cs 2 own,
                      Blk.cells
                        (List.take (q * 1) (List.drop 0 cq) ++
                          [Value.string (strV (Value.string (strV ((getO cs (0 + (↑i : Int).toNat * 2)).getD undef))))])
                        1 true])))))
          (K AE.normal
            (tmps 30
              [(1, Value.int IntKind.i64 o),
                (5, Value.slice (some { block := 2, off := 0, spot := some 1 : Addr }) q q2),
                (11, Value.slice (some { block := 1, off := 0, spot := sp : Addr }) m k),
                (12, Value.int IntKind.i64 (↑m : Int)), (13, Value.int IntKind.i64 (wr IntKind.i64 ((↑i : Int) + 1)))])
            (hp
              [Blk.cells [Value.int IntKind.i64 mo, Value.slice (some { block := 1, off := 0, spot := sp : Addr }) m k]
                  2 true,
                Blk.cells cs 2 own, Blk.cells cq 1 true]))))))
  (K (AE.exit 0) (tmps 30 [(5, Value.slice (some { block := 2, off := 0, spot := some 1 : Addr }) q q2)])
    (hp
      [Blk.cells [Value.int IntKind.i64 mo, Value.slice (some { block := 1, off := 0, spot := sp : Addr }) m k] 2 true,
        Blk.cells cs 2 own, Blk.cells cq 1 true]))) := by kernel_rfl

/-- where a token stands: the last place; before it was a -/
def placeF (s : ByteArray) : Nat → Int → List Tk → Int
  | _, a, [] => a
  | i, a, x :: t => placeF s (i + 1) (if eqS x.1 s then (i : Int) else a) t
def ofL (o : Int) : List Tk → List ByteArray
  | [] => []
  | x :: t => if eqI x.2 o then x.1 :: ofL o t else ofL o t
noncomputable def cut1920 (s : ByteArray) (mo : Int) (sp : Option Nat) (k : Nat) (cs : List Value) (own : Bool) (L : List Tk) : CutE where
  β := Nat × Int
  p := [0,1,0,1,1]
  t := fun x => T1920 s x.2 sp L.length k x.1
  h := fun x => hp (hT mo sp L.length k cs own)
  Q := fun x K => (placeF s x.1 x.2 (L.drop x.1) = placeF s 0 (-1) L) ∧ K (.exit 0) (tmps 25 [(5, .int .i64 (placeF s 0 (-1) L))]) (hp (hT mo sp L.length k cs own))

theorem w1920 (s : ByteArray) (mo : Int) (sp : Option Nat) (k : Nat) (cs : List Value) (own : Bool) (L : List Tk) (K : Value → Heap → Prop) :
  funX Try.prog S1920 (gcLKX (at0 [0]) (at0 []) 2 (cutE [cut1920 s mo sp k cs own L])) F1920 body1920 Try.f26 [0] [] [.pointer (some ⟨0,0,none⟩), .string s] (hp (hT mo sp L.length k cs own)) K = (
FlatD [0]
    (hp
      [Blk.cells [Value.int IntKind.i64 mo, Value.slice (some { block := 1, off := 0, spot := sp : Addr }) L.length k] 2
          true,
        Blk.cells cs 2 own]) ∧
  ∃ (b : Nat × Int),
    tmps 25
          [(1, Value.string s), (5, Value.int IntKind.i64 (-1)),
            (11, Value.slice (some { block := 1, off := 0, spot := sp : Addr }) L.length k),
            (12, Value.int IntKind.i64 (↑L.length : Int)), (13, Value.int IntKind.i64 0)] =
        tmps 25
          [(1, Value.string s), (5, Value.int IntKind.i64 b.snd),
            (11, Value.slice (some { block := 1, off := 0, spot := sp : Addr }) L.length k),
            (12, Value.int IntKind.i64 (↑L.length : Int)), (13, Value.int IntKind.i64 (↑b.fst : Int))] ∧
      hp
            [Blk.cells
                [Value.int IntKind.i64 mo, Value.slice (some { block := 1, off := 0, spot := sp : Addr }) L.length k] 2
                true,
              Blk.cells cs 2 own] =
          hp
            [Blk.cells
                [Value.int IntKind.i64 mo, Value.slice (some { block := 1, off := 0, spot := sp : Addr }) L.length k] 2
                true,
              Blk.cells cs 2 own] ∧
        placeF s b.fst b.snd (List.drop b.fst L) = placeF s 0 (-1) L ∧
          K (Value.int IntKind.i64 (placeF s 0 (-1) L))
            (hp
              [Blk.cells
                  [Value.int IntKind.i64 mo, Value.slice (some { block := 1, off := 0, spot := sp : Addr }) L.length k]
                  2 true,
                Blk.cells cs 2 own])) := by kernel_rfl

end Go.Proofs.Ytabbkoegaoekkaa

namespace Go.Proofs.Ytabbkoegaoekkaa
open Go.RowKit Go.Proofs.Ytabbkoegaoekkaa.AM
set_option maxRecDepth 100000
set_option maxHeartbeats 4000000
noncomputable def body1927 : Code := (Try.f30.body).getD .skip
def F1927 : List Nat → Option (List Nat) := fun p => match p with
  | [1] => some [0, 1, 2]
  | [1, 1] => some [0, 1, 2]
  | [1, 0, 1, 1] => some [0, 1, 2, 16]
  | [1, 0, 1, 0, 1, 1] => some [6]
  | [1, 1, 1] => some [0, 1, 2]
  | [1, 1, 1, 1] => some [0, 1, 2, 7]
  | [1, 1, 1, 1, 1] => some [0, 7]
  | [1, 1, 1, 1, 1, 1] => some [0]
  | [1, 1, 1, 1, 1, 1, 1] => some [6]
  | _ => none
theorem sure1920 (hmix : Try.prog.follows .mixedOrders = true) : Sure Try.prog S1920 := ⟨hmix, plain, bookOf_ok (l := [(12, eqTC)]) ⟨eqT_says hmix, trivial⟩⟩
noncomputable def placeC : CtrW where
  D := [0]
  W := []
  E := []
  pre := fun args blks => match args, blks with
    | [.pointer (some ⟨0,0,none⟩), .string _], [.cells [.int .i64 _, .slice (some ⟨1,0,_⟩) m k] 2 true, .cells cs 2 _] => IsT cs m k ∧ Need (leN m 1000000) True
    | _, _ => False
  val := fun args blks => match args, blks with
    | [.pointer (some ⟨0,0,none⟩), .string s], [.cells [.int .i64 _, .slice (some ⟨1,0,_⟩) m _] 2 true, .cells cs 2 _] => .int .i64 (placeF s 0 (-1) (tksAt cs m))
    | _, _ => undef
  out := fun _ blks => blks
theorem hT_flat {mo : Int} {sp : Option Nat} {m k : Nat} {cs : List Value} {own : Bool} (h : FlatL cs) : FlatD [0] (hp (hT mo sp m k cs own)) := FlatD.hp ⟨rfl, h, trivial⟩
theorem place_loop (hmix : Try.prog.follows .mixedOrders = true) (s : ByteArray) (mo : Int) (sp : Option Nat) (k : Nat) (cs : List Value) (own : Bool) (L : List Tk) (hB : TSl cs L) (hl : L.length ≤ 1000000) (K : Post)
    (hK : K (.exit 0) (tmps 25 [(5, .int .i64 (placeF s 0 (-1) L))]) (hp (hT mo sp L.length k cs own))) : ∀ (t : List Tk) (i : Nat) (a : Int), L.drop i = t → placeF s i a t = placeF s 0 (-1) L →
    LSays Try.prog 2 (sub body1920 [0,0,1,0,1,1]) (T1920 s a sp L.length k i) (hp (hT mo sp L.length k cs own)) K := by
  have hF := hT_flat (mo := mo) (sp := sp) (m := L.length) (k := k) (own := own) hB.flat
  unfold hT at hF hK
  intro t
  induction t with
  | nil =>
    intro i a ht ha
    have hge : ¬ ((i : Int) < (L.length : Int)) := by have := List.drop_eq_nil_iff.1 ht; omega
    refine (sure1920 hmix).roundX F1920 noLoops [0] [] [0] [] [1,5,11,12,13] ?_
    rw [r1920]
    simp only [hge, hF, Alt_iff, Need_iff, ltI_eq, leI_eq, eqI_eq, leN_eq, eqN_eq, decide_eq_true_eq, decide_eq_false_iff_not, decide_true, decide_false, true_and, and_true, Bool.true_eq_false, Bool.false_eq_true, false_implies, true_implies, implies_true, not_true_eq_false, not_false_eq_true, Bool.not_eq_true', Bool.not_eq_false', Nat.zero_add, Nat.add_zero, Nat.sub_zero, Nat.zero_mul, Nat.mul_one, Int.toNat_natCast, List.drop_zero, beqV_int, beqV_sl, beqV_str, beqV_bool, beqV_ptr, beqV_flt, beqV_agg, beqV_tuple, List.all_cons, List.all_nil, Bool.and_self, Bool.and_true, Bool.true_and, Nat.le_refl, Int.le_refl, Nat.zero_le, Option.getD_some, isStr, strV, isInt, intV, isBool, boolV, kindEq, at0, isJunk, Option.isSome_some, Option.isSome_none, if_true, if_false, Nat.add_sub_cancel_left, Nat.add_sub_cancel]
    rw [show a = placeF s 0 (-1) L from ha]
    exact hK
  | cons x t ih =>
    intro i a ht ha
    obtain ⟨hlt, hx, hd⟩ := cons_of_drop ht
    have hok := hB.ok x (List.mem_of_getElem? hx)
    have hs := hok.s
    refine (sure1920 hmix).roundX F1920 noLoops [0] [] [0] [] [1,5,11,12,13] ?_
    rw [r1920]
    simp only [show (i : Int) < (L.length : Int) by omega, hB.get0 hx, hB.get1 hx, tkF, tkG, nx i (by omega), hF, show x.1.size ≤ 9223372036854775807 by omega, Alt_iff, Need_iff, ltI_eq, leI_eq, eqI_eq, leN_eq, eqN_eq, decide_eq_true_eq, decide_eq_false_iff_not, decide_true, decide_false, true_and, and_true, Bool.true_eq_false, Bool.false_eq_true, false_implies, true_implies, implies_true, not_true_eq_false, not_false_eq_true, Bool.not_eq_true', Bool.not_eq_false', Nat.zero_add, Nat.add_zero, Nat.sub_zero, Nat.zero_mul, Nat.mul_one, Int.toNat_natCast, List.drop_zero, beqV_int, beqV_sl, beqV_str, beqV_bool, beqV_ptr, beqV_flt, beqV_agg, beqV_tuple, List.all_cons, List.all_nil, Bool.and_self, Bool.and_true, Bool.true_and, Nat.le_refl, Int.le_refl, Nat.zero_le, Option.getD_some, isStr, strV, isInt, intV, isBool, boolV, kindEq, at0, isJunk, Option.isSome_some, Option.isSome_none, if_true, if_false, Nat.add_sub_cancel_left, Nat.add_sub_cancel]
    rw [placeF] at ha
    refine ⟨fun h => ?_, fun h => ?_⟩
    · exact ih (i + 1) i hd (by rw [if_pos h] at ha; exact ha)
    · exact ih (i + 1) a hd (by rw [if_neg (by rw [h]; simp)] at ha; exact ha)
theorem place_says (hmix : Try.prog.follows .mixedOrders = true) : placeC.Holds Try.prog 26 := by
  intro args blks hf hp
  simp only [placeC] at hp ⊢
  split at hp
  · rename_i s mo sp m k cs own
    obtain ⟨⟨L, rfl, hc, hB⟩, hl⟩ := hp
    simp only [Alt_iff, Need_iff, ltI_eq, leI_eq, eqI_eq, leN_eq, eqN_eq, decide_eq_true_eq, decide_eq_false_iff_not, decide_true, decide_false, true_and, and_true, Bool.true_eq_false, Bool.false_eq_true, false_implies, true_implies, implies_true, not_true_eq_false, not_false_eq_true, Bool.not_eq_true', Bool.not_eq_false'] at hl
    simp only [tksAt_eq hB]
    refine ⟨⟨rfl, rfl, trivial⟩, trivial, ?_⟩
    have hL : Loops Try.prog body1920 2 (cutE [cut1920 s mo sp k cs own L]) := Loops.noneE.moreE _ fun x K hQ => by
      obtain ⟨h1, h2⟩ := hQ
      exact place_loop hmix s mo sp k cs own L hB hl K h2 _ x.1 x.2 rfl h1
    have hF := hT_flat (mo := mo) (sp := sp) (m := L.length) (k := k) (own := own) hB.flat
    refine (sure1920 hmix).funX F1920 body1920 [0] [] Try.func26 rfl (hL.gcX (at0 [0]) (at0 [])) ?_
    have hw := w1920 s mo sp k cs own L
    unfold hT at hw hF
    rw [hw]
    exact ⟨hF, (0, -1), rfl, rfl, rfl, hF, rfl, rfl, rfl⟩
  · exact hp.elim

theorem w1927 (m k i j : Nat) (sp : Option Nat) (cs : List Value) (K : Value → Heap → Prop) :
  funX Try.prog S0 noLoop F1927 body1927 Try.f30 [] [.tmp 0 2] [.slice (some ⟨0,0,some 1⟩) m k, .int .i64 i, .int .i64 j] (hp [.cells cs 2 true]) K = (
Need (leI (↑m : Int) (↑k : Int))
  (Need (leI (↑j : Int) (↑(↑m : Int).toNat : Int))
    (Need (leI (↑i : Int) (↑(↑j : Int).toNat : Int))
      (Alt (eqI (↑i : Int) (↑j : Int))
        (K (Value.slice (some { block := 0, off := 0, spot := some 1 : Addr }) m k) (hp [Blk.cells cs 2 true]))
        (Need (leI (↑i : Int) (↑k : Int))
          (Need (leI (↑j : Int) (↑m : Int))
            (Need (leN (0 + (↑j : Int).toNat * 2 + (m - (↑j : Int).toNat) * 2) cs.length)
              (Need (leN (0 + ((↑i : Int).toNat - 0) * 2) cs.length)
                (Alt (leN ((↑i : Int).toNat - 0 + (m - (↑j : Int).toNat)) (k - 0))
                  (Alt (eqN (m - (↑j : Int).toNat) 0)
                    (Need (leI (↑m : Int) (↑(k - 0) : Int))
                      (Need (leI (↑((↑i : Int).toNat - 0) : Int) (↑(↑m : Int).toNat : Int))
                        (Alt (eqN ((↑m : Int).toNat - (↑((↑i : Int).toNat - 0) : Int).toNat) 0)
                          (K
                            (Value.slice (some { block := 0, off := 0, spot := some 1 : Addr }) ((↑i : Int).toNat - 0)
                              (k - 0))
                            (hp [Blk.cells cs 2 true]))
                          (Need
                            (leN
                              (0 + (↑((↑i : Int).toNat - 0) : Int).toNat * 2 +
                                (repl ((↑m : Int).toNat - (↑((↑i : Int).toNat - 0) : Int).toNat)
                                    [Value.string { data := #[] : ByteArray }, Value.int IntKind.i64 0]).length)
                              cs.length)
                            (Need
                              ((repl ((↑m : Int).toNat - (↑((↑i : Int).toNat - 0) : Int).toNat)
                                    [Value.string { data := #[] : ByteArray }, Value.int IntKind.i64 0]).all
                                oneV)
                              (K
                                (Value.slice (some { block := 0, off := 0, spot := some 1 : Addr })
                                  ((↑i : Int).toNat - 0) (k - 0))
                                (hp
                                  [Blk.cells
                                      (setAll cs (0 + (↑((↑i : Int).toNat - 0) : Int).toNat * 2)
                                        (repl ((↑m : Int).toNat - (↑((↑i : Int).toNat - 0) : Int).toNat)
                                          [Value.string { data := #[] : ByteArray }, Value.int IntKind.i64 0]))
                                      2 true])))))))
                    (Need
                      (leN
                        (0 + ((↑i : Int).toNat - 0) * 2 +
                          (List.take ((m - (↑j : Int).toNat) * 2) (List.drop (0 + (↑j : Int).toNat * 2) cs)).length)
                        cs.length)
                      (Need
                        ((List.take ((m - (↑j : Int).toNat) * 2) (List.drop (0 + (↑j : Int).toNat * 2) cs)).all oneV)
                        (Need (leI (↑m : Int) (↑(k - 0) : Int))
                          (Need (leI (↑((↑i : Int).toNat - 0 + (m - (↑j : Int).toNat)) : Int) (↑(↑m : Int).toNat : Int))
                            (Alt
                              (eqN ((↑m : Int).toNat - (↑((↑i : Int).toNat - 0 + (m - (↑j : Int).toNat)) : Int).toNat)
                                0)
                              (K
                                (Value.slice (some { block := 0, off := 0, spot := some 1 : Addr })
                                  ((↑i : Int).toNat - 0 + (m - (↑j : Int).toNat)) (k - 0))
                                (hp
                                  [Blk.cells
                                      (setAll cs (0 + ((↑i : Int).toNat - 0) * 2)
                                        (List.take ((m - (↑j : Int).toNat) * 2)
                                          (List.drop (0 + (↑j : Int).toNat * 2) cs)))
                                      2 true]))
                              (Need
                                (leN
                                  (0 + (↑((↑i : Int).toNat - 0 + (m - (↑j : Int).toNat)) : Int).toNat * 2 +
                                    (repl
                                        ((↑m : Int).toNat -
                                          (↑((↑i : Int).toNat - 0 + (m - (↑j : Int).toNat)) : Int).toNat)
                                        [Value.string { data := #[] : ByteArray }, Value.int IntKind.i64 0]).length)
                                  (setAll cs (0 + ((↑i : Int).toNat - 0) * 2)
                                      (List.take ((m - (↑j : Int).toNat) * 2)
                                        (List.drop (0 + (↑j : Int).toNat * 2) cs))).length)
                                (Need
                                  ((repl
                                        ((↑m : Int).toNat -
                                          (↑((↑i : Int).toNat - 0 + (m - (↑j : Int).toNat)) : Int).toNat)
                                        [Value.string { data := #[] : ByteArray }, Value.int IntKind.i64 0]).all
                                    oneV)
                                  (K
                                    (Value.slice (some { block := 0, off := 0, spot := some 1 : Addr })
                                      ((↑i : Int).toNat - 0 + (m - (↑j : Int).toNat)) (k - 0))
                                    (hp
                                      [Blk.cells
                                          (setAll
                                            (setAll cs (0 + ((↑i : Int).toNat - 0) * 2)
                                              (List.take ((m - (↑j : Int).toNat) * 2)
                                                (List.drop (0 + (↑j : Int).toNat * 2) cs)))
                                            (0 + (↑((↑i : Int).toNat - 0 + (m - (↑j : Int).toNat)) : Int).toNat * 2)
                                            (repl
                                              ((↑m : Int).toNat -
                                                (↑((↑i : Int).toNat - 0 + (m - (↑j : Int).toNat)) : Int).toNat)
                                              [Value.string { data := #[] : ByteArray }, Value.int IntKind.i64 0]))
                                          2 true]))))))))))
                  (Need (leN (((↑i : Int).toNat - 0 + (m - (↑j : Int).toNat)) * 24) 1099511627776)
                    (Need (leN ((↑i : Int).toNat - 0 + (m - (↑j : Int).toNat)) 1099511627776)
                      (Need
                        ((List.take ((m - (↑j : Int).toNat) * 2) (List.drop (0 + (↑j : Int).toNat * 2) cs)).all oneV)
                        (Need (leI (↑m : Int) (↑((↑i : Int).toNat - 0 + (m - (↑j : Int).toNat)) : Int))
                          (Need (leI (↑((↑i : Int).toNat - 0 + (m - (↑j : Int).toNat)) : Int) (↑(↑m : Int).toNat : Int))
                            (Alt
                              (eqN ((↑m : Int).toNat - (↑((↑i : Int).toNat - 0 + (m - (↑j : Int).toNat)) : Int).toNat)
                                0)
                              (K
                                (Value.slice (some { block := 1, off := 0, spot := some 1 : Addr })
                                  ((↑i : Int).toNat - 0 + (m - (↑j : Int).toNat))
                                  ((↑i : Int).toNat - 0 + (m - (↑j : Int).toNat)))
                                (hp
                                  [Blk.dead,
                                    Blk.cells
                                      (List.take (((↑i : Int).toNat - 0) * 2) (List.drop 0 cs) ++
                                        List.take ((m - (↑j : Int).toNat) * 2)
                                          (List.drop (0 + (↑j : Int).toNat * 2) cs))
                                      2 true]))
                              (Need
                                (leN
                                  (0 + (↑((↑i : Int).toNat - 0 + (m - (↑j : Int).toNat)) : Int).toNat * 2 +
                                    (repl
                                        ((↑m : Int).toNat -
                                          (↑((↑i : Int).toNat - 0 + (m - (↑j : Int).toNat)) : Int).toNat)
                                        [Value.string { data := #[] : ByteArray }, Value.int IntKind.i64 0]).length)
                                  (List.take (((↑i : Int).toNat - 0) * 2) (List.drop 0 cs) ++
                                      List.take ((m - (↑j : Int).toNat) * 2)
                                        (List.drop (0 + (↑j : Int).toNat * 2) cs)).length)
                                (Need
                                  ((repl
                                        ((↑m : Int).toNat -
                                          (↑((↑i : Int).toNat - 0 + (m - (↑j : Int).toNat)) : Int).toNat)
                                        [Value.string { data := #[] : ByteArray }, Value.int IntKind.i64 0]).all
                                    oneV)
                                  (K
                                    (Value.slice (some { block := 1, off := 0, spot := some 1 : Addr })
                                      ((↑i : Int).toNat - 0 + (m - (↑j : Int).toNat))
                                      ((↑i : Int).toNat - 0 + (m - (↑j : Int).toNat)))
                                    (hp
                                      [Blk.dead,
                                        Blk.cells
                                          (setAll
                                            (List.take (((↑i : Int).toNat - 0) * 2) (List.drop 0 cs) ++
                                              List.take ((m - (↑j : Int).toNat) * 2)
                                                (List.drop (0 + (↑j : Int).toNat * 2) cs))
                                            (0 + (↑((↑i : Int).toNat - 0 + (m - (↑j : Int).toNat)) : Int).toNat * 2)
                                            (repl
                                              ((↑m : Int).toNat -
                                                (↑((↑i : Int).toNat - 0 + (m - (↑j : Int).toNat)) : Int).toNat)
                                              [Value.string { data := #[] : ByteArray }, Value.int IntKind.i64 0]))
                                          2 true]))))))))))))))))))) := by kernel_rfl

end Go.Proofs.Ytabbkoegaoekkaa

namespace Go.Proofs.Ytabbkoegaoekkaa
open Go.RowKit Go.Proofs.Ytabbkoegaoekkaa.AM
set_option maxRecDepth 100000
set_option maxHeartbeats 4000000
theorem tk_flat (a : Tk) : flat (tkF a) = true := rfl
theorem tk_flatG (a : Tk) : flat (tkG a) = true := rfl
theorem tk_one (a : Tk) : oneV (tkF a) = true := rfl
theorem tk_oneG (a : Tk) : oneV (tkG a) = true := rfl
noncomputable def delX : CtrX (List Value × Nat) where
  D := []
  W := [0]
  E := []
  pre := fun args blks => match args, blks with
    | [.slice (some ⟨0,0,some 1⟩) m k, .int .i64 i, .int .i64 j], [.cells cs 2 true] => IsT cs m k ∧ Need (leI 0 i) (Need (ltI i m) (Need (eqI j (i + 1)) (Need (leN m 1000000) True)))
    | _, _ => False
  rel := fun args blks x => match args, blks with
    | [.slice (some ⟨0,0,some 1⟩) m k, .int .i64 i, .int .i64 j], [.cells cs 2 true] => IsTL ((tksAt cs m).eraseIdx i.toNat) x.1 (m - 1) x.2
    | _, _ => False
  val := fun args blks x => match args with
    | [.slice (some ⟨0,0,some 1⟩) m k, _, _] => .slice (some ⟨0,0,some 1⟩) (m - 1) x.2
    | _ => undef
  out := fun args blks x => [.cells x.1 2 true]
theorem del_says (hmix : Try.prog.follows .mixedOrders = true) : delX.Holds Try.prog 30 := by
  intro args blks hf hp
  simp only [delX] at hp ⊢
  split at hp
  · rename_i m k i j cs
    obtain ⟨⟨L, rfl, hc, hB⟩, hl⟩ := hp
    simp only [Alt_iff, Need_iff, ltI_eq, leI_eq, eqI_eq, leN_eq, eqN_eq, decide_eq_true_eq, decide_eq_false_iff_not, decide_true, decide_false, true_and, and_true, Bool.true_eq_false, Bool.false_eq_true, false_implies, true_implies, implies_true, not_true_eq_false, not_false_eq_true, Bool.not_eq_true', Bool.not_eq_false'] at hl
    obtain ⟨h0, h1, rfl, h2⟩ := hl
    obtain ⟨i, rfl⟩ := Int.eq_ofNat_of_zero_le h0
    have h1 : i < L.length := by omega
    have hsz := hB.size
    have e1 := hB.dropN (i + 1) (by omega)
    have e2 := hB.takeN i (by omega)
    have hal : (pC tkF tkG (L.drop (i + 1))).all oneV = true := pC_one tk_one tk_oneG _
    have hcs : cs = pC tkF tkG (L.take i) ++ cs.drop (i * 2) := by rw [← e2, List.take_append_drop]
    have hli : (pC tkF tkG (L.take i)).length = i * 2 := by rw [pC_len, List.length_take]; omega
    have hld : (pC tkF tkG (L.drop (i + 1))).length = (L.length - (i + 1)) * 2 := by rw [pC_len, List.length_drop]
    have hee : L.eraseIdx i = L.take i ++ L.drop (i + 1) := List.eraseIdx_eq_take_drop_succ _ _
    have hlee : (L.eraseIdx i).length = L.length - 1 := by rw [List.length_eraseIdx]; simp [h1]
    have hok : ∀ x ∈ L.eraseIdx i, TkOk x := fun x hx => hB.ok x (List.mem_of_mem_eraseIdx hx)
    obtain ⟨R, hR⟩ : ∃ R, R = ((cs.drop (i * 2)).drop ((L.length - (i + 1)) * 2)).drop 2 := ⟨_, rfl⟩
    have hX : TSl (pC tkF tkG (L.eraseIdx i) ++ ([Value.string { data := #[] }, Value.int .i64 0] ++ R)) (L.eraseIdx i) := PSl.own tk_flat tk_flatG hok _ ⟨fun x hx => by
      rcases List.mem_append.1 hx with hx | hx
      · simp at hx; rcases hx with rfl | rfl <;> rfl
      · rw [hR] at hx; exact hB.flat.1 x (List.mem_of_mem_drop (List.mem_of_mem_drop (List.mem_of_mem_drop hx)))⟩
    have hdl : (cs.drop (i * 2)).length = cs.length - i * 2 := List.length_drop
    simp only [tksAt_eq hB, Int.toNat_natCast]
    refine ⟨(_, k), ⟨hX, hlee.symm, by show L.length - 1 ≤ k; omega⟩, ⟨trivial, trivial⟩, ⟨hX.flat, trivial⟩, ?_⟩
    refine (sure0 hmix).funX F1927 body1927 [] [.tmp 0 2] Try.func30 rfl noLoops ?_
    have hw := w1927 L.length k i (i + 1) none cs
    rw [show (((i + 1 : Nat)) : Int) = (i : Int) + 1 from rfl] at hw
    rw [hw]
    have hF := fun (a : List Value) (h : FlatL a) => (FlatD.hp (D := []) (l := [.cells a 2 true]) ⟨h, trivial⟩)
    rw [show ((i : Int) + 1) = ((i + 1 : Nat) : Int) from rfl]
    simp only [Int.toNat_natCast, Nat.sub_zero, Nat.zero_add, e1, show (L.length : Int) ≤ (k : Int) by omega, show (((i + 1 : Nat)) : Int) ≤ (L.length : Int) by omega, show (i : Int) ≤ (((i + 1 : Nat)) : Int) by omega, show ¬ (i : Int) = (((i + 1 : Nat)) : Int) by omega, show (i : Int) ≤ (k : Int) by omega,
      show (i + 1) * 2 + (L.length - (i + 1)) * 2 ≤ cs.length by omega, show i * 2 ≤ cs.length by omega, show i + (L.length - (i + 1)) ≤ k by omega, hld, show L.length - i = 1 + (L.length - (i + 1)) by omega, show i + (L.length - (i + 1)) = L.length - 1 by omega, show L.length - (L.length - 1) = 1 by omega, hal, repl_1, Alt_iff, Need_iff, ltI_eq, leI_eq, eqI_eq, leN_eq, eqN_eq, decide_eq_true_eq, decide_eq_false_iff_not, decide_true, decide_false, true_and, and_true, Bool.true_eq_false, Bool.false_eq_true, false_implies, true_implies, implies_true, not_true_eq_false, not_false_eq_true, Bool.not_eq_true', Bool.not_eq_false', Nat.zero_add, Nat.add_zero, Nat.sub_zero, Nat.zero_mul, Nat.mul_one, Int.toNat_natCast, List.drop_zero, beqV_int, beqV_sl, beqV_str, beqV_bool, beqV_ptr, beqV_flt, beqV_agg, beqV_tuple, List.all_cons, List.all_nil, Bool.and_self, Bool.and_true, Bool.true_and, Nat.le_refl, Int.le_refl, Nat.zero_le, Option.getD_some, isStr, strV, isInt, intV, isBool, boolV, kindEq, at0, isJunk, Option.isSome_some, Option.isSome_none, if_true, if_false, Nat.add_sub_cancel_left, Nat.add_sub_cancel]
    have hs1 : L.length - (i + 1) = 0 → setAll cs (i * 2) [Value.string { data := #[] }, Value.int .i64 0] = pC tkF tkG (L.eraseIdx i) ++ ([Value.string { data := #[] }, Value.int .i64 0] ++ R) := fun hz => by
      rw [hee, List.drop_eq_nil_of_le (show L.length ≤ i + 1 by omega), List.append_nil, hR, hz, Nat.zero_mul, List.drop_zero]
      conv => lhs; rw [hcs]
      rw [setAll_at _ _ _ _ hli (by rw [hdl]; simp; omega), List.append_assoc]
      rw [hcs, List.drop_left' hli]
      rfl
    have hs2 : setAll (setAll cs (i * 2) (pC tkF tkG (L.drop (i + 1)))) ((L.length - 1) * 2) [Value.string { data := #[] }, Value.int .i64 0] = pC tkF tkG (L.eraseIdx i) ++ ([Value.string { data := #[] }, Value.int .i64 0] ++ R) := by
      conv => lhs; rw [hcs]
      rw [setAll_at _ _ _ _ hli (by rw [hdl, hld]; omega), ← pC_append, ← hee, setAll_at _ _ _ _ (by rw [pC_len, hlee]) (by rw [List.length_drop, hdl, hld]; simp; omega), List.append_assoc, hR, hld]
      rfl
    have hln : (setAll cs (i * 2) (pC tkF tkG (L.drop (i + 1)))).length = cs.length := by
      conv => lhs; rw [hcs]
      rw [setAll_at _ _ _ _ hli (by rw [hdl, hld]; omega), List.length_append, List.length_append, hli, hld, List.length_drop, hdl]; omega
    rw [hln, hs2]
    have hFX := hF _ hX.flat
    have hm : ((L.length - 1 : Nat) : Int) ≤ (L.length : Int) := by omega
    refine ⟨fun _ => ⟨fun hz => ⟨by omega, fun h => by omega, fun _ => ?_⟩, fun hz => ⟨by omega, hm, fun h => by omega, fun _ => ⟨by simp; omega, rfl, hFX, rfl⟩⟩⟩, fun hn => by omega⟩
    rw [hz, Nat.add_zero, repl_1, hs1 hz]
    exact ⟨by simp; omega, rfl, hFX, by rw [show i = L.length - 1 by omega], rfl⟩
  · exact hp.elim
end Go.Proofs.Ytabbkoegaoekkaa

namespace Go.Proofs.Ytabbkoegaoekkaa
open Go.RowKit Go.Proofs.Ytabbkoegaoekkaa.AM
set_option maxRecDepth 100000
set_option maxHeartbeats 4000000
/-- texts in order -/
noncomputable def srtB (l : List (List UInt8)) : List (List UInt8) := l.mergeSort fun x y => decide (x ≤ y)
def byB (s : ByteArray) : List UInt8 := s.data.toList
def toB (l : List UInt8) : ByteArray := ⟨l.toArray⟩
noncomputable def srt (l : List ByteArray) : List ByteArray := (srtB (l.map byB)).map toB
noncomputable def sortS (cs : List Value) : List Value := (srtB (cs.map fun v => byB (strV v))).map fun b => .string (toB b)
noncomputable def sortV (_ : List Value) (_ : Nat) : Value := .tuple #[]
noncomputable def sortSC : CtrW := rowCtr (fun b : List UInt8 => Value.string (toB b)) sortS sortV
theorem sortS_map (zs : List (List UInt8)) : sortS (zs.map fun b => Value.string (toB b)) = (srtB zs).map fun b => Value.string (toB b) := by
  unfold sortS
  rw [List.map_map, show ((fun v => byB (strV v)) ∘ fun b => Value.string (toB b)) = id from funext fun b => rfl, List.map_id]
theorem sort_says (hmix : Try.prog.follows .mixedOrders = true) : sortSC.Holds Try.prog 28 := by
  refine rowCtr_holds srtB (fun _ _ _ _ => .tuple #[]) Try.func28 rfl (fun _ => rfl) (fun zs => List.length_mergeSort _) (fun zs => sortS_map zs) (fun zs ρ l o' cap cc h1 h2 h3 h4 h5 => sort_V (enc := fun b : List UInt8 => Value.string (toB b)) zs ρ l o' cap cc h1 h2 h3 h4 h5) (fun sp cap e q hx hq => ?_) fun blk off cap zs w h1 h2 h3 h4 => slices_Sort_string blk off cap zs w h1 h2 h3
  refine ⟨_, Try.func28, rfl, fun ρ w args' ht r ha => ?_⟩
  obtain ⟨y, ys, rfl, hy, hys⟩ := ha.of_cons
  obtain rfl := hys.of_nil
  have hz : ∃ p c, y = .slice p 0 c := by
    rcases hy.of_slice with ⟨_, _, _, a, rfl, _⟩ | ⟨cc, l, o', rfl, _⟩
    · exact ⟨_, _, rfl⟩
    · exact ⟨_, _, rfl⟩
  obtain ⟨p, c, rfl⟩ := hz
  refine (slices_Sort_string_none p c w).mono ?_
  rintro e' w' ⟨rfl, rfl⟩
  exact ⟨_, _, ρ, _, rfl, ⟨rfl, rfl⟩, ht, r, Frk.refl (Nat.le_refl _), .tuple #[] #[] rfl fun i x y hx => by simp at hx⟩
theorem sbW : SumsOk Try.prog (bookOf []).sums := bookOf_ok trivial
noncomputable def S1921 : Book := bookW [(28, sortSC)] (bookOf [])
theorem sure1921 (hmix : Try.prog.follows .mixedOrders = true) : Sure Try.prog S1921 := ⟨hmix, plain, bookW_ok (l := [(28, sortSC)]) sbW ⟨sort_says hmix, trivial⟩⟩
structure SOk (s : ByteArray) : Prop where
  s : s.size ≤ 1000000
abbrev SSl (cs : List Value) (l : List ByteArray) : Prop := ESl sE SOk cs 0 l
structure IsS (F : List ByteArray) (cs : List Value) (m k : Nat) : Prop where
  row : SSl cs F
  len : m = F.length
  le : m ≤ k
noncomputable def cut1921 (o : Int) (mo : Int) (sp : Option Nat) (k : Nat) (cs : List Value) (own : Bool) (L : List Tk) : CutE where
  β := Nat × List ByteArray
  p := [0,1,0,1,1]
  t := fun x => T1921 o x.2.length x.2.length sp L.length k x.1
  h := fun x => hp (hT mo sp L.length k cs own ++ [.cells (eC sE x.2) 1 true])
  Q := fun x K => (x.2 ++ ofL o (L.drop x.1) = ofL o L) ∧ K (.exit 0) (tmps 30 [(5, .slice (some ⟨2,0,some 1⟩) (ofL o L).length (ofL o L).length)]) (hp (hT mo sp L.length k cs own ++ [.cells (eC sE (ofL o L)) 1 true]))

theorem w1921 (o : Int) (mo : Int) (sp : Option Nat) (k : Nat) (cs : List Value) (own : Bool) (L : List Tk) (K : Value → Heap → Prop) :
  funX Try.prog S1921 (gcLKX (at0 [0]) (at0 [.tmp 5 1]) 2 (cutE [cut1921 o mo sp k cs own L])) F1921 body1921 Try.f15 [0] [] [.pointer (some ⟨0,0,none⟩), .int .i64 o] (hp (hT mo sp L.length k cs own)) K = (
FlatD [0]
    (hp
      [Blk.cells [Value.int IntKind.i64 mo, Value.slice (some { block := 1, off := 0, spot := sp : Addr }) L.length k] 2
          true,
        Blk.cells cs 2 own, Blk.cells [] 1 true]) ∧
  ∃ (b : Nat × List ByteArray),
    tmps 30
          [(1, Value.int IntKind.i64 o), (5, Value.slice (some { block := 2, off := 0, spot := some 1 : Addr }) 0 0),
            (11, Value.slice (some { block := 1, off := 0, spot := sp : Addr }) L.length k),
            (12, Value.int IntKind.i64 (↑L.length : Int)), (13, Value.int IntKind.i64 0)] =
        tmps 30
          [(1, Value.int IntKind.i64 o),
            (5, Value.slice (some { block := 2, off := 0, spot := some 1 : Addr }) b.snd.length b.snd.length),
            (11, Value.slice (some { block := 1, off := 0, spot := sp : Addr }) L.length k),
            (12, Value.int IntKind.i64 (↑L.length : Int)), (13, Value.int IntKind.i64 (↑b.fst : Int))] ∧
      hp
            [Blk.cells
                [Value.int IntKind.i64 mo, Value.slice (some { block := 1, off := 0, spot := sp : Addr }) L.length k] 2
                true,
              Blk.cells cs 2 own, Blk.cells [] 1 true] =
          hp
            [Blk.cells
                [Value.int IntKind.i64 mo, Value.slice (some { block := 1, off := 0, spot := sp : Addr }) L.length k] 2
                true,
              Blk.cells cs 2 own, Blk.cells (eC sE b.snd) 1 true] ∧
        b.snd ++ ofL o (List.drop b.fst L) = ofL o L ∧
          (FlatL (eC sE (ofL o L)) ∧ True) ∧
            RowPre (fun (b : List UInt8) => Value.string (toB b)) (some 1) (ofL o L).length (ofL o L).length
                (eC sE (ofL o L)) ∧
              K (Value.slice (some { block := 2, off := 0, spot := some 1 : Addr }) (ofL o L).length (ofL o L).length)
                (hp
                  [Blk.cells
                      [Value.int IntKind.i64 mo,
                        Value.slice (some { block := 1, off := 0, spot := sp : Addr }) L.length k]
                      2 true,
                    Blk.cells cs 2 own, Blk.cells (rowC sortS (ofL o L).length (eC sE (ofL o L))) 1 true])) := by kernel_rfl

end Go.Proofs.Ytabbkoegaoekkaa

namespace Go.Proofs.Ytabbkoegaoekkaa
open Go.RowKit Go.Proofs.Ytabbkoegaoekkaa.AM
set_option maxRecDepth 100000
set_option maxHeartbeats 4000000
theorem srow_more {cs : List Value} {R : List ByteArray} (h : SSl cs R) {x : ByteArray} (hx : SOk x) (hl : R.length ≤ 1000000) : List.take (R.length * 1) (List.drop 0 cs) ++ [Value.string x] = eC sE (R ++ [x]) ∧ SSl (eC sE (R ++ [x])) (R ++ [x]) := by
  obtain ⟨t1, _⟩ := h.whole
  rw [List.drop_zero] at t1
  refine ⟨by rw [Nat.mul_one, List.drop_zero, t1, eC_append]; rfl, ?_⟩
  exact ESl.own flat_s (fun y hy => (List.mem_append.1 hy).elim (h.ok y) fun hh => by simp at hh; rw [hh]; exact hx) (by simp; omega)
theorem srow_size {cs : List Value} {R : List ByteArray} (h : SSl cs R) : R.length ≤ cs.length := by have := h.whole.2; omega
theorem ofL_len (o : Int) : ∀ L : List Tk, (ofL o L).length ≤ L.length := by
  intro L
  induction L with
  | nil => exact Nat.le_refl _
  | cons x t ih => unfold ofL; split <;> simp <;> omega
theorem ofL_mem {o : Int} {s : ByteArray} : ∀ {L : List Tk}, s ∈ ofL o L ↔ ∃ x ∈ L, x.2 = o ∧ x.1 = s := by
  intro L
  induction L with
  | nil => simp [ofL]
  | cons x t ih =>
    unfold ofL
    by_cases h : eqI x.2 o = true
    · rw [if_pos h, List.mem_cons, ih]
      simp [eqI_iff.1 h]; constructor <;> (intro q; rcases q with q | q <;> simp [q])
    · rw [if_neg h, ih]
      have : ¬ x.2 = o := fun hh => h (eqI_iff.2 hh)
      simp [this]
theorem hT3_flat {mo : Int} {sp : Option Nat} {m k : Nat} {cs cq : List Value} {own : Bool} (h : FlatL cs) (hq : FlatL cq) : FlatD [0] (hp [.cells [.int .i64 mo, .slice (some ⟨1,0,sp⟩) m k] 2 true, .cells cs 2 own, .cells cq 1 true]) := FlatD.hp ⟨rfl, h, hq, trivial⟩
theorem of_loop (hmix : Try.prog.follows .mixedOrders = true) (o : Int) (mo : Int) (sp : Option Nat) (k : Nat) (cs : List Value) (own : Bool) (L : List Tk) (hB : TSl cs L) (hl : L.length ≤ 1000000) (K : Post)
    (hK : K (.exit 0) (tmps 30 [(5, .slice (some ⟨2,0,some 1⟩) (ofL o L).length (ofL o L).length)]) (hp (hT mo sp L.length k cs own ++ [.cells (eC sE (ofL o L)) 1 true]))) : ∀ (t : List Tk) (i : Nat) (F : List ByteArray), L.drop i = t → F ++ ofL o t = ofL o L →
    LSays Try.prog 2 (sub body1921 [0,0,1,0,1,1]) (T1921 o F.length F.length sp L.length k i) (hp (hT mo sp L.length k cs own ++ [.cells (eC sE F) 1 true])) K := by
  have hll := ofL_len o L
  intro t
  induction t with
  | nil =>
    intro i F ht ha
    have hge : ¬ ((i : Int) < (L.length : Int)) := by have := List.drop_eq_nil_iff.1 ht; omega
    have hF3 := hT3_flat (mo := mo) (sp := sp) (m := L.length) (k := k) (own := own) hB.flat (eC_flat flat_s F)
    refine (sure0 hmix).roundX F1921 noLoops [0] [.tmp 5 1] [0] [] [1,5,11,12,13] ?_
    rw [r1921]
    simp only [hge, hF3, Alt_iff, Need_iff, ltI_eq, leI_eq, eqI_eq, leN_eq, eqN_eq, decide_eq_true_eq, decide_eq_false_iff_not, decide_true, decide_false, true_and, and_true, Bool.true_eq_false, Bool.false_eq_true, false_implies, true_implies, implies_true, not_true_eq_false, not_false_eq_true, Bool.not_eq_true', Bool.not_eq_false', Nat.zero_add, Nat.add_zero, Nat.sub_zero, Nat.zero_mul, Nat.mul_one, Int.toNat_natCast, List.drop_zero, beqV_int, beqV_sl, beqV_str, beqV_bool, beqV_ptr, beqV_flt, beqV_agg, beqV_tuple, List.all_cons, List.all_nil, Bool.and_self, Bool.and_true, Bool.true_and, Nat.le_refl, Int.le_refl, Nat.zero_le, Option.getD_some, isStr, strV, isInt, intV, isBool, boolV, kindEq, at0, isJunk, Option.isSome_some, Option.isSome_none, if_true, if_false, Nat.add_sub_cancel_left, Nat.add_sub_cancel]
    have ha : F = ofL o L := by rw [← ha]; simp [ofL]
    subst ha
    exact hK
  | cons x t ih =>
    intro i F ht ha
    obtain ⟨hlt, hx, hd⟩ := cons_of_drop ht
    have hok := hB.ok x (List.mem_of_getElem? hx)
    have hF3 := hT3_flat (mo := mo) (sp := sp) (m := L.length) (k := k) (own := own) hB.flat (eC_flat flat_s F)
    have hlF : F.length ≤ L.length := by have := congrArg List.length ha; rw [List.length_append] at this; omega
    have hsz : F.length ≤ (eC sE F).length := Nat.le_of_eq (eC_len _ _).symm
    have q1 : List.take (F.length * 1) (List.drop 0 (eC sE F)) ++ [Value.string x.1] = eC sE (F ++ [x.1]) := by rw [Nat.mul_one, List.drop_zero, List.take_of_length_le (by rw [eC_len]; exact Nat.le_refl _), eC_append]; rfl
    have hF4 := hT3_flat (mo := mo) (sp := sp) (m := L.length) (k := k) (own := own) hB.flat (eC_flat flat_s (F ++ [x.1]))
    refine (sure0 hmix).roundX F1921 noLoops [0] [.tmp 5 1] [0] [] [1,5,11,12,13] ?_
    rw [r1921]
    have g0 : getO cs (0 + (i : Int).toNat * 2) = some (.string x.1) := by rw [Nat.zero_add, Int.toNat_natCast]; exact hB.get0 hx
    rw [g0, Option.getD_some, show strV (Value.string (strV (Value.string x.1))) = x.1 from rfl, q1]
    simp only [show (i : Int) < (L.length : Int) by omega, hB.get1 hx, tkG, nx i (by omega), hF3, hF4, hsz, show (F.length + 1) * 16 ≤ 1099511627776 by omega, show F.length + 1 ≤ 1099511627776 by omega, Alt_iff, Need_iff, ltI_eq, leI_eq, eqI_eq, leN_eq, eqN_eq, decide_eq_true_eq, decide_eq_false_iff_not, decide_true, decide_false, true_and, and_true, Bool.true_eq_false, Bool.false_eq_true, false_implies, true_implies, implies_true, not_true_eq_false, not_false_eq_true, Bool.not_eq_true', Bool.not_eq_false', Nat.zero_add, Nat.add_zero, Nat.sub_zero, Nat.zero_mul, Nat.mul_one, Int.toNat_natCast, List.drop_zero, beqV_int, beqV_sl, beqV_str, beqV_bool, beqV_ptr, beqV_flt, beqV_agg, beqV_tuple, List.all_cons, List.all_nil, Bool.and_self, Bool.and_true, Bool.true_and, Nat.le_refl, Int.le_refl, Nat.zero_le, Option.getD_some, isStr, strV, isInt, intV, isBool, boolV, kindEq, at0, isJunk, Option.isSome_some, Option.isSome_none, if_true, if_false, Nat.add_sub_cancel_left, Nat.add_sub_cancel]
    refine ⟨fun h => ?_, fun h => ?_⟩
    · have := ih (i + 1) (F ++ [x.1]) hd (by rw [ofL, if_pos (eqI_iff.2 h)] at ha; rw [List.append_assoc]; exact ha)
      rw [List.length_append, List.length_singleton] at this
      exact this
    · exact ih (i + 1) F hd (by rw [ofL, if_neg (fun hh => h (eqI_iff.1 hh))] at ha; exact ha)
theorem toB_byB (s : ByteArray) : toB (byB s) = s := rfl
theorem byB_toB (s : List UInt8) : byB (toB s) = s := rfl
theorem srt_len (l : List ByteArray) : (srt l).length = l.length := by unfold srt srtB; rw [List.length_map, List.length_mergeSort, List.length_map]
theorem srt_mem {l : List ByteArray} {s : ByteArray} : s ∈ srt l ↔ s ∈ l := by
  unfold srt srtB
  rw [List.mem_map]
  constructor
  · rintro ⟨b, hb, rfl⟩
    obtain ⟨a, ha, rfl⟩ := List.mem_map.1 (List.mem_mergeSort.1 hb)
    exact ha
  · intro h; exact ⟨byB s, List.mem_mergeSort.2 (List.mem_map.2 ⟨s, h, rfl⟩), rfl⟩
theorem eC_byB (l : List ByteArray) : eC sE l = (l.map byB).map fun b => Value.string (toB b) := by unfold eC; rw [List.map_map]; rfl
theorem row_srt {cs : List Value} {l : List ByteArray} (h : SSl cs l) : rowC sortS l.length cs = eC sE (srt l) ++ cs.drop l.length := by
  obtain ⟨t1, _⟩ := h.whole
  rw [List.drop_zero] at t1
  unfold rowC
  rw [t1, eC_byB, sortS_map]
  congr 1
  unfold srt eC
  rw [List.map_map]; rfl
noncomputable def ofX : CtrX (List Value × Nat) where
  D := [0]
  W := []
  E := []
  pre := fun args blks => match args, blks with
    | [.pointer (some ⟨0,0,none⟩), .int .i64 _], [.cells [.int .i64 _, .slice (some ⟨1,0,_⟩) m k] 2 true, .cells cs 2 _] => IsT cs m k ∧ Need (leN m 1000000) True
    | _, _ => False
  rel := fun args blks x => match args, blks with
    | [.pointer (some ⟨0,0,none⟩), .int .i64 o], [.cells [.int .i64 _, .slice (some ⟨1,0,_⟩) m k] 2 true, .cells cs 2 _] => IsS (srt (ofL o (tksAt cs m))) x.1 (ofL o (tksAt cs m)).length x.2
    | _, _ => False
  val := fun args blks x => match args, blks with
    | [.pointer (some ⟨0,0,none⟩), .int .i64 o], [.cells [.int .i64 _, .slice (some ⟨1,0,_⟩) m k] 2 true, .cells cs 2 _] => .slice (some ⟨2,0,some 1⟩) (ofL o (tksAt cs m)).length x.2
    | _, _ => undef
  out := fun args blks x => blks ++ [.cells x.1 1 true]
theorem of_says (hmix : Try.prog.follows .mixedOrders = true) : ofX.Holds Try.prog 15 := by
  intro args blks hf hp
  simp only [ofX] at hp ⊢
  split at hp
  · rename_i o mo sp m k cs own
    obtain ⟨⟨L, rfl, hc, hB⟩, hl⟩ := hp
    simp only [Alt_iff, Need_iff, ltI_eq, leI_eq, eqI_eq, leN_eq, eqN_eq, decide_eq_true_eq, decide_eq_false_iff_not, decide_true, decide_false, true_and, and_true, Bool.true_eq_false, Bool.false_eq_true, false_implies, true_implies, implies_true, not_true_eq_false, not_false_eq_true, Bool.not_eq_true', Bool.not_eq_false'] at hl
    simp only [tksAt_eq hB]
    have hll := ofL_len o L
    have hok : ∀ s ∈ ofL o L, SOk s := fun s hs => by
      obtain ⟨x, hx, _, rfl⟩ := ofL_mem.1 hs
      exact ⟨(hB.ok x hx).s⟩
    have h0 : SSl (eC sE (ofL o L)) (ofL o L) := ESl.own flat_s hok (by omega)
    have hrow : rowC sortS (ofL o L).length (eC sE (ofL o L)) = eC sE (srt (ofL o L)) := by
      rw [row_srt h0, List.drop_eq_nil_of_le (by rw [eC_len]; exact Nat.le_refl _), List.append_nil]
    refine ⟨(eC sE (srt (ofL o L)), (ofL o L).length), ⟨ESl.own flat_s (fun s hs => hok s (srt_mem.1 hs)) (by rw [srt_len]; omega), (srt_len _).symm, Nat.le_refl _⟩, ⟨rfl, rfl, trivial⟩, ⟨eC_flat flat_s _, trivial⟩, ?_⟩
    have hL : Loops Try.prog body1921 2 (cutE [cut1921 o mo sp k cs own L]) := Loops.noneE.moreE _ fun x K hQ => by
      obtain ⟨h1, h2⟩ := hQ
      exact of_loop hmix o mo sp k cs own L hB hl K h2 _ x.1 x.2 rfl h1
    refine (sure1921 hmix).funX F1921 body1921 [0] [] Try.func15 rfl (hL.gcX (at0 [0]) (at0 [.tmp 5 1])) ?_
    have hw := w1921 o mo sp k cs own L
    unfold hT at hw
    rw [hw, hrow]
    have hF1 := hT3_flat (mo := mo) (sp := sp) (m := L.length) (k := k) (own := own) hB.flat (eC_flat flat_s [])
    have hF2 := hT3_flat (mo := mo) (sp := sp) (m := L.length) (k := k) (own := own) hB.flat (eC_flat flat_s (srt (ofL o L)))
    refine ⟨hF1, (0, []), rfl, rfl, rfl, ⟨eC_flat flat_s _, trivial⟩, .mk ((ofL o L).map byB) [] (by rw [List.append_nil]; exact eC_byB _) (by simp) (by simp; omega) (by simp) rfl, hF2, rfl, rfl, rfl⟩
  · exact hp.elim
end Go.Proofs.Ytabbkoegaoekkaa

namespace Go.Proofs.Ytabbkoegaoekkaa
open Go.RowKit Go.Proofs.Ytabbkoegaoekkaa.AM
set_option maxRecDepth 100000
set_option maxHeartbeats 4000000
noncomputable def body1926 : Code := (Try.f33.body).getD .skip
def F1926 : List Nat → Option (List Nat) := fun p => match p with
  | [1] => some [1, 2]
  | [1, 1] => some [3]
  | _ => none
noncomputable def body1928 : Code := (Try.f32.body).getD .skip
def F1928 : List Nat → Option (List Nat) := fun p => match p with
  | [1] => some [0, 1]
  | [1, 1] => some [0, 1, 5]
  | [1, 0, 1, 1] => some [0, 1, 5, 12]
  | [1, 0, 1, 0, 1, 1] => some [4]
  | [1, 1, 1] => some [0, 1, 5]
  | [1, 0, 1, 1, 1] => some [0, 1, 5, 6]
  | [1, 0, 0, 0, 1, 0, 1, 1, 1] => some [0, 1, 5, 6, 19]
  | [1, 1, 0, 0, 0, 1, 0, 1, 1, 1] => some [0, 5]
  | [1, 0, 0, 1, 0, 1, 1, 1] => some [0, 1, 5, 6]
  | [1, 0, 0, 1, 0, 0, 1, 0, 1, 1, 1] => some [0, 1, 5, 6, 7]
  | [1, 1, 0, 0, 1, 0, 0, 1, 0, 1, 1, 1] => some [0, 1, 5, 6, 7, 29]
  | [1, 0, 1, 1, 0, 0, 1, 0, 0, 1, 0, 1, 1, 1] => some [0, 1, 5, 6]
  | [1, 1, 0, 0, 1, 0, 1, 1, 1] => some [0, 1, 5, 6]
  | [1, 1, 1, 1] => some [0, 5]
  | [1, 1, 1, 1, 1] => some [0, 5]
  | [1, 1, 1, 1, 1, 1] => some [4]
  | _ => none
noncomputable def body1929 : Code := (Try.f38.body).getD .skip
def F1929 : List Nat → Option (List Nat) := fun p => match p with
  | [1] => some [0, 1]
  | [1, 0, 1] => some [0, 1, 7, 8]
  | [1, 0, 0, 1, 0, 1] => some [0, 1, 7, 8, 9]
  | [1, 0, 1, 0, 0, 1, 0, 1] => some []
  | [1, 1, 0, 0, 1, 0, 1] => some [0, 1, 7, 8]
  | [1, 0, 0, 1, 1, 0, 0, 1, 0, 1] => some [0, 1, 5, 7, 8]
  | [1, 1, 0, 0, 1, 1, 0, 0, 1, 0, 1] => some [0, 1, 5, 7, 8, 16]
  | [1, 0, 1, 1, 0, 0, 1, 1, 0, 0, 1, 0, 1] => some [4]
  | [1, 1, 1, 0, 0, 1, 0, 1] => some [0, 1, 7, 8]
  | [1, 1] => some []
  | [1, 1, 1] => some [4]
  | _ => none
def isG (g : Nat) (fn : Fn) (f c : Array Value) (b : Nat) : Prop := match fn, f.toList, c.toList with
  | .func g', [], [.pointer (some ⟨b', 0, none⟩)] => Need (eqN g' g) (Need (eqN b' b) True)
  | _, _, _ => False
theorem isG_eq {g : Nat} {fn : Fn} {f c : Array Value} {b : Nat} (h : isG g fn f c b) : fn = .func g ∧ f = #[] ∧ c = #[.pointer (some ⟨b, 0, none⟩)] := by
  unfold isG at h
  split at h
  · rename_i g' b' h1 h2
    simp only [Alt_iff, Need_iff, ltI_eq, leI_eq, eqI_eq, leN_eq, eqN_eq, decide_eq_true_eq, decide_eq_false_iff_not, decide_true, decide_false, true_and, and_true, Bool.true_eq_false, Bool.false_eq_true, false_implies, true_implies, implies_true, not_true_eq_false, not_false_eq_true, Bool.not_eq_true', Bool.not_eq_false'] at h
    obtain ⟨rfl, rfl⟩ := h
    exact ⟨rfl, by cases f; simp_all, by cases c; simp_all⟩
  · exact h.elim
def idxO (o : Int) : Nat → List Tk → Int
  | _, [] => -1
  | i, x :: t => if eqI x.2 o then (i : Int) else idxO o (i + 1) t
/-- those that are not its -/
def dropL (o : Int) (L : List Tk) : List Tk := L.filter fun x => !eqI x.2 o
noncomputable def S1926 : Book := addI Try.prog [(33, Try.f33, body1926)] S0
noncomputable def hO (cs : List Value) (o : Int) : List Blk := [.cells cs 2 true, .cells [.int .i64 o] 1 true]
noncomputable def T1929 (m k i : Nat) : List Value := tmps 19 [(0, .slice (some ⟨0,0,some 1⟩) m k), (1, .func (.func 33) #[] #[.pointer (some ⟨1,0,none⟩)]), (7, .int .i64 m), (8, .int .i64 i)]
noncomputable def T1928 (m k i j : Nat) : List Value := tmps 42 [(0, .slice (some ⟨0,0,some 1⟩) m k), (1, .func (.func 33) #[] #[.pointer (some ⟨1,0,none⟩)]), (5, .int .i64 i), (6, .int .i64 j)]
noncomputable def fO : Value := .func (.func 33) #[] #[.pointer (some ⟨1,0,none⟩)]

theorem r1929 (cs : List Value) (o : Int) (m k i : Nat) (K : Post) :
  roundX Try.prog S1926 noLoop F1929 body1929 2 [] [] [] [] [0,1,7,8] [0,0,1,0,1] (T1929 m k i) (hp (hO cs o)) K = (
Alt (ltI (↑i : Int) (↑m : Int))
  (Need (ltI (↑i : Int) (↑m : Int))
    (Need (isStr ((getO cs (0 + (↑i : Int).toNat * 2)).getD undef))
      (Need (isInt IntKind.i64 ((getO cs (0 + (↑i : Int).toNat * 2 + 1)).getD undef))
        (Alt
          (eqI (intV (Value.int IntKind.i64 (intV ((getO cs (0 + (↑i : Int).toNat * 2 + 1)).getD undef))))
            (intV (Value.int IntKind.i64 o)))
          (K AE.ret (tmps 19 [(4, Value.int IntKind.i64 (↑i : Int))])
            (hp [Blk.cells cs 2 true, Blk.cells [Value.int IntKind.i64 o] 1 true]))
          (K AE.normal
            (tmps 19
              [(0, Value.slice (some { block := 0, off := 0, spot := some 1 : Addr }) m k),
                (1, Value.func (Fn.func 33) #[] #[Value.pointer (some { block := 1, off := 0 : Addr })]),
                (7, Value.int IntKind.i64 (↑m : Int)), (8, Value.int IntKind.i64 (wr IntKind.i64 ((↑i : Int) + 1)))])
            (hp [Blk.cells cs 2 true, Blk.cells [Value.int IntKind.i64 o] 1 true]))))))
  (K (AE.exit 0) (tmps 19 []) (hp [Blk.cells cs 2 true, Blk.cells [Value.int IntKind.i64 o] 1 true]))) := by kernel_rfl

noncomputable def cut1929 (o : Int) (k : Nat) (cs : List Value) (L : List Tk) : CutE where
  β := Nat
  p := [0,1,0,1]
  t := fun x => T1929 L.length k x
  h := fun x => hp (hO cs o)
  Q := fun x K => (idxO o x (L.drop x) = idxO o 0 L) ∧ Alt (eqI (idxO o 0 L) (-1)) (K (.exit 0) (tmps 19 []) (hp (hO cs o))) (K .ret (tmps 19 [(4, .int .i64 (idxO o 0 L))]) (hp (hO cs o)))

theorem w1929 (o : Int) (k : Nat) (cs : List Value) (L : List Tk) (K : Value → Heap → Prop) :
  funX Try.prog S1926 (gcLKX (at0 []) (at0 []) 2 (cutE [cut1929 o k cs L])) F1929 body1929 Try.f38 [] [] [.slice (some ⟨0,0,some 1⟩) L.length k, fO] (hp (hO cs o)) K = (
FlatD [] (hp [Blk.cells cs 2 true, Blk.cells [Value.int IntKind.i64 o] 1 true]) ∧
  ∃ (b : Nat),
    tmps 19
          [(0, Value.slice (some { block := 0, off := 0, spot := some 1 : Addr }) L.length k),
            (1, Value.func (Fn.func 33) #[] #[Value.pointer (some { block := 1, off := 0 : Addr })]),
            (7, Value.int IntKind.i64 (↑L.length : Int)), (8, Value.int IntKind.i64 0)] =
        tmps 19
          [(0, Value.slice (some { block := 0, off := 0, spot := some 1 : Addr }) L.length k),
            (1, Value.func (Fn.func 33) #[] #[Value.pointer (some { block := 1, off := 0 : Addr })]),
            (7, Value.int IntKind.i64 (↑L.length : Int)), (8, Value.int IntKind.i64 (↑b : Int))] ∧
      hp [Blk.cells cs 2 true, Blk.cells [Value.int IntKind.i64 o] 1 true] =
          hp [Blk.cells cs 2 true, Blk.cells [Value.int IntKind.i64 o] 1 true] ∧
        idxO o b (List.drop b L) = idxO o 0 L ∧
          Alt (eqI (idxO o 0 L) (-1))
            (K (Value.int IntKind.i64 (-1)) (hp [Blk.cells cs 2 true, Blk.cells [Value.int IntKind.i64 o] 1 true]))
            (K (Value.int IntKind.i64 (idxO o 0 L))
              (hp [Blk.cells cs 2 true, Blk.cells [Value.int IntKind.i64 o] 1 true]))) := by kernel_rfl

theorem r1928 (cs : List Value) (o : Int) (m k i j : Nat) (K : Post) :
  roundX Try.prog S1926 noLoop F1928 body1928 2 [] [] [] [] [0,1,5,6] [0,0,1,0,1,1,1] (T1928 m k i j) (hp (hO cs o)) K = (
Alt (ltI (↑j : Int) (↑m : Int))
  (Need (ltI (↑j : Int) (↑m : Int))
    (Need (isStr ((getO cs (0 + (↑j : Int).toNat * 2)).getD undef))
      (Need (isInt IntKind.i64 ((getO cs (0 + (↑j : Int).toNat * 2 + 1)).getD undef))
        (Alt
          (!eqI
              (intV
                (Value.int IntKind.i64
                  (intV (Value.int IntKind.i64 (intV ((getO cs (0 + (↑j : Int).toNat * 2 + 1)).getD undef))))))
              (intV (Value.int IntKind.i64 o)))
          (Need (ltI (↑i : Int) (↑m : Int))
            (Need (leN (0 + (↑i : Int).toNat * 2 + 2) cs.length)
              (K AE.normal
                (tmps 42
                  [(0, Value.slice (some { block := 0, off := 0, spot := some 1 : Addr }) m k),
                    (1, Value.func (Fn.func 33) #[] #[Value.pointer (some { block := 1, off := 0 : Addr })]),
                    (5, Value.int IntKind.i64 (wr IntKind.i64 ((↑i : Int) + 1))),
                    (6, Value.int IntKind.i64 (wr IntKind.i64 ((↑j : Int) + 1)))])
                (hp
                  [Blk.cells
                      (setAll cs (0 + (↑i : Int).toNat * 2)
                        [Value.string (strV (Value.string (strV ((getO cs (0 + (↑j : Int).toNat * 2)).getD undef)))),
                          Value.int IntKind.i64
                            (intV
                              (Value.int IntKind.i64 (intV ((getO cs (0 + (↑j : Int).toNat * 2 + 1)).getD undef))))])
                      2 true,
                    Blk.cells [Value.int IntKind.i64 o] 1 true]))))
          (K AE.normal
            (tmps 42
              [(0, Value.slice (some { block := 0, off := 0, spot := some 1 : Addr }) m k),
                (1, Value.func (Fn.func 33) #[] #[Value.pointer (some { block := 1, off := 0 : Addr })]),
                (5, Value.int IntKind.i64 (↑i : Int)), (6, Value.int IntKind.i64 (wr IntKind.i64 ((↑j : Int) + 1)))])
            (hp [Blk.cells cs 2 true, Blk.cells [Value.int IntKind.i64 o] 1 true]))))))
  (K (AE.exit 0)
    (tmps 42
      [(0, Value.slice (some { block := 0, off := 0, spot := some 1 : Addr }) m k),
        (5, Value.int IntKind.i64 (↑i : Int))])
    (hp [Blk.cells cs 2 true, Blk.cells [Value.int IntKind.i64 o] 1 true]))) := by kernel_rfl

noncomputable def idxC : CtrW where
  D := []
  W := []
  E := []
  pre := fun args blks => match args, blks with
    | [.slice (some ⟨0,0,some 1⟩) m k, .func fn f c], [.cells cs 2 true, .cells [.int .i64 _] 1 true] => isG 33 fn f c 1 ∧ IsT cs m k ∧ Need (leN m 1000000) True
    | _, _ => False
  val := fun args blks => match args, blks with
    | [.slice (some ⟨0,0,some 1⟩) m k, .func fn f c], [.cells cs 2 true, .cells [.int .i64 o] 1 true] => .int .i64 (idxO o 0 (tksAt cs m))
    | _, _ => undef
  out := fun _ blks => blks
noncomputable def S1929 : Book := addI Try.prog [(33, Try.f33, body1926)] (bookW [(38, idxC)] (bookOf []))
noncomputable def cut1928 (o : Int) (k : Nat) (L : List Tk) (q : List Value) : CutE where
  β := List Tk × Nat
  p := [0,1,0,1,1,1]
  t := fun x => T1928 L.length k x.1.length x.2
  h := fun x => hp (hO (pC tkF tkG (x.1 ++ L.drop x.1.length) ++ q) o)
  Q := fun x K => (x.1 ++ dropL o (L.drop x.2) = dropL o L ∧ x.1.length < x.2) ∧ K (.exit 0) (tmps 42 [(0, .slice (some ⟨0,0,some 1⟩) L.length k), (5, .int .i64 (dropL o L).length)]) (hp (hO (pC tkF tkG (dropL o L ++ L.drop (dropL o L).length) ++ q) o))

theorem w1928 (o : Int) (k : Nat) (cs : List Value) (L : List Tk) (q : List Value) (K : Value → Heap → Prop) :
  funX Try.prog S1929 (gcLKX (at0 []) (at0 []) 2 (cutE [cut1928 o k L q])) F1928 body1928 Try.f32 [] [.tmp 0 2] [.slice (some ⟨0,0,some 1⟩) L.length k, fO] (hp (hO cs o)) K = (
(FlatL cs ∧ FlatL [Value.int IntKind.i64 o] ∧ True) ∧
  (True ∧ IsP tkF tkG TkOk cs L.length k ∧ Need (leN L.length 1000000) True) ∧
    Alt (eqI (idxO o 0 (tksAt cs L.length)) (-1))
      (K (Value.slice (some { block := 0, off := 0, spot := some 1 : Addr }) L.length k)
        (hp [Blk.cells cs 2 true, Blk.cells [Value.int IntKind.i64 o] 1 true]))
      (FlatD [] (hp [Blk.cells cs 2 true, Blk.cells [Value.int IntKind.i64 o] 1 true]) ∧
        ∃ (b : List Tk × Nat),
          tmps 42
                [(0, Value.slice (some { block := 0, off := 0, spot := some 1 : Addr }) L.length k),
                  (1, Value.func (Fn.func 33) #[] #[Value.pointer (some { block := 1, off := 0 : Addr })]),
                  (5, Value.int IntKind.i64 (idxO o 0 (tksAt cs L.length))),
                  (6, Value.int IntKind.i64 (wr IntKind.i64 (idxO o 0 (tksAt cs L.length) + 1)))] =
              tmps 42
                [(0, Value.slice (some { block := 0, off := 0, spot := some 1 : Addr }) L.length k),
                  (1, Value.func (Fn.func 33) #[] #[Value.pointer (some { block := 1, off := 0 : Addr })]),
                  (5, Value.int IntKind.i64 (↑b.fst.length : Int)), (6, Value.int IntKind.i64 (↑b.snd : Int))] ∧
            hp [Blk.cells cs 2 true, Blk.cells [Value.int IntKind.i64 o] 1 true] =
                hp
                  [Blk.cells (pC tkF tkG (b.fst ++ List.drop b.fst.length L) ++ q) 2 true,
                    Blk.cells [Value.int IntKind.i64 o] 1 true] ∧
              (b.fst ++ dropL o (List.drop b.snd L) = dropL o L ∧ b.fst.length.succ.le b.snd) ∧
                Need (leI (↑(dropL o L).length : Int) (↑L.length : Int))
                  (Alt (eqN (L.length - (↑(dropL o L).length : Int).toNat) 0)
                    (Need (leI (↑(dropL o L).length : Int) (↑k : Int))
                      (K
                        (Value.slice (some { block := 0, off := 0, spot := some 1 : Addr })
                          ((↑(dropL o L).length : Int).toNat - 0) (k - 0))
                        (hp
                          [Blk.cells (pC tkF tkG (dropL o L ++ List.drop (dropL o L).length L) ++ q) 2 true,
                            Blk.cells [Value.int IntKind.i64 o] 1 true])))
                    (Need
                      (leN
                        (0 + (↑(dropL o L).length : Int).toNat * 2 +
                          (repl (L.length - (↑(dropL o L).length : Int).toNat)
                              [Value.string { data := #[] : ByteArray }, Value.int IntKind.i64 0]).length)
                        (pC tkF tkG (dropL o L ++ List.drop (dropL o L).length L) ++ q).length)
                      (Need
                        ((repl (L.length - (↑(dropL o L).length : Int).toNat)
                              [Value.string { data := #[] : ByteArray }, Value.int IntKind.i64 0]).all
                          oneV)
                        (Need (leI (↑(dropL o L).length : Int) (↑k : Int))
                          (K
                            (Value.slice (some { block := 0, off := 0, spot := some 1 : Addr })
                              ((↑(dropL o L).length : Int).toNat - 0) (k - 0))
                            (hp
                              [Blk.cells
                                  (setAll (pC tkF tkG (dropL o L ++ List.drop (dropL o L).length L) ++ q)
                                    (0 + (↑(dropL o L).length : Int).toNat * 2)
                                    (repl (L.length - (↑(dropL o L).length : Int).toNat)
                                      [Value.string { data := #[] : ByteArray }, Value.int IntKind.i64 0]))
                                  2 true,
                                Blk.cells [Value.int IntKind.i64 o] 1 true])))))))) := by kernel_rfl

end Go.Proofs.Ytabbkoegaoekkaa

namespace Go.Proofs.Ytabbkoegaoekkaa
open Go.RowKit Go.Proofs.Ytabbkoegaoekkaa.AM
set_option maxRecDepth 100000
set_option maxHeartbeats 4000000
theorem sure1926 (hm : Try.prog.follows .mixedOrders = true) : Sure Try.prog S1926 := Sure.addI (sure0 hm) (l := [(33, Try.f33, body1926)]) ⟨⟨Try.func33, rfl⟩, trivial⟩
theorem hO_flat {cs : List Value} {o : Int} (h : FlatL cs) : FlatD [] (hp [.cells cs 2 true, .cells [.int .i64 o] 1 true]) := FlatD.hp ⟨h, ⟨fun x hx => by simp at hx; rw [hx]; rfl⟩, trivial⟩
theorem int_flat (o : Int) : FlatL [Value.int .i64 o] := ⟨fun x hx => by simp at hx; rw [hx]; rfl⟩
theorem idx_loop (hmix : Try.prog.follows .mixedOrders = true) (o : Int) (k : Nat) (cs : List Value) (L : List Tk) (hB : TSl cs L) (hl : L.length ≤ 1000000) (K : Post)
    (hK : Alt (eqI (idxO o 0 L) (-1)) (K (.exit 0) (tmps 19 []) (hp (hO cs o))) (K .ret (tmps 19 [(4, .int .i64 (idxO o 0 L))]) (hp (hO cs o)))) : ∀ (t : List Tk) (i : Nat), L.drop i = t → idxO o i t = idxO o 0 L →
    LSays Try.prog 2 (sub body1929 [0,0,1,0,1]) (T1929 L.length k i) (hp (hO cs o)) K := by
  have hF := hO_flat (o := o) hB.flat
  unfold hO at hK
  intro t
  induction t with
  | nil =>
    intro i ht ha
    have hge : ¬ ((i : Int) < (L.length : Int)) := by have := List.drop_eq_nil_iff.1 ht; omega
    refine (sure1926 hmix).roundX F1929 noLoops [] [] [] [] [0,1,7,8] ?_
    rw [r1929]
    simp only [hge, hF, Alt_iff, Need_iff, ltI_eq, leI_eq, eqI_eq, leN_eq, eqN_eq, decide_eq_true_eq, decide_eq_false_iff_not, decide_true, decide_false, true_and, and_true, Bool.true_eq_false, Bool.false_eq_true, false_implies, true_implies, implies_true, not_true_eq_false, not_false_eq_true, Bool.not_eq_true', Bool.not_eq_false', Nat.zero_add, Nat.add_zero, Nat.sub_zero, Nat.zero_mul, Nat.mul_one, Int.toNat_natCast, List.drop_zero, beqV_int, beqV_sl, beqV_str, beqV_bool, beqV_ptr, beqV_flt, beqV_agg, beqV_tuple, List.all_cons, List.all_nil, Bool.and_self, Bool.and_true, Bool.true_and, Nat.le_refl, Int.le_refl, Nat.zero_le, Option.getD_some, isStr, strV, isInt, intV, isBool, boolV, kindEq, at0, isJunk, Option.isSome_some, Option.isSome_none, if_true, if_false, Nat.add_sub_cancel_left, Nat.add_sub_cancel]
    rw [← ha] at hK
    exact (Alt_iff.1 hK).1 rfl
  | cons x t ih =>
    intro i ht ha
    obtain ⟨hlt, hx, hd⟩ := cons_of_drop ht
    refine (sure1926 hmix).roundX F1929 noLoops [] [] [] [] [0,1,7,8] ?_
    rw [r1929]
    simp only [show (i : Int) < (L.length : Int) by omega, hB.get0 hx, hB.get1 hx, tkF, tkG, nx i (by omega), hF, Alt_iff, Need_iff, ltI_eq, leI_eq, eqI_eq, leN_eq, eqN_eq, decide_eq_true_eq, decide_eq_false_iff_not, decide_true, decide_false, true_and, and_true, Bool.true_eq_false, Bool.false_eq_true, false_implies, true_implies, implies_true, not_true_eq_false, not_false_eq_true, Bool.not_eq_true', Bool.not_eq_false', Nat.zero_add, Nat.add_zero, Nat.sub_zero, Nat.zero_mul, Nat.mul_one, Int.toNat_natCast, List.drop_zero, beqV_int, beqV_sl, beqV_str, beqV_bool, beqV_ptr, beqV_flt, beqV_agg, beqV_tuple, List.all_cons, List.all_nil, Bool.and_self, Bool.and_true, Bool.true_and, Nat.le_refl, Int.le_refl, Nat.zero_le, Option.getD_some, isStr, strV, isInt, intV, isBool, boolV, kindEq, at0, isJunk, Option.isSome_some, Option.isSome_none, if_true, if_false, Nat.add_sub_cancel_left, Nat.add_sub_cancel]
    rw [idxO] at ha
    refine ⟨fun h => ?_, fun h => ?_⟩
    · rw [if_pos (eqI_iff.2 h)] at ha
      rw [← ha] at hK
      exact (Alt_iff.1 hK).2 (Bool.eq_false_iff.2 fun hh => by have := eqI_iff.1 hh; omega)
    · exact ih (i + 1) hd (by rw [if_neg (fun hh => h (eqI_iff.1 hh))] at ha; exact ha)
theorem idxO_cases (o : Int) : ∀ (L : List Tk) (i : Nat), (idxO o i L = -1 ∧ dropL o L = L) ∨ ∃ a x t, L = a ++ x :: t ∧ idxO o i L = ((i + a.length : Nat) : Int) ∧ dropL o a = a ∧ eqI x.2 o = true := by
  intro L
  induction L with
  | nil => intro i; exact .inl ⟨rfl, rfl⟩
  | cons x t ih =>
    intro i
    cases hk : eqI x.2 o with
    | true => exact .inr ⟨[], x, t, rfl, by simp [idxO, hk], rfl, hk⟩
    | false =>
      rcases ih (i + 1) with ⟨h1, h2⟩ | ⟨a, y, u, h2, h3, h4, h5⟩
      · exact .inl ⟨by simp [idxO, hk, h1], by unfold dropL at h2 ⊢; rw [List.filter_cons, if_pos (by rw [hk]; rfl), h2]⟩
      · exact .inr ⟨x :: a, y, u, by rw [h2]; rfl, by rw [idxO, if_neg (by rw [hk]; simp), h3]; simp; omega, by unfold dropL at h4 ⊢; rw [List.filter_cons, if_pos (by rw [hk]; rfl), h4], h5⟩
theorem idx_says (hmix : Try.prog.follows .mixedOrders = true) : idxC.Holds Try.prog 38 := by
  intro args blks hf hp
  simp only [idxC] at hp ⊢
  split at hp
  · rename_i m k fn f c cs o
    obtain ⟨hG, ⟨L, rfl, hc, hB⟩, hl⟩ := hp
    obtain ⟨rfl, rfl, rfl⟩ := isG_eq hG
    simp only [Alt_iff, Need_iff, ltI_eq, leI_eq, eqI_eq, leN_eq, eqN_eq, decide_eq_true_eq, decide_eq_false_iff_not, decide_true, decide_false, true_and, and_true, Bool.true_eq_false, Bool.false_eq_true, false_implies, true_implies, implies_true, not_true_eq_false, not_false_eq_true, Bool.not_eq_true', Bool.not_eq_false'] at hl
    simp only [tksAt_eq hB]
    refine ⟨⟨rfl, rfl, trivial⟩, trivial, ?_⟩
    have hL : Loops Try.prog body1929 2 (cutE [cut1929 o k cs L]) := Loops.noneE.moreE _ fun x K hQ => by
      obtain ⟨h1, h2⟩ := hQ
      exact idx_loop hmix o k cs L hB hl K h2 _ x rfl h1
    have hF := hO_flat (o := o) hB.flat
    refine (sure1926 hmix).funX F1929 body1929 [] [] Try.func38 rfl (hL.gcX (at0 []) (at0 [])) ?_
    have hw := w1929 o k cs L
    unfold hO fO at hw
    rw [hw]
    refine ⟨hF, 0, rfl, rfl, rfl, ?_⟩
    rw [Alt_iff]
    exact ⟨fun h => ⟨hF, rfl, by rw [eqI_iff.1 h], rfl⟩, fun _ => ⟨hF, rfl, rfl, rfl⟩⟩
  · exact hp.elim
theorem set_pair {F : List Tk} {L : List Tk} {q : List Value} (x : Tk) (hF : F.length < L.length) : setAll (pC tkF tkG (F ++ L.drop F.length) ++ q) (F.length * 2) [.string x.1, .int .i64 x.2] = pC tkF tkG ((F ++ [x]) ++ L.drop (F ++ [x]).length) ++ q := by
  have hd : pC tkF tkG (L.drop F.length) = pC tkF tkG [L[F.length]] ++ pC tkF tkG (L.drop (F.length + 1)) := by rw [List.drop_eq_getElem_cons hF, ← pC_append]; rfl
  rw [pC_append, List.append_assoc, setAll_at _ _ _ _ (pC_len _) (by rw [List.length_append, pC_len, List.length_drop]; simp; omega), hd, pC_append, pC_append, List.length_append, List.length_singleton]
  simp [pC, tkF, tkG]
theorem df_loop (hmix : Try.prog.follows .mixedOrders = true) (o : Int) (k : Nat) (L : List Tk) (q : List Value) (hok : ∀ x ∈ L, TkOk x) (hq : FlatL q) (hl : L.length ≤ 1000000) (K : Post)
    (hK : K (.exit 0) (tmps 42 [(0, .slice (some ⟨0,0,some 1⟩) L.length k), (5, .int .i64 (dropL o L).length)]) (hp (hO (pC tkF tkG (dropL o L ++ L.drop (dropL o L).length) ++ q) o))) : ∀ (t : List Tk) (F : List Tk) (j : Nat), L.drop j = t → F.length < j → F ++ dropL o t = dropL o L →
    LSays Try.prog 2 (sub body1928 [0,0,1,0,1,1,1]) (T1928 L.length k F.length j) (hp (hO (pC tkF tkG (F ++ L.drop F.length) ++ q) o)) K := by
  have hF : ∀ X : List Tk, FlatD [] (hp [.cells (pC tkF tkG X ++ q) 2 true, .cells [.int .i64 o] 1 true]) := fun X => hO_flat ⟨fun x hx => (List.mem_append.1 hx).elim ((pC_flat tk_flat tk_flatG X).1 x) (hq.1 x)⟩
  intro t
  induction t with
  | nil =>
    intro F j ht hFj ha
    have hge : ¬ ((j : Int) < (L.length : Int)) := by have := List.drop_eq_nil_iff.1 ht; omega
    refine (sure1926 hmix).roundX F1928 noLoops [] [] [] [] [0,1,5,6] ?_
    rw [r1928]
    simp only [hge, hF, Alt_iff, Need_iff, ltI_eq, leI_eq, eqI_eq, leN_eq, eqN_eq, decide_eq_true_eq, decide_eq_false_iff_not, decide_true, decide_false, true_and, and_true, Bool.true_eq_false, Bool.false_eq_true, false_implies, true_implies, implies_true, not_true_eq_false, not_false_eq_true, Bool.not_eq_true', Bool.not_eq_false', Nat.zero_add, Nat.add_zero, Nat.sub_zero, Nat.zero_mul, Nat.mul_one, Int.toNat_natCast, List.drop_zero, beqV_int, beqV_sl, beqV_str, beqV_bool, beqV_ptr, beqV_flt, beqV_agg, beqV_tuple, List.all_cons, List.all_nil, Bool.and_self, Bool.and_true, Bool.true_and, Nat.le_refl, Int.le_refl, Nat.zero_le, Option.getD_some, isStr, strV, isInt, intV, isBool, boolV, kindEq, at0, isJunk, Option.isSome_some, Option.isSome_none, if_true, if_false, Nat.add_sub_cancel_left, Nat.add_sub_cancel]
    have ha : F = dropL o L := by rw [← ha]; simp [dropL]
    subst ha
    exact hK
  | cons x t ih =>
    intro F j ht hFj ha
    obtain ⟨hlt, hx, hd⟩ := cons_of_drop ht
    have hlen : (F ++ L.drop F.length).length = L.length := by simp; omega
    have hxx : (F ++ L.drop F.length)[j]? = some x := by rw [List.getElem?_append_right (by omega), List.getElem?_drop, show F.length + (j - F.length) = j by omega, hx]
    have g0 : getO (pC tkF tkG (F ++ L.drop F.length) ++ q) (j * 2) = some (.string x.1) := by
      rw [getO_eq, List.getElem?_append_left (by rw [pC_len]; omega)]; exact pC_get0 _ hxx
    have g1 : getO (pC tkF tkG (F ++ L.drop F.length) ++ q) (j * 2 + 1) = some (.int .i64 x.2) := by
      rw [getO_eq, List.getElem?_append_left (by rw [pC_len]; omega)]; exact pC_get1 _ hxx
    have hroom : F.length * 2 + 2 ≤ (pC tkF tkG (F ++ L.drop F.length) ++ q).length := by rw [List.length_append, pC_len]; omega
    refine (sure1926 hmix).roundX F1928 noLoops [] [] [] [] [0,1,5,6] ?_
    rw [r1928]
    simp only [Nat.zero_add, Int.toNat_natCast, g0, g1, Option.getD_some, show ∀ s, strV (Value.string s) = s from fun _ => rfl, show ∀ n, intV (Value.int IntKind.i64 n) = n from fun _ => rfl, set_pair x (show F.length < L.length by omega), show (j : Int) < (L.length : Int) by omega, show (F.length : Int) < (L.length : Int) by omega, nx j (by omega), nx F.length (by omega), hroom, hF, Alt_iff, Need_iff, ltI_eq, leI_eq, eqI_eq, leN_eq, eqN_eq, decide_eq_true_eq, decide_eq_false_iff_not, decide_true, decide_false, true_and, and_true, Bool.true_eq_false, Bool.false_eq_true, false_implies, true_implies, implies_true, not_true_eq_false, not_false_eq_true, Bool.not_eq_true', Bool.not_eq_false', Nat.zero_add, Nat.add_zero, Nat.sub_zero, Nat.zero_mul, Nat.mul_one, Int.toNat_natCast, List.drop_zero, beqV_int, beqV_sl, beqV_str, beqV_bool, beqV_ptr, beqV_flt, beqV_agg, beqV_tuple, List.all_cons, List.all_nil, Bool.and_self, Bool.and_true, Bool.true_and, Nat.le_refl, Int.le_refl, Nat.zero_le, Option.getD_some, isStr, strV, isInt, intV, isBool, boolV, kindEq, at0, isJunk, Option.isSome_some, Option.isSome_none, if_true, if_false, Nat.add_sub_cancel_left, Nat.add_sub_cancel]
    refine ⟨fun h => ?_, fun h => ?_⟩
    · have e : dropL o (x :: t) = x :: dropL o t := by unfold dropL; rw [List.filter_cons, if_pos (by rw [Bool.not_eq_true']; exact Bool.eq_false_iff.2 fun hh => h (eqI_iff.1 hh))]
      have := ih (F ++ [x]) (j + 1) hd (by simp; omega) (by rw [e] at ha; simpa using ha)
      rw [show (F ++ [x]).length = F.length + 1 by simp] at this ⊢
      exact this
    · have e : dropL o (x :: t) = dropL o t := by unfold dropL; rw [List.filter_cons, if_neg (by rw [eqI_iff.2 h]; simp)]
      exact ih F (j + 1) hd (by omega) (by rw [e] at ha; exact ha)
theorem dropL_len (o : Int) (L : List Tk) : (dropL o L).length ≤ L.length := List.length_filter_le _ _
theorem sure1929 (hm : Try.prog.follows .mixedOrders = true) : Sure Try.prog S1929 := Sure.addI ⟨hm, plain, bookW_ok (l := [(38, idxC)]) sbW ⟨idx_says hm, trivial⟩⟩ (l := [(33, Try.f33, body1926)]) ⟨⟨Try.func33, rfl⟩, trivial⟩
theorem repl2_len : ∀ n : Nat, (repl n [Value.string { data := #[] }, Value.int .i64 0]).length = n * 2 := by intro n; unfold repl; simp
theorem repl2_one (n : Nat) : (repl n [Value.string { data := #[] }, Value.int .i64 0]).all oneV = true := by
  unfold repl
  rw [List.all_flatten]
  simp [oneV]
theorem repl2_flat (n : Nat) : ∀ x ∈ repl n [Value.string { data := #[] }, Value.int .i64 0], flat x = true := by
  intro x hx
  unfold repl at hx
  obtain ⟨c, h1, h2⟩ := List.mem_flatten.1 hx
  rw [(List.mem_replicate.1 h1).2] at h2
  simp at h2; rcases h2 with rfl | rfl <;> rfl
noncomputable def dfX : CtrX (List Value) where
  D := []
  W := [0]
  E := []
  pre := fun args blks => match args, blks with
    | [.slice (some ⟨0,0,some 1⟩) m k, .func fn f c], [.cells cs 2 true, .cells [.int .i64 _] 1 true] => isG 33 fn f c 1 ∧ IsT cs m k ∧ Need (leN m 1000000) True
    | _, _ => False
  rel := fun args blks x => match args, blks with
    | [.slice (some ⟨0,0,some 1⟩) m k, .func fn f c], [.cells cs 2 true, .cells [.int .i64 o] 1 true] => IsTL (dropL o (tksAt cs m)) x (dropL o (tksAt cs m)).length k
    | _, _ => False
  val := fun args blks x => match args, blks with
    | [.slice (some ⟨0,0,some 1⟩) m k, .func fn f c], [.cells cs 2 true, .cells [.int .i64 o] 1 true] => .slice (some ⟨0,0,some 1⟩) (dropL o (tksAt cs m)).length k
    | _, _ => undef
  out := fun args blks x => match args, blks with
    | [.slice (some ⟨0,0,some 1⟩) m k, .func fn f c], [.cells cs 2 true, .cells [.int .i64 o] 1 true] => [.cells x 2 true, .cells [.int .i64 o] 1 true]
    | _, _ => []
theorem df_says (hmix : Try.prog.follows .mixedOrders = true) : dfX.Holds Try.prog 32 := by
  intro args blks hf hp
  simp only [dfX] at hp ⊢
  split at hp
  · rename_i m k fn f c cs o
    obtain ⟨hG, hI, hl⟩ := hp
    have hI' := hI
    obtain ⟨L, rfl, hc, hB⟩ := hI
    obtain ⟨rfl, rfl, rfl⟩ := isG_eq hG
    have hl' := hl
    simp only [Alt_iff, Need_iff, ltI_eq, leI_eq, eqI_eq, leN_eq, eqN_eq, decide_eq_true_eq, decide_eq_false_iff_not, decide_true, decide_false, true_and, and_true, Bool.true_eq_false, Bool.false_eq_true, false_implies, true_implies, implies_true, not_true_eq_false, not_false_eq_true, Bool.not_eq_true', Bool.not_eq_false'] at hl
    simp only [tksAt_eq hB]
    have hle := dropL_len o L
    have hokd : ∀ x ∈ dropL o L, TkOk x := fun x hx => hB.ok x (List.mem_filter.1 hx).1
    have hcs := hB.eq
    have hq : FlatL (cs.drop (L.length * 2)) := ⟨fun x hx => hB.flat.1 x (List.mem_of_mem_drop hx)⟩
    have hF := hO_flat (o := o) hB.flat
    have hw0 := fun q => w1928 o k cs L q
    unfold hO fO at hw0
    simp only [tksAt_eq hB] at hw0
    have hL : Loops Try.prog body1928 2 (cutE [cut1928 o k L (cs.drop (L.length * 2))]) := Loops.noneE.moreE _ fun x K hQ => by
      obtain ⟨⟨h1, h2⟩, h3⟩ := hQ
      exact df_loop hmix o k L _ hB.ok hq hl K h3 _ x.1 x.2 rfl h2 h1
    rcases idxO_cases o L 0 with ⟨h1, h2⟩ | ⟨a, x, t, h2, h3, h4, h5⟩
    · refine ⟨cs, ⟨by rw [h2]; exact hB, rfl, by omega⟩, ⟨trivial, rfl, trivial⟩, ⟨hB.flat, trivial⟩, ?_⟩
      refine (sure1929 hmix).funX F1928 body1928 [] [.tmp 0 2] Try.func32 rfl (hL.gcX (at0 []) (at0 [])) ?_
      show funX Try.prog S1929 (gcLKX (at0 []) (at0 []) 2 _) _ _ _ _ _ _ _ _
      rw [hw0, h1, h2]
      exact ⟨⟨hB.flat, int_flat o, trivial⟩, ⟨trivial, hI', hl'⟩, hF, rfl, rfl, rfl⟩
    · have hla : a.length < L.length := by rw [h2]; simp
      have hst : a ++ L.drop a.length = L := by conv => rhs; rw [← List.take_append_drop a.length L]
                                                congr 1; rw [h2]; simp
      have hda : a ++ dropL o (L.drop (a.length + 1)) = dropL o L := by
        have e1 : L.drop (a.length + 1) = t := by rw [h2, List.drop_append]; simp
        rw [e1]; conv => rhs; rw [h2]
        unfold dropL at h4 ⊢
        rw [List.filter_append, h4, List.filter_cons, if_neg (by rw [h5]; simp)]
      have hX : TSl (pC tkF tkG (dropL o L) ++ (repl (L.length - (dropL o L).length) [Value.string { data := #[] }, Value.int .i64 0] ++ cs.drop (L.length * 2))) (dropL o L) := PSl.own tk_flat tk_flatG hokd _ ⟨fun x hx => by
        rcases List.mem_append.1 hx with hx | hx
        · exact repl2_flat _ x hx
        · exact hq.1 x hx⟩
      refine ⟨_, ⟨hX, rfl, by omega⟩, ⟨trivial, rfl, trivial⟩, ⟨hX.flat, trivial⟩, ?_⟩
      refine (sure1929 hmix).funX F1928 body1928 [] [.tmp 0 2] Try.func32 rfl (hL.gcX (at0 []) (at0 [])) ?_
      show funX Try.prog S1929 (gcLKX (at0 []) (at0 []) 2 _) _ _ _ _ _ _ _ _
      rw [hw0, h3, Nat.zero_add]
      have hF2 := hO_flat (o := o) hX.flat
      refine ⟨⟨hB.flat, int_flat o, trivial⟩, ⟨trivial, hI', hl'⟩, ?_⟩
      rw [Alt_iff]
      refine ⟨fun h => (by have := eqI_iff.1 h; omega), fun _ => ⟨hF, (a, a.length + 1), by rw [nx a.length (by omega)], by rw [hst, ← hcs], ⟨hda, Nat.lt_succ_self _⟩, ?_⟩⟩
      have hset : setAll (pC tkF tkG (dropL o L ++ L.drop (dropL o L).length) ++ cs.drop (L.length * 2)) ((dropL o L).length * 2) (repl (L.length - (dropL o L).length) [Value.string { data := #[] }, Value.int .i64 0]) = pC tkF tkG (dropL o L) ++ (repl (L.length - (dropL o L).length) [Value.string { data := #[] }, Value.int .i64 0] ++ cs.drop (L.length * 2)) := by
        rw [pC_append, List.append_assoc, setAll_at _ _ _ _ (pC_len _) (by rw [repl2_len, List.length_append, pC_len, List.length_drop]; omega), List.append_assoc, repl2_len, List.drop_left' (by rw [pC_len, List.length_drop])]
      have hroom : (dropL o L).length * 2 + (L.length - (dropL o L).length) * 2 ≤ (pC tkF tkG (dropL o L ++ L.drop (dropL o L).length) ++ cs.drop (L.length * 2)).length := by rw [List.length_append, pC_len, List.length_append, List.length_drop]; omega
      simp only [Nat.zero_add, Int.toNat_natCast, hset, repl2_len, repl2_one, hroom, show ((dropL o L).length : Int) ≤ (L.length : Int) by omega, show ((dropL o L).length : Int) ≤ (k : Int) by omega, hF2, Alt_iff, Need_iff, ltI_eq, leI_eq, eqI_eq, leN_eq, eqN_eq, decide_eq_true_eq, decide_eq_false_iff_not, decide_true, decide_false, true_and, and_true, Bool.true_eq_false, Bool.false_eq_true, false_implies, true_implies, implies_true, not_true_eq_false, not_false_eq_true, Bool.not_eq_true', Bool.not_eq_false', Nat.zero_add, Nat.add_zero, Nat.sub_zero, Nat.zero_mul, Nat.mul_one, Int.toNat_natCast, List.drop_zero, beqV_int, beqV_sl, beqV_str, beqV_bool, beqV_ptr, beqV_flt, beqV_agg, beqV_tuple, List.all_cons, List.all_nil, Bool.and_self, Bool.and_true, Bool.true_and, Nat.le_refl, Int.le_refl, Nat.zero_le, Option.getD_some, isStr, strV, isInt, intV, isBool, boolV, kindEq, at0, isJunk, Option.isSome_some, Option.isSome_none, if_true, if_false, Nat.add_sub_cancel_left, Nat.add_sub_cancel]
      intro hz
      rw [hz, show L.drop (dropL o L).length = [] from List.drop_eq_nil_of_le (by omega), List.append_nil]
      rw [hz] at hF2
      exact ⟨hF2, rfl⟩
  · exact hp.elim
end Go.Proofs.Ytabbkoegaoekkaa

namespace Go.Proofs.Ytabbkoegaoekkaa
open Go.RowKit Go.Proofs.Ytabbkoegaoekkaa.AM
set_option maxRecDepth 100000
set_option maxHeartbeats 4000000
noncomputable def body1940 : Code := (Try.f23.body).getD .skip
def F1940 : List Nat → Option (List Nat) := fun p => match p with
  | [1] => some [0, 1]
  | [1, 0, 1] => some [0, 1, 6]
  | [1, 0, 0, 0, 1, 0, 1] => some [0, 1, 6, 13]
  | [1, 1, 0, 0, 0, 1, 0, 1] => some []
  | [1, 0, 0, 1, 0, 1] => some [0, 1, 6]
  | [1, 0, 0, 1, 0, 0, 1, 0, 1] => some [0, 1, 6, 25]
  | [1, 0, 1, 0, 0, 1, 0, 0, 1, 0, 1] => some [4, 5]
  | [1, 1, 0, 0, 1, 0, 1] => some [0, 1, 6]
  | [1, 1] => some []
  | [1, 1, 1] => some [4, 5]
  | _ => none
noncomputable def body1941 : Code := (Try.f25.body).getD .skip
def F1941 : List Nat → Option (List Nat) := fun p => match p with
  | [1] => some [0, 1]
  | [1, 1] => some [0, 1, 5]
  | [1, 0, 1, 1] => some [0, 1, 5, 6]
  | [1, 0, 0, 0, 1, 0, 1, 1] => some [0, 1, 5, 6, 13]
  | [1, 1, 0, 0, 0, 1, 0, 1, 1] => some [5]
  | [1, 0, 0, 1, 0, 1, 1] => some [0, 1, 5, 6]
  | [1, 0, 0, 1, 0, 0, 1, 0, 1, 1] => some [0, 1, 5, 6, 25]
  | [1, 1, 0, 0, 1, 0, 1, 1] => some [0, 1, 5, 6]
  | [1, 1, 1] => some [5]
  | [1, 1, 1, 1] => some [4]
  | _ => none
noncomputable def body1942 : Code := (Try.f31.body).getD .skip
def F1942 : List Nat → Option (List Nat) := fun p => match p with
  | [1] => some [0, 1, 4]
  | [1, 0, 1] => some [0, 1, 4, 5]
  | [1, 0, 0, 0, 1, 0, 1] => some [0, 1, 4, 5, 12]
  | [1, 1, 0, 0, 0, 1, 0, 1] => some [0, 4]
  | [1, 0, 0, 1, 0, 1] => some [0, 1, 4, 5]
  | [1, 0, 0, 1, 0, 0, 1, 0, 1] => some [0, 1, 4, 5, 24]
  | [1, 1, 0, 0, 1, 0, 1] => some [0, 1, 4, 5]
  | [1, 1] => some [0, 4]
  | _ => none
noncomputable def body1943 : Code := (Try.f34.body).getD .skip
def F1943 : List Nat → Option (List Nat) := fun p => match p with
  | [1] => some [0, 1, 2, 6]
  | [1, 0, 0, 0, 0, 1] => some [0, 1, 2, 6, 26]
  | [1, 1, 0, 0, 0, 0, 1] => some [0, 1, 2, 6]
  | [1, 0, 0, 0, 1] => some [0, 1, 2, 6]
  | [1, 1] => some [0, 1, 2, 6]
  | _ => none
noncomputable def body1944 : Code := (Try.f24.body).getD .skip
def F1944 : List Nat → Option (List Nat) := fun p => match p with
  | [1] => some [0, 1]
  | [1, 0, 1] => some [0, 1, 10]
  | [1, 0, 1, 0, 1] => some [4]
  | [1, 1] => some [0, 1]
  | [1, 0, 1, 1] => some [0, 1, 5]
  | [1, 0, 0, 0, 1, 0, 1, 1] => some [0, 1, 5, 14]
  | [1, 1, 0, 0, 0, 1, 0, 1, 1] => some []
  | [1, 0, 0, 1, 0, 1, 1] => some [0, 1, 5]
  | [1, 0, 0, 1, 0, 0, 1, 0, 1, 1] => some [0, 1, 5, 25]
  | [1, 0, 1, 0, 0, 1, 0, 0, 1, 0, 1, 1] => some [4]
  | [1, 1, 0, 0, 1, 0, 1, 1] => some [0, 1, 5]
  | [1, 1, 1] => some []
  | [1, 1, 1, 1] => some [4]
  | _ => none
noncomputable def pT : Value := .pointer (some ⟨0,0,none⟩)
noncomputable def sT (b : Nat) (m : Nat) : Value := .slice (some ⟨b,0,some 1⟩) m m
/-- whose a token is -/
def ownR (s : ByteArray) : List Tk → Option Int
  | [] => none
  | x :: t => if eqS x.1 s then some x.2 else ownR s t
def cutR (s : ByteArray) : List Tk → List Tk
  | [] => []
  | x :: t => if eqS x.1 s then cutR s t else x :: cutR s t
noncomputable def T1940 (s : ByteArray) (i : Nat) : List Value := tmps 34 [(0, pT), (1, .string s), (6, .int .i64 i)]

theorem r1940 (s : ByteArray) (mo : Int) (sp : Option Nat) (m k i : Nat) (cs : List Value) (own : Bool) (K : Post) :
  roundX Try.prog S0 noLoop F1940 body1940 2 [0] [] [0] [] [0,1,6] [0,0,1,0,1] (T1940 s i) (hp (hT mo sp m k cs own)) K = (
Alt (ltI (↑i : Int) (↑m : Int))
  (Need (ltI (↑i : Int) (↑m : Int))
    (Need (isStr ((getO cs (0 + (↑i : Int).toNat * 2 + 0)).getD undef))
      (Alt (eqS (strV ((getO cs (0 + (↑i : Int).toNat * 2 + 0)).getD undef)) s)
        (Need (ltI (↑i : Int) (↑m : Int))
          (Need (isInt IntKind.i64 ((getO cs (0 + (↑i : Int).toNat * 2 + 1)).getD undef))
            (K AE.ret
              (tmps 34
                [(4, Value.int IntKind.i64 (intV ((getO cs (0 + (↑i : Int).toNat * 2 + 1)).getD undef))),
                  (5, Value.bool true)])
              (hp
                [Blk.cells
                    [Value.int IntKind.i64 mo, Value.slice (some { block := 1, off := 0, spot := sp : Addr }) m k] 2
                    true,
                  Blk.cells cs 2 own]))))
        (K AE.normal
          (tmps 34
            [(0, Value.pointer (some { block := 0, off := 0 : Addr })), (1, Value.string s),
              (6, Value.int IntKind.i64 (wr IntKind.i64 ((↑i : Int) + 1)))])
          (hp
            [Blk.cells [Value.int IntKind.i64 mo, Value.slice (some { block := 1, off := 0, spot := sp : Addr }) m k] 2
                true,
              Blk.cells cs 2 own])))))
  (K (AE.exit 0) (tmps 34 [])
    (hp
      [Blk.cells [Value.int IntKind.i64 mo, Value.slice (some { block := 1, off := 0, spot := sp : Addr }) m k] 2 true,
        Blk.cells cs 2 own]))) := by kernel_rfl

noncomputable def cut1940 (s : ByteArray) (mo : Int) (sp : Option Nat) (k : Nat) (cs : List Value) (own : Bool) (L : List Tk) : CutE where
  β := Nat
  p := [0,1,0,1]
  t := fun x => T1940 s x
  h := fun x => hp (hT mo sp L.length k cs own)
  Q := fun x K => (ownR s (L.drop x) = ownR s L) ∧ Alt (ownR s L).isSome (K .ret (tmps 34 [(4, .int .i64 ((ownR s L).getD 0)), (5, .bool true)]) (hp (hT mo sp L.length k cs own))) (K (.exit 0) (tmps 34 []) (hp (hT mo sp L.length k cs own)))

theorem w1940 (s : ByteArray) (mo : Int) (sp : Option Nat) (k : Nat) (cs : List Value) (own : Bool) (L : List Tk) (K : Value → Heap → Prop) :
  funX Try.prog S0 (gcLKX (at0 [0]) (at0 []) 2 (cutE [cut1940 s mo sp k cs own L])) F1940 body1940 Try.f23 [0] [] [pT, .string s] (hp (hT mo sp L.length k cs own)) K = (
FlatD [0]
    (hp
      [Blk.cells [Value.int IntKind.i64 mo, Value.slice (some { block := 1, off := 0, spot := sp : Addr }) L.length k] 2
          true,
        Blk.cells cs 2 own]) ∧
  ∃ (b : Nat),
    tmps 34
          [(0, Value.pointer (some { block := 0, off := 0 : Addr })), (1, Value.string s),
            (6, Value.int IntKind.i64 0)] =
        tmps 34
          [(0, Value.pointer (some { block := 0, off := 0 : Addr })), (1, Value.string s),
            (6, Value.int IntKind.i64 (↑b : Int))] ∧
      hp
            [Blk.cells
                [Value.int IntKind.i64 mo, Value.slice (some { block := 1, off := 0, spot := sp : Addr }) L.length k] 2
                true,
              Blk.cells cs 2 own] =
          hp
            [Blk.cells
                [Value.int IntKind.i64 mo, Value.slice (some { block := 1, off := 0, spot := sp : Addr }) L.length k] 2
                true,
              Blk.cells cs 2 own] ∧
        ownR s (List.drop b L) = ownR s L ∧
          Alt (ownR s L).isSome
            (K (Value.tuple #[Value.int IntKind.i64 ((ownR s L).getD 0), Value.bool true])
              (hp
                [Blk.cells
                    [Value.int IntKind.i64 mo,
                      Value.slice (some { block := 1, off := 0, spot := sp : Addr }) L.length k]
                    2 true,
                  Blk.cells cs 2 own]))
            (K (Value.tuple #[Value.int IntKind.i64 0, Value.bool false])
              (hp
                [Blk.cells
                    [Value.int IntKind.i64 mo,
                      Value.slice (some { block := 1, off := 0, spot := sp : Addr }) L.length k]
                    2 true,
                  Blk.cells cs 2 own]))) := by kernel_rfl

noncomputable def T1941 (o : Int) (m i : Nat) : List Value := tmps 38 [(0, pT), (1, .int .i64 o), (5, sT 2 m), (6, .int .i64 i)]

theorem r1941 (o : Int) (mo : Int) (q : Nat) (cq : List Value) (sp : Option Nat) (m k i : Nat) (cs : List Value) (own : Bool) (K : Post) :
  roundX Try.prog S0 noLoop F1941 body1941 2 [0] [.tmp 5 1] [0] [] [0,1,5,6] [0,0,1,0,1,1] (T1941 o q i) (hp (hT mo sp m k cs own ++ [.cells cq 1 true])) K = (
Alt (ltI (↑i : Int) (↑m : Int))
  (Need (ltI (↑i : Int) (↑m : Int))
    (Need (isInt IntKind.i64 ((getO cs (0 + (↑i : Int).toNat * 2 + 1)).getD undef))
      (Alt (eqI (intV ((getO cs (0 + (↑i : Int).toNat * 2 + 1)).getD undef)) o)
        (Need (ltI (↑i : Int) (↑m : Int))
          (Need (isStr ((getO cs (0 + (↑i : Int).toNat * 2 + 0)).getD undef))
            (Need (leN (0 + q * 1) cq.length)
              (Need (leN ((q + 1) * 16) 1099511627776)
                (Need (leN (q + 1) 1099511627776)
                  (K AE.normal
                    (tmps 38
                      [(0, Value.pointer (some { block := 0, off := 0 : Addr })), (1, Value.int IntKind.i64 o),
                        (5, Value.slice (some { block := 2, off := 0, spot := some 1 : Addr }) (q + 1) (q + 1)),
                        (6, Value.int IntKind.i64 (wr IntKind.i64 ((↑i : Int) + 1)))])
                    (hp
                      [Blk.cells
                          [Value.int IntKind.i64 mo, Value.slice (some { block := 1, off := 0, spot := sp : Addr }) m k]
                          2 true,
                        Blk.cells cs 2 own,
                        Blk.cells
                          (List.take (q * 1) (List.drop 0 cq) ++
                            [Value.string (strV ((getO cs (0 + (↑i : Int).toNat * 2 + 0)).getD undef))])
                          1 true])))))))
        (K AE.normal
          (tmps 38
            [(0, Value.pointer (some { block := 0, off := 0 : Addr })), (1, Value.int IntKind.i64 o),
              (5, Value.slice (some { block := 2, off := 0, spot := some 1 : Addr }) q q),
              (6, Value.int IntKind.i64 (wr IntKind.i64 ((↑i : Int) + 1)))])
          (hp
            [Blk.cells [Value.int IntKind.i64 mo, Value.slice (some { block := 1, off := 0, spot := sp : Addr }) m k] 2
                true,
              Blk.cells cs 2 own, Blk.cells cq 1 true])))))
  (K (AE.exit 0) (tmps 38 [(5, Value.slice (some { block := 2, off := 0, spot := some 1 : Addr }) q q)])
    (hp
      [Blk.cells [Value.int IntKind.i64 mo, Value.slice (some { block := 1, off := 0, spot := sp : Addr }) m k] 2 true,
        Blk.cells cs 2 own, Blk.cells cq 1 true]))) := by kernel_rfl

noncomputable def cut1941 (o : Int) (mo : Int) (sp : Option Nat) (k : Nat) (cs : List Value) (own : Bool) (L : List Tk) : CutE where
  β := Nat × List ByteArray
  p := [0,1,0,1,1]
  t := fun x => T1941 o x.2.length x.1
  h := fun x => hp (hT mo sp L.length k cs own ++ [.cells (eC sE x.2) 1 true])
  Q := fun x K => (x.2 ++ ofL o (L.drop x.1) = ofL o L) ∧ K (.exit 0) (tmps 38 [(5, sT 2 (ofL o L).length)]) (hp (hT mo sp L.length k cs own ++ [.cells (eC sE (ofL o L)) 1 true]))

theorem w1941 (o : Int) (mo : Int) (sp : Option Nat) (k : Nat) (cs : List Value) (own : Bool) (L : List Tk) (K : Value → Heap → Prop) :
  funX Try.prog S0 (gcLKX (at0 [0]) (at0 [.tmp 5 1]) 2 (cutE [cut1941 o mo sp k cs own L])) F1941 body1941 Try.f25 [0] [] [pT, .int .i64 o] (hp (hT mo sp L.length k cs own)) K = (
FlatD [0]
    (hp
      [Blk.cells [Value.int IntKind.i64 mo, Value.slice (some { block := 1, off := 0, spot := sp : Addr }) L.length k] 2
          true,
        Blk.cells cs 2 own, Blk.cells [] 1 true]) ∧
  ∃ (b : Nat × List ByteArray),
    tmps 38
          [(0, Value.pointer (some { block := 0, off := 0 : Addr })), (1, Value.int IntKind.i64 o),
            (5, Value.slice (some { block := 2, off := 0, spot := some 1 : Addr }) 0 0), (6, Value.int IntKind.i64 0)] =
        tmps 38
          [(0, Value.pointer (some { block := 0, off := 0 : Addr })), (1, Value.int IntKind.i64 o),
            (5, Value.slice (some { block := 2, off := 0, spot := some 1 : Addr }) b.snd.length b.snd.length),
            (6, Value.int IntKind.i64 (↑b.fst : Int))] ∧
      hp
            [Blk.cells
                [Value.int IntKind.i64 mo, Value.slice (some { block := 1, off := 0, spot := sp : Addr }) L.length k] 2
                true,
              Blk.cells cs 2 own, Blk.cells [] 1 true] =
          hp
            [Blk.cells
                [Value.int IntKind.i64 mo, Value.slice (some { block := 1, off := 0, spot := sp : Addr }) L.length k] 2
                true,
              Blk.cells cs 2 own, Blk.cells (eC sE b.snd) 1 true] ∧
        b.snd ++ ofL o (List.drop b.fst L) = ofL o L ∧
          K (Value.slice (some { block := 2, off := 0, spot := some 1 : Addr }) (ofL o L).length (ofL o L).length)
            (hp
              [Blk.cells
                  [Value.int IntKind.i64 mo, Value.slice (some { block := 1, off := 0, spot := sp : Addr }) L.length k]
                  2 true,
                Blk.cells cs 2 own, Blk.cells (eC sE (ofL o L)) 1 true])) := by kernel_rfl

noncomputable def T1942 (s : ByteArray) (m i : Nat) : List Value := tmps 39 [(0, pT), (1, .string s), (4, sT 2 m), (5, .int .i64 i)]

theorem r1942 (s : ByteArray) (mo : Int) (q : Nat) (cq : List Value) (sp : Option Nat) (m k i : Nat) (cs : List Value) (own : Bool) (K : Post) :
  roundX Try.prog S0 noLoop F1942 body1942 2 [0] [.tmp 4 2] [0] [] [0,1,4,5] [0,0,1,0,1] (T1942 s q i) (hp (hT mo sp m k cs own ++ [.cells cq 2 true])) K = (
Alt (ltI (↑i : Int) (↑m : Int))
  (Need (ltI (↑i : Int) (↑m : Int))
    (Need (isStr ((getO cs (0 + (↑i : Int).toNat * 2 + 0)).getD undef))
      (Alt (!eqS (strV ((getO cs (0 + (↑i : Int).toNat * 2 + 0)).getD undef)) s)
        (Need (ltI (↑i : Int) (↑m : Int))
          (Need (isStr ((getO cs (0 + (↑i : Int).toNat * 2)).getD undef))
            (Need (isInt IntKind.i64 ((getO cs (0 + (↑i : Int).toNat * 2 + 1)).getD undef))
              (Need (leN (0 + q * 2) cq.length)
                (Need (leN ((q + 1) * 24) 1099511627776)
                  (Need (leN (q + 1) 1099511627776)
                    (K AE.normal
                      (tmps 39
                        [(0, Value.pointer (some { block := 0, off := 0 : Addr })), (1, Value.string s),
                          (4, Value.slice (some { block := 2, off := 0, spot := some 1 : Addr }) (q + 1) (q + 1)),
                          (5, Value.int IntKind.i64 (wr IntKind.i64 ((↑i : Int) + 1)))])
                      (hp
                        [Blk.cells
                            [Value.int IntKind.i64 mo,
                              Value.slice (some { block := 1, off := 0, spot := sp : Addr }) m k]
                            2 true,
                          Blk.cells cs 2 own,
                          Blk.cells
                            (List.take (q * 2) (List.drop 0 cq) ++
                              [Value.string (strV ((getO cs (0 + (↑i : Int).toNat * 2)).getD undef)),
                                Value.int IntKind.i64 (intV ((getO cs (0 + (↑i : Int).toNat * 2 + 1)).getD undef))])
                            2 true]))))))))
        (K AE.normal
          (tmps 39
            [(0, Value.pointer (some { block := 0, off := 0 : Addr })), (1, Value.string s),
              (4, Value.slice (some { block := 2, off := 0, spot := some 1 : Addr }) q q),
              (5, Value.int IntKind.i64 (wr IntKind.i64 ((↑i : Int) + 1)))])
          (hp
            [Blk.cells [Value.int IntKind.i64 mo, Value.slice (some { block := 1, off := 0, spot := sp : Addr }) m k] 2
                true,
              Blk.cells cs 2 own, Blk.cells cq 2 true])))))
  (K (AE.exit 0)
    (tmps 39
      [(0, Value.pointer (some { block := 0, off := 0 : Addr })),
        (4, Value.slice (some { block := 2, off := 0, spot := some 1 : Addr }) q q)])
    (hp
      [Blk.cells [Value.int IntKind.i64 mo, Value.slice (some { block := 1, off := 0, spot := sp : Addr }) m k] 2 true,
        Blk.cells cs 2 own, Blk.cells cq 2 true]))) := by kernel_rfl

noncomputable def cut1942 (s : ByteArray) (mo : Int) (sp : Option Nat) (k : Nat) (cs : List Value) (own : Bool) (L : List Tk) : CutE where
  β := Nat × List Tk
  p := [0,1,0,1]
  t := fun x => T1942 s x.2.length x.1
  h := fun x => hp (hT mo sp L.length k cs own ++ [.cells (pC tkF tkG x.2) 2 true])
  Q := fun x K => (x.2 ++ cutR s (L.drop x.1) = cutR s L) ∧ K (.exit 0) (tmps 39 [(0, pT), (4, sT 2 (cutR s L).length)]) (hp (hT mo sp L.length k cs own ++ [.cells (pC tkF tkG (cutR s L)) 2 true]))

theorem w1942 (s : ByteArray) (mo : Int) (sp : Option Nat) (k : Nat) (cs : List Value) (own : Bool) (L : List Tk) (K : Value → Heap → Prop) :
  funX Try.prog S0 (gcLKX (at0 [0]) (at0 [.tmp 4 2]) 2 (cutE [cut1942 s mo sp k cs own L])) F1942 body1942 Try.f31 [0] [] [pT, .string s] (hp (hT mo sp L.length k cs own)) K = (
FlatD [0]
    (hp
      [Blk.cells [Value.int IntKind.i64 mo, Value.slice (some { block := 1, off := 0, spot := sp : Addr }) L.length k] 2
          true,
        Blk.cells cs 2 own, Blk.cells [] 2 true]) ∧
  ∃ (b : Nat × List Tk),
    tmps 39
          [(0, Value.pointer (some { block := 0, off := 0 : Addr })), (1, Value.string s),
            (4, Value.slice (some { block := 2, off := 0, spot := some 1 : Addr }) 0 0), (5, Value.int IntKind.i64 0)] =
        tmps 39
          [(0, Value.pointer (some { block := 0, off := 0 : Addr })), (1, Value.string s),
            (4, Value.slice (some { block := 2, off := 0, spot := some 1 : Addr }) b.snd.length b.snd.length),
            (5, Value.int IntKind.i64 (↑b.fst : Int))] ∧
      hp
            [Blk.cells
                [Value.int IntKind.i64 mo, Value.slice (some { block := 1, off := 0, spot := sp : Addr }) L.length k] 2
                true,
              Blk.cells cs 2 own, Blk.cells [] 2 true] =
          hp
            [Blk.cells
                [Value.int IntKind.i64 mo, Value.slice (some { block := 1, off := 0, spot := sp : Addr }) L.length k] 2
                true,
              Blk.cells cs 2 own, Blk.cells (pC tkF tkG b.snd) 2 true] ∧
        b.snd ++ cutR s (List.drop b.fst L) = cutR s L ∧
          K undef
            (hp
              [Blk.cells
                  [Value.int IntKind.i64 mo,
                    Value.slice (some { block := 2, off := 0, spot := some 1 : Addr }) (cutR s L).length
                      (cutR s L).length]
                  2 true,
                Blk.cells cs 2 own, Blk.cells (pC tkF tkG (cutR s L)) 2 true])) := by kernel_rfl

end Go.Proofs.Ytabbkoegaoekkaa

namespace Go.Proofs.Ytabbkoegaoekkaa
open Go.RowKit Go.Proofs.Ytabbkoegaoekkaa.AM
set_option maxRecDepth 100000
set_option maxHeartbeats 4000000
theorem own_loop (hmix : Try.prog.follows .mixedOrders = true) (s : ByteArray) (mo : Int) (sp : Option Nat) (k : Nat) (cs : List Value) (own : Bool) (L : List Tk) (hB : TSl cs L) (hl : L.length ≤ 1000000) (K : Post)
    (hK : Alt (ownR s L).isSome (K .ret (tmps 34 [(4, .int .i64 ((ownR s L).getD 0)), (5, .bool true)]) (hp (hT mo sp L.length k cs own))) (K (.exit 0) (tmps 34 []) (hp (hT mo sp L.length k cs own)))) : ∀ (t : List Tk) (i : Nat), L.drop i = t → ownR s t = ownR s L →
    LSays Try.prog 2 (sub body1940 [0,0,1,0,1]) (T1940 s i) (hp (hT mo sp L.length k cs own)) K := by
  have hF := hT_flat (mo := mo) (sp := sp) (m := L.length) (k := k) (own := own) hB.flat
  unfold hT at hF hK
  intro t
  induction t with
  | nil =>
    intro i ht ha
    have hge : ¬ ((i : Int) < (L.length : Int)) := by have := List.drop_eq_nil_iff.1 ht; omega
    refine (sure0 hmix).roundX F1940 noLoops [0] [] [0] [] [0,1,6] ?_
    rw [r1940]
    simp only [hge, hF, Alt_iff, Need_iff, ltI_eq, leI_eq, eqI_eq, leN_eq, eqN_eq, decide_eq_true_eq, decide_eq_false_iff_not, decide_true, decide_false, true_and, and_true, Bool.true_eq_false, Bool.false_eq_true, false_implies, true_implies, implies_true, not_true_eq_false, not_false_eq_true, Bool.not_eq_true', Bool.not_eq_false', Nat.zero_add, Nat.add_zero, Nat.sub_zero, Nat.zero_mul, Nat.mul_one, Int.toNat_natCast, List.drop_zero, beqV_int, beqV_sl, beqV_str, beqV_bool, beqV_ptr, beqV_flt, beqV_agg, beqV_tuple, List.all_cons, List.all_nil, Bool.and_self, Bool.and_true, Bool.true_and, Nat.le_refl, Int.le_refl, Nat.zero_le, Option.getD_some, isStr, strV, isInt, intV, isBool, boolV, kindEq, at0, isJunk, Option.isSome_some, Option.isSome_none, if_true, if_false, Nat.add_sub_cancel_left, Nat.add_sub_cancel]
    rw [← ha] at hK
    exact (Alt_iff.1 hK).2 rfl
  | cons x t ih =>
    intro i ht ha
    obtain ⟨hlt, hx, hd⟩ := cons_of_drop ht
    refine (sure0 hmix).roundX F1940 noLoops [0] [] [0] [] [0,1,6] ?_
    rw [r1940]
    simp only [show (i : Int) < (L.length : Int) by omega, hB.get0 hx, hB.get1 hx, tkF, tkG, nx i (by omega), hF, Alt_iff, Need_iff, ltI_eq, leI_eq, eqI_eq, leN_eq, eqN_eq, decide_eq_true_eq, decide_eq_false_iff_not, decide_true, decide_false, true_and, and_true, Bool.true_eq_false, Bool.false_eq_true, false_implies, true_implies, implies_true, not_true_eq_false, not_false_eq_true, Bool.not_eq_true', Bool.not_eq_false', Nat.zero_add, Nat.add_zero, Nat.sub_zero, Nat.zero_mul, Nat.mul_one, Int.toNat_natCast, List.drop_zero, beqV_int, beqV_sl, beqV_str, beqV_bool, beqV_ptr, beqV_flt, beqV_agg, beqV_tuple, List.all_cons, List.all_nil, Bool.and_self, Bool.and_true, Bool.true_and, Nat.le_refl, Int.le_refl, Nat.zero_le, Option.getD_some, isStr, strV, isInt, intV, isBool, boolV, kindEq, at0, isJunk, Option.isSome_some, Option.isSome_none, if_true, if_false, Nat.add_sub_cancel_left, Nat.add_sub_cancel]
    rw [ownR] at ha
    refine ⟨fun h => ?_, fun h => ?_⟩
    · rw [if_pos h] at ha
      rw [← ha] at hK
      exact (Alt_iff.1 hK).1 rfl
    · exact ih (i + 1) hd (by rw [if_neg (by rw [h]; simp)] at ha; exact ha)
noncomputable def ownC : CtrW where
  D := [0]
  W := []
  E := []
  pre := fun args blks => match args, blks with
    | [.pointer (some ⟨0,0,none⟩), .string _], [.cells [.int .i64 _, .slice (some ⟨1,0,_⟩) m k] 2 true, .cells cs 2 _] => IsT cs m k ∧ Need (leN m 1000000) True
    | _, _ => False
  val := fun args blks => match args, blks with
    | [.pointer (some ⟨0,0,none⟩), .string s], [.cells [.int .i64 _, .slice (some ⟨1,0,_⟩) m _] 2 true, .cells cs 2 _] => .tuple #[.int .i64 ((ownR s (tksAt cs m)).getD 0), .bool (ownR s (tksAt cs m)).isSome]
    | _, _ => undef
  out := fun _ blks => blks
theorem own_says (hmix : Try.prog.follows .mixedOrders = true) : ownC.Holds Try.prog 23 := by
  intro args blks hf hp
  simp only [ownC] at hp ⊢
  split at hp
  · rename_i s mo sp m k cs own
    obtain ⟨⟨L, rfl, hc, hB⟩, hl⟩ := hp
    simp only [Alt_iff, Need_iff, ltI_eq, leI_eq, eqI_eq, leN_eq, eqN_eq, decide_eq_true_eq, decide_eq_false_iff_not, decide_true, decide_false, true_and, and_true, Bool.true_eq_false, Bool.false_eq_true, false_implies, true_implies, implies_true, not_true_eq_false, not_false_eq_true, Bool.not_eq_true', Bool.not_eq_false'] at hl
    simp only [tksAt_eq hB]
    refine ⟨⟨rfl, rfl, trivial⟩, trivial, ?_⟩
    have hL : Loops Try.prog body1940 2 (cutE [cut1940 s mo sp k cs own L]) := Loops.noneE.moreE _ fun x K hQ => by
      obtain ⟨h1, h2⟩ := hQ
      exact own_loop hmix s mo sp k cs own L hB hl K h2 _ x rfl h1
    have hF := hT_flat (mo := mo) (sp := sp) (m := L.length) (k := k) (own := own) hB.flat
    refine (sure0 hmix).funX F1940 body1940 [0] [] Try.func23 rfl (hL.gcX (at0 [0]) (at0 [])) ?_
    have hw := w1940 s mo sp k cs own L
    unfold hT pT at hw
    unfold hT at hF
    rw [hw]
    refine ⟨hF, 0, rfl, rfl, rfl, ?_⟩
    rw [Alt_iff]
    cases hq : ownR s L with
    | none => exact ⟨fun h => (by cases h), fun _ => ⟨hF, rfl, rfl, rfl⟩⟩
    | some o => exact ⟨fun _ => ⟨hF, rfl, rfl, rfl⟩, fun h => (by cases h)⟩
  · exact hp.elim
theorem rof_loop (hmix : Try.prog.follows .mixedOrders = true) (o : Int) (mo : Int) (sp : Option Nat) (k : Nat) (cs : List Value) (own : Bool) (L : List Tk) (hB : TSl cs L) (hl : L.length ≤ 1000000) (K : Post)
    (hK : K (.exit 0) (tmps 38 [(5, sT 2 (ofL o L).length)]) (hp (hT mo sp L.length k cs own ++ [.cells (eC sE (ofL o L)) 1 true]))) : ∀ (t : List Tk) (i : Nat) (F : List ByteArray), L.drop i = t → F ++ ofL o t = ofL o L →
    LSays Try.prog 2 (sub body1941 [0,0,1,0,1,1]) (T1941 o F.length i) (hp (hT mo sp L.length k cs own ++ [.cells (eC sE F) 1 true])) K := by
  have hll := ofL_len o L
  intro t
  induction t with
  | nil =>
    intro i F ht ha
    have hge : ¬ ((i : Int) < (L.length : Int)) := by have := List.drop_eq_nil_iff.1 ht; omega
    have hF3 := hT3_flat (mo := mo) (sp := sp) (m := L.length) (k := k) (own := own) hB.flat (eC_flat flat_s F)
    refine (sure0 hmix).roundX F1941 noLoops [0] [.tmp 5 1] [0] [] [0,1,5,6] ?_
    rw [r1941]
    simp only [hge, hF3, Alt_iff, Need_iff, ltI_eq, leI_eq, eqI_eq, leN_eq, eqN_eq, decide_eq_true_eq, decide_eq_false_iff_not, decide_true, decide_false, true_and, and_true, Bool.true_eq_false, Bool.false_eq_true, false_implies, true_implies, implies_true, not_true_eq_false, not_false_eq_true, Bool.not_eq_true', Bool.not_eq_false', Nat.zero_add, Nat.add_zero, Nat.sub_zero, Nat.zero_mul, Nat.mul_one, Int.toNat_natCast, List.drop_zero, beqV_int, beqV_sl, beqV_str, beqV_bool, beqV_ptr, beqV_flt, beqV_agg, beqV_tuple, List.all_cons, List.all_nil, Bool.and_self, Bool.and_true, Bool.true_and, Nat.le_refl, Int.le_refl, Nat.zero_le, Option.getD_some, isStr, strV, isInt, intV, isBool, boolV, kindEq, at0, isJunk, Option.isSome_some, Option.isSome_none, if_true, if_false, Nat.add_sub_cancel_left, Nat.add_sub_cancel]
    have ha : F = ofL o L := by rw [← ha]; simp [ofL]
    subst ha
    exact hK
  | cons x t ih =>
    intro i F ht ha
    obtain ⟨hlt, hx, hd⟩ := cons_of_drop ht
    have hok := hB.ok x (List.mem_of_getElem? hx)
    have hF3 := hT3_flat (mo := mo) (sp := sp) (m := L.length) (k := k) (own := own) hB.flat (eC_flat flat_s F)
    have hlF : F.length ≤ L.length := by have := congrArg List.length ha; rw [List.length_append] at this; omega
    have hsz : F.length ≤ (eC sE F).length := Nat.le_of_eq (eC_len _ _).symm
    have q1 : List.take (F.length * 1) (List.drop 0 (eC sE F)) ++ [Value.string x.1] = eC sE (F ++ [x.1]) := by rw [Nat.mul_one, List.drop_zero, List.take_of_length_le (by rw [eC_len]; exact Nat.le_refl _), eC_append]; rfl
    have hF4 := hT3_flat (mo := mo) (sp := sp) (m := L.length) (k := k) (own := own) hB.flat (eC_flat flat_s (F ++ [x.1]))
    refine (sure0 hmix).roundX F1941 noLoops [0] [.tmp 5 1] [0] [] [0,1,5,6] ?_
    rw [r1941]
    have g0 : getO cs (0 + (i : Int).toNat * 2 + 0) = some (.string x.1) := by rw [Nat.zero_add, Nat.add_zero, Int.toNat_natCast]; exact hB.get0 hx
    rw [g0, Option.getD_some, show strV (Value.string x.1) = x.1 from rfl, q1]
    simp only [show (i : Int) < (L.length : Int) by omega, hB.get1 hx, tkG, nx i (by omega), hF3, hF4, hsz, show (F.length + 1) * 16 ≤ 1099511627776 by omega, show F.length + 1 ≤ 1099511627776 by omega, Alt_iff, Need_iff, ltI_eq, leI_eq, eqI_eq, leN_eq, eqN_eq, decide_eq_true_eq, decide_eq_false_iff_not, decide_true, decide_false, true_and, and_true, Bool.true_eq_false, Bool.false_eq_true, false_implies, true_implies, implies_true, not_true_eq_false, not_false_eq_true, Bool.not_eq_true', Bool.not_eq_false', Nat.zero_add, Nat.add_zero, Nat.sub_zero, Nat.zero_mul, Nat.mul_one, Int.toNat_natCast, List.drop_zero, beqV_int, beqV_sl, beqV_str, beqV_bool, beqV_ptr, beqV_flt, beqV_agg, beqV_tuple, List.all_cons, List.all_nil, Bool.and_self, Bool.and_true, Bool.true_and, Nat.le_refl, Int.le_refl, Nat.zero_le, Option.getD_some, isStr, strV, isInt, intV, isBool, boolV, kindEq, at0, isJunk, Option.isSome_some, Option.isSome_none, if_true, if_false, Nat.add_sub_cancel_left, Nat.add_sub_cancel]
    refine ⟨fun h => ?_, fun h => ?_⟩
    · have := ih (i + 1) (F ++ [x.1]) hd (by rw [ofL, if_pos (eqI_iff.2 h)] at ha; rw [List.append_assoc]; exact ha)
      rw [List.length_append, List.length_singleton] at this
      exact this
    · exact ih (i + 1) F hd (by rw [ofL, if_neg (fun hh => h (eqI_iff.1 hh))] at ha; exact ha)
noncomputable def rofX : CtrX (List Value) where
  D := [0]
  W := []
  E := []
  pre := fun args blks => match args, blks with
    | [.pointer (some ⟨0,0,none⟩), .int .i64 _], [.cells [.int .i64 _, .slice (some ⟨1,0,_⟩) m k] 2 true, .cells cs 2 _] => IsT cs m k ∧ Need (leN m 1000000) True
    | _, _ => False
  rel := fun args blks x => match args, blks with
    | [.pointer (some ⟨0,0,none⟩), .int .i64 o], [.cells [.int .i64 _, .slice (some ⟨1,0,_⟩) m k] 2 true, .cells cs 2 _] => IsS (ofL o (tksAt cs m)) x (ofL o (tksAt cs m)).length (ofL o (tksAt cs m)).length
    | _, _ => False
  val := fun args blks x => match args, blks with
    | [.pointer (some ⟨0,0,none⟩), .int .i64 o], [.cells [.int .i64 _, .slice (some ⟨1,0,_⟩) m k] 2 true, .cells cs 2 _] => .slice (some ⟨2,0,some 1⟩) (ofL o (tksAt cs m)).length (ofL o (tksAt cs m)).length
    | _, _ => undef
  out := fun args blks x => blks ++ [.cells x 1 true]
theorem ofL_ok {o : Int} {cs : List Value} {L : List Tk} (hB : TSl cs L) : ∀ s ∈ ofL o L, SOk s := fun s hs => by
  obtain ⟨x, hx, _, rfl⟩ := ofL_mem.1 hs
  exact ⟨(hB.ok x hx).s⟩
theorem rof_says (hmix : Try.prog.follows .mixedOrders = true) : rofX.Holds Try.prog 25 := by
  intro args blks hf hp
  simp only [rofX] at hp ⊢
  split at hp
  · rename_i o mo sp m k cs own
    obtain ⟨⟨L, rfl, hc, hB⟩, hl⟩ := hp
    simp only [Alt_iff, Need_iff, ltI_eq, leI_eq, eqI_eq, leN_eq, eqN_eq, decide_eq_true_eq, decide_eq_false_iff_not, decide_true, decide_false, true_and, and_true, Bool.true_eq_false, Bool.false_eq_true, false_implies, true_implies, implies_true, not_true_eq_false, not_false_eq_true, Bool.not_eq_true', Bool.not_eq_false'] at hl
    simp only [tksAt_eq hB]
    have hll := ofL_len o L
    refine ⟨eC sE (ofL o L), ⟨ESl.own flat_s (ofL_ok hB) (by omega), rfl, Nat.le_refl _⟩, ⟨rfl, rfl, trivial⟩, ⟨eC_flat flat_s _, trivial⟩, ?_⟩
    have hL : Loops Try.prog body1941 2 (cutE [cut1941 o mo sp k cs own L]) := Loops.noneE.moreE _ fun x K hQ => by
      obtain ⟨h1, h2⟩ := hQ
      exact rof_loop hmix o mo sp k cs own L hB hl K h2 _ x.1 x.2 rfl h1
    refine (sure0 hmix).funX F1941 body1941 [0] [] Try.func25 rfl (hL.gcX (at0 [0]) (at0 [.tmp 5 1])) ?_
    have hw := w1941 o mo sp k cs own L
    unfold hT pT at hw
    rw [hw]
    have hF1 := hT3_flat (mo := mo) (sp := sp) (m := L.length) (k := k) (own := own) hB.flat (eC_flat flat_s [])
    have hF2 := hT3_flat (mo := mo) (sp := sp) (m := L.length) (k := k) (own := own) hB.flat (eC_flat flat_s (ofL o L))
    exact ⟨hF1, (0, []), rfl, rfl, rfl, hF2, rfl, rfl, rfl⟩
  · exact hp.elim
theorem cutR_len (s : ByteArray) : ∀ L : List Tk, (cutR s L).length ≤ L.length := by
  intro L
  induction L with
  | nil => exact Nat.le_refl _
  | cons x t ih => unfold cutR; split <;> simp <;> omega
theorem cutR_eq (s : ByteArray) : ∀ L : List Tk, cutR s L = L.filter fun x => !eqS x.1 s := by
  intro L
  induction L with
  | nil => rfl
  | cons x t ih =>
    unfold cutR
    rw [List.filter_cons]
    cases h : eqS x.1 s <;> simp [ih]
theorem cut_loop (hmix : Try.prog.follows .mixedOrders = true) (s : ByteArray) (mo : Int) (sp : Option Nat) (k : Nat) (cs : List Value) (own : Bool) (L : List Tk) (hB : TSl cs L) (hl : L.length ≤ 1000000) (K : Post)
    (hK : K (.exit 0) (tmps 39 [(0, pT), (4, sT 2 (cutR s L).length)]) (hp (hT mo sp L.length k cs own ++ [.cells (pC tkF tkG (cutR s L)) 2 true]))) : ∀ (t : List Tk) (i : Nat) (F : List Tk), L.drop i = t → F ++ cutR s t = cutR s L →
    LSays Try.prog 2 (sub body1942 [0,0,1,0,1]) (T1942 s F.length i) (hp (hT mo sp L.length k cs own ++ [.cells (pC tkF tkG F) 2 true])) K := by
  have hll := cutR_len s L
  have hFF : ∀ F : List Tk, FlatD [0] (hp [.cells [.int .i64 mo, .slice (some ⟨1,0,sp⟩) L.length k] 2 true, .cells cs 2 own, .cells (pC tkF tkG F) 2 true]) := fun F => FlatD.hp ⟨rfl, hB.flat, pC_flat tk_flat tk_flatG F, trivial⟩
  intro t
  induction t with
  | nil =>
    intro i F ht ha
    have hge : ¬ ((i : Int) < (L.length : Int)) := by have := List.drop_eq_nil_iff.1 ht; omega
    refine (sure0 hmix).roundX F1942 noLoops [0] [.tmp 4 2] [0] [] [0,1,4,5] ?_
    rw [r1942]
    simp only [hge, hFF, Alt_iff, Need_iff, ltI_eq, leI_eq, eqI_eq, leN_eq, eqN_eq, decide_eq_true_eq, decide_eq_false_iff_not, decide_true, decide_false, true_and, and_true, Bool.true_eq_false, Bool.false_eq_true, false_implies, true_implies, implies_true, not_true_eq_false, not_false_eq_true, Bool.not_eq_true', Bool.not_eq_false', Nat.zero_add, Nat.add_zero, Nat.sub_zero, Nat.zero_mul, Nat.mul_one, Int.toNat_natCast, List.drop_zero, beqV_int, beqV_sl, beqV_str, beqV_bool, beqV_ptr, beqV_flt, beqV_agg, beqV_tuple, List.all_cons, List.all_nil, Bool.and_self, Bool.and_true, Bool.true_and, Nat.le_refl, Int.le_refl, Nat.zero_le, Option.getD_some, isStr, strV, isInt, intV, isBool, boolV, kindEq, at0, isJunk, Option.isSome_some, Option.isSome_none, if_true, if_false, Nat.add_sub_cancel_left, Nat.add_sub_cancel]
    have ha : F = cutR s L := by rw [← ha]; simp [cutR]
    subst ha
    exact hK
  | cons x t ih =>
    intro i F ht ha
    obtain ⟨hlt, hx, hd⟩ := cons_of_drop ht
    have hlF : F.length ≤ L.length := by have := congrArg List.length ha; rw [List.length_append] at this; omega
    have hsz : F.length * 2 ≤ (pC tkF tkG F).length := Nat.le_of_eq (pC_len _).symm
    have q1 : List.take (F.length * 2) (List.drop 0 (pC tkF tkG F)) ++ [Value.string x.1, Value.int .i64 x.2] = pC tkF tkG (F ++ [x]) := by rw [List.drop_zero, List.take_of_length_le (by rw [pC_len]; exact Nat.le_refl _), pC_append]; rfl
    refine (sure0 hmix).roundX F1942 noLoops [0] [.tmp 4 2] [0] [] [0,1,4,5] ?_
    rw [r1942]
    have g0 : getO cs (0 + (i : Int).toNat * 2) = some (.string x.1) := by rw [Nat.zero_add, Int.toNat_natCast]; exact hB.get0 hx
    have g1 : getO cs (0 + (i : Int).toNat * 2 + 1) = some (.int .i64 x.2) := by rw [Nat.zero_add, Int.toNat_natCast]; exact hB.get1 hx
    rw [Nat.add_zero, g0, g1, Option.getD_some, Option.getD_some, show strV (Value.string x.1) = x.1 from rfl, show intV (Value.int .i64 x.2) = x.2 from rfl, q1]
    simp only [show (i : Int) < (L.length : Int) by omega, nx i (by omega), hFF, hsz, show (F.length + 1) * 24 ≤ 1099511627776 by omega, show F.length + 1 ≤ 1099511627776 by omega, Alt_iff, Need_iff, ltI_eq, leI_eq, eqI_eq, leN_eq, eqN_eq, decide_eq_true_eq, decide_eq_false_iff_not, decide_true, decide_false, true_and, and_true, Bool.true_eq_false, Bool.false_eq_true, false_implies, true_implies, implies_true, not_true_eq_false, not_false_eq_true, Bool.not_eq_true', Bool.not_eq_false', Nat.zero_add, Nat.add_zero, Nat.sub_zero, Nat.zero_mul, Nat.mul_one, Int.toNat_natCast, List.drop_zero, beqV_int, beqV_sl, beqV_str, beqV_bool, beqV_ptr, beqV_flt, beqV_agg, beqV_tuple, List.all_cons, List.all_nil, Bool.and_self, Bool.and_true, Bool.true_and, Nat.le_refl, Int.le_refl, Nat.zero_le, Option.getD_some, isStr, strV, isInt, intV, isBool, boolV, kindEq, at0, isJunk, Option.isSome_some, Option.isSome_none, if_true, if_false, Nat.add_sub_cancel_left, Nat.add_sub_cancel]
    refine ⟨fun h => ?_, fun h => ?_⟩
    · have := ih (i + 1) (F ++ [x]) hd (by rw [cutR, if_neg (by rw [h]; simp)] at ha; rw [List.append_assoc]; exact ha)
      rw [List.length_append, List.length_singleton] at this
      exact this
    · exact ih (i + 1) F hd (by rw [cutR, if_pos h] at ha; exact ha)
structure IsTE (F : List Tk) (cs : List Value) (m k : Nat) : Prop where
  row : TSl cs F
  len : m = F.length
  le : m ≤ k
  ex : cs = pC tkF tkG F
noncomputable def cutRX : CtrX (List Value) where
  D := [0]
  W := [0]
  E := [0]
  pre := fun args blks => match args, blks with
    | [.pointer (some ⟨0,0,none⟩), .string _], [.cells [.int .i64 _, .slice (some ⟨1,0,_⟩) m k] 2 true, .cells cs 2 _] => IsT cs m k ∧ Need (leN m 1000000) True
    | _, _ => False
  rel := fun args blks x => match args, blks with
    | [.pointer (some ⟨0,0,none⟩), .string s], [.cells [.int .i64 _, .slice (some ⟨1,0,_⟩) m k] 2 true, .cells cs 2 _] => IsTE (cutR s (tksAt cs m)) x (cutR s (tksAt cs m)).length (cutR s (tksAt cs m)).length
    | _, _ => False
  val := fun args blks x => undef
  out := fun args blks x => match args, blks with
    | [.pointer (some ⟨0,0,none⟩), .string s], [.cells [.int .i64 mo, .slice (some ⟨1,0,_⟩) m k] 2 true, .cells cs 2 own] => [.cells [.int .i64 mo, .slice (some ⟨2,0,some 1⟩) (cutR s (tksAt cs m)).length (cutR s (tksAt cs m)).length] 2 true, .cells cs 2 own, .cells x 2 true]
    | _, _ => []
theorem cutR_says (hmix : Try.prog.follows .mixedOrders = true) : cutRX.Holds Try.prog 31 := by
  intro args blks hf hp
  simp only [cutRX] at hp ⊢
  split at hp
  · rename_i s mo sp m k cs own
    obtain ⟨⟨L, rfl, hc, hB⟩, hl⟩ := hp
    simp only [Alt_iff, Need_iff, ltI_eq, leI_eq, eqI_eq, leN_eq, eqN_eq, decide_eq_true_eq, decide_eq_false_iff_not, decide_true, decide_false, true_and, and_true, Bool.true_eq_false, Bool.false_eq_true, false_implies, true_implies, implies_true, not_true_eq_false, not_false_eq_true, Bool.not_eq_true', Bool.not_eq_false'] at hl
    simp only [tksAt_eq hB]
    have hll := cutR_len s L
    have hok : ∀ x ∈ cutR s L, TkOk x := fun x hx => by rw [cutR_eq] at hx; exact hB.ok x (List.mem_filter.1 hx).1
    refine ⟨pC tkF tkG (cutR s L), ⟨PSl.own0 tk_flat tk_flatG hok, rfl, Nat.le_refl _, rfl⟩, ⟨trivial, rfl, trivial⟩, ⟨rfl, pC_flat tk_flat tk_flatG _, trivial⟩, ?_⟩
    have hL : Loops Try.prog body1942 2 (cutE [cut1942 s mo sp k cs own L]) := Loops.noneE.moreE _ fun x K hQ => by
      obtain ⟨h1, h2⟩ := hQ
      exact cut_loop hmix s mo sp k cs own L hB hl K h2 _ x.1 x.2 rfl h1
    refine (sure0 hmix).funX F1942 body1942 [0] [] Try.func31 rfl (hL.gcX (at0 [0]) (at0 [.tmp 4 2])) ?_
    have hw := w1942 s mo sp k cs own L
    unfold hT pT at hw
    rw [hw]
    have hF1 : FlatD [0] (AM.hp [.cells [.int .i64 mo, .slice (some ⟨1,0,sp⟩) L.length k] 2 true, .cells cs 2 own, .cells [] 2 true]) := FlatD.hp ⟨rfl, hB.flat, ⟨fun x hx => by simp at hx⟩, trivial⟩
    have hF2 : FlatD [0] (AM.hp [.cells [.int .i64 mo, .slice (some ⟨2,0,some 1⟩) (cutR s L).length (cutR s L).length] 2 true, .cells cs 2 own, .cells (pC tkF tkG (cutR s L)) 2 true]) := FlatD.hp ⟨rfl, hB.flat, pC_flat tk_flat tk_flatG _, trivial⟩
    exact ⟨hF1, (0, []), rfl, rfl, rfl, hF2, rfl, rfl, rfl⟩
  · exact hp.elim
end Go.Proofs.Ytabbkoegaoekkaa

namespace Go.Proofs.Ytabbkoegaoekkaa
open Go.RowKit Go.Proofs.Ytabbkoegaoekkaa.AM
set_option maxRecDepth 100000
set_option maxHeartbeats 4000000
noncomputable def body1938 : Code := (Try.f21.body).getD .skip
def F1938 : List Nat → Option (List Nat) := fun p => match p with
  | [1] => some [0, 1]
  | [1, 1] => some [0, 5]
  | [1, 0, 1, 1] => some [0, 5, 6]
  | [1, 0, 0, 0, 1, 0, 1, 1] => some [0, 5, 6, 13]
  | [1, 1, 0, 0, 0, 1, 0, 1, 1] => some [5]
  | [1, 0, 0, 1, 0, 1, 1] => some [0, 5, 6]
  | [1, 1, 0, 0, 1, 0, 1, 1] => some [0, 5, 6]
  | [1, 1, 1] => some [5]
  | [1, 1, 1, 1] => some [4]
  | _ => none
inductive OkP (o : Int) (s : ByteArray) : Prop
  | mk (hs : s.size ≤ 1000000) (ho : ZP .i64 o) : OkP o s
noncomputable def T1943 (o : Int) (s : ByteArray) (n : Nat) : List Value := tmps 51 [(0, pT), (1, .int .i64 o), (2, .string s), (6, .int .i64 n)]
/-- behind those that are not greater -/
def posT (s : ByteArray) (L : List Tk) : Nat → Nat
  | 0 => 0
  | n + 1 => match L[n]? with
    | some x => if ltS s x.1 then posT s L n else n + 1
    | none => 0

theorem r1943s (o : Int) (s : ByteArray) (mo : Int) (sp : Option Nat) (m k n : Nat) (cs : List Value) (own : Bool) (K : Post) :
  roundX Try.prog S0 noLoop F1943 body1943 2 [0] [] [0] [] [0,1,2,6] [0,0,0,1] (T1943 o s (n + 1)) (hp (hT mo sp m k cs own)) K = (
Need (leI 0 (wr IntKind.i64 ((↑(n + 1) : Int) - 1)))
  (Need (ltI (wr IntKind.i64 ((↑(n + 1) : Int) - 1)) (↑m : Int))
    (Need (isStr ((getO cs (0 + (wr IntKind.i64 ((↑(n + 1) : Int) - 1)).toNat * 2 + 0)).getD undef))
      (Alt
        (!(ltS (strV ((getO cs (0 + (wr IntKind.i64 ((↑(n + 1) : Int) - 1)).toNat * 2 + 0)).getD undef)) s ||
            eqS (strV ((getO cs (0 + (wr IntKind.i64 ((↑(n + 1) : Int) - 1)).toNat * 2 + 0)).getD undef)) s))
        (K AE.normal
          (tmps 51
            [(0, Value.pointer (some { block := 0, off := 0 : Addr })), (1, Value.int IntKind.i64 o),
              (2, Value.string s), (6, Value.int IntKind.i64 (wr IntKind.i64 ((↑(n + 1) : Int) - 1)))])
          (hp
            [Blk.cells [Value.int IntKind.i64 mo, Value.slice (some { block := 1, off := 0, spot := sp : Addr }) m k] 2
                true,
              Blk.cells cs 2 own]))
        (K (AE.exit 0)
          (tmps 51
            [(0, Value.pointer (some { block := 0, off := 0 : Addr })), (1, Value.int IntKind.i64 o),
              (2, Value.string s), (6, Value.int IntKind.i64 (↑(n + 1) : Int))])
          (hp
            [Blk.cells [Value.int IntKind.i64 mo, Value.slice (some { block := 1, off := 0, spot := sp : Addr }) m k] 2
                true,
              Blk.cells cs 2 own])))))) := by kernel_rfl

theorem r1943z (o : Int) (s : ByteArray) (mo : Int) (sp : Option Nat) (m k : Nat) (cs : List Value) (own : Bool) (K : Post) :
  roundX Try.prog S0 noLoop F1943 body1943 2 [0] [] [0] [] [0,1,2,6] [0,0,0,1] (T1943 o s 0) (hp (hT mo sp m k cs own)) K = (
K (AE.exit 0)
  (tmps 51
    [(0, Value.pointer (some { block := 0, off := 0 : Addr })), (1, Value.int IntKind.i64 o), (2, Value.string s),
      (6, Value.int IntKind.i64 0)])
  (hp
    [Blk.cells [Value.int IntKind.i64 mo, Value.slice (some { block := 1, off := 0, spot := sp : Addr }) m k] 2 true,
      Blk.cells cs 2 own])) := by kernel_rfl

noncomputable def cut1943 (o : Int) (s : ByteArray) (mo : Int) (sp : Option Nat) (k : Nat) (cs : List Value) (own : Bool) (L : List Tk) : CutE where
  β := Nat
  p := [0,0,1]
  t := fun x => T1943 o s x
  h := fun x => hp (hT mo sp L.length k cs own)
  Q := fun x K => (posT s L x = posT s L L.length ∧ x ≤ L.length) ∧ K (.exit 0) (T1943 o s (posT s L L.length)) (hp (hT mo sp L.length k cs own))

theorem w1943 (o : Int) (s : ByteArray) (mo : Int) (sp : Option Nat) (k : Nat) (cs : List Value) (own : Bool) (L : List Tk) (K : Value → Heap → Prop) :
  funX Try.prog S0 (gcLKX (at0 [0]) (at0 []) 2 (cutE [cut1943 o s mo sp k cs own L])) F1943 body1943 Try.f34 [0] [] [pT, .int .i64 o, .string s] (hp (hT mo sp L.length k cs own)) K = (
FlatD [0]
    (hp
      [Blk.cells [Value.int IntKind.i64 mo, Value.slice (some { block := 1, off := 0, spot := sp : Addr }) L.length k] 2
          true,
        Blk.cells cs 2 own]) ∧
  ∃ (b : Nat),
    tmps 51
          [(0, Value.pointer (some { block := 0, off := 0 : Addr })), (1, Value.int IntKind.i64 o), (2, Value.string s),
            (6, Value.int IntKind.i64 (↑L.length : Int))] =
        tmps 51
          [(0, Value.pointer (some { block := 0, off := 0 : Addr })), (1, Value.int IntKind.i64 o), (2, Value.string s),
            (6, Value.int IntKind.i64 (↑b : Int))] ∧
      hp
            [Blk.cells
                [Value.int IntKind.i64 mo, Value.slice (some { block := 1, off := 0, spot := sp : Addr }) L.length k] 2
                true,
              Blk.cells cs 2 own] =
          hp
            [Blk.cells
                [Value.int IntKind.i64 mo, Value.slice (some { block := 1, off := 0, spot := sp : Addr }) L.length k] 2
                true,
              Blk.cells cs 2 own] ∧
        (posT s L b = posT s L L.length ∧ b.le L.length) ∧
          Need (leI (↑(posT s L L.length) : Int) (↑k : Int))
            (Need (leN (0 + ((↑(posT s L L.length) : Int).toNat - 0) * 2) cs.length)
              (Need (leN (((↑(posT s L L.length) : Int).toNat - 0) * 24) 1099511627776)
                (Need (leN ((↑(posT s L L.length) : Int).toNat - 0) 1099511627776)
                  (Need
                    (leN (0 + ((↑(posT s L L.length) : Int).toNat - 0) * 2)
                      (List.take (((↑(posT s L L.length) : Int).toNat - 0) * 2) (List.drop 0 cs)).length)
                    (Need (leN (((↑(posT s L L.length) : Int).toNat - 0 + 1) * 24) 1099511627776)
                      (Need (leN ((↑(posT s L L.length) : Int).toNat - 0 + 1) 1099511627776)
                        (Need (leI (↑(posT s L L.length) : Int) (↑L.length : Int))
                          (Need
                            (leN
                              (0 + (↑(posT s L L.length) : Int).toNat * 2 +
                                (L.length - (↑(posT s L L.length) : Int).toNat) * 2)
                              cs.length)
                            (Need
                              (leN (0 + ((↑(posT s L L.length) : Int).toNat - 0 + 1) * 2)
                                (List.take (((↑(posT s L L.length) : Int).toNat - 0) * 2)
                                      (List.drop 0
                                        (List.take (((↑(posT s L L.length) : Int).toNat - 0) * 2) (List.drop 0 cs))) ++
                                    [Value.string s, Value.int IntKind.i64 o]).length)
                              (Need
                                (leN
                                  (((↑(posT s L L.length) : Int).toNat - 0 + 1 +
                                      (L.length - (↑(posT s L L.length) : Int).toNat)) *
                                    24)
                                  1099511627776)
                                (Need
                                  (leN
                                    ((↑(posT s L L.length) : Int).toNat - 0 + 1 +
                                      (L.length - (↑(posT s L L.length) : Int).toNat))
                                    1099511627776)
                                  (Need
                                    ((List.take ((L.length - (↑(posT s L L.length) : Int).toNat) * 2)
                                          (List.drop (0 + (↑(posT s L L.length) : Int).toNat * 2) cs)).all
                                      oneV)
                                    (Need (leI (↑(posT s L L.length) : Int) (↑L.length : Int))
                                      (Need
                                        (beqV 64
                                          (Value.slice
                                            (some
                                              { block := 1, off := 0 + (↑(posT s L L.length) : Int).toNat * 2,
                                                spot := bif fullS sp then some 3 else sp : Addr })
                                            (L.length - (↑(posT s L L.length) : Int).toNat)
                                            (k - (↑(posT s L L.length) : Int).toNat))
                                          (Value.slice
                                            (some
                                              { block := 1, off := 0 + (↑(posT s L L.length) : Int).toNat * 2,
                                                spot := bif fullS sp then some 3 else sp : Addr })
                                            (L.length - (↑(posT s L L.length) : Int).toNat)
                                            (k - (↑(posT s L L.length) : Int).toNat)))
                                        (Need (leI (↑(posT s L L.length) : Int) (↑L.length : Int))
                                          (Need
                                            (beqV 64
                                              (Value.slice
                                                (some
                                                  { block := 1, off := 0 + (↑(posT s L L.length) : Int).toNat * 2,
                                                    spot := bif fullS sp then some 3 else sp : Addr })
                                                (L.length - (↑(posT s L L.length) : Int).toNat)
                                                (k - (↑(posT s L L.length) : Int).toNat))
                                              (Value.slice
                                                (some
                                                  { block := 1, off := 0 + (↑(posT s L L.length) : Int).toNat * 2,
                                                    spot := bif fullS sp then some 3 else sp : Addr })
                                                (L.length - (↑(posT s L L.length) : Int).toNat)
                                                (k - (↑(posT s L L.length) : Int).toNat)))
                                            (Need
                                              (beqV 64 (Value.int IntKind.i64 (↑(posT s L L.length) : Int))
                                                (Value.int IntKind.i64 (↑(posT s L L.length) : Int)))
                                              (Need
                                                (beqV 64 (Value.int IntKind.i64 (↑(posT s L L.length) : Int))
                                                  (Value.int IntKind.i64 (↑(posT s L L.length) : Int)))
                                                (Need
                                                  (beqV 64
                                                    (Value.slice (some { block := 1, off := 0, spot := sp : Addr })
                                                      L.length k)
                                                    (Value.slice (some { block := 1, off := 0, spot := sp : Addr })
                                                      L.length k))
                                                  (Need
                                                    (beqV 64
                                                      (Value.slice (some { block := 1, off := 0, spot := sp : Addr })
                                                        L.length k)
                                                      (Value.slice (some { block := 1, off := 0, spot := sp : Addr })
                                                        L.length k))
                                                    (Need
                                                      (beqV 64 (Value.agg #[Value.string s, Value.int IntKind.i64 o])
                                                        (Value.agg #[Value.string s, Value.int IntKind.i64 o]))
                                                      (Need
                                                        (beqV 64 (Value.int IntKind.i64 o) (Value.int IntKind.i64 o))
                                                        (Need (beqV 64 (Value.string s) (Value.string s))
                                                          (K undef
                                                            (hp
                                                              [Blk.cells
                                                                  [Value.int IntKind.i64 mo,
                                                                    Value.slice
                                                                      (some
                                                                        { block := 2, off := 0, spot := some 1 : Addr })
                                                                      ((↑(posT s L L.length) : Int).toNat - 0 + 1 +
                                                                        (L.length - (↑(posT s L L.length) : Int).toNat))
                                                                      ((↑(posT s L L.length) : Int).toNat - 0 + 1 +
                                                                        (L.length -
                                                                          (↑(posT s L L.length) : Int).toNat))]
                                                                  2 true,
                                                                Blk.cells cs 2 own,
                                                                Blk.cells
                                                                  (List.take
                                                                      (((↑(posT s L L.length) : Int).toNat - 0 + 1) * 2)
                                                                      (List.drop 0
                                                                        (List.take
                                                                            (((↑(posT s L L.length) : Int).toNat - 0) *
                                                                              2)
                                                                            (List.drop 0
                                                                              (List.take
                                                                                (((↑(posT s L L.length) : Int).toNat -
                                                                                    0) *
                                                                                  2)
                                                                                (List.drop 0 cs))) ++
                                                                          [Value.string s, Value.int IntKind.i64 o])) ++
                                                                    List.take
                                                                      ((L.length - (↑(posT s L L.length) : Int).toNat) *
                                                                        2)
                                                                      (List.drop
                                                                        (0 + (↑(posT s L L.length) : Int).toNat * 2)
                                                                        cs))
                                                                  2 true])))))))))))))))))))))))))) := by kernel_rfl

noncomputable def T1944 (m m2 k2 i : Nat) : List Value := tmps 26 [(0, .slice (some ⟨0,0,some 1⟩) m m2), (1, .slice (some ⟨1,0,some 1⟩) m k2), (5, .int .i64 i)]
def allS : List ByteArray → List ByteArray → Bool
  | [], _ => true
  | x :: a, y :: b => eqS x y && allS a b
  | _, [] => false

theorem r1944 (ca cb : List Value) (w1 w2 : Bool) (m k k2 i : Nat) (K : Post) :
  roundX Try.prog S0 noLoop F1944 body1944 2 [] [] [] [] [0,1,5] [0,0,1,0,1,1] (T1944 m k k2 i) (hp [.cells ca 1 w1, .cells cb 1 w2]) K = (
Alt (ltI (↑i : Int) (↑m : Int))
  (Need (ltI (↑i : Int) (↑m : Int))
    (Need (isStr ((getO ca (0 + (↑i : Int).toNat * 1)).getD undef))
      (Need (ltI (↑i : Int) (↑m : Int))
        (Need (isStr ((getO cb (0 + (↑i : Int).toNat * 1)).getD undef))
          (Alt
            (!eqS (strV ((getO ca (0 + (↑i : Int).toNat * 1)).getD undef))
                (strV ((getO cb (0 + (↑i : Int).toNat * 1)).getD undef)))
            (K AE.ret (tmps 26 [(4, Value.bool false)]) (hp [Blk.cells ca 1 w1, Blk.cells cb 1 w2]))
            (K AE.normal
              (tmps 26
                [(0, Value.slice (some { block := 0, off := 0, spot := some 1 : Addr }) m k),
                  (1, Value.slice (some { block := 1, off := 0, spot := some 1 : Addr }) m k2),
                  (5, Value.int IntKind.i64 (wr IntKind.i64 ((↑i : Int) + 1)))])
              (hp [Blk.cells ca 1 w1, Blk.cells cb 1 w2])))))))
  (K (AE.exit 0) (tmps 26 []) (hp [Blk.cells ca 1 w1, Blk.cells cb 1 w2]))) := by kernel_rfl

noncomputable def cut1944 (ca cb : List Value) (w1 w2 : Bool) (k k2 : Nat) (a b : List ByteArray) : CutE where
  β := Nat
  p := [0,1,0,1,1]
  t := fun x => T1944 a.length k k2 x
  h := fun x => hp [.cells ca 1 w1, .cells cb 1 w2]
  Q := fun x K => (allS (a.drop x) (b.drop x) = allS a b ∧ a.length = b.length) ∧ Alt (allS a b) (K (.exit 0) (tmps 26 []) (hp [.cells ca 1 w1, .cells cb 1 w2])) (K .ret (tmps 26 [(4, .bool false)]) (hp [.cells ca 1 w1, .cells cb 1 w2]))

theorem w1944 (ca cb : List Value) (w1 w2 : Bool) (k m2 k2 : Nat) (a b : List ByteArray) (K : Value → Heap → Prop) :
  funX Try.prog S0 (gcLKX (at0 []) (at0 []) 2 (cutE [cut1944 ca cb w1 w2 k k2 a b])) F1944 body1944 Try.f24 [] [] [.slice (some ⟨0,0,some 1⟩) a.length k, .slice (some ⟨1,0,some 1⟩) m2 k2] (hp [.cells ca 1 w1, .cells cb 1 w2]) K = (
Alt (!eqI (↑a.length : Int) (↑m2 : Int)) (K (Value.bool false) (hp [Blk.cells ca 1 w1, Blk.cells cb 1 w2]))
  (FlatD [] (hp [Blk.cells ca 1 w1, Blk.cells cb 1 w2]) ∧
    ∃ (b_1 : Nat),
      tmps 26
            [(0, Value.slice (some { block := 0, off := 0, spot := some 1 : Addr }) a.length k),
              (1, Value.slice (some { block := 1, off := 0, spot := some 1 : Addr }) m2 k2),
              (5, Value.int IntKind.i64 0)] =
          tmps 26
            [(0, Value.slice (some { block := 0, off := 0, spot := some 1 : Addr }) a.length k),
              (1, Value.slice (some { block := 1, off := 0, spot := some 1 : Addr }) a.length k2),
              (5, Value.int IntKind.i64 (↑b_1 : Int))] ∧
        hp [Blk.cells ca 1 w1, Blk.cells cb 1 w2] = hp [Blk.cells ca 1 w1, Blk.cells cb 1 w2] ∧
          (allS (List.drop b_1 a) (List.drop b_1 b) = allS a b ∧ a.length = b.length) ∧
            Alt (allS a b) (K (Value.bool true) (hp [Blk.cells ca 1 w1, Blk.cells cb 1 w2]))
              (K (Value.bool false) (hp [Blk.cells ca 1 w1, Blk.cells cb 1 w2])))) := by kernel_rfl

end Go.Proofs.Ytabbkoegaoekkaa

namespace Go.Proofs.Ytabbkoegaoekkaa
open Go.RowKit Go.Proofs.Ytabbkoegaoekkaa.AM
set_option maxRecDepth 100000
set_option maxHeartbeats 4000000
theorem posT_le (s : ByteArray) (L : List Tk) : ∀ n, posT s L n ≤ n := by
  intro n
  induction n with
  | zero => exact Nat.le_refl _
  | succ n ih => unfold posT; split <;> (try split) <;> omega
def putT (o : Int) (s : ByteArray) (L : List Tk) : List Tk := L.take (posT s L L.length) ++ (s, o) :: L.drop (posT s L L.length)
theorem putT_len (o : Int) (s : ByteArray) (L : List Tk) : (putT o s L).length = L.length + 1 := by have := posT_le s L L.length; unfold putT; simp; omega
theorem ltS_or (a b : ByteArray) : (!(ltS a b || eqS a b)) = ltS b a := by
  unfold ltS eqS
  have key : ∀ x y : List UInt8, (!(Op.bytesLess x y || x == y)) = Op.bytesLess y x := by
    intro x
    induction x with
    | nil => intro y; cases y <;> rfl
    | cons p x ih =>
      intro y
      cases y with
      | nil => rfl
      | cons q y =>
        have := ih y
        simp only [Op.bytesLess] at this ⊢
        by_cases h1 : p < q
        · simp [h1, show ¬ q < p from fun h => by have a1 := UInt8.lt_iff_toNat_lt.1 h; have a2 := UInt8.lt_iff_toNat_lt.1 h1; omega, show ¬ q = p from fun h => by subst h; have := UInt8.lt_iff_toNat_lt.1 h1; omega]
        · by_cases h2 : q < p
          · simp [h1, h2, show ¬ p = q from fun h => by subst h; have := UInt8.lt_iff_toNat_lt.1 h2; omega]
          · have h3 : p = q := UInt8.toNat_inj.1 (by have a1 : ¬ p.toNat < q.toNat := fun h => h1 (UInt8.lt_iff_toNat_lt.2 h); have a2 : ¬ q.toNat < p.toNat := fun h => h2 (UInt8.lt_iff_toNat_lt.2 h); omega)
            subst h3
            simp [h1] at this ⊢
            exact this
  exact key _ _
theorem put_loop (hmix : Try.prog.follows .mixedOrders = true) (o : Int) (s : ByteArray) (mo : Int) (sp : Option Nat) (k : Nat) (cs : List Value) (own : Bool) (L : List Tk) (hB : TSl cs L) (hl : L.length ≤ 1000000) (K : Post)
    (hK : K (.exit 0) (T1943 o s (posT s L L.length)) (hp (hT mo sp L.length k cs own))) : ∀ n : Nat, n ≤ L.length → posT s L n = posT s L L.length →
    LSays Try.prog 2 (sub body1943 [0,0,0,1]) (T1943 o s n) (hp (hT mo sp L.length k cs own)) K := by
  have hF := hT_flat (mo := mo) (sp := sp) (m := L.length) (k := k) (own := own) hB.flat
  intro n
  induction n with
  | zero =>
    intro hn ha
    refine (sure0 hmix).roundX F1943 noLoops [0] [] [0] [] [0,1,2,6] ?_
    rw [r1943z]
    rw [← ha] at hK
    exact ⟨hF, hK⟩
  | succ n ih =>
    intro hn ha
    have hx : L[n]? = some L[n] := List.getElem?_eq_getElem (by omega)
    generalize L[n] = x at hx
    refine (sure0 hmix).roundX F1943 noLoops [0] [] [0] [] [0,1,2,6] ?_
    rw [r1943s, pv n (by omega)]
    have g0 : getO cs (0 + ((n : Nat) : Int).toNat * 2 + 0) = some (.string x.1) := by rw [Nat.zero_add, Nat.add_zero, Int.toNat_natCast]; exact hB.get0 hx
    rw [g0, Option.getD_some, show strV (Value.string x.1) = x.1 from rfl, ltS_or]
    unfold hT at hF hK
    simp only [show (0 : Int) ≤ (n : Int) by omega, show (n : Int) < (L.length : Int) by omega, hF, Alt_iff, Need_iff, ltI_eq, leI_eq, eqI_eq, leN_eq, eqN_eq, decide_eq_true_eq, decide_eq_false_iff_not, decide_true, decide_false, true_and, and_true, Bool.true_eq_false, Bool.false_eq_true, false_implies, true_implies, implies_true, not_true_eq_false, not_false_eq_true, Bool.not_eq_true', Bool.not_eq_false', Nat.zero_add, Nat.add_zero, Nat.sub_zero, Nat.zero_mul, Nat.mul_one, Int.toNat_natCast, List.drop_zero, beqV_int, beqV_sl, beqV_str, beqV_bool, beqV_ptr, beqV_flt, beqV_agg, beqV_tuple, List.all_cons, List.all_nil, Bool.and_self, Bool.and_true, Bool.true_and, Nat.le_refl, Int.le_refl, Nat.zero_le, Option.getD_some, isStr, strV, isInt, intV, isBool, boolV, kindEq, at0, isJunk, Option.isSome_some, Option.isSome_none, if_true, if_false, Nat.add_sub_cancel_left, Nat.add_sub_cancel]
    rw [posT, hx] at ha
    refine ⟨fun h => ?_, fun h => ?_⟩
    · simp only [h, if_true] at ha
      exact ih (by omega) ha
    · simp only [h, Bool.false_eq_true, if_false] at ha
      rw [← ha] at hK
      exact hK
noncomputable def putX : CtrX (List Value) where
  D := [0]
  W := [0]
  E := [0]
  pre := fun args blks => match args, blks with
    | [.pointer (some ⟨0,0,none⟩), .int .i64 o, .string s], [.cells [.int .i64 _, .slice (some ⟨1,0,_⟩) m k] 2 true, .cells cs 2 _] => IsT cs m k ∧ OkP o s ∧ Need (leN m 1000000) True
    | _, _ => False
  rel := fun args blks x => match args, blks with
    | [.pointer (some ⟨0,0,none⟩), .int .i64 o, .string s], [.cells [.int .i64 _, .slice (some ⟨1,0,_⟩) m k] 2 true, .cells cs 2 _] => IsTL (putT o s (tksAt cs m)) x (m + 1) (m + 1)
    | _, _ => False
  val := fun args blks x => undef
  out := fun args blks x => match args, blks with
    | [.pointer (some ⟨0,0,none⟩), .int .i64 o, .string s], [.cells [.int .i64 mo, .slice (some ⟨1,0,_⟩) m k] 2 true, .cells cs 2 own] => [.cells [.int .i64 mo, .slice (some ⟨2,0,some 1⟩) (m + 1) (m + 1)] 2 true, .cells cs 2 own, .cells x 2 true]
    | _, _ => []
theorem put_says (hmix : Try.prog.follows .mixedOrders = true) : putX.Holds Try.prog 34 := by
  intro args blks hf hp
  simp only [putX] at hp ⊢
  split at hp
  · rename_i o s mo sp m k cs own
    obtain ⟨⟨L, rfl, hc, hB⟩, ⟨hs, ho⟩, hl⟩ := hp
    simp only [Alt_iff, Need_iff, ltI_eq, leI_eq, eqI_eq, leN_eq, eqN_eq, decide_eq_true_eq, decide_eq_false_iff_not, decide_true, decide_false, true_and, and_true, Bool.true_eq_false, Bool.false_eq_true, false_implies, true_implies, implies_true, not_true_eq_false, not_false_eq_true, Bool.not_eq_true', Bool.not_eq_false'] at hl
    simp only [tksAt_eq hB]
    have hple := posT_le s L L.length
    obtain ⟨p, hp⟩ : ∃ p, p = posT s L L.length := ⟨_, rfl⟩
    have hput : putT o s L = L.take p ++ (s, o) :: L.drop p := by unfold putT; rw [hp]
    have hok : ∀ x ∈ putT o s L, TkOk x := fun x hx => by
      rw [hput] at hx
      rcases List.mem_append.1 hx with hx | hx
      · exact hB.ok x (List.mem_of_mem_take hx)
      · rcases List.mem_cons.1 hx with rfl | hx
        · exact ⟨hs, ho⟩
        · exact hB.ok x (List.mem_of_mem_drop hx)
    refine ⟨pC tkF tkG (putT o s L), ⟨PSl.own0 tk_flat tk_flatG hok, (putT_len o s L).symm, Nat.le_refl _⟩, ⟨trivial, rfl, trivial⟩, ⟨rfl, pC_flat tk_flat tk_flatG _, trivial⟩, ?_⟩
    have hL : Loops Try.prog body1943 2 (cutE [cut1943 o s mo sp k cs own L]) := Loops.noneE.moreE _ fun x K hQ => by
      obtain ⟨⟨h1, h3⟩, h2⟩ := hQ
      exact put_loop hmix o s mo sp k cs own L hB hl K h2 x h3 h1
    refine (sure0 hmix).funX F1943 body1943 [0] [] Try.func34 rfl (hL.gcX (at0 [0]) (at0 [])) ?_
    have hw := w1943 o s mo sp k cs own L
    unfold hT pT at hw
    rw [hw, ← hp]
    have hF1 : FlatD [0] (AM.hp [.cells [.int .i64 mo, .slice (some ⟨1,0,sp⟩) L.length k] 2 true, .cells cs 2 own]) := FlatD.hp ⟨rfl, hB.flat, trivial⟩
    have hF2 : FlatD [0] (AM.hp [.cells [.int .i64 mo, .slice (some ⟨2,0,some 1⟩) (L.length + 1) (L.length + 1)] 2 true, .cells cs 2 own, .cells (pC tkF tkG (putT o s L)) 2 true]) := FlatD.hp ⟨rfl, hB.flat, pC_flat tk_flat tk_flatG _, trivial⟩
    have hsz := hB.size
    rw [← hp] at hple
    have e1 := hB.takeN p hple
    have e2 := hB.dropN p hple
    have e3 : List.take (p * 2) (pC tkF tkG (L.take p)) = pC tkF tkG (L.take p) := by rw [pC_take, List.take_take, Nat.min_self]
    have hl1 : (pC tkF tkG (L.take p)).length = p * 2 := by rw [pC_len, List.length_take, Nat.min_eq_left hple]
    have e4 : List.take ((p + 1) * 2) (pC tkF tkG (L.take p) ++ [Value.string s, Value.int .i64 o]) = pC tkF tkG (L.take p) ++ [Value.string s, Value.int .i64 o] := List.take_of_length_le (by rw [List.length_append, hl1]; simp; omega)
    have e5 : pC tkF tkG (L.take p) ++ [Value.string s, Value.int .i64 o] ++ pC tkF tkG (L.drop p) = pC tkF tkG (putT o s L) := by rw [hput, pC_append, List.append_assoc]; rfl
    have hal : (pC tkF tkG (L.drop p)).all oneV = true := pC_one tk_one tk_oneG _
    have hl2 : (pC tkF tkG (L.take p) ++ [Value.string s, Value.int .i64 o]).length = (p + 1) * 2 := by rw [List.length_append, hl1]; simp; omega
    refine ⟨hF1, L.length, rfl, rfl, ⟨by rw [hp], Nat.le_refl _⟩, ?_⟩
    simp only [Int.toNat_natCast, Nat.sub_zero, Nat.zero_add, List.drop_zero, e1, e2, e3, e4, e5, hl1, hl2, hal, show p + 1 + (L.length - p) = L.length + 1 by omega, hF2, Alt_iff, Need_iff, ltI_eq, leI_eq, eqI_eq, leN_eq, eqN_eq, decide_eq_true_eq, decide_eq_false_iff_not, decide_true, decide_false, true_and, and_true, Bool.true_eq_false, Bool.false_eq_true, false_implies, true_implies, implies_true, not_true_eq_false, not_false_eq_true, Bool.not_eq_true', Bool.not_eq_false', Nat.zero_add, Nat.add_zero, Nat.sub_zero, Nat.zero_mul, Nat.mul_one, Int.toNat_natCast, List.drop_zero, beqV_int, beqV_sl, beqV_str, beqV_bool, beqV_ptr, beqV_flt, beqV_agg, beqV_tuple, List.all_cons, List.all_nil, Bool.and_self, Bool.and_true, Bool.true_and, Nat.le_refl, Int.le_refl, Nat.zero_le, Option.getD_some, isStr, strV, isInt, intV, isBool, boolV, kindEq, at0, isJunk, Option.isSome_some, Option.isSome_none, if_true, if_false, Nat.add_sub_cancel_left, Nat.add_sub_cancel]
    and_intros <;> first | omega | rfl | exact beqV_sl _ _ _ _ | exact beqV_str _ _ | skip
  · exact hp.elim
theorem same_loop (hmix : Try.prog.follows .mixedOrders = true) (ca cb : List Value) (w1 w2 : Bool) (k k2 : Nat) (a b : List ByteArray) (hA : SSl ca a) (hB : SSl cb b) (he : a.length = b.length) (K : Post)
    (hK : Alt (allS a b) (K (.exit 0) (tmps 26 []) (hp [.cells ca 1 w1, .cells cb 1 w2])) (K .ret (tmps 26 [(4, .bool false)]) (hp [.cells ca 1 w1, .cells cb 1 w2]))) : ∀ (t u : List ByteArray) (i : Nat), a.drop i = t → b.drop i = u → allS t u = allS a b →
    LSays Try.prog 2 (sub body1944 [0,0,1,0,1,1]) (T1944 a.length k k2 i) (hp [.cells ca 1 w1, .cells cb 1 w2]) K := by
  have hF : FlatD [] (hp [.cells ca 1 w1, .cells cb 1 w2]) := FlatD.hp ⟨hA.flat, hB.flat, trivial⟩
  have hsh := hA.short
  intro t
  induction t with
  | nil =>
    intro u i ht hu ha
    have hge : ¬ ((i : Int) < (a.length : Int)) := by have := List.drop_eq_nil_iff.1 ht; omega
    refine (sure0 hmix).roundX F1944 noLoops [] [] [] [] [0,1,5] ?_
    rw [r1944]
    simp only [hge, hF, Alt_iff, Need_iff, ltI_eq, leI_eq, eqI_eq, leN_eq, eqN_eq, decide_eq_true_eq, decide_eq_false_iff_not, decide_true, decide_false, true_and, and_true, Bool.true_eq_false, Bool.false_eq_true, false_implies, true_implies, implies_true, not_true_eq_false, not_false_eq_true, Bool.not_eq_true', Bool.not_eq_false', Nat.zero_add, Nat.add_zero, Nat.sub_zero, Nat.zero_mul, Nat.mul_one, Int.toNat_natCast, List.drop_zero, beqV_int, beqV_sl, beqV_str, beqV_bool, beqV_ptr, beqV_flt, beqV_agg, beqV_tuple, List.all_cons, List.all_nil, Bool.and_self, Bool.and_true, Bool.true_and, Nat.le_refl, Int.le_refl, Nat.zero_le, Option.getD_some, isStr, strV, isInt, intV, isBool, boolV, kindEq, at0, isJunk, Option.isSome_some, Option.isSome_none, if_true, if_false, Nat.add_sub_cancel_left, Nat.add_sub_cancel]
    rw [← ha] at hK
    exact (Alt_iff.1 hK).1 rfl
  | cons x t ih =>
    intro u i ht hu ha
    obtain ⟨hlt, hx, hd⟩ := cons_of_drop ht
    cases u with
    | nil => have := List.drop_eq_nil_iff.1 hu; omega
    | cons y u =>
      obtain ⟨hlt2, hy, hd2⟩ := cons_of_drop hu
      have g0 : getO ca (0 + (i : Int).toNat * 1) = some (.string x) := by rw [Nat.mul_one, Int.toNat_natCast]; exact hA.cell i x hx
      have g1 : getO cb (0 + (i : Int).toNat * 1) = some (.string y) := by rw [Nat.mul_one, Int.toNat_natCast]; exact hB.cell i y hy
      refine (sure0 hmix).roundX F1944 noLoops [] [] [] [] [0,1,5] ?_
      rw [r1944, g0, g1, Option.getD_some, Option.getD_some, show strV (Value.string x) = x from rfl, show strV (Value.string y) = y from rfl]
      simp only [show (i : Int) < (a.length : Int) by omega, nx i (by omega), hF, Alt_iff, Need_iff, ltI_eq, leI_eq, eqI_eq, leN_eq, eqN_eq, decide_eq_true_eq, decide_eq_false_iff_not, decide_true, decide_false, true_and, and_true, Bool.true_eq_false, Bool.false_eq_true, false_implies, true_implies, implies_true, not_true_eq_false, not_false_eq_true, Bool.not_eq_true', Bool.not_eq_false', Nat.zero_add, Nat.add_zero, Nat.sub_zero, Nat.zero_mul, Nat.mul_one, Int.toNat_natCast, List.drop_zero, beqV_int, beqV_sl, beqV_str, beqV_bool, beqV_ptr, beqV_flt, beqV_agg, beqV_tuple, List.all_cons, List.all_nil, Bool.and_self, Bool.and_true, Bool.true_and, Nat.le_refl, Int.le_refl, Nat.zero_le, Option.getD_some, isStr, strV, isInt, intV, isBool, boolV, kindEq, at0, isJunk, Option.isSome_some, Option.isSome_none, if_true, if_false, Nat.add_sub_cancel_left, Nat.add_sub_cancel]
      rw [allS] at ha
      refine ⟨fun h => ?_, fun h => ?_⟩
      · rw [h, Bool.false_and] at ha
        rw [← ha] at hK
        exact (Alt_iff.1 hK).2 rfl
      · rw [h, Bool.true_and] at ha
        exact ih u (i + 1) hd hd2 ha
def sameSt (a b : List ByteArray) : Bool := decide (a.length = b.length) && allS a b
inductive IsSs (cs : List Value) (m k : Nat) : Prop
  | mk (l : List ByteArray) (h : m = l.length) (hc : m ≤ k) (hb : SSl cs l) : IsSs cs m k
noncomputable def strsAt (cs : List Value) (m : Nat) : List ByteArray := elAt strV cs 0 m
theorem strsAt_eq {cs : List Value} {l : List ByteArray} (h : SSl cs l) : strsAt cs l.length = l := ESl.elAt h fun _ => rfl
noncomputable def sameSC : CtrW where
  D := []
  W := []
  E := []
  pre := fun args blks => match args, blks with
    | [.slice (some ⟨0,0,some 1⟩) m k, .slice (some ⟨1,0,some 1⟩) m2 k2], [.cells ca 1 _, .cells cb 1 _] => IsSs ca m k ∧ IsSs cb m2 k2
    | _, _ => False
  val := fun args blks => match args, blks with
    | [.slice (some ⟨0,0,some 1⟩) m k, .slice (some ⟨1,0,some 1⟩) m2 k2], [.cells ca 1 _, .cells cb 1 _] => .bool (sameSt (strsAt ca m) (strsAt cb m2))
    | _, _ => undef
  out := fun args blks => blks
theorem sameS_says (hmix : Try.prog.follows .mixedOrders = true) : sameSC.Holds Try.prog 24 := by
  intro args blks hf hp
  simp only [sameSC] at hp ⊢
  split at hp
  · rename_i m k m2 k2 ca w1 cb w2
    obtain ⟨⟨a, rfl, hc, hA⟩, ⟨b, rfl, hc2, hB⟩⟩ := hp
    simp only [strsAt_eq hA, strsAt_eq hB]
    have hF : FlatD [] (AM.hp [.cells ca 1 w1, .cells cb 1 w2]) := FlatD.hp ⟨hA.flat, hB.flat, trivial⟩
    refine ⟨⟨rfl, rfl, trivial⟩, trivial, ?_⟩
    have hL : Loops Try.prog body1944 2 (cutE [cut1944 ca cb w1 w2 k k2 a b]) := Loops.noneE.moreE _ fun x K hQ => by
      obtain ⟨⟨h1, h3⟩, h2⟩ := hQ
      exact same_loop hmix ca cb w1 w2 k k2 a b hA hB h3 K h2 _ _ x rfl rfl h1
    refine (sure0 hmix).funX F1944 body1944 [] [] Try.func24 rfl (hL.gcX (at0 []) (at0 [])) ?_
    show funX Try.prog S0 (gcLKX (at0 []) (at0 []) 2 _) _ _ _ _ _ _ _ _
    rw [w1944]
    unfold sameSt
    by_cases he : a.length = b.length
    · have hi : ((a.length : Nat) : Int) = (b.length : Int) := by omega
      simp only [hi, hF, Alt_iff, Need_iff, ltI_eq, leI_eq, eqI_eq, leN_eq, eqN_eq, decide_eq_true_eq, decide_eq_false_iff_not, decide_true, decide_false, true_and, and_true, Bool.true_eq_false, Bool.false_eq_true, false_implies, true_implies, implies_true, not_true_eq_false, not_false_eq_true, Bool.not_eq_true', Bool.not_eq_false', Nat.zero_add, Nat.add_zero, Nat.sub_zero, Nat.zero_mul, Nat.mul_one, Int.toNat_natCast, List.drop_zero, beqV_int, beqV_sl, beqV_str, beqV_bool, beqV_ptr, beqV_flt, beqV_agg, beqV_tuple, List.all_cons, List.all_nil, Bool.and_self, Bool.and_true, Bool.true_and, Nat.le_refl, Int.le_refl, Nat.zero_le, Option.getD_some, isStr, strV, isInt, intV, isBool, boolV, kindEq, at0, isJunk, Option.isSome_some, Option.isSome_none, if_true, if_false, Nat.add_sub_cancel_left, Nat.add_sub_cancel]
      refine ⟨0, by rw [he]; rfl, ⟨rfl, he⟩, ?_⟩
      cases allS a b <;> simp [he]
    · have hi : ¬ ((a.length : Nat) : Int) = (b.length : Int) := by omega
      simp only [hi, hF, he, Alt_iff, Need_iff, ltI_eq, leI_eq, eqI_eq, leN_eq, eqN_eq, decide_eq_true_eq, decide_eq_false_iff_not, decide_true, decide_false, true_and, and_true, Bool.true_eq_false, Bool.false_eq_true, false_implies, true_implies, implies_true, not_true_eq_false, not_false_eq_true, Bool.not_eq_true', Bool.not_eq_false', Nat.zero_add, Nat.add_zero, Nat.sub_zero, Nat.zero_mul, Nat.mul_one, Int.toNat_natCast, List.drop_zero, beqV_int, beqV_sl, beqV_str, beqV_bool, beqV_ptr, beqV_flt, beqV_agg, beqV_tuple, List.all_cons, List.all_nil, Bool.and_self, Bool.and_true, Bool.true_and, Nat.le_refl, Int.le_refl, Nat.zero_le, Option.getD_some, isStr, strV, isInt, intV, isBool, boolV, kindEq, at0, isJunk, Option.isSome_some, Option.isSome_none, if_true, if_false, Nat.add_sub_cancel_left, Nat.add_sub_cancel]
      simp
  · exact hp.elim
end Go.Proofs.Ytabbkoegaoekkaa

namespace Go.Proofs.Ytabbkoegaoekkaa
open Go.RowKit Go.Proofs.Ytabbkoegaoekkaa.AM
set_option maxRecDepth 100000
set_option maxHeartbeats 4000000
noncomputable def body1932 : Code := (Try.f14.body).getD .skip
def F1932 : List Nat → Option (List Nat) := fun p => match p with
  | [1] => some [0]
  | [1, 1] => some [2]
  | _ => none
noncomputable def body1933 : Code := (Try.f27.body).getD .skip
def F1933 : List Nat → Option (List Nat) := fun p => match p with
  | [1] => some [0, 1, 2]
  | [1, 0, 1] => some [0, 1, 2, 14]
  | [1, 0, 1, 0, 1] => some [6]
  | [1, 1] => some [0, 1, 2]
  | [1, 1, 1] => some [6]
  | _ => none
noncomputable def body1934 : Code := (Try.f35.body).getD .skip
def F1934 : List Nat → Option (List Nat) := fun p => match p with
  | [1] => some [0, 1, 2]
  | [1, 1] => some [0, 1, 2]
  | [1, 0, 1, 1] => some [0, 1, 2, 14]
  | [1, 1, 1] => some [0, 1]
  | [1, 1, 1, 1] => some [6]
  | _ => none
noncomputable def S1934 : Book := addI Try.prog [(35, Try.f35, body1934)] S0

theorem w1933 (n : Int) (K : Value → Heap → Prop) :
  funX Try.prog S1934 noLoop F1933 body1933 Try.f27 [] [] [.int .i64 n, .int .i64 0, .int .i64 7] (hp []) K = (
Alt (leI 0 n)
  (Alt (leI n 7) (K (Value.int IntKind.i64 n) (hp []))
    (Alt (ltI (n.tmod 8) 0)
      (K
        (Value.int IntKind.i64
          (wr IntKind.i64 (0 + wr IntKind.i64 (wr IntKind.i64 (wr IntKind.i64 (n.tmod 8 + 7) - 0) + 1))))
        (hp []))
      (K (Value.int IntKind.i64 (wr IntKind.i64 (0 + n.tmod 8))) (hp []))))
  (Alt (ltI (n.tmod 8) 0)
    (K
      (Value.int IntKind.i64
        (wr IntKind.i64 (0 + wr IntKind.i64 (wr IntKind.i64 (wr IntKind.i64 (n.tmod 8 + 7) - 0) + 1))))
      (hp []))
    (K (Value.int IntKind.i64 (wr IntKind.i64 (0 + n.tmod 8))) (hp [])))) := by kernel_rfl

/-- a number brought to 0..7 -/
def in8 (n : Int) : Int := if 0 ≤ n ∧ n ≤ 7 then n else n % 8
inductive In8 (n j : Int) : Prop
  | mk (h : in8 n = j) : In8 n j
noncomputable def inJC (j : Int) : Ctr where
  pre := fun args blks => match args, blks with
    | [.int .i64 n, .int .i64 lo, .int .i64 hi], [] => In8 n j ∧ Need (eqI lo 0) (Need (eqI hi 7) True)
    | _, _ => False
  val := fun _ _ => .int .i64 j
  new := fun _ _ => []
noncomputable def S1933_0 : Book := bookOf [(27, inJC 0)]
noncomputable def S1933_1 : Book := bookOf [(27, inJC 1)]
noncomputable def S1933_2 : Book := bookOf [(27, inJC 2)]
noncomputable def S1933_3 : Book := bookOf [(27, inJC 3)]
noncomputable def S1933_4 : Book := bookOf [(27, inJC 4)]
noncomputable def S1933_5 : Book := bookOf [(27, inJC 5)]
noncomputable def S1933_6 : Book := bookOf [(27, inJC 6)]
noncomputable def S1933_7 : Book := bookOf [(27, inJC 7)]

theorem w1932_0 (n : Int) (K : Value → Heap → Prop) :
  funX Try.prog S1933_0 noLoop F1932 body1932 Try.f14 [] [] [.int .i64 n] (hp []) K = (
True ∧
  (In8 n 0 ∧ True) ∧
    K
      (Value.string
        { data := #[OfNat.ofNat 114, OfNat.ofNat 111, OfNat.ofNat 111, OfNat.ofNat 116, OfNat.ofNat 48] : ByteArray })
      (hp [])) := by kernel_rfl

theorem w1932_1 (n : Int) (K : Value → Heap → Prop) :
  funX Try.prog S1933_1 noLoop F1932 body1932 Try.f14 [] [] [.int .i64 n] (hp []) K = (
True ∧
  (In8 n 1 ∧ True) ∧
    K (Value.string { data := #[OfNat.ofNat 116, OfNat.ofNat 111, OfNat.ofNat 107, OfNat.ofNat 49] : ByteArray })
      (hp [])) := by kernel_rfl

theorem w1932_2 (n : Int) (K : Value → Heap → Prop) :
  funX Try.prog S1933_2 noLoop F1932 body1932 Try.f14 [] [] [.int .i64 n] (hp []) K = (
True ∧
  (In8 n 2 ∧ True) ∧
    K (Value.string { data := #[OfNat.ofNat 116, OfNat.ofNat 111, OfNat.ofNat 107, OfNat.ofNat 50] : ByteArray })
      (hp [])) := by kernel_rfl

theorem w1932_3 (n : Int) (K : Value → Heap → Prop) :
  funX Try.prog S1933_3 noLoop F1932 body1932 Try.f14 [] [] [.int .i64 n] (hp []) K = (
True ∧
  (In8 n 3 ∧ True) ∧
    K (Value.string { data := #[OfNat.ofNat 116, OfNat.ofNat 111, OfNat.ofNat 107, OfNat.ofNat 51] : ByteArray })
      (hp [])) := by kernel_rfl

theorem w1932_4 (n : Int) (K : Value → Heap → Prop) :
  funX Try.prog S1933_4 noLoop F1932 body1932 Try.f14 [] [] [.int .i64 n] (hp []) K = (
True ∧
  (In8 n 4 ∧ True) ∧
    K (Value.string { data := #[OfNat.ofNat 0, OfNat.ofNat 1, OfNat.ofNat 2, OfNat.ofNat 3] : ByteArray }) (hp [])) := by kernel_rfl

theorem w1932_5 (n : Int) (K : Value → Heap → Prop) :
  funX Try.prog S1933_5 noLoop F1932 body1932 Try.f14 [] [] [.int .i64 n] (hp []) K = (
True ∧
  (In8 n 5 ∧ True) ∧
    K
      (Value.string
        {
          data :=
            #[OfNat.ofNat 48, OfNat.ofNat 49, OfNat.ofNat 50, OfNat.ofNat 51, OfNat.ofNat 52, OfNat.ofNat 53,
              OfNat.ofNat 54, OfNat.ofNat 55, OfNat.ofNat 56, OfNat.ofNat 57, OfNat.ofNat 97, OfNat.ofNat 98,
              OfNat.ofNat 99, OfNat.ofNat 100, OfNat.ofNat 101, OfNat.ofNat 102] :
          ByteArray })
      (hp [])) := by kernel_rfl

theorem w1932_6 (n : Int) (K : Value → Heap → Prop) :
  funX Try.prog S1933_6 noLoop F1932 body1932 Try.f14 [] [] [.int .i64 n] (hp []) K = (
True ∧
  (In8 n 6 ∧ True) ∧
    K (Value.string { data := #[OfNat.ofNat 116, OfNat.ofNat 111, OfNat.ofNat 107, OfNat.ofNat 54] : ByteArray })
      (hp [])) := by kernel_rfl

theorem w1932_7 (n : Int) (K : Value → Heap → Prop) :
  funX Try.prog S1933_7 noLoop F1932 body1932 Try.f14 [] [] [.int .i64 n] (hp []) K = (
True ∧
  (In8 n 7 ∧ True) ∧
    K (Value.string { data := #[OfNat.ofNat 116, OfNat.ofNat 111, OfNat.ofNat 107] : ByteArray }) (hp [])) := by kernel_rfl

end Go.Proofs.Ytabbkoegaoekkaa

namespace Go.Proofs.Ytabbkoegaoekkaa
open Go.RowKit Go.Proofs.Ytabbkoegaoekkaa.AM
set_option maxRecDepth 100000
set_option maxHeartbeats 4000000
theorem sure1934 (hm : Try.prog.follows .mixedOrders = true) : Sure Try.prog S1934 := Sure.addI (sure0 hm) (l := [(35, Try.f35, body1934)]) ⟨⟨Try.func35, rfl⟩, trivial⟩
theorem in8_rng (n : Int) : 0 ≤ in8 n ∧ in8 n ≤ 7 := by unfold in8; split <;> omega
theorem inJ_says (hmix : Try.prog.follows .mixedOrders = true) (j : Int) : (inJC j).Holds Try.prog 27 := by
  intro args blks hf hp
  refine ⟨trivial, ?_⟩
  simp only [inJC] at hp ⊢
  split at hp
  · rename_i n lo hi
    obtain ⟨⟨hj⟩, hp⟩ := hp
    simp only [Alt_iff, Need_iff, ltI_eq, leI_eq, eqI_eq, leN_eq, eqN_eq, decide_eq_true_eq, decide_eq_false_iff_not, decide_true, decide_false, true_and, and_true, Bool.true_eq_false, Bool.false_eq_true, false_implies, true_implies, implies_true, not_true_eq_false, not_false_eq_true, Bool.not_eq_true', Bool.not_eq_false'] at hp
    obtain ⟨rfl, rfl⟩ := hp
    subst hj
    refine (sure1934 hmix).funX F1933 body1933 [] [] Try.func27 rfl noLoops ?_
    rw [w1933]
    have hF : FlatD [] (AM.hp []) := FlatD.hp (l := []) trivial
    have ht : (n.tmod 8 < 0 → n.tmod 8 = n % 8 - 8) ∧ (¬ n.tmod 8 < 0 → n.tmod 8 = n % 8) := by
      rw [Int.tmod_eq_emod]
      split
      · refine ⟨fun h => by omega, fun _ => by omega⟩
      · have : ((8 : Int).natAbs : Int) = 8 := rfl
        refine ⟨fun h => by omega, fun h => by omega⟩
    have k1 : n.tmod 8 < 0 → wr .i64 (0 + wr .i64 (wr .i64 (wr .i64 (n.tmod 8 + 7) - 0) + 1)) = n % 8 := fun h => by
      have := ht.1 h
      rw [wr_i64 (n.tmod 8 + 7) (by omega) (by omega), wr_i64 (n.tmod 8 + 7 - 0) (by omega) (by omega), wr_i64 (n.tmod 8 + 7 - 0 + 1) (by omega) (by omega), wr_i64 _ (by omega) (by omega)]; omega
    have k2 : ¬ n.tmod 8 < 0 → wr .i64 (0 + n.tmod 8) = n % 8 := fun h => by
      have := ht.2 h
      rw [wr_i64 _ (by omega) (by omega)]; omega
    unfold in8
    by_cases h0 : 0 ≤ n
    · by_cases h7 : n ≤ 7
      · simp only [h0, h7, hF, and_self, Alt_iff, Need_iff, ltI_eq, leI_eq, eqI_eq, leN_eq, eqN_eq, decide_eq_true_eq, decide_eq_false_iff_not, decide_true, decide_false, true_and, and_true, Bool.true_eq_false, Bool.false_eq_true, false_implies, true_implies, implies_true, not_true_eq_false, not_false_eq_true, Bool.not_eq_true', Bool.not_eq_false', Nat.zero_add, Nat.add_zero, Nat.sub_zero, Nat.zero_mul, Nat.mul_one, Int.toNat_natCast, List.drop_zero, beqV_int, beqV_sl, beqV_str, beqV_bool, beqV_ptr, beqV_flt, beqV_agg, beqV_tuple, List.all_cons, List.all_nil, Bool.and_self, Bool.and_true, Bool.true_and, Nat.le_refl, Int.le_refl, Nat.zero_le, Option.getD_some, isStr, strV, isInt, intV, isBool, boolV, kindEq, at0, isJunk, Option.isSome_some, Option.isSome_none, if_true, if_false, Nat.add_sub_cancel_left, Nat.add_sub_cancel]; rfl
      · simp only [h0, h7, hF, and_false, Alt_iff, Need_iff, ltI_eq, leI_eq, eqI_eq, leN_eq, eqN_eq, decide_eq_true_eq, decide_eq_false_iff_not, decide_true, decide_false, true_and, and_true, Bool.true_eq_false, Bool.false_eq_true, false_implies, true_implies, implies_true, not_true_eq_false, not_false_eq_true, Bool.not_eq_true', Bool.not_eq_false', Nat.zero_add, Nat.add_zero, Nat.sub_zero, Nat.zero_mul, Nat.mul_one, Int.toNat_natCast, List.drop_zero, beqV_int, beqV_sl, beqV_str, beqV_bool, beqV_ptr, beqV_flt, beqV_agg, beqV_tuple, List.all_cons, List.all_nil, Bool.and_self, Bool.and_true, Bool.true_and, Nat.le_refl, Int.le_refl, Nat.zero_le, Option.getD_some, isStr, strV, isInt, intV, isBool, boolV, kindEq, at0, isJunk, Option.isSome_some, Option.isSome_none, if_true, if_false, Nat.add_sub_cancel_left, Nat.add_sub_cancel]
        exact ⟨fun h => by rw [k1 h]; exact ⟨rfl, rfl⟩, fun h => by rw [k2 h]; exact ⟨rfl, rfl⟩⟩
    · simp only [h0, hF, false_and, Alt_iff, Need_iff, ltI_eq, leI_eq, eqI_eq, leN_eq, eqN_eq, decide_eq_true_eq, decide_eq_false_iff_not, decide_true, decide_false, true_and, and_true, Bool.true_eq_false, Bool.false_eq_true, false_implies, true_implies, implies_true, not_true_eq_false, not_false_eq_true, Bool.not_eq_true', Bool.not_eq_false', Nat.zero_add, Nat.add_zero, Nat.sub_zero, Nat.zero_mul, Nat.mul_one, Int.toNat_natCast, List.drop_zero, beqV_int, beqV_sl, beqV_str, beqV_bool, beqV_ptr, beqV_flt, beqV_agg, beqV_tuple, List.all_cons, List.all_nil, Bool.and_self, Bool.and_true, Bool.true_and, Nat.le_refl, Int.le_refl, Nat.zero_le, Option.getD_some, isStr, strV, isInt, intV, isBool, boolV, kindEq, at0, isJunk, Option.isSome_some, Option.isSome_none, if_true, if_false, Nat.add_sub_cancel_left, Nat.add_sub_cancel]
      exact ⟨fun h => by rw [k1 h]; exact ⟨rfl, rfl⟩, fun h => by rw [k2 h]; exact ⟨rfl, rfl⟩⟩
  · exact hp.elim
def tokJ (j : Int) : ByteArray := match j with
  | 0 => ⟨#[114, 111, 111, 116, 48]⟩
  | 1 => ⟨#[116, 111, 107, 49]⟩
  | 2 => ⟨#[116, 111, 107, 50]⟩
  | 3 => ⟨#[116, 111, 107, 51]⟩
  | 4 => ⟨#[0, 1, 2, 3]⟩
  | 5 => ⟨#[48, 49, 50, 51, 52, 53, 54, 55, 56, 57, 97, 98, 99, 100, 101, 102]⟩
  | 6 => ⟨#[116, 111, 107, 54]⟩
  | _ => ⟨#[116, 111, 107]⟩
def tokS (n : Int) : ByteArray := tokJ (in8 n)
structure TokR (n : Int) (x : ByteArray) : Prop where
  eq : x = tokS n
noncomputable def tokX : CtrX ByteArray where
  D := []
  W := []
  E := []
  pre := fun args blks => match args, blks with
    | [.int .i64 n], [] => True
    | _, _ => False
  rel := fun args blks x => match args, blks with
    | [.int .i64 n], [] => TokR n x
    | _, _ => False
  val := fun args blks x => .string x
  out := fun args blks x => blks
theorem sure1933_0 (hmix : Try.prog.follows .mixedOrders = true) : Sure Try.prog S1933_0 := ⟨hmix, plain, bookOf_ok (l := [(27, inJC 0)]) ⟨inJ_says hmix 0, trivial⟩⟩
theorem sure1933_1 (hmix : Try.prog.follows .mixedOrders = true) : Sure Try.prog S1933_1 := ⟨hmix, plain, bookOf_ok (l := [(27, inJC 1)]) ⟨inJ_says hmix 1, trivial⟩⟩
theorem sure1933_2 (hmix : Try.prog.follows .mixedOrders = true) : Sure Try.prog S1933_2 := ⟨hmix, plain, bookOf_ok (l := [(27, inJC 2)]) ⟨inJ_says hmix 2, trivial⟩⟩
theorem sure1933_3 (hmix : Try.prog.follows .mixedOrders = true) : Sure Try.prog S1933_3 := ⟨hmix, plain, bookOf_ok (l := [(27, inJC 3)]) ⟨inJ_says hmix 3, trivial⟩⟩
theorem sure1933_4 (hmix : Try.prog.follows .mixedOrders = true) : Sure Try.prog S1933_4 := ⟨hmix, plain, bookOf_ok (l := [(27, inJC 4)]) ⟨inJ_says hmix 4, trivial⟩⟩
theorem sure1933_5 (hmix : Try.prog.follows .mixedOrders = true) : Sure Try.prog S1933_5 := ⟨hmix, plain, bookOf_ok (l := [(27, inJC 5)]) ⟨inJ_says hmix 5, trivial⟩⟩
theorem sure1933_6 (hmix : Try.prog.follows .mixedOrders = true) : Sure Try.prog S1933_6 := ⟨hmix, plain, bookOf_ok (l := [(27, inJC 6)]) ⟨inJ_says hmix 6, trivial⟩⟩
theorem sure1933_7 (hmix : Try.prog.follows .mixedOrders = true) : Sure Try.prog S1933_7 := ⟨hmix, plain, bookOf_ok (l := [(27, inJC 7)]) ⟨inJ_says hmix 7, trivial⟩⟩
theorem tok_says (hmix : Try.prog.follows .mixedOrders = true) : tokX.Holds Try.prog 14 := by
  intro args blks hf hp
  simp only [tokX] at hp ⊢
  split at hp
  · rename_i n
    refine ⟨tokS n, ⟨rfl⟩, trivial, trivial, ?_⟩
    have hF : FlatD [] (AM.hp []) := FlatD.hp (l := []) trivial
    have h8 := in8_rng n
    have : in8 n = 0 ∨ in8 n = 1 ∨ in8 n = 2 ∨ in8 n = 3 ∨ in8 n = 4 ∨ in8 n = 5 ∨ in8 n = 6 ∨ in8 n = 7 := by omega
    unfold tokS
    rcases this with h | h | h | h | h | h | h | h
    · refine (sure1933_0 hmix).funX F1932 body1932 [] [] Try.func14 rfl noLoops ?_
      rw [w1932_0, h]; exact ⟨trivial, ⟨⟨h⟩, trivial⟩, hF, rfl, rfl, rfl⟩
    · refine (sure1933_1 hmix).funX F1932 body1932 [] [] Try.func14 rfl noLoops ?_
      rw [w1932_1, h]; exact ⟨trivial, ⟨⟨h⟩, trivial⟩, hF, rfl, rfl, rfl⟩
    · refine (sure1933_2 hmix).funX F1932 body1932 [] [] Try.func14 rfl noLoops ?_
      rw [w1932_2, h]; exact ⟨trivial, ⟨⟨h⟩, trivial⟩, hF, rfl, rfl, rfl⟩
    · refine (sure1933_3 hmix).funX F1932 body1932 [] [] Try.func14 rfl noLoops ?_
      rw [w1932_3, h]; exact ⟨trivial, ⟨⟨h⟩, trivial⟩, hF, rfl, rfl, rfl⟩
    · refine (sure1933_4 hmix).funX F1932 body1932 [] [] Try.func14 rfl noLoops ?_
      rw [w1932_4, h]; exact ⟨trivial, ⟨⟨h⟩, trivial⟩, hF, rfl, rfl, rfl⟩
    · refine (sure1933_5 hmix).funX F1932 body1932 [] [] Try.func14 rfl noLoops ?_
      rw [w1932_5, h]; exact ⟨trivial, ⟨⟨h⟩, trivial⟩, hF, rfl, rfl, rfl⟩
    · refine (sure1933_6 hmix).funX F1932 body1932 [] [] Try.func14 rfl noLoops ?_
      rw [w1932_6, h]; exact ⟨trivial, ⟨⟨h⟩, trivial⟩, hF, rfl, rfl, rfl⟩
    · refine (sure1933_7 hmix).funX F1932 body1932 [] [] Try.func14 rfl noLoops ?_
      rw [w1932_7, h]; exact ⟨trivial, ⟨⟨h⟩, trivial⟩, hF, rfl, rfl, rfl⟩
  · exact hp.elim
theorem tokJ_size : ∀ j : Int, 0 ≤ j → j ≤ 7 → (tokJ j).size ≤ 16 := by
  intro j h0 h7
  have : j = 0 ∨ j = 1 ∨ j = 2 ∨ j = 3 ∨ j = 4 ∨ j = 5 ∨ j = 6 ∨ j = 7 := by omega
  rcases this with rfl | rfl | rfl | rfl | rfl | rfl | rfl | rfl <;> decide
theorem TokR.size {n : Int} {x : ByteArray} (h : TokR n x) : x.size ≤ 16 := by rw [h.eq]; exact tokJ_size _ (in8_rng n).1 (in8_rng n).2
end Go.Proofs.Ytabbkoegaoekkaa

namespace Go.Proofs.Ytabbkoegaoekkaa
open Go.RowKit Go.Proofs.Ytabbkoegaoekkaa.AM
set_option maxRecDepth 100000
set_option maxHeartbeats 4000000
noncomputable def S1938 (hm : Try.prog.follows .mixedOrders = true) : Book := bookS [(25, rofX.summ (rof_says hm)), (31, cutRX.summ (cutR_says hm))] (bookOf [])
def cutAll : List ByteArray → List Tk → List Tk
  | [], L => L
  | s :: t, L => cutAll t (cutR s L)
noncomputable def T1938 (n k i : Nat) : List Value := tmps 24 [(0, pT), (5, .slice (some ⟨2,0,some 1⟩) n k), (6, .int .i64 i)]
noncomputable def hA (mo : Int) (m k : Nat) (cs : List Value) (cl : List Value) : List Blk := [.cells [.int .i64 mo, .slice (some ⟨1,0,some 1⟩) m k] 2 true, .cells cs 2 true, .cells cl 1 true]
noncomputable def hB (mo : Int) (m k : Nat) (cs cl cr : List Value) : List Blk := [.cells [.int .i64 mo, .slice (some ⟨3,0,some 1⟩) m k] 2 true, .cells cs 2 true, .cells cl 1 true, .cells cr 2 true]

theorem r1938A (hm : Try.prog.follows .mixedOrders = true) (mo : Int) (m k n k2 i : Nat) (cs cl : List Value) (K : Post) :
  roundX Try.prog (S1938 hm) noLoop F1938 body1938 2 [0] [] [0] [] [0,5,6] [0,0,1,0,1,1] (T1938 n k2 i) (hp (hA mo m k cs cl)) K = (
Alt (ltI (↑i : Int) (↑n : Int))
  (Need (ltI (↑i : Int) (↑n : Int))
    (Need (isStr ((getO cl (0 + (↑i : Int).toNat * 1)).getD undef))
      ((nojL [Value.int IntKind.i64 mo, Value.slice (some { block := 1, off := 0, spot := some 1 : Addr }) m k] = true ∧
          FlatL cs ∧ True) ∧
        (IsP tkF tkG TkOk cs m k ∧ Need (leN m 1000000) True) ∧
          ∀ (x : List Value),
            IsTE (cutR (strV ((getO cl (0 + (↑i : Int).toNat * 1)).getD undef)) (tksAt cs m)) x
                (cutR (strV ((getO cl (0 + (↑i : Int).toNat * 1)).getD undef)) (tksAt cs m)).length
                (cutR (strV ((getO cl (0 + (↑i : Int).toNat * 1)).getD undef)) (tksAt cs m)).length →
              K AE.normal
                (tmps 24
                  [(0, Value.pointer (some { block := 0, off := 0 : Addr })),
                    (5, Value.slice (some { block := 2, off := 0, spot := some 1 : Addr }) n k2),
                    (6, Value.int IntKind.i64 (wr IntKind.i64 ((↑i : Int) + 1)))])
                (hp
                  [Blk.cells
                      [Value.int IntKind.i64 mo,
                        Value.slice (some { block := 3, off := 0, spot := some 1 : Addr })
                          (cutR (strV ((getO cl (0 + (↑i : Int).toNat * 1)).getD undef)) (tksAt cs m)).length
                          (cutR (strV ((getO cl (0 + (↑i : Int).toNat * 1)).getD undef)) (tksAt cs m)).length]
                      2 true,
                    Blk.cells cs 2 true, Blk.cells cl 1 true, Blk.cells x 2 true]))))
  (K (AE.exit 0) (tmps 24 [(5, Value.slice (some { block := 2, off := 0, spot := some 1 : Addr }) n k2)])
    (hp
      [Blk.cells [Value.int IntKind.i64 mo, Value.slice (some { block := 1, off := 0, spot := some 1 : Addr }) m k] 2
          true,
        Blk.cells cs 2 true, Blk.cells cl 1 true]))) := by kernel_rfl

theorem r1938B (hm : Try.prog.follows .mixedOrders = true) (mo : Int) (m k n k2 i : Nat) (cs cl cr : List Value) (K : Post) :
  roundX Try.prog (S1938 hm) noLoop F1938 body1938 2 [0] [] [0] [] [0,5,6] [0,0,1,0,1,1] (T1938 n k2 i) (hp (hB mo m k cs cl cr)) K = (
Alt (ltI (↑i : Int) (↑n : Int))
  (Need (ltI (↑i : Int) (↑n : Int))
    (Need (isStr ((getO cl (0 + (↑i : Int).toNat * 1)).getD undef))
      ((nojL [Value.int IntKind.i64 mo, Value.slice (some { block := 1, off := 0, spot := some 1 : Addr }) m k] = true ∧
          FlatL cr ∧ True) ∧
        (IsP tkF tkG TkOk cr m k ∧ Need (leN m 1000000) True) ∧
          ∀ (x : List Value),
            IsTE (cutR (strV ((getO cl (0 + (↑i : Int).toNat * 1)).getD undef)) (tksAt cr m)) x
                (cutR (strV ((getO cl (0 + (↑i : Int).toNat * 1)).getD undef)) (tksAt cr m)).length
                (cutR (strV ((getO cl (0 + (↑i : Int).toNat * 1)).getD undef)) (tksAt cr m)).length →
              K AE.normal
                (tmps 24
                  [(0, Value.pointer (some { block := 0, off := 0 : Addr })),
                    (5, Value.slice (some { block := 2, off := 0, spot := some 1 : Addr }) n k2),
                    (6, Value.int IntKind.i64 (wr IntKind.i64 ((↑i : Int) + 1)))])
                (hp
                  [Blk.cells
                      [Value.int IntKind.i64 mo,
                        Value.slice (some { block := 3, off := 0, spot := some 1 : Addr })
                          (cutR (strV ((getO cl (0 + (↑i : Int).toNat * 1)).getD undef)) (tksAt cr m)).length
                          (cutR (strV ((getO cl (0 + (↑i : Int).toNat * 1)).getD undef)) (tksAt cr m)).length]
                      2 true,
                    Blk.cells cs 2 true, Blk.cells cl 1 true, Blk.cells x 2 true]))))
  (K (AE.exit 0) (tmps 24 [(5, Value.slice (some { block := 2, off := 0, spot := some 1 : Addr }) n k2)])
    (hp
      [Blk.cells [Value.int IntKind.i64 mo, Value.slice (some { block := 3, off := 0, spot := some 1 : Addr }) m k] 2
          true,
        Blk.cells cs 2 true, Blk.cells cl 1 true, Blk.cells cr 2 true]))) := by kernel_rfl

noncomputable def cut1938 (o mo : Int) (k : Nat) (cs : List Value) (L : List Tk) : CutE where
  β := List Value × Nat
  p := [0,1,0,1,1]
  t := fun x => T1938 (ofL o L).length x.2 0
  h := fun x => hp (hA mo L.length k cs x.1)
  Q := fun x K => IsS (ofL o L) x.1 (ofL o L).length x.2 ∧ Alt (ofL o L).isEmpty (K (.exit 0) (tmps 24 [(5, .slice (some ⟨2,0,some 1⟩) (ofL o L).length x.2)]) (hp (hA mo L.length k cs x.1))) (K (.exit 0) (tmps 24 [(5, .slice (some ⟨2,0,some 1⟩) (ofL o L).length x.2)]) (hp (hB mo (cutAll (ofL o L) L).length (cutAll (ofL o L) L).length cs x.1 (pC tkF tkG (cutAll (ofL o L) L)))))

theorem w1938 (hm : Try.prog.follows .mixedOrders = true) (o mo : Int) (k : Nat) (cs : List Value) (L : List Tk) (K : Value → Heap → Prop) :
  funX Try.prog (S1938 hm) (gcLKX (at0 [0]) (at0 []) 2 (cutE [cut1938 o mo k cs L])) F1938 body1938 Try.f21 [0] [] [pT, .int .i64 o] (hp [.cells [.int .i64 mo, .slice (some ⟨1,0,some 1⟩) L.length k] 2 true, .cells cs 2 true]) K = (
(nojL [Value.int IntKind.i64 mo, Value.slice (some { block := 1, off := 0, spot := some 1 : Addr }) L.length k] = true ∧
    FlatL cs ∧ True) ∧
  (IsP tkF tkG TkOk cs L.length k ∧ Need (leN L.length 1000000) True) ∧
    ∀ (x : List Value),
      IsS (ofL o (tksAt cs L.length)) x (ofL o (tksAt cs L.length)).length (ofL o (tksAt cs L.length)).length →
        FlatD [0]
            (hp
              [Blk.cells
                  [Value.int IntKind.i64 mo,
                    Value.slice (some { block := 1, off := 0, spot := some 1 : Addr }) L.length k]
                  2 true,
                Blk.cells cs 2 true, Blk.cells x 1 true]) ∧
          ∃ (b : List Value × Nat),
            tmps 24
                  [(0, Value.pointer (some { block := 0, off := 0 : Addr })),
                    (5,
                      Value.slice (some { block := 2, off := 0, spot := some 1 : Addr })
                        (ofL o (tksAt cs L.length)).length (ofL o (tksAt cs L.length)).length),
                    (6, Value.int IntKind.i64 0)] =
                tmps 24
                  [(0, Value.pointer (some { block := 0, off := 0 : Addr })),
                    (5, Value.slice (some { block := 2, off := 0, spot := some 1 : Addr }) (ofL o L).length b.snd),
                    (6, Value.int IntKind.i64 0)] ∧
              hp
                    [Blk.cells
                        [Value.int IntKind.i64 mo,
                          Value.slice (some { block := 1, off := 0, spot := some 1 : Addr }) L.length k]
                        2 true,
                      Blk.cells cs 2 true, Blk.cells x 1 true] =
                  hp
                    [Blk.cells
                        [Value.int IntKind.i64 mo,
                          Value.slice (some { block := 1, off := 0, spot := some 1 : Addr }) L.length k]
                        2 true,
                      Blk.cells cs 2 true, Blk.cells b.fst 1 true] ∧
                IsS (ofL o L) b.fst (ofL o L).length b.snd ∧
                  Alt (ofL o L).isEmpty
                    (K (Value.int IntKind.i64 (↑(ofL o L).length : Int))
                      (hp
                        [Blk.cells
                            [Value.int IntKind.i64 mo,
                              Value.slice (some { block := 1, off := 0, spot := some 1 : Addr }) L.length k]
                            2 true,
                          Blk.cells cs 2 true]))
                    (K (Value.int IntKind.i64 (↑(ofL o L).length : Int))
                      (hp
                        [Blk.cells
                            [Value.int IntKind.i64 mo,
                              Value.slice (some { block := 2, off := 0, spot := some 1 : Addr })
                                (cutAll (ofL o L) L).length (cutAll (ofL o L) L).length]
                            2 true,
                          Blk.cells cs 2 true, Blk.cells (pC tkF tkG (cutAll (ofL o L) L)) 2 true]))) := by kernel_rfl

end Go.Proofs.Ytabbkoegaoekkaa

namespace Go.Proofs.Ytabbkoegaoekkaa
open Go.RowKit Go.Proofs.Ytabbkoegaoekkaa.AM
set_option maxRecDepth 100000
set_option maxHeartbeats 4000000
theorem sure1938 (hm : Try.prog.follows .mixedOrders = true) : Sure Try.prog (S1938 hm) := Sure.withS ⟨hm, plain, bookOf_ok (l := []) trivial⟩ (l := [(25, rofX.summ (rof_says hm)), (31, cutRX.summ (cutR_says hm))]) ⟨rofX.sum_ok (rof_says hm), cutRX.sum_ok (cutR_says hm), trivial⟩
theorem cutAll_len : ∀ (l : List ByteArray) (L : List Tk), (cutAll l L).length ≤ L.length := by
  intro l
  induction l with
  | nil => intro L; exact Nat.le_refl _
  | cons s t ih => intro L; exact Nat.le_trans (ih _) (cutR_len s L)
theorem hA_flat {mo : Int} {m k : Nat} {cs cl : List Value} (h : FlatL cs) (h2 : FlatL cl) : FlatD [0] (hp [.cells [.int .i64 mo, .slice (some ⟨1,0,some 1⟩) m k] 2 true, .cells cs 2 true, .cells cl 1 true]) := FlatD.hp ⟨rfl, h, h2, trivial⟩
theorem hB_flat {mo : Int} {m k : Nat} {cs cl cr : List Value} (h : FlatL cs) (h2 : FlatL cl) (h3 : FlatL cr) : FlatD [0] (hp [.cells [.int .i64 mo, .slice (some ⟨3,0,some 1⟩) m k] 2 true, .cells cs 2 true, .cells cl 1 true, .cells cr 2 true]) := FlatD.hp ⟨rfl, h, h2, h3, trivial⟩
theorem rdropB (hmix : Try.prog.follows .mixedOrders = true) (mo : Int) (cs cl : List Value) (l : List ByteArray) (n k2 : Nat) (hn : n = l.length) (hcs : FlatL cs) (hl : SSl cl l) (hll : l.length ≤ 1000000) (Lf : List Tk) (K : Post)
    (hK : K (.exit 0) (tmps 24 [(5, .slice (some ⟨2,0,some 1⟩) n k2)]) (hp (hB mo Lf.length Lf.length cs cl (pC tkF tkG Lf)))) : ∀ (t : List ByteArray) (i : Nat) (L : List Tk), l.drop i = t → cutAll t L = Lf → (∀ x ∈ L, TkOk x) → L.length ≤ 1000000 →
    LSays Try.prog 2 (sub body1938 [0,0,1,0,1,1]) (T1938 n k2 i) (hp (hB mo L.length L.length cs cl (pC tkF tkG L))) K := by
  subst hn
  intro t
  induction t with
  | nil =>
    intro i L ht ha hok hL
    have hge : ¬ ((i : Int) < (l.length : Int)) := by have := List.drop_eq_nil_iff.1 ht; omega
    have hF := hB_flat (mo := mo) (m := L.length) (k := L.length) hcs hl.flat (pC_flat tk_flat tk_flatG L)
    refine (sure1938 hmix).roundX F1938 noLoops [0] [] [0] [] [0,5,6] ?_
    rw [r1938B]
    simp only [hge, hF, Alt_iff, Need_iff, ltI_eq, leI_eq, eqI_eq, leN_eq, eqN_eq, decide_eq_true_eq, decide_eq_false_iff_not, decide_true, decide_false, true_and, and_true, Bool.true_eq_false, Bool.false_eq_true, false_implies, true_implies, implies_true, not_true_eq_false, not_false_eq_true, Bool.not_eq_true', Bool.not_eq_false', Nat.zero_add, Nat.add_zero, Nat.sub_zero, Nat.zero_mul, Nat.mul_one, Int.toNat_natCast, List.drop_zero, beqV_int, beqV_sl, beqV_str, beqV_bool, beqV_ptr, beqV_flt, beqV_agg, beqV_tuple, List.all_cons, List.all_nil, Bool.and_self, Bool.and_true, Bool.true_and, Nat.le_refl, Int.le_refl, Nat.zero_le, Option.getD_some, isStr, strV, isInt, intV, isBool, boolV, kindEq, at0, isJunk, Option.isSome_some, Option.isSome_none, if_true, if_false, Nat.add_sub_cancel_left, Nat.add_sub_cancel]
    rw [show L = Lf from ha]
    exact hK
  | cons x t ih =>
    intro i L ht ha hok hL
    obtain ⟨hlt, hx, hd⟩ := cons_of_drop ht
    have hB : TSl (pC tkF tkG L) L := PSl.own0 tk_flat tk_flatG hok
    have hI : IsT (pC tkF tkG L) L.length L.length := .mk L rfl (Nat.le_refl _) hB
    have g0 : getO cl (0 + (i : Int).toNat * 1) = some (.string x) := by rw [Nat.mul_one, Int.toNat_natCast]; exact hl.cell i x hx
    refine (sure1938 hmix).roundX F1938 noLoops [0] [] [0] [] [0,5,6] ?_
    rw [r1938B, g0, Option.getD_some, show strV (Value.string x) = x from rfl, tksAt_eq hB]
    simp only [show (i : Int) < (l.length : Int) by omega, nx i (by omega), hI, hB.flat, hL, isStr, Alt_iff, Need_iff, ltI_eq, leI_eq, eqI_eq, leN_eq, eqN_eq, decide_eq_true_eq, decide_eq_false_iff_not, decide_true, decide_false, true_and, and_true, Bool.true_eq_false, Bool.false_eq_true, false_implies, true_implies, implies_true, not_true_eq_false, not_false_eq_true, Bool.not_eq_true', Bool.not_eq_false', Nat.zero_add, Nat.add_zero, Nat.sub_zero, Nat.zero_mul, Nat.mul_one, Int.toNat_natCast, List.drop_zero, beqV_int, beqV_sl, beqV_str, beqV_bool, beqV_ptr, beqV_flt, beqV_agg, beqV_tuple, List.all_cons, List.all_nil, Bool.and_self, Bool.and_true, Bool.true_and, Nat.le_refl, Int.le_refl, Nat.zero_le, Option.getD_some, isStr, strV, isInt, intV, isBool, boolV, kindEq, at0, isJunk, Option.isSome_some, Option.isSome_none, if_true, if_false, Nat.add_sub_cancel_left, Nat.add_sub_cancel]
    refine ⟨rfl, fun y hy => ?_⟩
    have hok2 : ∀ x' ∈ cutR x L, TkOk x' := fun x' hx' => by rw [cutR_eq] at hx'; exact hok x' (List.mem_filter.1 hx').1
    have he := hy.ex
    subst he
    refine ⟨hB_flat hcs hl.flat (pC_flat tk_flat tk_flatG _), ?_⟩
    exact ih (i + 1) (cutR x L) hd ha hok2 (Nat.le_trans (cutR_len x L) hL)
theorem rdropA (hmix : Try.prog.follows .mixedOrders = true) (o mo : Int) (k : Nat) (cs : List Value) (L : List Tk) (hT0 : TSl cs L) (hc : L.length ≤ k) (hl : L.length ≤ 1000000) (cl : List Value) (k2 : Nat) (hS : IsS (ofL o L) cl (ofL o L).length k2) (K : Post)
    (hK : Alt (ofL o L).isEmpty (K (.exit 0) (tmps 24 [(5, .slice (some ⟨2,0,some 1⟩) (ofL o L).length k2)]) (hp (hA mo L.length k cs cl))) (K (.exit 0) (tmps 24 [(5, .slice (some ⟨2,0,some 1⟩) (ofL o L).length k2)]) (hp (hB mo (cutAll (ofL o L) L).length (cutAll (ofL o L) L).length cs cl (pC tkF tkG (cutAll (ofL o L) L)))))) :
    LSays Try.prog 2 (sub body1938 [0,0,1,0,1,1]) (T1938 (ofL o L).length k2 0) (hp (hA mo L.length k cs cl)) K := by
  have hI : IsT cs L.length k :=   .mk L rfl hc hT0
  have hF := hA_flat (mo := mo) (m := L.length) (k := k) hT0.flat hS.row.flat
  have hll := ofL_len o L
  refine (sure1938 hmix).roundX F1938 noLoops [0] [] [0] [] [0,5,6] ?_
  rw [r1938A]
  cases hq : ofL o L with
  | nil =>
    rw [hq] at hK
    rw [show ltI ((0 : Nat) : Int) (([] : List ByteArray).length : Int) = false from rfl]
    exact Alt_iff.2 ⟨fun h => (by cases h), fun _ => ⟨hF, (Alt_iff.1 hK).1 rfl⟩⟩
  | cons x t =>
    rw [hq] at hK hS hll
    have hx : (x :: t)[0]? = some x := rfl
    have g0 : getO cl (0 + ((0 : Nat) : Int).toNat * 1) = some (.string x) := hS.row.cell 0 x hx
    rw [g0, Option.getD_some, show strV (Value.string x) = x from rfl, tksAt_eq hT0]
    simp only [show (((0 : Nat) : Int) < ((x :: t).length : Int)) by simp, nx 0 (by omega), hI, hT0.flat, hl, isStr, Alt_iff, Need_iff, ltI_eq, leI_eq, eqI_eq, leN_eq, eqN_eq, decide_eq_true_eq, decide_eq_false_iff_not, decide_true, decide_false, true_and, and_true, Bool.true_eq_false, Bool.false_eq_true, false_implies, true_implies, implies_true, not_true_eq_false, not_false_eq_true, Bool.not_eq_true', Bool.not_eq_false', Nat.zero_add, Nat.add_zero, Nat.sub_zero, Nat.zero_mul, Nat.mul_one, Int.toNat_natCast, List.drop_zero, beqV_int, beqV_sl, beqV_str, beqV_bool, beqV_ptr, beqV_flt, beqV_agg, beqV_tuple, List.all_cons, List.all_nil, Bool.and_self, Bool.and_true, Bool.true_and, Nat.le_refl, Int.le_refl, Nat.zero_le, Option.getD_some, isStr, strV, isInt, intV, isBool, boolV, kindEq, at0, isJunk, Option.isSome_some, Option.isSome_none, if_true, if_false, Nat.add_sub_cancel_left, Nat.add_sub_cancel]
    refine ⟨rfl, fun y hy => ?_⟩
    have hok2 : ∀ x' ∈ cutR x L, TkOk x' := fun x' hx' => by rw [cutR_eq] at hx'; exact hT0.ok x' (List.mem_filter.1 hx').1
    have he := hy.ex
    subst he
    refine ⟨hB_flat hT0.flat hS.row.flat (pC_flat tk_flat tk_flatG _), ?_⟩
    exact rdropB hmix mo cs cl (x :: t) (x :: t).length k2 rfl hT0.flat hS.row (by omega) _ K ((Alt_iff.1 hK).2 rfl) t 1 (cutR x L) rfl rfl hok2 (Nat.le_trans (cutR_len x L) hl)
noncomputable def rdropX : CtrX (List Value × Nat) where
  D := [0]
  W := [0, 1]
  E := [0]
  pre := fun args blks => match args, blks with
    | [.pointer (some ⟨0,0,none⟩), .int .i64 o], [.cells [.int .i64 mo, .slice (some ⟨1,0,some 1⟩) m k] 2 true, .cells cs 2 true] => IsT cs m k ∧ Need (leN m 1000000) True
    | _, _ => False
  rel := fun args blks x => match args, blks with
    | [.pointer (some ⟨0,0,none⟩), .int .i64 o], [.cells [.int .i64 mo, .slice (some ⟨1,0,some 1⟩) m k] 2 true, .cells cs 2 true] => IsTL (cutAll (ofL o (tksAt cs m)) (tksAt cs m)) x.1 (cutAll (ofL o (tksAt cs m)) (tksAt cs m)).length x.2
    | _, _ => False
  val := fun args blks x => match args, blks with
    | [.pointer (some ⟨0,0,none⟩), .int .i64 o], [.cells [.int .i64 mo, .slice (some ⟨1,0,some 1⟩) m k] 2 true, .cells cs 2 true] => .int .i64 (ofL o (tksAt cs m)).length
    | _, _ => undef
  out := fun args blks x => match args, blks with
    | [.pointer (some ⟨0,0,none⟩), .int .i64 o], [.cells [.int .i64 mo, .slice (some ⟨1,0,some 1⟩) m k] 2 true, .cells cs 2 true] => [.cells [.int .i64 mo, .slice (some ⟨2,0,some 1⟩) (cutAll (ofL o (tksAt cs m)) (tksAt cs m)).length x.2] 2 true, .dead, .cells x.1 2 true]
    | _, _ => []
theorem move_ren {mo : Int} {n k B : Nat} {cs : List Value} {l : List Blk} {v : Value} (hv : flat v = true) (hj : isJunk v = false) (hB : 0 < B) (h0 : l[0]? = some (.cells [.int .i64 mo, .slice (some ⟨B,0,some 1⟩) n k] 2 true)) (h1 : l[B]? = some (.cells cs 2 true)) (hf : FlatL cs) :
    Ren 2 (fun i => if i = 2 then B else i) [v] (hp l) [v] (hp [.cells [.int .i64 mo, .slice (some ⟨2,0,some 1⟩) n k] 2 true, .dead, .cells cs 2 true]) := by
  refine Ren.hp (by simp) (fun i hi => if_neg (by omega)) (fun i c e o hi => ?_) (fun i j c e o c' e' o' hi hj he => ?_) rfl (fun i x y hx hy => ?_)
  · rcases i with _ | _ | _ | i
    · simp only [List.getElem?_cons_zero, Option.some.injEq, Blk.cells.injEq] at hi
      obtain ⟨rfl, rfl, rfl⟩ := hi
      refine ⟨_, h0, fun ρ ρ2 hρ => Mvs.cons (Mv.flat rfl) (Mvs.cons (Mv.sl ?_ _ _ _ _) Mvs.nil)⟩
      exact hρ 2 (by simp)
    · simp at hi
    · simp only [List.getElem?_cons_succ, List.getElem?_cons_zero, Option.some.injEq, Blk.cells.injEq] at hi
      obtain ⟨rfl, rfl, rfl⟩ := hi
      exact ⟨_, h1, fun ρ ρ2 hρ => Mvs.flat hf.1⟩
    · simp at hi
  · rcases i with _ | _ | _ | i <;> rcases j with _ | _ | _ | j <;> simp at hi hj he ⊢ <;> omega
  · cases i with
    | zero =>
      simp at hx hy
      subst hx hy
      exact .inr ⟨hj, fun ρ ρ2 _ => Mv.flat hv⟩
    | succ i => simp at hx
theorem rdrop_says (hmix : Try.prog.follows .mixedOrders = true) : rdropX.Holds Try.prog 21 := by
  intro args blks hf hp
  simp only [rdropX] at hp ⊢
  split at hp
  · rename_i o mo m k cs
    obtain ⟨⟨L, rfl, hc, hB⟩, hl⟩ := hp
    have hI : IsT cs L.length k := .mk L rfl hc hB
    have hl' := hl
    simp only [Alt_iff, Need_iff, ltI_eq, leI_eq, eqI_eq, leN_eq, eqN_eq, decide_eq_true_eq, decide_eq_false_iff_not, decide_true, decide_false, true_and, and_true, Bool.true_eq_false, Bool.false_eq_true, false_implies, true_implies, implies_true, not_true_eq_false, not_false_eq_true, Bool.not_eq_true', Bool.not_eq_false'] at hl
    simp only [tksAt_eq hB]
    have hle := cutAll_len (ofL o L) L
    have hokc : ∀ (l : List ByteArray) (M : List Tk), (∀ x ∈ M, TkOk x) → ∀ x ∈ cutAll l M, TkOk x := by
      intro l
      induction l with
      | nil => intro M h; exact h
      | cons s t ih => intro M h; exact ih _ fun x hx => by rw [cutR_eq] at hx; exact h x (List.mem_filter.1 hx).1
    have hL : Loops Try.prog body1938 2 (cutE [cut1938 o mo k cs L]) := Loops.noneE.moreE _ fun x K hQ => by
      obtain ⟨h1, h2⟩ := hQ
      exact rdropA hmix o mo k cs L hB hc hl x.1 x.2 h1 K h2
    have main : ∀ K : Value → Heap → Prop, Alt (ofL o L).isEmpty (K (.int .i64 (ofL o L).length) (AM.hp [.cells [.int .i64 mo, .slice (some ⟨1,0,some 1⟩) L.length k] 2 true, .cells cs 2 true])) (K (.int .i64 (ofL o L).length) (AM.hp [.cells [.int .i64 mo, .slice (some ⟨2,0,some 1⟩) (cutAll (ofL o L) L).length (cutAll (ofL o L) L).length] 2 true, .cells cs 2 true, .cells (pC tkF tkG (cutAll (ofL o L) L)) 2 true])) →
        FunSays Try.prog 21 [pT, .int .i64 o] (AM.hp [.cells [.int .i64 mo, .slice (some ⟨1,0,some 1⟩) L.length k] 2 true, .cells cs 2 true]) K := fun K hK => by
      refine (sure1938 hmix).funX F1938 body1938 [0] [] Try.func21 rfl (hL.gcX (at0 [0]) (at0 [])) ?_
      show funX Try.prog (S1938 hmix) (gcLKX (at0 [0]) (at0 []) 2 _) _ _ _ _ _ _ _ _
      rw [w1938, tksAt_eq hB]
      refine ⟨⟨rfl, hB.flat, trivial⟩, ⟨hI, hl'⟩, fun x hx => ⟨hA_flat hB.flat hx.row.flat, (x, (ofL o L).length), rfl, rfl, hx, ?_⟩⟩
      rw [Alt_iff] at hK ⊢
      exact ⟨fun h => ⟨FlatD.hp ⟨rfl, hB.flat, trivial⟩, rfl, hK.1 h⟩, fun h => ⟨FlatD.hp ⟨rfl, hB.flat, pC_flat tk_flat tk_flatG _, trivial⟩, rfl, hK.2 h⟩⟩
    cases hq : ofL o L with
    | nil =>
      refine ⟨(cs, k), ⟨by exact hB, rfl, hc⟩, ⟨trivial, trivial, trivial⟩, ⟨rfl, hB.flat, trivial⟩, ?_⟩
      refine FunSays.ren (main (fun v h' => v = .int .i64 (ofL o L).length ∧ h' = AM.hp [.cells [.int .i64 mo, .slice (some ⟨1,0,some 1⟩) L.length k] 2 true, .cells cs 2 true]) (Alt_iff.2 ⟨fun _ => ⟨rfl, rfl⟩, fun h => (by rw [hq] at h; cases h)⟩)) fun v h' hv => ?_
      · obtain ⟨rfl, rfl⟩ := hv
        exact ⟨_, _, _, move_ren rfl rfl (by decide) rfl rfl hB.flat, rfl, by rw [hq], rfl⟩
    | cons x t =>
      rw [← hq]
      refine ⟨(pC tkF tkG (cutAll (ofL o L) L), (cutAll (ofL o L) L).length), ⟨PSl.own0 tk_flat tk_flatG (hokc _ _ hB.ok), rfl, Nat.le_refl _⟩, ⟨trivial, trivial, trivial⟩, ⟨rfl, pC_flat tk_flat tk_flatG _, trivial⟩, ?_⟩
      refine FunSays.ren (main (fun v h' => v = .int .i64 (ofL o L).length ∧ h' = AM.hp [.cells [.int .i64 mo, .slice (some ⟨2,0,some 1⟩) (cutAll (ofL o L) L).length (cutAll (ofL o L) L).length] 2 true, .cells cs 2 true, .cells (pC tkF tkG (cutAll (ofL o L) L)) 2 true]) (Alt_iff.2 ⟨fun h => (by rw [hq] at h; cases h), fun _ => ⟨rfl, rfl⟩⟩)) fun v h' hv => ?_
      · obtain ⟨rfl, rfl⟩ := hv
        exact ⟨_, _, _, move_ren rfl rfl (by decide) rfl rfl (pC_flat tk_flat tk_flatG _), rfl, rfl, rfl⟩
  · exact hp.elim
end Go.Proofs.Ytabbkoegaoekkaa
