/- Proved: what functions of the program come to, by their conditions over the abstract machine. Conditions: those that each theorem states. -/
import Derived.Test.YtfbjgddeipligaaAm4
import Derived.Test.YtfbjgddeipligaaProg
import Derived.WalkKit
import Derived.ProofKit
import Derived.Laws.BitsLemmas
set_option linter.unusedVariables false
set_option linter.unusedSimpArgs false
namespace Go.Proofs.Ytfbjgddeipligaa
open Go.RowKit Go.Proofs.Ytfbjgddeipligaa.AM
def shl (k : IntKind) (x y : Int) : Int := k.wrap (x * 2 ^ (min y.toNat k.bits))
/-! ### numbers: bits, shifts, wraps (no program in sight) -/
theorem u8_of {x : Int} (h : (Lit.int .u8 x).wf = true) : 0 ≤ x ∧ x < 256 := by
  simp [Lit.wf, IntKind.min, IntKind.max, IntKind.bits, IntKind.signed] at h; omega
theorem u64_of {x : Int} (h : (Lit.int .u64 x).wf = true) : 0 ≤ x ∧ x < 18446744073709551616 := by
  simp [Lit.wf, IntKind.min, IntKind.max, IntKind.bits, IntKind.signed] at h; omega
theorem i64_of {x : Int} (h : (Lit.int .i64 x).wf = true) : -9223372036854775808 ≤ x ∧ x < 9223372036854775808 := by
  simp [Lit.wf, IntKind.min, IntKind.max, IntKind.bits, IntKind.signed] at h; omega
theorem wrap_u64' (n : Int) : IntKind.u64.wrap n = n % 18446744073709551616 := by simp [IntKind.wrap, IntKind.bits, IntKind.signed]
theorem wraps_u64' (n : Int) (h₀ : 0 ≤ n) (h₁ : n < 2 ^ 64) : IntKind.u64.wrap n = n := by rw [wrap_u64']; omega
theorem or_u8_128 (a : Int) (h0 : 0 ≤ a) (h1 : a < 256) : Go.bits .or .u8 a 128 = a % 128 + 128 := by
  obtain ⟨n, rfl⟩ := Int.eq_ofNat_of_zero_le h0
  have : ∀ m : Fin 256, Go.bits .or .u8 ((m.val : Nat) : Int) 128 = ((m.val : Nat) : Int) % 128 + 128 := by decide +kernel
  exact this ⟨n, by omega⟩
theorem and_u8_127 (a : Int) (h0 : 0 ≤ a) (h1 : a < 256) : Go.bits .and .u8 a 127 = a % 128 := by
  obtain ⟨n, rfl⟩ := Int.eq_ofNat_of_zero_le h0
  have : ∀ m : Fin 256, Go.bits .and .u8 ((m.val : Nat) : Int) 127 = ((m.val : Nat) : Int) % 128 := by decide +kernel
  exact this ⟨n, by omega⟩
theorem or_u64_join (i : Nat) (x y : Int) (hx₀ : 0 ≤ x) (hx : x % 2 ^ i = 0) (hx₁ : x < 18446744073709551616) (hy₀ : 0 ≤ y) (hy : y < 2 ^ i) (hy₁ : y < 18446744073709551616) :
    Go.bits .or .u64 x y = x + y :=
  bits_join .u64 64 (by decide) wraps_u64' i x y hx₀ hx (by simpa using hx₁) hy₀ hy (by simpa using hy₁)
theorem or_u64_comm (x y : Int) : Go.bits .or .u64 x y = Go.bits .or .u64 y x := by
  unfold Go.bits; simp only [BitVec.or_comm]
theorem p7 (i : Nat) (h : i ≤ 9) : i = 0 ∨ i = 1 ∨ i = 2 ∨ i = 3 ∨ i = 4 ∨ i = 5 ∨ i = 6 ∨ i = 7 ∨ i = 8 ∨ i = 9 := by omega
theorem shl7 (c : Int) (i : Nat) (hi : i ≤ 9) (hc : 0 ≤ c) (hc1 : c < 128) (h9 : i = 9 → c ≤ 1) :
    shl .u64 c (7 * (i : Int)) = c * 128 ^ i ∧ c * 128 ^ i < 18446744073709551616 := by
  unfold shl
  rw [wrap_u64']
  rcases p7 i hi with rfl | rfl | rfl | rfl | rfl | rfl | rfl | rfl | rfl | rfl
  all_goals
    simp [IntKind.bits] at h9 ⊢
    omega
/-- what one byte of a number adds: `i` bytes were read, `c` is the next one. -/
theorem put7 (acc c : Int) (i : Nat) (hi : i ≤ 9) (ha : 0 ≤ acc) (hb : acc < 128 ^ i) (hc : 0 ≤ c) (hc1 : c < 128) (h9 : i = 9 → c ≤ 1) :
    Go.bits .or .u64 acc (shl .u64 c (7 * (i : Int))) = acc + c * 128 ^ i ∧ 0 ≤ acc + c * 128 ^ i ∧ acc + c * 128 ^ i < 128 ^ (i + 1) ∧ acc + c * 128 ^ i < 18446744073709551616 := by
  obtain ⟨e, hl⟩ := shl7 c i hi hc hc1 h9
  have hp : (0 : Int) < 128 ^ i := Int.pow_pos (by decide)
  have h0 : 0 ≤ c * 128 ^ i := Int.mul_nonneg hc (Int.le_of_lt hp)
  have hm : c * (128 : Int) ^ i ≤ 127 * 128 ^ i := Int.mul_le_mul_of_nonneg_right (by omega) (Int.le_of_lt hp)
  have h2 : (2 : Int) ^ (7 * i) = 128 ^ i := by rw [Int.pow_mul]; rfl
  have hs : acc + c * 128 ^ i < 128 ^ (i + 1) := by rw [Int.pow_succ]; omega
  have h64 : acc + c * 128 ^ i < 18446744073709551616 := by
    rcases Nat.lt_or_ge i 9 with h | h
    · have : (128 : Int) ^ (i + 1) ≤ 128 ^ 9 := by exact_mod_cast Nat.pow_le_pow_right (n := 128) (by decide) (show i + 1 ≤ 9 by omega)
      have e9 : (128 : Int) ^ 9 = 9223372036854775808 := by decide
      omega
    · obtain rfl : i = 9 := by omega
      have := h9 rfl
      have e9 : (128 : Int) ^ 9 = 9223372036854775808 := by decide
      rw [e9] at hb ⊢
      omega
  refine ⟨?_, by omega, hs, h64⟩
  rw [e, or_u64_comm, or_u64_join (7 * i) (c * 128 ^ i) acc h0 (by rw [h2]; exact Int.mul_emod_left _ _) hl ha (by rw [h2]; exact hb) (by omega)]
  omega
/-! ### numbers as bytes: plain lists -/
def Bytes (l : List Int) : Prop := ∀ x ∈ l, 0 ≤ x ∧ x < 256
def encN : Nat → Int → List Int
  | 0, n => [n]
  | f + 1, n => if n ≥ 128 then (n % 128 + 128) :: encN f (n / 128) else [n]
/-- a number's bytes -/
def enc (n : Int) : List Int := encN 9 n
def decL : Nat → List Int → Option (Int × Nat)
  | _, [] => none
  | i, c :: t => if (i = 9 ∧ c > 1) ∨ (i > 0 ∧ c = 0) then none else if c < 128 then some (c, 1) else (decL (i + 1) t).map fun r => (c % 128 + 128 * r.1, r.2 + 1)
/-- the number that bytes begin with -/
def dec (l : List Int) : Option (Int × Nat) := decL 0 l
theorem encN_len (f : Nat) : ∀ n, 1 ≤ (encN f n).length ∧ (encN f n).length ≤ f + 1 := by
  induction f with
  | zero => intro n; simp [encN]
  | succ f ih => intro n; rw [encN]; split <;> simp; have := ih (n / 128); omega
theorem enc_len (n : Int) : 1 ≤ (enc n).length ∧ (enc n).length ≤ 10 := encN_len 9 n
theorem encN_bytes (f : Nat) : ∀ n, 0 ≤ n → n < 128 ^ (f + 1) → Bytes (encN f n) := by
  induction f with
  | zero => intro n h0 h1; simp [Bytes, encN]; simp at h1; omega
  | succ f ih =>
    intro n h0 h1; rw [encN]; split
    · intro x hx
      rcases List.mem_cons.1 hx with rfl | hx
      · omega
      · exact ih (n / 128) (by omega) (by rw [Int.pow_succ] at h1; omega) x hx
    · intro x hx; simp at hx; omega
theorem enc_bytes (n : Int) (h0 : 0 ≤ n) (h1 : n < 18446744073709551616) : Bytes (enc n) := encN_bytes 9 n h0 (by simp; omega)
theorem decL_facts : ∀ (l : List Int) (i : Nat) (v : Int) (m : Nat), Bytes l → i ≤ 9 → decL i l = some (v, m) →
    0 ≤ v ∧ v * 128 ^ i < 18446744073709551616 ∧ 1 ≤ m ∧ m ≤ l.length ∧ i + m ≤ 10 ∧ (0 < i → 0 < v) ∧ ∀ f, 9 ≤ f + i → encN f v = l.take m := by
  intro l
  induction l with
  | nil => intro i v m _ _ h; simp [decL] at h
  | cons c t ih =>
    intro i v m hb hi h
    have hc := hb c (by simp)
    rw [decL] at h
    split at h
    · cases h
    · rename_i hn
      split at h
      · rename_i hlt
        simp only [Option.some.injEq, Prod.mk.injEq] at h
        obtain ⟨rfl, rfl⟩ := h
        have h9 : i = 9 → c ≤ 1 := fun e => by
          rcases Int.lt_or_le 1 c with h1 | h1
          · exact absurd (Or.inl ⟨e, h1⟩) hn
          · exact h1
        refine ⟨hc.1, (shl7 c i hi hc.1 hlt h9).2, by omega, by simp, by omega, fun h0 => ?_, fun f hf => ?_⟩
        · rcases Int.lt_or_le 0 c with h1 | h1
          · exact h1
          · exact absurd (Or.inr ⟨h0, by omega⟩) hn
        · cases f with
          | zero => simp [encN]
          | succ f => rw [encN, if_neg (by omega)]; simp
      · rename_i hge
        have hi8 : i ≤ 8 := by
          rcases Nat.lt_or_ge i 9 with h1 | h1
          · omega
          · exact absurd (Or.inl ⟨by omega, by omega⟩) hn
        cases hd : decL (i + 1) t with
        | none => rw [hd] at h; cases h
        | some r =>
          obtain ⟨v', m'⟩ := r
          rw [hd] at h
          simp only [Option.map_some, Option.some.injEq, Prod.mk.injEq] at h
          obtain ⟨rfl, rfl⟩ := h
          obtain ⟨q0, q1, q2, q3, q4, q5, q6⟩ := ih (i + 1) v' m' (fun x hx => hb x (by simp [hx])) (by omega) hd
          have hv := q5 (by omega)
          refine ⟨by omega, ?_, by omega, by simp; omega, by omega, fun _ => by omega, fun f hf => ?_⟩
          · have hp : (0 : Int) < 128 ^ i := Int.pow_pos (by decide)
            have e1 : v' * (128 : Int) ^ (i + 1) = (v' * 128 ^ i) * 128 := by rw [Int.pow_succ, Int.mul_assoc]
            rw [e1] at q1
            have e2 : (c % 128 + 128 * v') * (128 : Int) ^ i = (c % 128) * 128 ^ i + (v' * 128 ^ i) * 128 := by
              rw [Int.add_mul, Int.mul_comm 128 v', Int.mul_assoc, Int.mul_assoc, Int.mul_comm 128]
            have hd8 : (128 : Int) ^ i ∣ 18446744073709551616 := by
              rcases p7 i (by omega) with rfl | rfl | rfl | rfl | rfl | rfl | rfl | rfl | rfl | rfl <;> decide
            obtain ⟨z, hz⟩ := hd8
            have hx : (c % 128 + 128 * v') * (128 : Int) ^ i = 128 ^ i * (c % 128 + 128 * v') := Int.mul_comm _ _
            have hlt' : (128 : Int) ^ i * (128 * v') < 128 ^ i * z := by
              rw [← hz, ← Int.mul_assoc, Int.mul_comm _ v', ← Int.mul_assoc]; exact q1
            have hv' : 128 * v' < z := Int.lt_of_mul_lt_mul_left hlt' (Int.le_of_lt hp)
            have hzm : z % 128 = 0 := by
              rcases p7 i (by omega) with rfl | rfl | rfl | rfl | rfl | rfl | rfl | rfl | rfl | rfl <;> simp at hz <;> omega
            rw [hx, hz]
            exact Int.mul_lt_mul_of_pos_left (by omega) hp
          · cases f with
            | zero => omega
            | succ f =>
              rw [encN, if_pos (by omega), List.take_succ_cons]
              congr 1
              · omega
              · rw [show (c % 128 + 128 * v') / 128 = v' by omega]; exact q6 f (by omega)
theorem dec_facts {l : List Int} {v : Int} {m : Nat} (hb : Bytes l) (h : dec l = some (v, m)) :
    0 ≤ v ∧ v < 18446744073709551616 ∧ 1 ≤ m ∧ m ≤ l.length ∧ m ≤ 10 ∧ enc v = l.take m := by
  obtain ⟨q0, q1, q2, q3, q4, _, q6⟩ := decL_facts l 0 v m hb (by omega) h
  exact ⟨q0, by simpa using q1, q2, q3, by omega, q6 9 (by omega)⟩
theorem decL_enc : ∀ (f : Nat) (i : Nat) (v : Int) (t : List Int), 0 ≤ v → i + f = 9 → v * 128 ^ i < 18446744073709551616 → (0 < i → 0 < v) →
    decL i (encN f v ++ t) = some (v, (encN f v).length) := by
  intro f
  induction f with
  | zero =>
    intro i v t h0 hi hlt hp
    obtain rfl : i = 9 := by omega
    have := hp (by omega)
    have e9 : (128 : Int) ^ 9 = 9223372036854775808 := by decide
    rw [e9] at hlt
    simp only [encN, List.cons_append, List.nil_append, decL]
    rw [if_neg (by omega), if_pos (by omega)]; rfl
  | succ f ih =>
    intro i v t h0 hi hlt hp
    rw [encN]
    split
    · rename_i hge
      simp only [List.cons_append, decL]
      rw [if_neg (by omega), if_neg (by omega)]
      have e1 : v / 128 * (128 : Int) ^ (i + 1) ≤ v * 128 ^ i := by
        have hpw : (0 : Int) < 128 ^ i := Int.pow_pos (by decide)
        have : v / 128 * (128 : Int) ^ (i + 1) = (128 * (v / 128)) * 128 ^ i := by
          rw [Int.pow_succ, Int.mul_comm 128 (v / 128), Int.mul_assoc, Int.mul_comm (128 ^ i)]
        rw [this]
        exact Int.mul_le_mul_of_nonneg_right (by omega) (Int.le_of_lt hpw)
      rw [ih (i + 1) (v / 128) t (by omega) (by omega) (by omega) (fun _ => by omega)]
      simp only [Option.map_some, List.length_cons, Option.some.injEq, Prod.mk.injEq, and_true]
      omega
    · have hp' := hp
      simp only [List.cons_append, List.nil_append, decL]
      rw [if_neg (by omega), if_pos (by omega)]; rfl
theorem dec_enc (v : Int) (t : List Int) (h0 : 0 ≤ v) (h1 : v < 18446744073709551616) : dec (enc v ++ t) = some (v, (enc v).length) :=
  decL_enc 9 0 v t h0 (by omega) (by simpa using h1) (by omega)
/-- no beginning of a number is one -/
theorem decL_cut : ∀ (f : Nat) (i : Nat) (v : Int) (j : Nat), j < (encN f v).length → decL i ((encN f v).take j) = none := by
  intro f
  induction f with
  | zero => intro i v j hj; simp [encN] at hj; subst hj; rfl
  | succ f ih =>
    intro i v j hj
    rw [encN] at hj ⊢
    split at hj
    · rename_i hge
      rw [if_pos hge]
      cases j with
      | zero => rfl
      | succ j =>
        rw [List.take_succ_cons, decL]
        split
        · rfl
        · rw [if_neg (by omega), ih (i + 1) (v / 128) j (by simpa using hj)]; rfl
    · rename_i hge
      rw [if_neg hge]
      simp at hj; subst hj; rfl
theorem dec_cut (v : Int) (j : Nat) (hj : j < (enc v).length) : dec ((enc v).take j) = none := decL_cut 9 0 v j hj
theorem enc_inj (a b : Int) (ha : 0 ≤ a) (ha1 : a < 18446744073709551616) (hb : 0 ≤ b) (hb1 : b < 18446744073709551616) (h : enc a = enc b) : a = b := by
  have h1 := dec_enc a [] ha ha1
  have h2 := dec_enc b [] hb hb1
  rw [h, h2] at h1
  simpa using h1.symm
theorem encN_mono (f : Nat) : ∀ a b : Int, 0 ≤ a → a ≤ b → (encN f a).length ≤ (encN f b).length := by
  induction f with
  | zero => intro a b _ _; simp [encN]
  | succ f ih =>
    intro a b h0 h
    rw [encN, encN]
    split
    · rw [if_pos (by omega)]; simp; exact ih _ _ (by omega) (by omega)
    · split <;> simp
theorem enc_mono (a b : Int) (h0 : 0 ≤ a) (h : a ≤ b) : (enc a).length ≤ (enc b).length := encN_mono 9 a b h0 h
theorem enc_small (n : Int) (h : n < 128) : enc n = [n] := by rw [enc, encN, if_neg (by omega)]

set_option maxRecDepth 100000
set_option maxHeartbeats 4000000
noncomputable def S0 : Book := fun _ => none
noncomputable def LK0 : LoopK := fun _ _ _ _ => False
noncomputable def jk (n : Nat) : List Value := List.replicate n junk
theorem named : (Try.prog.funcs.toList.all fun fn => !(fn.name == "runtime.NumGoroutine")) = true := by decide +kernel
theorem plain : Plain Try.prog := fun f fn hf _ hn => by
  have h1 := List.all_eq_true.1 named fn (by simpa using Array.mem_of_getElem? hf)
  rw [hn] at h1
  exact absurd h1 (by decide)
theorem sums0 : SumsOk Try.prog S0.sums := fun f s hs => by cases hs
end Go.Proofs.Ytfbjgddeipligaa

namespace Go.Proofs.Ytfbjgddeipligaa
open Go.RowKit Go.Proofs.Ytfbjgddeipligaa.AM
set_option maxRecDepth 100000
set_option maxHeartbeats 4000000
theorem sure0 (hmix : Try.prog.follows .mixedOrders = true) : Sure Try.prog S0 := ⟨hmix, plain, sums0⟩
/-- cells that hold these bytes -/
structure BSl (cs : List Value) (o : Nat) (l : List Int) : Prop where
  ok : Bytes l
  cell : ∀ (j : Nat) c, l[j]? = some c → getO cs (o + j) = some (.int .u8 c)
  short : l.length < 1000000000000
  flat : FlatL cs
inductive IsBs (cs : List Value) (o len cap : Nat) : Prop
  | mk (l : List Int) (h : l.length = len) (hc : len ≤ cap) (hb : BSl cs o l) : IsBs cs o len cap
noncomputable def bytesAt (cs : List Value) (o len : Nat) : List Int := ((cs.drop o).take len).map intV
theorem BSl.bytesAt {cs : List Value} {o : Nat} {l : List Int} (h : BSl cs o l) : bytesAt cs o l.length = l := by
  unfold Go.Proofs.Ytfbjgddeipligaa.bytesAt
  refine List.ext_getElem? fun j => ?_
  rw [List.getElem?_map, List.getElem?_take]
  cases hj : l[j]? with
  | none =>
    have := List.getElem?_eq_none_iff.1 hj
    rw [if_neg (by omega)]; rfl
  | some c =>
    have hlt : j < l.length := (List.getElem?_eq_some_iff.1 hj).1
    rw [if_pos hlt, List.getElem?_drop, ← getO_eq, h.cell j c hj]; rfl
noncomputable def body9 : Code := (Try.f9.body).getD .skip
def F9 : List Nat → Option (List Nat) := fun p => match p with
  | [1] => some [0]
  | [1, 1] => some [0, 5]
  | [1, 0, 1, 1] => some [5, 8, 9, 10]
  | [1, 0, 0, 1, 0, 1, 1] => some [5, 8, 9, 10, 11]
  | [1, 0, 1, 0, 0, 1, 0, 1, 1] => some []
  | [1, 1, 0, 0, 1, 0, 1, 1] => some [5, 8, 9, 10]
  | [1, 0, 0, 1, 1, 0, 0, 1, 0, 1, 1] => some [5, 6, 7, 8, 9, 10]
  | [1, 0, 1, 0, 0, 1, 1, 0, 0, 1, 0, 1, 1] => some [5, 6, 7, 8, 9, 10, 28]
  | [0, 1, 0, 1, 0, 0, 1, 1, 0, 0, 1, 0, 1, 1] => some []
  | [1, 1, 0, 0, 1, 1, 0, 0, 1, 0, 1, 1] => some [5, 6, 7, 8, 9, 10]
  | [1, 1, 1, 0, 0, 1, 1, 0, 0, 1, 0, 1, 1] => some [5, 6, 7, 8, 9, 10]
  | [1, 1, 1, 1, 0, 0, 1, 1, 0, 0, 1, 0, 1, 1] => some [5, 6, 8, 9, 10, 38]
  | [1, 0, 1, 1, 1, 1, 0, 0, 1, 1, 0, 0, 1, 0, 1, 1] => some [2, 3, 4]
  | [1, 1, 1, 0, 0, 1, 0, 1, 1] => some [5, 8, 9, 10]
  | [1, 1, 1] => some []
  | [1, 1, 1, 1] => some [2, 3, 4]
  | _ => none
noncomputable def T9 (o : Nat) (sp : Option Nat) (len cap i : Nat) (n : Int) : List Value := tmps 43 [(5, .int .u64 n), (8, .slice (some ⟨0,o,sp⟩) len cap), (9, .int .i64 len), (10, .int .i64 i)]
noncomputable def T9r (n : Int) (k : Nat) : List Value := tmps 43 [(2, .int .u64 n), (3, .int .i64 k), (4, .bool true)]

theorem round9 (cs : List Value) (own : Bool) (o : Nat) (sp : Option Nat) (len cap i : Nat) (n : Int) (K : Post) :
  roundK Try.prog S0 noLoop F9 body9 1 [5,8,9,10] [0,0,1,0,1,1] (T9 o sp len cap i n) (hp [.cells cs 1 own]) K = (
Alt (ltI (↑i : Int) (↑len : Int))
  (Need (ltI (↑i : Int) (↑len : Int))
    (Need (isInt IntKind.u8 ((getO cs (o + (↑i : Int).toNat * 1)).getD undef))
      (Alt (eqI (↑i : Int) 9)
        (Alt (ltI 1 (intV ((getO cs (o + (↑i : Int).toNat * 1)).getD undef)))
          (K (AE.exit 0) (tmps 43 []) (hp [Blk.cells cs 1 own]))
          (Alt (ltI 0 (↑i : Int))
            (Alt (eqI (intV ((getO cs (o + (↑i : Int).toNat * 1)).getD undef)) 0)
              (K (AE.exit 0) (tmps 43 []) (hp [Blk.cells cs 1 own]))
              (Need (leI 0 (wr IntKind.i64 (7 * (↑i : Int))))
                (Alt (ltI (intV ((getO cs (o + (↑i : Int).toNat * 1)).getD undef)) 128)
                  (K AE.ret
                    (tmps 43
                      [(2,
                          Value.int IntKind.u64
                            (bitsW BinOp.or IntKind.u64 n
                              (wr IntKind.u64
                                (wr IntKind.u64
                                    (bitsW BinOp.and IntKind.u8 (intV ((getO cs (o + (↑i : Int).toNat * 1)).getD undef))
                                      127) *
                                  2 ^ min (wr IntKind.i64 (7 * (↑i : Int))).toNat 64)))),
                        (3, Value.int IntKind.i64 (wr IntKind.i64 ((↑i : Int) + 1))), (4, Value.bool true)])
                    (hp [Blk.cells cs 1 own]))
                  (K AE.normal
                    (tmps 43
                      [(5,
                          Value.int IntKind.u64
                            (bitsW BinOp.or IntKind.u64 n
                              (wr IntKind.u64
                                (wr IntKind.u64
                                    (bitsW BinOp.and IntKind.u8 (intV ((getO cs (o + (↑i : Int).toNat * 1)).getD undef))
                                      127) *
                                  2 ^ min (wr IntKind.i64 (7 * (↑i : Int))).toNat 64)))),
                        (8, Value.slice (some { block := 0, off := o, spot := sp }) len cap),
                        (9, Value.int IntKind.i64 (↑len : Int)),
                        (10, Value.int IntKind.i64 (wr IntKind.i64 ((↑i : Int) + 1)))])
                    (hp [Blk.cells cs 1 own])))))
            (Need (leI 0 (wr IntKind.i64 (7 * (↑i : Int))))
              (Alt (ltI (intV ((getO cs (o + (↑i : Int).toNat * 1)).getD undef)) 128)
                (K AE.ret
                  (tmps 43
                    [(2,
                        Value.int IntKind.u64
                          (bitsW BinOp.or IntKind.u64 n
                            (wr IntKind.u64
                              (wr IntKind.u64
                                  (bitsW BinOp.and IntKind.u8 (intV ((getO cs (o + (↑i : Int).toNat * 1)).getD undef))
                                    127) *
                                2 ^ min (wr IntKind.i64 (7 * (↑i : Int))).toNat 64)))),
                      (3, Value.int IntKind.i64 (wr IntKind.i64 ((↑i : Int) + 1))), (4, Value.bool true)])
                  (hp [Blk.cells cs 1 own]))
                (K AE.normal
                  (tmps 43
                    [(5,
                        Value.int IntKind.u64
                          (bitsW BinOp.or IntKind.u64 n
                            (wr IntKind.u64
                              (wr IntKind.u64
                                  (bitsW BinOp.and IntKind.u8 (intV ((getO cs (o + (↑i : Int).toNat * 1)).getD undef))
                                    127) *
                                2 ^ min (wr IntKind.i64 (7 * (↑i : Int))).toNat 64)))),
                      (8, Value.slice (some { block := 0, off := o, spot := sp }) len cap),
                      (9, Value.int IntKind.i64 (↑len : Int)),
                      (10, Value.int IntKind.i64 (wr IntKind.i64 ((↑i : Int) + 1)))])
                  (hp [Blk.cells cs 1 own]))))))
        (Alt (ltI 0 (↑i : Int))
          (Alt (eqI (intV ((getO cs (o + (↑i : Int).toNat * 1)).getD undef)) 0)
            (K (AE.exit 0) (tmps 43 []) (hp [Blk.cells cs 1 own]))
            (Need (leI 0 (wr IntKind.i64 (7 * (↑i : Int))))
              (Alt (ltI (intV ((getO cs (o + (↑i : Int).toNat * 1)).getD undef)) 128)
                (K AE.ret
                  (tmps 43
                    [(2,
                        Value.int IntKind.u64
                          (bitsW BinOp.or IntKind.u64 n
                            (wr IntKind.u64
                              (wr IntKind.u64
                                  (bitsW BinOp.and IntKind.u8 (intV ((getO cs (o + (↑i : Int).toNat * 1)).getD undef))
                                    127) *
                                2 ^ min (wr IntKind.i64 (7 * (↑i : Int))).toNat 64)))),
                      (3, Value.int IntKind.i64 (wr IntKind.i64 ((↑i : Int) + 1))), (4, Value.bool true)])
                  (hp [Blk.cells cs 1 own]))
                (K AE.normal
                  (tmps 43
                    [(5,
                        Value.int IntKind.u64
                          (bitsW BinOp.or IntKind.u64 n
                            (wr IntKind.u64
                              (wr IntKind.u64
                                  (bitsW BinOp.and IntKind.u8 (intV ((getO cs (o + (↑i : Int).toNat * 1)).getD undef))
                                    127) *
                                2 ^ min (wr IntKind.i64 (7 * (↑i : Int))).toNat 64)))),
                      (8, Value.slice (some { block := 0, off := o, spot := sp }) len cap),
                      (9, Value.int IntKind.i64 (↑len : Int)),
                      (10, Value.int IntKind.i64 (wr IntKind.i64 ((↑i : Int) + 1)))])
                  (hp [Blk.cells cs 1 own])))))
          (Need (leI 0 (wr IntKind.i64 (7 * (↑i : Int))))
            (Alt (ltI (intV ((getO cs (o + (↑i : Int).toNat * 1)).getD undef)) 128)
              (K AE.ret
                (tmps 43
                  [(2,
                      Value.int IntKind.u64
                        (bitsW BinOp.or IntKind.u64 n
                          (wr IntKind.u64
                            (wr IntKind.u64
                                (bitsW BinOp.and IntKind.u8 (intV ((getO cs (o + (↑i : Int).toNat * 1)).getD undef))
                                  127) *
                              2 ^ min (wr IntKind.i64 (7 * (↑i : Int))).toNat 64)))),
                    (3, Value.int IntKind.i64 (wr IntKind.i64 ((↑i : Int) + 1))), (4, Value.bool true)])
                (hp [Blk.cells cs 1 own]))
              (K AE.normal
                (tmps 43
                  [(5,
                      Value.int IntKind.u64
                        (bitsW BinOp.or IntKind.u64 n
                          (wr IntKind.u64
                            (wr IntKind.u64
                                (bitsW BinOp.and IntKind.u8 (intV ((getO cs (o + (↑i : Int).toNat * 1)).getD undef))
                                  127) *
                              2 ^ min (wr IntKind.i64 (7 * (↑i : Int))).toNat 64)))),
                    (8, Value.slice (some { block := 0, off := o, spot := sp }) len cap),
                    (9, Value.int IntKind.i64 (↑len : Int)),
                    (10, Value.int IntKind.i64 (wr IntKind.i64 ((↑i : Int) + 1)))])
                (hp [Blk.cells cs 1 own]))))))))
  (K (AE.exit 0) (tmps 43 []) (hp [Blk.cells cs 1 own]))) := by kernel_rfl

theorem get_loop (hmix : Try.prog.follows .mixedOrders = true) (l : List Int) (cs : List Value) (own : Bool) (o : Nat) (sp : Option Nat) (cap : Nat) (hB : BSl cs o l) (K : Post) :
    ∀ (t : List Int) (i : Nat) (acc : Int), l.drop i = t → i ≤ 9 → i ≤ l.length → 0 ≤ acc → acc < 128 ^ i →
    (match decL i t with
      | some r => K .ret (T9r (acc + r.1 * 128 ^ i) (i + r.2)) (hp [.cells cs 1 own])
      | none => K (.exit 0) (tmps 43 []) (hp [.cells cs 1 own])) →
    LSays Try.prog 1 (sub body9 [0,0,1,0,1,1]) (T9 o sp l.length cap i acc) (hp [.cells cs 1 own]) K := by
  have hF : FlatH (hp [.cells cs 1 own]) := FlatH.hp ⟨hB.flat, trivial⟩
  have hb := hB.ok
  have hlen := hB.short
  intro t
  induction t with
  | nil =>
    intro i acc ht hi hil h0 h1 hK
    have hge : ¬ ((i : Int) < (l.length : Int)) := by have := List.drop_eq_nil_iff.1 ht; omega
    refine (sure0 hmix).round F9 noLoops [5,8,9,10] ?_
    rw [round9]
    simp only [hge, hF, Alt_iff, Need_iff, ltI_eq, leI_eq, eqI_eq, leN_eq, eqN_eq, decide_eq_true_eq, decide_eq_false_iff_not, decide_true, decide_false, true_and, and_true, Bool.true_eq_false, Bool.false_eq_true, false_implies, true_implies, implies_true, not_true_eq_false, not_false_eq_true, Bool.not_eq_true', Bool.not_eq_false']
    exact hK
  | cons c t ih =>
    intro i acc ht hi hil h0 h1 hK
    have hlt : i < l.length := by
      rcases Nat.lt_or_ge i l.length with h | h
      · exact h
      · rw [List.drop_eq_nil_of_le h] at ht; cases ht
    have hd : l.drop (i + 1) = t := by rw [← List.drop_drop, ht]; rfl
    have hgc0 : l[i]? = some c := by
      have := congrArg List.head? ht
      rw [List.head?_drop] at this; exact this
    have hc := hb c (List.mem_of_getElem? hgc0)
    have hgc : getO cs (o + (i : Int).toNat * 1) = some (.int .u8 c) := by
      rw [Nat.mul_one, Int.toNat_natCast]; exact hB.cell i c hgc0
    have hl1 : (i : Int) < (l.length : Int) := by omega
    have hw1 : wr .i64 ((i : Int) + 1) = ((i + 1 : Nat) : Int) := by
      rw [wr_eq]; simp [IntKind.wrap, IntKind.bits, IntKind.signed]; omega
    have hw7 : wr .i64 (7 * (i : Int)) = 7 * (i : Int) := by
      rw [wr_eq]; simp [IntKind.wrap, IntKind.bits, IntKind.signed]; omega
    refine (sure0 hmix).round F9 noLoops [5,8,9,10] ?_
    rw [round9]
    simp only [hl1, hF, hgc, Option.getD_some, isInt, intV, kindEq, hw1, hw7, show (0:Int) ≤ 7 * (i : Int) by omega, Alt_iff, Need_iff, ltI_eq, leI_eq, eqI_eq, leN_eq, eqN_eq, decide_eq_true_eq, decide_eq_false_iff_not, decide_true, decide_false, true_and, and_true, Bool.true_eq_false, Bool.false_eq_true, false_implies, true_implies, implies_true, not_true_eq_false, not_false_eq_true, Bool.not_eq_true', Bool.not_eq_false']
    generalize hX : bitsW .or .u64 acc _ = X
    have hX' : X = Go.bits .or .u64 acc (shl .u64 (IntKind.u64.wrap (Go.bits .and .u8 c 127)) (7 * (i : Int))) := by
      rw [← hX]; simp only [bitsW, wr_eq]; rfl
    have stop : ((i = 9 ∧ c > 1) ∨ (i > 0 ∧ c = 0)) → K (.exit 0) (tmps 43 []) (hp [.cells cs 1 own]) := fun h => by
      rw [decL, if_pos h] at hK; exact hK
    have go : ¬ ((i = 9 ∧ c > 1) ∨ (i > 0 ∧ c = 0)) → (c < 128 → K AE.ret (T9r X (i + 1)) (hp [.cells cs 1 own])) ∧
        (¬ c < 128 → LSays Try.prog 1 (sub body9 [0,0,1,0,1,1]) (T9 o sp l.length cap (i + 1) X) (hp [.cells cs 1 own]) K) := fun hn => by
      rw [and_u8_127 c hc.1 hc.2, wraps_u64' (c % 128) (by omega) (by omega)] at hX'
      obtain ⟨p1, p2, p3, p4⟩ := put7 acc (c % 128) i hi h0 h1 (by omega) (by omega) (fun e => by
        rcases Int.lt_or_le 1 c with h1 | h1
        · exact absurd (Or.inl ⟨e, h1⟩) hn
        · omega)
      rw [p1] at hX'
      rw [decL, if_neg hn] at hK
      refine ⟨fun hc8 => ?_, fun hc8 => ?_⟩
      · rw [if_pos hc8] at hK
        rw [hX', show c % 128 = c by omega]; exact hK
      · have hi8 : i ≤ 8 := by
          rcases Nat.lt_or_ge i 9 with h1 | h1
          · omega
          · exact absurd (Or.inl ⟨by omega, by omega⟩) hn
        rw [if_neg hc8] at hK
        rw [hX']
        refine ih (i + 1) _ hd (by omega) (by omega) p2 p3 ?_
        cases hdec : decL (i + 1) t with
        | none => rw [hdec] at hK; exact hK
        | some r =>
          rw [hdec] at hK
          simp only [Option.map_some] at hK ⊢
          have e1 : acc + c % 128 * 128 ^ i + r.1 * 128 ^ (i + 1) = acc + (c % 128 + 128 * r.1) * 128 ^ i := by
            rw [Int.add_mul, Int.pow_succ, ← Int.mul_assoc, Int.mul_comm 128 r.1, Int.mul_assoc r.1 128, Int.mul_comm 128 (128 ^ i), ← Int.mul_assoc, Int.add_assoc]
          rw [e1, show i + 1 + r.2 = i + (r.2 + 1) by omega]
          exact hK
    refine ⟨fun h9 => ⟨fun hc1 => stop (.inl ⟨by omega, hc1⟩), fun hc1 => ⟨fun hi0 => ⟨fun hc0 => stop (.inr ⟨by omega, hc0⟩), fun hc0 => go (by omega)⟩, fun hi0 => go (by omega)⟩⟩,
      fun h9 => ⟨fun hi0 => ⟨fun hc0 => stop (.inr ⟨by omega, hc0⟩), fun hc0 => go (by omega)⟩, fun hi0 => go (by omega)⟩⟩
noncomputable def LK9 (cs : List Value) (own : Bool) (o : Nat) (sp : Option Nat) (len cap : Nat) (res : Option (Int × Nat)) : LoopK := fun p t h K => match p with
  | [0, 1, 0, 1, 1] => t = T9 o sp len cap 0 0 ∧ h = hp [.cells cs 1 own] ∧ match res with
    | some r => K .ret (T9r r.1 r.2) h
    | none => K (.exit 0) (tmps 43 []) h
  | _ => False
def gN (r : Option (Int × Nat)) : Int := match r with | some r => r.1 | none => 0
def gK (r : Option (Int × Nat)) : Nat := match r with | some r => r.2 | none => 0
def getV (r : Option (Int × Nat)) : Value := .tuple #[.int .u64 (gN r), .int .i64 (gK r : Int), .bool r.isSome]

theorem whole9s (cs : List Value) (own : Bool) (o : Nat) (sp : Option Nat) (len cap : Nat) (v : Int) (m : Nat) (K : Value → Heap → Prop) :
  funK Try.prog S0 (gcLK 1 (LK9 cs own o sp len cap (some (v, m)))) F9 body9 Try.f9 [.slice (some ⟨0,o,sp⟩) len cap] (hp [.cells cs 1 own]) K = (
FlatH (hp [Blk.cells cs 1 own]) ∧
  tmps 43
        [(5, Value.int IntKind.u64 0), (8, Value.slice (some { block := 0, off := o, spot := sp }) len cap),
          (9, Value.int IntKind.i64 (↑len : Int)), (10, Value.int IntKind.i64 0)] =
      tmps 43
        [(5, Value.int IntKind.u64 0), (8, Value.slice (some { block := 0, off := o, spot := sp }) len cap),
          (9, Value.int IntKind.i64 (↑len : Int)), (10, Value.int IntKind.i64 0)] ∧
    hp [Blk.cells cs 1 own] = hp [Blk.cells cs 1 own] ∧
      K (Value.tuple #[Value.int IntKind.u64 (v, m).fst, Value.int IntKind.i64 (↑(v, m).snd : Int), Value.bool true])
        (hp [Blk.cells cs 1 own])) := by kernel_rfl

theorem whole9n (cs : List Value) (own : Bool) (o : Nat) (sp : Option Nat) (len cap : Nat) (K : Value → Heap → Prop) :
  funK Try.prog S0 (gcLK 1 (LK9 cs own o sp len cap none)) F9 body9 Try.f9 [.slice (some ⟨0,o,sp⟩) len cap] (hp [.cells cs 1 own]) K = (
FlatH (hp [Blk.cells cs 1 own]) ∧
  tmps 43
        [(5, Value.int IntKind.u64 0), (8, Value.slice (some { block := 0, off := o, spot := sp }) len cap),
          (9, Value.int IntKind.i64 (↑len : Int)), (10, Value.int IntKind.i64 0)] =
      tmps 43
        [(5, Value.int IntKind.u64 0), (8, Value.slice (some { block := 0, off := o, spot := sp }) len cap),
          (9, Value.int IntKind.i64 (↑len : Int)), (10, Value.int IntKind.i64 0)] ∧
    hp [Blk.cells cs 1 own] = hp [Blk.cells cs 1 own] ∧
      K (Value.tuple #[Value.int IntKind.u64 0, Value.int IntKind.i64 0, Value.bool false]) (hp [Blk.cells cs 1 own])) := by kernel_rfl

theorem get_says (hmix : Try.prog.follows .mixedOrders = true) (l : List Int) (cs : List Value) (own : Bool) (o : Nat) (sp : Option Nat) (cap : Nat) (hB : BSl cs o l) :
    FunSays Try.prog 9 [.slice (some ⟨0,o,sp⟩) l.length cap] (hp [.cells cs 1 own]) fun v h' => v = getV (dec l) ∧ h' = hp [.cells cs 1 own] := by
  have hF : FlatH (hp [.cells cs 1 own]) := FlatH.hp ⟨hB.flat, trivial⟩
  have hL : Loops Try.prog body9 1 (LK9 cs own o sp l.length cap (dec l)) := fun p t h K hk => by
    unfold LK9 at hk
    split at hk
    · obtain ⟨rfl, rfl, hk⟩ := hk
      show LSays Try.prog _ (sub body9 [0,0,1,0,1,1]) _ _ _
      refine get_loop hmix l cs own o sp cap hB K l 0 0 rfl (by omega) (by omega) (by omega) (by simp) ?_
      unfold dec at hk
      cases hd : decL 0 l with
      | none => rw [hd] at hk; exact hk
      | some r =>
        rw [hd] at hk
        simpa using hk
    · exact hk.elim
  refine (sure0 hmix).fun F9 body9 Try.func9 rfl hL.gc ?_
  cases hd : dec l with
  | none => rw [whole9n]; exact ⟨hF, rfl, rfl, rfl, hF, rfl, rfl⟩
  | some r =>
    obtain ⟨v, m⟩ := r
    rw [whole9s]; exact ⟨hF, rfl, rfl, rfl, hF, rfl, rfl⟩

noncomputable def T9z : List Value := tmps 43 [(5, .int .u64 0), (8, .slice none 0 0), (9, .int .i64 0), (10, .int .i64 0)]
noncomputable def LK9z : LoopK := fun p t h K => match p with
  | [0, 1, 0, 1, 1] => t = T9z ∧ h = hp [] ∧ K (.exit 0) (tmps 43 []) h
  | _ => False

theorem round9z (K : Post) :
  roundK Try.prog S0 noLoop F9 body9 0 [5,8,9,10] [0,0,1,0,1,1] T9z (hp []) K = (
K (AE.exit 0) (tmps 43 []) (hp [])) := by kernel_rfl

theorem whole9z (K : Value → Heap → Prop) :
  funK Try.prog S0 (gcLK 0 LK9z) F9 body9 Try.f9 [.slice none 0 0] (hp []) K = (
FlatH (hp []) ∧
  tmps 43
        [(5, Value.int IntKind.u64 0), (8, Value.slice none 0 0), (9, Value.int IntKind.i64 0),
          (10, Value.int IntKind.i64 0)] =
      tmps 43
        [(5, Value.int IntKind.u64 0), (8, Value.slice none 0 0), (9, Value.int IntKind.i64 0),
          (10, Value.int IntKind.i64 0)] ∧
    hp [] = hp [] ∧ K (Value.tuple #[Value.int IntKind.u64 0, Value.int IntKind.i64 0, Value.bool false]) (hp [])) := by kernel_rfl

theorem get_nil (hmix : Try.prog.follows .mixedOrders = true) : FunSays Try.prog 9 [.slice none 0 0] (hp []) fun v h' => v = getV none ∧ h' = hp [] := by
  have hL : Loops Try.prog body9 0 LK9z := fun p t h K hk => by
    unfold LK9z at hk
    split at hk
    · obtain ⟨rfl, rfl, hk⟩ := hk
      show LSays Try.prog _ (sub body9 [0,0,1,0,1,1]) _ _ _
      refine (sure0 hmix).round F9 noLoops [5,8,9,10] ?_
      rw [round9z]
      exact ⟨FlatH.empty, hk⟩
    · exact hk.elim
  refine (sure0 hmix).fun F9 body9 Try.func9 rfl hL.gc ?_
  rw [whole9z]
  exact ⟨FlatH.empty, rfl, rfl, rfl, FlatH.empty, rfl, rfl⟩
/-- what 'Get' says of a slice of bytes: a contract -/
noncomputable def getC : Ctr where
  pre := fun args blks => match args, blks with
    | [.slice (some ⟨0, o, _⟩) len cap], [.cells cs 1 _] => IsBs cs o len cap
    | [.slice none 0 0], [] => True
    | _, _ => False
  val := fun args blks => match args, blks with
    | [.slice (some ⟨0, o, _⟩) len _], [.cells cs 1 _] => getV (dec (bytesAt cs o len))
    | _, _ => getV none
  new := fun _ _ => []
theorem getC_holds (hmix : Try.prog.follows .mixedOrders = true) : getC.Holds Try.prog 9 := by
  intro args blks hf hp
  refine ⟨trivial, ?_⟩
  simp only [getC] at hp ⊢
  split at hp
  · obtain ⟨l, rfl, hc, hB⟩ := hp
    simp only [hB.bytesAt, List.append_nil]
    exact get_says hmix l _ _ _ _ _ hB
  · exact get_nil hmix
  · exact hp.elim
end Go.Proofs.Ytfbjgddeipligaa

namespace Go.Proofs.Ytfbjgddeipligaa
open Go.RowKit Go.Proofs.Ytfbjgddeipligaa.AM
set_option maxRecDepth 100000
set_option maxHeartbeats 4000000
noncomputable def body10 : Code := (Try.f10.body).getD .skip
def F10 : List Nat → Option (List Nat) := fun p => match p with
  | [1] => some [0]
  | [1, 1] => some [0, 3]
  | [1, 0, 0, 0, 0, 1, 1] => some [0, 3, 5]
  | [1, 1, 0, 0, 0, 0, 1, 1] => some [0, 3]
  | [1, 0, 0, 0, 1, 1] => some [0, 3]
  | [1, 0, 1, 0, 0, 0, 1, 1] => some [0, 3]
  | [1, 1, 1] => some [0, 3]
  | [1, 1, 1, 1] => some [2]
  | _ => none
noncomputable def T10 (n : Int) (s : Value) : List Value := tmps 19 [(0, .int .u64 n), (3, s)]

theorem round10a (n : Int) (K : Post) :
  roundK Try.prog S0 noLoop F10 body10 0 [0,3] [0,0,0,1,1] (T10 n (.slice none 0 0)) (hp []) K = (
Alt (leI 128 n)
  (K AE.normal (tmps 19 [(0, Value.int IntKind.u64 (n.fdiv 128)), (3, Value.slice (some { block := 0, off := 0 }) 1 1)])
    (hp [Blk.cells [Value.int IntKind.u8 (bitsW BinOp.or IntKind.u8 (wr IntKind.u8 n) 128)] 1 true]))
  (K (AE.exit 0) (tmps 19 [(0, Value.int IntKind.u64 n), (3, Value.slice none 0 0)]) (hp []))) := by kernel_rfl

theorem round10b (cs : List Value) (n : Int) (k : Nat) (K : Post) :
  roundK Try.prog S0 noLoop F10 body10 0 [0,3] [0,0,0,1,1] (T10 n (.slice (some ⟨0,0,none⟩) k k)) (hp [.cells cs 1 true]) K = (
Alt (leI 128 n)
  (Need (leN (0 + k * 1) cs.length)
    (Alt (leN (k + 1) k)
      (Need (leN (0 + k * 1 + 1) cs.length)
        (K AE.normal
          (tmps 19
            [(0, Value.int IntKind.u64 (n.fdiv 128)), (3, Value.slice (some { block := 0, off := 0 }) (k + 1) k)])
          (hp
            [Blk.cells (setAll cs (0 + k * 1) [Value.int IntKind.u8 (bitsW BinOp.or IntKind.u8 (wr IntKind.u8 n) 128)])
                1 true])))
      (Need (leN ((k + 1) * 1) 1099511627776)
        (Need (leN (k + 1) 1099511627776)
          (K AE.normal
            (tmps 19
              [(0, Value.int IntKind.u64 (n.fdiv 128)),
                (3, Value.slice (some { block := 0, off := 0 }) (k + 1) (k + 1))])
            (hp
              [Blk.cells
                  (List.take (k * 1) (List.drop 0 cs) ++
                    [Value.int IntKind.u8 (bitsW BinOp.or IntKind.u8 (wr IntKind.u8 n) 128)])
                  1 true]))))))
  (K (AE.exit 0) (tmps 19 [(0, Value.int IntKind.u64 n), (3, Value.slice (some { block := 0, off := 0 }) k k)])
    (hp [Blk.cells cs 1 true]))) := by kernel_rfl

def u8v (c : Int) : Value := .int .u8 c
theorem flat_u8s (l : List Int) : ∀ x ∈ l.map u8v, flat x = true := fun x hx => by
  obtain ⟨c, _, rfl⟩ := List.mem_map.1 hx; rfl
theorem flatH_u8 (l : List Int) (own : Bool) : FlatH (hp [.cells (l.map u8v) 1 own]) := FlatH.hp ⟨⟨flat_u8s l⟩, trivial⟩

/-- a slice of these bytes, made by 'append' -/
def slV : List Int → Value
  | [] => .slice none 0 0
  | a :: l => .slice (some ⟨0,0,none⟩) (l.length + 1) (l.length + 1)
noncomputable def slB : List Int → List Blk
  | [] => []
  | a :: l => [.cells ((a :: l).map u8v) 1 true]
theorem slV_snoc (acc : List Int) (x : Int) : slV (acc ++ [x]) = .slice (some ⟨0,0,none⟩) (acc.length + 1) (acc.length + 1) ∧ slB (acc ++ [x]) = [.cells (acc.map u8v ++ [u8v x]) 1 true] := by
  cases acc with
  | nil => exact ⟨rfl, rfl⟩
  | cons a l => simp [slV, slB]
theorem flatH_sl (l : List Int) : FlatH (hp (slB l)) := by
  cases l with
  | nil => exact FlatH.empty
  | cons a l => exact flatH_u8 (a :: l) true
theorem byte10 (n : Int) (h0 : 0 ≤ n) : bitsW .or .u8 (wr .u8 n) 128 = n % 128 + 128 := by
  have e : wr .u8 n = n % 256 := by rw [wr_eq]; simp [IntKind.wrap, IntKind.bits, IntKind.signed]
  have := or_u8_128 (n % 256) (by omega) (by omega)
  rw [e]
  refine Eq.trans ?_ (this.trans (by omega))
  simp only [bitsW, wr_eq]; rfl
theorem next10 (n : Int) (h0 : 0 ≤ n) (h1 : n < 18446744073709551616) : n.fdiv 128 = n / 128 := Int.fdiv_eq_ediv_of_nonneg _ (by decide)
theorem encN_split : ∀ (f : Nat) (n : Int), 0 ≤ n → n < 128 ^ (f + 1) → ∃ pre last, encN f n = pre ++ [last] ∧ 0 ≤ last ∧ last < 128 := by
  intro f
  induction f with
  | zero => intro n h0 h1; exact ⟨[], n, rfl, h0, by simpa using h1⟩
  | succ f ih =>
    intro n h0 h1
    rw [encN]
    split
    · obtain ⟨pre, last, he, h⟩ := ih (n / 128) (by omega) (by rw [Int.pow_succ] at h1; omega)
      exact ⟨(n % 128 + 128) :: pre, last, by rw [he]; rfl, h⟩
    · exact ⟨[], n, rfl, h0, by omega⟩
theorem put_loop (hmix : Try.prog.follows .mixedOrders = true) (K : Post) : ∀ (f : Nat) (n : Int) (acc : List Int), 0 ≤ n → n < 18446744073709551616 → n < 128 ^ (f + 1) → acc.length + f < 1000000 →
    (∀ pre last, encN f n = pre ++ [last] → 0 ≤ last → last < 128 → K (.exit 0) (T10 last (slV (acc ++ pre))) (hp (slB (acc ++ pre)))) →
    LSays Try.prog 0 (sub body10 [0,0,0,1,1]) (T10 n (slV acc)) (hp (slB acc)) K := by
  intro f
  induction f with
  | zero =>
    intro n acc h0 h64 h1 hl hK
    have hlt : n < 128 := by simpa using h1
    have hk := hK [] n rfl h0 hlt
    rw [List.append_nil] at hk
    refine (sure0 hmix).round F10 noLoops [0,3] ?_
    cases acc with
    | nil =>
      simp only [slV, slB] at hk ⊢
      rw [round10a]
      simp only [show ¬ (128 : Int) ≤ n by omega, Alt_iff, Need_iff, ltI_eq, leI_eq, eqI_eq, leN_eq, eqN_eq, decide_eq_true_eq, decide_eq_false_iff_not, decide_true, decide_false, true_and, and_true, Bool.true_eq_false, Bool.false_eq_true, false_implies, true_implies, implies_true, not_true_eq_false, not_false_eq_true, Bool.not_eq_true', Bool.not_eq_false']
      exact ⟨FlatH.empty, hk⟩
    | cons a l =>
      have hF := flatH_sl (a :: l)
      simp only [slV, slB] at hk hF ⊢
      rw [round10b]
      simp only [show ¬ (128 : Int) ≤ n by omega, Alt_iff, Need_iff, ltI_eq, leI_eq, eqI_eq, leN_eq, eqN_eq, decide_eq_true_eq, decide_eq_false_iff_not, decide_true, decide_false, true_and, and_true, Bool.true_eq_false, Bool.false_eq_true, false_implies, true_implies, implies_true, not_true_eq_false, not_false_eq_true, Bool.not_eq_true', Bool.not_eq_false']
      exact ⟨hF, hk⟩
  | succ f ih =>
    intro n acc h0 h64 h1 hl hK
    refine (sure0 hmix).round F10 noLoops [0,3] ?_
    by_cases hge : 128 ≤ n
    · have next : LSays Try.prog 0 (sub body10 [0,0,0,1,1]) (T10 (n / 128) (slV (acc ++ [n % 128 + 128]))) (hp (slB (acc ++ [n % 128 + 128]))) K := by
        refine ih (n / 128) (acc ++ [n % 128 + 128]) (by omega) (by omega) (by rw [Int.pow_succ] at h1; omega) (by simp; omega) fun pre last he hl0 hl1 => ?_
        have := hK ((n % 128 + 128) :: pre) last (by rw [encN, if_pos (by omega), he]; rfl) hl0 hl1
        simpa [List.append_assoc] using this
      have hF := flatH_sl (acc ++ [n % 128 + 128])
      obtain ⟨e1, e2⟩ := slV_snoc acc (n % 128 + 128)
      rw [e1, e2] at next
      rw [e2] at hF
      cases acc with
      | nil =>
        simp only [slV, slB]
        rw [round10a]
        simp only [hge, byte10 n h0, next10 n h0 h64, Alt_iff, Need_iff, ltI_eq, leI_eq, eqI_eq, leN_eq, eqN_eq, decide_eq_true_eq, decide_eq_false_iff_not, decide_true, decide_false, true_and, and_true, Bool.true_eq_false, Bool.false_eq_true, false_implies, true_implies, implies_true, not_true_eq_false, not_false_eq_true, Bool.not_eq_true', Bool.not_eq_false']
        exact ⟨hF, next⟩
      | cons a l =>
        simp only [slV, slB]
        rw [round10b]
        simp only [hge, byte10 n h0, next10 n h0 h64, Nat.zero_add, Nat.mul_one, List.length_map, List.length_cons, Nat.le_refl, show ¬ l.length + 1 + 1 ≤ l.length + 1 by omega, List.drop_zero, Alt_iff, Need_iff, ltI_eq, leI_eq, eqI_eq, leN_eq, eqN_eq, decide_eq_true_eq, decide_eq_false_iff_not, decide_true, decide_false, true_and, and_true, Bool.true_eq_false, Bool.false_eq_true, false_implies, true_implies, implies_true, not_true_eq_false, not_false_eq_true, Bool.not_eq_true', Bool.not_eq_false']
        rw [List.take_of_length_le (by simp)]
        simp only [List.length_cons] at hl
        exact ⟨by omega, by omega, hF, next⟩
    · have hk := hK [] n (by rw [encN, if_neg (by omega)]; rfl) h0 (by omega)
      rw [List.append_nil] at hk
      cases acc with
      | nil =>
        simp only [slV, slB] at hk ⊢
        rw [round10a]
        simp only [hge, Alt_iff, Need_iff, ltI_eq, leI_eq, eqI_eq, leN_eq, eqN_eq, decide_eq_true_eq, decide_eq_false_iff_not, decide_true, decide_false, true_and, and_true, Bool.true_eq_false, Bool.false_eq_true, false_implies, true_implies, implies_true, not_true_eq_false, not_false_eq_true, Bool.not_eq_true', Bool.not_eq_false']
        exact ⟨FlatH.empty, hk⟩
      | cons a l =>
        have hF := flatH_sl (a :: l)
        simp only [slV, slB] at hk hF ⊢
        rw [round10b]
        simp only [hge, Alt_iff, Need_iff, ltI_eq, leI_eq, eqI_eq, leN_eq, eqN_eq, decide_eq_true_eq, decide_eq_false_iff_not, decide_true, decide_false, true_and, and_true, Bool.true_eq_false, Bool.false_eq_true, false_implies, true_implies, implies_true, not_true_eq_false, not_false_eq_true, Bool.not_eq_true', Bool.not_eq_false']
        exact ⟨hF, hk⟩
noncomputable def LK10 (n last : Int) (s : Value) (bs : List Blk) : LoopK := fun p t h K => match p with
  | [0, 0, 1, 1] => t = T10 n (.slice none 0 0) ∧ h = hp [] ∧ K (.exit 0) (T10 last s) (hp bs)
  | _ => False

theorem whole10n (n last : Int) (K : Value → Heap → Prop) :
  funK Try.prog S0 (gcLK 0 (LK10 n last (.slice none 0 0) [])) F10 body10 Try.f10 [.int .u64 n] (hp []) K = (
FlatH (hp []) ∧
  tmps 19 [(0, Value.int IntKind.u64 n), (3, Value.slice none 0 0)] =
      tmps 19 [(0, Value.int IntKind.u64 n), (3, Value.slice none 0 0)] ∧
    hp [] = hp [] ∧
      K (Value.slice (some { block := 0, off := 0 }) 1 1)
        (hp [Blk.cells [Value.int IntKind.u8 (wr IntKind.u8 last)] 1 true])) := by kernel_rfl

theorem whole10s (n last : Int) (k : Nat) (cs : List Value) (K : Value → Heap → Prop) :
  funK Try.prog S0 (gcLK 0 (LK10 n last (.slice (some ⟨0,0,none⟩) k k) [.cells cs 1 true])) F10 body10 Try.f10 [.int .u64 n] (hp []) K = (
FlatH (hp []) ∧
  tmps 19 [(0, Value.int IntKind.u64 n), (3, Value.slice none 0 0)] =
      tmps 19 [(0, Value.int IntKind.u64 n), (3, Value.slice none 0 0)] ∧
    hp [] = hp [] ∧
      Need (leN (0 + k * 1) cs.length)
        (Alt (leN (k + 1) k)
          (Need (leN (0 + k * 1 + 1) cs.length)
            (K (Value.slice (some { block := 0, off := 0 }) (k + 1) k)
              (hp [Blk.cells (setAll cs (0 + k * 1) [Value.int IntKind.u8 (wr IntKind.u8 last)]) 1 true])))
          (Need (leN ((k + 1) * 1) 1099511627776)
            (Need (leN (k + 1) 1099511627776)
              (K (Value.slice (some { block := 0, off := 0 }) (k + 1) (k + 1))
                (hp
                  [Blk.cells (List.take (k * 1) (List.drop 0 cs) ++ [Value.int IntKind.u8 (wr IntKind.u8 last)]) 1
                      true])))))) := by kernel_rfl

theorem put_says (hmix : Try.prog.follows .mixedOrders = true) (n : Int) (h0 : 0 ≤ n) (h1 : n < 18446744073709551616) :
    FunSays Try.prog 10 [.int .u64 n] (hp []) fun v h' => v = .slice (some ⟨0,0,none⟩) (enc n).length (enc n).length ∧ h' = hp [.cells ((enc n).map u8v) 1 true] := by
  obtain ⟨pre, last, he, hl0, hl1⟩ := encN_split 9 n h0 (by simp; omega)
  have hlen := enc_len n
  rw [enc, he] at hlen ⊢
  simp only [List.length_append, List.length_cons, List.length_nil, Nat.zero_add] at hlen
  have hL : Loops Try.prog body10 0 (LK10 n last (slV pre) (slB pre)) := fun p t h K hk => by
    unfold LK10 at hk
    split at hk
    · obtain ⟨rfl, rfl, hk⟩ := hk
      show LSays Try.prog _ (sub body10 [0,0,0,1,1]) _ _ _
      refine put_loop hmix K 9 n [] h0 h1 (by simp; omega) (by simp) fun pre' last' he' _ _ => ?_
      rw [he] at he'
      obtain ⟨rfl, e⟩ := List.append_inj' he' rfl
      injection e with e
      subst e
      exact hk
    · exact hk.elim
  have hF := flatH_sl (pre ++ [last])
  obtain ⟨e1, e2⟩ := slV_snoc pre last
  rw [e2] at hF
  have hw : wr .u8 last = last := by rw [wr_eq]; simp [IntKind.wrap, IntKind.bits, IntKind.signed]; omega
  refine (sure0 hmix).fun F10 body10 Try.func10 rfl hL.gc ?_
  cases pre with
  | nil =>
    simp only [slV, slB]
    rw [whole10n, hw]
    exact ⟨FlatH.empty, rfl, rfl, rfl, hF, rfl, rfl⟩
  | cons a l =>
    have hF2 := flatH_sl (a :: l)
    simp only [List.length_cons] at hlen
    simp only [slV, slB] at hF hF2 ⊢
    rw [whole10s, hw]
    simp only [Nat.zero_add, Nat.mul_one, List.length_map, List.length_cons, Nat.le_refl, show ¬ l.length + 1 + 1 ≤ l.length + 1 by omega, List.drop_zero, Alt_iff, Need_iff, ltI_eq, leI_eq, eqI_eq, leN_eq, eqN_eq, decide_eq_true_eq, decide_eq_false_iff_not, decide_true, decide_false, true_and, and_true, Bool.true_eq_false, Bool.false_eq_true, false_implies, true_implies, implies_true, not_true_eq_false, not_false_eq_true, Bool.not_eq_true', Bool.not_eq_false']
    rw [List.take_of_length_le (by simp)]
    and_intros <;> first | exact FlatH.empty | exact hF | exact hF2 | omega | rfl | (simp [u8v]; done)
noncomputable def putC : Ctr where
  pre := fun args blks => match args, blks with
    | [.int .u64 n], [] => Need (leI 0 n) (Need (leI n 18446744073709551615) True)
    | _, _ => False
  val := fun args blks => match args, blks with
    | [.int .u64 n], [] => .slice (some ⟨0,0,none⟩) (enc n).length (enc n).length
    | _, _ => .slice none 0 0
  new := fun args blks => match args, blks with
    | [.int .u64 n], [] => [.cells ((enc n).map u8v) 1 true]
    | _, _ => []
theorem putC_of {f : FuncId} (hs : ∀ n : Int, 0 ≤ n → n < 18446744073709551616 → FunSays Try.prog f [.int .u64 n] (hp []) fun v h' => v = .slice (some ⟨0,0,none⟩) (enc n).length (enc n).length ∧ h' = hp [.cells ((enc n).map u8v) 1 true]) : putC.Holds Try.prog f := by
  intro args blks hf hp
  simp only [putC] at hp ⊢
  split at hp
  · rename_i n
    simp only [Alt_iff, Need_iff, ltI_eq, leI_eq, eqI_eq, leN_eq, eqN_eq, decide_eq_true_eq, decide_eq_false_iff_not, decide_true, decide_false, true_and, and_true, Bool.true_eq_false, Bool.false_eq_true, false_implies, true_implies, implies_true, not_true_eq_false, not_false_eq_true, Bool.not_eq_true', Bool.not_eq_false'] at hp
    exact ⟨⟨⟨flat_u8s _⟩, trivial⟩, hs n hp.1 (by omega)⟩
  · exact hp.elim
theorem putC_holds (hmix : Try.prog.follows .mixedOrders = true) : putC.Holds Try.prog 10 := putC_of (put_says hmix)
end Go.Proofs.Ytfbjgddeipligaa

namespace Go.Proofs.Ytfbjgddeipligaa
open Go.RowKit Go.Proofs.Ytfbjgddeipligaa.AM
set_option maxRecDepth 100000
set_option maxHeartbeats 4000000
noncomputable def body12 : Code := (Try.f12.body).getD .skip
def F12 : List Nat → Option (List Nat) := fun p => match p with
  | [1] => some [0]
  | [1, 1] => some [0, 3]
  | [1, 0, 0, 0, 0, 1, 1] => some [0, 3, 5]
  | [1, 1, 0, 0, 0, 0, 1, 1] => some [0, 3]
  | [1, 0, 0, 0, 1, 1] => some [0, 3]
  | [1, 0, 1, 0, 0, 0, 1, 1] => some [0, 3]
  | [1, 1, 1] => some [0, 3]
  | [1, 1, 1, 1] => some [2]
  | _ => none
noncomputable def T12 (n : Int) (s : Value) : List Value := tmps 20 [(0, .int .u64 n), (3, s)]

theorem round12a (n : Int) (K : Post) :
  roundK Try.prog S0 noLoop F12 body12 0 [0,3] [0,0,0,1,1] (T12 n (.slice none 0 0)) (hp []) K = (
Alt (leI 128 n)
  (K AE.normal
    (tmps 20
      [(0, Value.int IntKind.u64 (wr IntKind.u64 (n.tdiv 128))), (3, Value.slice (some { block := 0, off := 0 }) 1 1)])
    (hp [Blk.cells [Value.int IntKind.u8 (wr IntKind.u8 (wr IntKind.u8 (n.tmod 128) + 128))] 1 true]))
  (K (AE.exit 0) (tmps 20 [(0, Value.int IntKind.u64 n), (3, Value.slice none 0 0)]) (hp []))) := by kernel_rfl

theorem round12b (cs : List Value) (n : Int) (k : Nat) (K : Post) :
  roundK Try.prog S0 noLoop F12 body12 0 [0,3] [0,0,0,1,1] (T12 n (.slice (some ⟨0,0,none⟩) k k)) (hp [.cells cs 1 true]) K = (
Alt (leI 128 n)
  (Need (leN (0 + k * 1) cs.length)
    (Alt (leN (k + 1) k)
      (Need (leN (0 + k * 1 + 1) cs.length)
        (K AE.normal
          (tmps 20
            [(0, Value.int IntKind.u64 (wr IntKind.u64 (n.tdiv 128))),
              (3, Value.slice (some { block := 0, off := 0 }) (k + 1) k)])
          (hp
            [Blk.cells (setAll cs (0 + k * 1) [Value.int IntKind.u8 (wr IntKind.u8 (wr IntKind.u8 (n.tmod 128) + 128))])
                1 true])))
      (Need (leN ((k + 1) * 1) 1099511627776)
        (Need (leN (k + 1) 1099511627776)
          (K AE.normal
            (tmps 20
              [(0, Value.int IntKind.u64 (wr IntKind.u64 (n.tdiv 128))),
                (3, Value.slice (some { block := 0, off := 0 }) (k + 1) (k + 1))])
            (hp
              [Blk.cells
                  (List.take (k * 1) (List.drop 0 cs) ++
                    [Value.int IntKind.u8 (wr IntKind.u8 (wr IntKind.u8 (n.tmod 128) + 128))])
                  1 true]))))))
  (K (AE.exit 0) (tmps 20 [(0, Value.int IntKind.u64 n), (3, Value.slice (some { block := 0, off := 0 }) k k)])
    (hp [Blk.cells cs 1 true]))) := by kernel_rfl

theorem byte12 (n : Int) (h0 : 0 ≤ n) : wr .u8 (wr .u8 (n.tmod 128) + 128) = n % 128 + 128 := by
  rw [Int.tmod_eq_emod_of_nonneg h0]
  simp only [wr_eq]
  simp [IntKind.wrap, IntKind.bits, IntKind.signed]; omega
theorem next12 (n : Int) (h0 : 0 ≤ n) (h1 : n < 18446744073709551616) : wr .u64 (n.tdiv 128) = n / 128 := by
  rw [Int.tdiv_eq_ediv_of_nonneg h0, wr_eq]
  simp [IntKind.wrap, IntKind.bits, IntKind.signed]; omega
theorem rput_loop (hmix : Try.prog.follows .mixedOrders = true) (K : Post) : ∀ (f : Nat) (n : Int) (acc : List Int), 0 ≤ n → n < 18446744073709551616 → n < 128 ^ (f + 1) → acc.length + f < 1000000 →
    (∀ pre last, encN f n = pre ++ [last] → 0 ≤ last → last < 128 → K (.exit 0) (T12 last (slV (acc ++ pre))) (hp (slB (acc ++ pre)))) →
    LSays Try.prog 0 (sub body12 [0,0,0,1,1]) (T12 n (slV acc)) (hp (slB acc)) K := by
  intro f
  induction f with
  | zero =>
    intro n acc h0 h64 h1 hl hK
    have hlt : n < 128 := by simpa using h1
    have hk := hK [] n rfl h0 hlt
    rw [List.append_nil] at hk
    refine (sure0 hmix).round F12 noLoops [0,3] ?_
    cases acc with
    | nil =>
      simp only [slV, slB] at hk ⊢
      rw [round12a]
      simp only [show ¬ (128 : Int) ≤ n by omega, Alt_iff, Need_iff, ltI_eq, leI_eq, eqI_eq, leN_eq, eqN_eq, decide_eq_true_eq, decide_eq_false_iff_not, decide_true, decide_false, true_and, and_true, Bool.true_eq_false, Bool.false_eq_true, false_implies, true_implies, implies_true, not_true_eq_false, not_false_eq_true, Bool.not_eq_true', Bool.not_eq_false']
      exact ⟨FlatH.empty, hk⟩
    | cons a l =>
      have hF := flatH_sl (a :: l)
      simp only [slV, slB] at hk hF ⊢
      rw [round12b]
      simp only [show ¬ (128 : Int) ≤ n by omega, Alt_iff, Need_iff, ltI_eq, leI_eq, eqI_eq, leN_eq, eqN_eq, decide_eq_true_eq, decide_eq_false_iff_not, decide_true, decide_false, true_and, and_true, Bool.true_eq_false, Bool.false_eq_true, false_implies, true_implies, implies_true, not_true_eq_false, not_false_eq_true, Bool.not_eq_true', Bool.not_eq_false']
      exact ⟨hF, hk⟩
  | succ f ih =>
    intro n acc h0 h64 h1 hl hK
    refine (sure0 hmix).round F12 noLoops [0,3] ?_
    by_cases hge : 128 ≤ n
    · have next : LSays Try.prog 0 (sub body12 [0,0,0,1,1]) (T12 (n / 128) (slV (acc ++ [n % 128 + 128]))) (hp (slB (acc ++ [n % 128 + 128]))) K := by
        refine ih (n / 128) (acc ++ [n % 128 + 128]) (by omega) (by omega) (by rw [Int.pow_succ] at h1; omega) (by simp; omega) fun pre last he hl0 hl1 => ?_
        have := hK ((n % 128 + 128) :: pre) last (by rw [encN, if_pos (by omega), he]; rfl) hl0 hl1
        simpa [List.append_assoc] using this
      have hF := flatH_sl (acc ++ [n % 128 + 128])
      obtain ⟨e1, e2⟩ := slV_snoc acc (n % 128 + 128)
      rw [e1, e2] at next
      rw [e2] at hF
      cases acc with
      | nil =>
        simp only [slV, slB]
        rw [round12a]
        simp only [hge, byte12 n h0, next12 n h0 h64, Alt_iff, Need_iff, ltI_eq, leI_eq, eqI_eq, leN_eq, eqN_eq, decide_eq_true_eq, decide_eq_false_iff_not, decide_true, decide_false, true_and, and_true, Bool.true_eq_false, Bool.false_eq_true, false_implies, true_implies, implies_true, not_true_eq_false, not_false_eq_true, Bool.not_eq_true', Bool.not_eq_false']
        exact ⟨hF, next⟩
      | cons a l =>
        simp only [slV, slB]
        rw [round12b]
        simp only [hge, byte12 n h0, next12 n h0 h64, Nat.zero_add, Nat.mul_one, List.length_map, List.length_cons, Nat.le_refl, show ¬ l.length + 1 + 1 ≤ l.length + 1 by omega, List.drop_zero, Alt_iff, Need_iff, ltI_eq, leI_eq, eqI_eq, leN_eq, eqN_eq, decide_eq_true_eq, decide_eq_false_iff_not, decide_true, decide_false, true_and, and_true, Bool.true_eq_false, Bool.false_eq_true, false_implies, true_implies, implies_true, not_true_eq_false, not_false_eq_true, Bool.not_eq_true', Bool.not_eq_false']
        rw [List.take_of_length_le (by simp)]
        simp only [List.length_cons] at hl
        exact ⟨by omega, by omega, hF, next⟩
    · have hk := hK [] n (by rw [encN, if_neg (by omega)]; rfl) h0 (by omega)
      rw [List.append_nil] at hk
      cases acc with
      | nil =>
        simp only [slV, slB] at hk ⊢
        rw [round12a]
        simp only [hge, Alt_iff, Need_iff, ltI_eq, leI_eq, eqI_eq, leN_eq, eqN_eq, decide_eq_true_eq, decide_eq_false_iff_not, decide_true, decide_false, true_and, and_true, Bool.true_eq_false, Bool.false_eq_true, false_implies, true_implies, implies_true, not_true_eq_false, not_false_eq_true, Bool.not_eq_true', Bool.not_eq_false']
        exact ⟨FlatH.empty, hk⟩
      | cons a l =>
        have hF := flatH_sl (a :: l)
        simp only [slV, slB] at hk hF ⊢
        rw [round12b]
        simp only [hge, Alt_iff, Need_iff, ltI_eq, leI_eq, eqI_eq, leN_eq, eqN_eq, decide_eq_true_eq, decide_eq_false_iff_not, decide_true, decide_false, true_and, and_true, Bool.true_eq_false, Bool.false_eq_true, false_implies, true_implies, implies_true, not_true_eq_false, not_false_eq_true, Bool.not_eq_true', Bool.not_eq_false']
        exact ⟨hF, hk⟩
noncomputable def LK12 (n last : Int) (s : Value) (bs : List Blk) : LoopK := fun p t h K => match p with
  | [0, 0, 1, 1] => t = T12 n (.slice none 0 0) ∧ h = hp [] ∧ K (.exit 0) (T12 last s) (hp bs)
  | _ => False

theorem whole12n (n last : Int) (K : Value → Heap → Prop) :
  funK Try.prog S0 (gcLK 0 (LK12 n last (.slice none 0 0) [])) F12 body12 Try.f12 [.int .u64 n] (hp []) K = (
FlatH (hp []) ∧
  tmps 20 [(0, Value.int IntKind.u64 n), (3, Value.slice none 0 0)] =
      tmps 20 [(0, Value.int IntKind.u64 n), (3, Value.slice none 0 0)] ∧
    hp [] = hp [] ∧
      K (Value.slice (some { block := 0, off := 0 }) 1 1)
        (hp [Blk.cells [Value.int IntKind.u8 (wr IntKind.u8 last)] 1 true])) := by kernel_rfl

theorem whole12s (n last : Int) (k : Nat) (cs : List Value) (K : Value → Heap → Prop) :
  funK Try.prog S0 (gcLK 0 (LK12 n last (.slice (some ⟨0,0,none⟩) k k) [.cells cs 1 true])) F12 body12 Try.f12 [.int .u64 n] (hp []) K = (
FlatH (hp []) ∧
  tmps 20 [(0, Value.int IntKind.u64 n), (3, Value.slice none 0 0)] =
      tmps 20 [(0, Value.int IntKind.u64 n), (3, Value.slice none 0 0)] ∧
    hp [] = hp [] ∧
      Need (leN (0 + k * 1) cs.length)
        (Alt (leN (k + 1) k)
          (Need (leN (0 + k * 1 + 1) cs.length)
            (K (Value.slice (some { block := 0, off := 0 }) (k + 1) k)
              (hp [Blk.cells (setAll cs (0 + k * 1) [Value.int IntKind.u8 (wr IntKind.u8 last)]) 1 true])))
          (Need (leN ((k + 1) * 1) 1099511627776)
            (Need (leN (k + 1) 1099511627776)
              (K (Value.slice (some { block := 0, off := 0 }) (k + 1) (k + 1))
                (hp
                  [Blk.cells (List.take (k * 1) (List.drop 0 cs) ++ [Value.int IntKind.u8 (wr IntKind.u8 last)]) 1
                      true])))))) := by kernel_rfl

theorem rput_says (hmix : Try.prog.follows .mixedOrders = true) (n : Int) (h0 : 0 ≤ n) (h1 : n < 18446744073709551616) :
    FunSays Try.prog 12 [.int .u64 n] (hp []) fun v h' => v = .slice (some ⟨0,0,none⟩) (enc n).length (enc n).length ∧ h' = hp [.cells ((enc n).map u8v) 1 true] := by
  obtain ⟨pre, last, he, hl0, hl1⟩ := encN_split 9 n h0 (by simp; omega)
  have hlen := enc_len n
  rw [enc, he] at hlen ⊢
  simp only [List.length_append, List.length_cons, List.length_nil, Nat.zero_add] at hlen
  have hL : Loops Try.prog body12 0 (LK12 n last (slV pre) (slB pre)) := fun p t h K hk => by
    unfold LK12 at hk
    split at hk
    · obtain ⟨rfl, rfl, hk⟩ := hk
      show LSays Try.prog _ (sub body12 [0,0,0,1,1]) _ _ _
      refine rput_loop hmix K 9 n [] h0 h1 (by simp; omega) (by simp) fun pre' last' he' _ _ => ?_
      rw [he] at he'
      obtain ⟨rfl, e⟩ := List.append_inj' he' rfl
      injection e with e
      subst e
      exact hk
    · exact hk.elim
  have hF := flatH_sl (pre ++ [last])
  obtain ⟨e1, e2⟩ := slV_snoc pre last
  rw [e2] at hF
  have hw : wr .u8 last = last := by rw [wr_eq]; simp [IntKind.wrap, IntKind.bits, IntKind.signed]; omega
  refine (sure0 hmix).fun F12 body12 Try.func12 rfl hL.gc ?_
  cases pre with
  | nil =>
    simp only [slV, slB]
    rw [whole12n, hw]
    exact ⟨FlatH.empty, rfl, rfl, rfl, hF, rfl, rfl⟩
  | cons a l =>
    have hF2 := flatH_sl (a :: l)
    simp only [List.length_cons] at hlen
    simp only [slV, slB] at hF hF2 ⊢
    rw [whole12s, hw]
    simp only [Nat.zero_add, Nat.mul_one, List.length_map, List.length_cons, Nat.le_refl, show ¬ l.length + 1 + 1 ≤ l.length + 1 by omega, List.drop_zero, Alt_iff, Need_iff, ltI_eq, leI_eq, eqI_eq, leN_eq, eqN_eq, decide_eq_true_eq, decide_eq_false_iff_not, decide_true, decide_false, true_and, and_true, Bool.true_eq_false, Bool.false_eq_true, false_implies, true_implies, implies_true, not_true_eq_false, not_false_eq_true, Bool.not_eq_true', Bool.not_eq_false']
    rw [List.take_of_length_le (by simp)]
    and_intros <;> first | exact FlatH.empty | exact hF | exact hF2 | omega | rfl | (simp [u8v]; done)
theorem rputC_holds (hmix : Try.prog.follows .mixedOrders = true) : putC.Holds Try.prog 12 := putC_of (rput_says hmix)
end Go.Proofs.Ytfbjgddeipligaa

namespace Go.Proofs.Ytfbjgddeipligaa
open Go.RowKit Go.Proofs.Ytfbjgddeipligaa.AM
set_option maxRecDepth 100000
set_option maxHeartbeats 4000000
noncomputable def body16 : Code := (Try.f16.body).getD .skip
def F16 : List Nat → Option (List Nat) := fun p => match p with
  | [1] => some [0]
  | [1, 1] => some [0, 5]
  | [1, 0, 1, 1] => some [0, 5, 6]
  | [1, 0, 0, 0, 1, 0, 1, 1] => some [0, 5, 6, 15]
  | [1, 1, 0, 0, 0, 1, 0, 1, 1] => some []
  | [1, 0, 0, 1, 0, 1, 1] => some [0, 5, 6]
  | [1, 0, 0, 1, 0, 0, 1, 0, 1, 1] => some [0, 5, 6, 7]
  | [1, 0, 1, 0, 0, 1, 0, 0, 1, 0, 1, 1] => some [0, 5, 6, 7, 29]
  | [1, 0, 1, 0, 1, 0, 0, 1, 0, 0, 1, 0, 1, 1] => some [2, 3, 4]
  | [1, 1, 0, 0, 1, 0, 0, 1, 0, 1, 1] => some [0, 5, 6, 7]
  | [1, 1, 1, 0, 0, 1, 0, 0, 1, 0, 1, 1] => some [0, 5, 6, 7]
  | [1, 0, 1, 1, 1, 0, 0, 1, 0, 0, 1, 0, 1, 1] => some [0, 5, 6, 7, 41]
  | [0, 1, 0, 1, 1, 1, 0, 0, 1, 0, 0, 1, 0, 1, 1] => some [0, 5, 6]
  | [1, 1, 1, 1, 0, 0, 1, 0, 0, 1, 0, 1, 1] => some [5, 6, 7]
  | [1, 0, 1, 1, 1, 1, 0, 0, 1, 0, 0, 1, 0, 1, 1] => some [5, 6, 47]
  | [1, 0, 1, 0, 1, 1, 1, 1, 0, 0, 1, 0, 0, 1, 0, 1, 1] => some [2, 3, 4]
  | [1, 1, 1, 1, 1, 0, 0, 1, 0, 0, 1, 0, 1, 1] => some [5, 6]
  | [1, 1, 1, 1, 1, 1, 0, 0, 1, 0, 0, 1, 0, 1, 1] => some [2, 3, 4]
  | [1, 1, 0, 0, 1, 0, 1, 1] => some [0, 5, 6]
  | [1, 1, 1] => some []
  | [1, 1, 1, 1] => some [2, 3, 4]
  | _ => none
noncomputable def T16 (s : Value) (i : Nat) (n : Int) : List Value := tmps 51 [(0, s), (5, .int .u64 n), (6, .int .i64 i)]
noncomputable def T16r (n : Int) (k : Nat) (b : Bool) : List Value := tmps 51 [(2, .int .u64 n), (3, .int .i64 k), (4, .bool b)]

theorem round16 (cs : List Value) (own : Bool) (o : Nat) (sp : Option Nat) (len cap i : Nat) (n : Int) (K : Post) :
  roundK Try.prog S0 noLoop F16 body16 1 [0,5,6] [0,0,1,0,1,1] (T16 (.slice (some ⟨0,o,sp⟩) len cap) i n) (hp [.cells cs 1 own]) K = (
Alt (ltI (↑i : Int) (↑len : Int))
  (Alt (ltI (↑i : Int) 10)
    (Need (ltI (↑i : Int) (↑len : Int))
      (Need (isInt IntKind.u8 ((getO cs (o + (↑i : Int).toNat * 1)).getD undef))
        (Alt (eqI (↑i : Int) 9)
          (Alt (ltI 1 (wr IntKind.u64 ((intV ((getO cs (o + (↑i : Int).toNat * 1)).getD undef)).tmod 128)))
            (K AE.ret (tmps 51 [(2, Value.int IntKind.u64 0), (3, Value.int IntKind.i64 0), (4, Value.bool false)])
              (hp [Blk.cells cs 1 own]))
            (Need (leI 0 (wr IntKind.u64 (wr IntKind.i64 (7 * (↑i : Int)))))
              (Need (ltI (↑i : Int) (↑len : Int))
                (Need (isInt IntKind.u8 ((getO cs (o + (↑i : Int).toNat * 1)).getD undef))
                  (Alt (leI 128 (intV ((getO cs (o + (↑i : Int).toNat * 1)).getD undef)))
                    (K AE.normal
                      (tmps 51
                        [(0, Value.slice (some { block := 0, off := o, spot := sp }) len cap),
                          (5,
                            Value.int IntKind.u64
                              (bitsW BinOp.or IntKind.u64 n
                                (wr IntKind.u64
                                  (wr IntKind.u64 ((intV ((getO cs (o + (↑i : Int).toNat * 1)).getD undef)).tmod 128) *
                                    2 ^ min (wr IntKind.u64 (wr IntKind.i64 (7 * (↑i : Int)))).toNat 64)))),
                          (6, Value.int IntKind.i64 (wr IntKind.i64 ((↑i : Int) + 1)))])
                      (hp [Blk.cells cs 1 own]))
                    (Alt (eqI (wr IntKind.u64 ((intV ((getO cs (o + (↑i : Int).toNat * 1)).getD undef)).tmod 128)) 0)
                      (Alt (ltI 0 (↑i : Int))
                        (K AE.ret
                          (tmps 51 [(2, Value.int IntKind.u64 0), (3, Value.int IntKind.i64 0), (4, Value.bool false)])
                          (hp [Blk.cells cs 1 own]))
                        (K AE.ret
                          (tmps 51
                            [(2,
                                Value.int IntKind.u64
                                  (bitsW BinOp.or IntKind.u64 n
                                    (wr IntKind.u64
                                      (wr IntKind.u64
                                          ((intV ((getO cs (o + (↑i : Int).toNat * 1)).getD undef)).tmod 128) *
                                        2 ^ min (wr IntKind.u64 (wr IntKind.i64 (7 * (↑i : Int)))).toNat 64)))),
                              (3, Value.int IntKind.i64 (wr IntKind.i64 ((↑i : Int) + 1))), (4, Value.bool true)])
                          (hp [Blk.cells cs 1 own])))
                      (K AE.ret
                        (tmps 51
                          [(2,
                              Value.int IntKind.u64
                                (bitsW BinOp.or IntKind.u64 n
                                  (wr IntKind.u64
                                    (wr IntKind.u64
                                        ((intV ((getO cs (o + (↑i : Int).toNat * 1)).getD undef)).tmod 128) *
                                      2 ^ min (wr IntKind.u64 (wr IntKind.i64 (7 * (↑i : Int)))).toNat 64)))),
                            (3, Value.int IntKind.i64 (wr IntKind.i64 ((↑i : Int) + 1))), (4, Value.bool true)])
                        (hp [Blk.cells cs 1 own]))))))))
          (Need (leI 0 (wr IntKind.u64 (wr IntKind.i64 (7 * (↑i : Int)))))
            (Need (ltI (↑i : Int) (↑len : Int))
              (Need (isInt IntKind.u8 ((getO cs (o + (↑i : Int).toNat * 1)).getD undef))
                (Alt (leI 128 (intV ((getO cs (o + (↑i : Int).toNat * 1)).getD undef)))
                  (K AE.normal
                    (tmps 51
                      [(0, Value.slice (some { block := 0, off := o, spot := sp }) len cap),
                        (5,
                          Value.int IntKind.u64
                            (bitsW BinOp.or IntKind.u64 n
                              (wr IntKind.u64
                                (wr IntKind.u64 ((intV ((getO cs (o + (↑i : Int).toNat * 1)).getD undef)).tmod 128) *
                                  2 ^ min (wr IntKind.u64 (wr IntKind.i64 (7 * (↑i : Int)))).toNat 64)))),
                        (6, Value.int IntKind.i64 (wr IntKind.i64 ((↑i : Int) + 1)))])
                    (hp [Blk.cells cs 1 own]))
                  (Alt (eqI (wr IntKind.u64 ((intV ((getO cs (o + (↑i : Int).toNat * 1)).getD undef)).tmod 128)) 0)
                    (Alt (ltI 0 (↑i : Int))
                      (K AE.ret
                        (tmps 51 [(2, Value.int IntKind.u64 0), (3, Value.int IntKind.i64 0), (4, Value.bool false)])
                        (hp [Blk.cells cs 1 own]))
                      (K AE.ret
                        (tmps 51
                          [(2,
                              Value.int IntKind.u64
                                (bitsW BinOp.or IntKind.u64 n
                                  (wr IntKind.u64
                                    (wr IntKind.u64
                                        ((intV ((getO cs (o + (↑i : Int).toNat * 1)).getD undef)).tmod 128) *
                                      2 ^ min (wr IntKind.u64 (wr IntKind.i64 (7 * (↑i : Int)))).toNat 64)))),
                            (3, Value.int IntKind.i64 (wr IntKind.i64 ((↑i : Int) + 1))), (4, Value.bool true)])
                        (hp [Blk.cells cs 1 own])))
                    (K AE.ret
                      (tmps 51
                        [(2,
                            Value.int IntKind.u64
                              (bitsW BinOp.or IntKind.u64 n
                                (wr IntKind.u64
                                  (wr IntKind.u64 ((intV ((getO cs (o + (↑i : Int).toNat * 1)).getD undef)).tmod 128) *
                                    2 ^ min (wr IntKind.u64 (wr IntKind.i64 (7 * (↑i : Int)))).toNat 64)))),
                          (3, Value.int IntKind.i64 (wr IntKind.i64 ((↑i : Int) + 1))), (4, Value.bool true)])
                      (hp [Blk.cells cs 1 own]))))))))))
    (K (AE.exit 0) (tmps 51 []) (hp [Blk.cells cs 1 own])))
  (K (AE.exit 0) (tmps 51 []) (hp [Blk.cells cs 1 own]))) := by kernel_rfl

theorem round16z (K : Post) :
  roundK Try.prog S0 noLoop F16 body16 0 [0,5,6] [0,0,1,0,1,1] (T16 (.slice none 0 0) 0 0) (hp []) K = (
K (AE.exit 0) (tmps 51 []) (hp [])) := by kernel_rfl

theorem rget_ten (hmix : Try.prog.follows .mixedOrders = true) (cs : List Value) (own : Bool) (hc : FlatL cs) (o : Nat) (sp : Option Nat) (len cap : Nat) (acc : Int) (K : Post) (hK : K (.exit 0) (tmps 51 []) (hp [.cells cs 1 own])) :
    LSays Try.prog 1 (sub body16 [0,0,1,0,1,1]) (T16 (.slice (some ⟨0,o,sp⟩) len cap) 10 acc) (hp [.cells cs 1 own]) K := by
  have hF : FlatH (hp [.cells cs 1 own]) := FlatH.hp ⟨hc, trivial⟩
  refine (sure0 hmix).round F16 noLoops [0,5,6] ?_
  rw [round16]
  simp only [hF, show ¬ ((10 : Nat) : Int) < 10 by omega, Alt_iff, Need_iff, ltI_eq, leI_eq, eqI_eq, leN_eq, eqN_eq, decide_eq_true_eq, decide_eq_false_iff_not, decide_true, decide_false, true_and, and_true, Bool.true_eq_false, Bool.false_eq_true, false_implies, true_implies, implies_true, not_true_eq_false, not_false_eq_true, Bool.not_eq_true', Bool.not_eq_false']
  exact ⟨fun _ => hK, fun _ => hK⟩
theorem rget_loop (hmix : Try.prog.follows .mixedOrders = true) (l : List Int) (cs : List Value) (own : Bool) (o : Nat) (sp : Option Nat) (cap : Nat) (hB : BSl cs o l) (K : Post) :
    ∀ (t : List Int) (i : Nat) (acc : Int), l.drop i = t → i ≤ 9 → i ≤ l.length → 0 ≤ acc → acc < 128 ^ i →
    (match decL i t with
      | some r => K .ret (T16r (acc + r.1 * 128 ^ i) (i + r.2) true) (hp [.cells cs 1 own])
      | none => K (.exit 0) (tmps 51 []) (hp [.cells cs 1 own]) ∧ K .ret (T16r 0 0 false) (hp [.cells cs 1 own])) →
    LSays Try.prog 1 (sub body16 [0,0,1,0,1,1]) (T16 (.slice (some ⟨0,o,sp⟩) l.length cap) i acc) (hp [.cells cs 1 own]) K := by
  have hF : FlatH (hp [.cells cs 1 own]) := FlatH.hp ⟨hB.flat, trivial⟩
  have hb := hB.ok
  have hlen := hB.short
  intro t
  induction t with
  | nil =>
    intro i acc ht hi hil h0 h1 hK
    have hge : ¬ ((i : Int) < (l.length : Int)) := by have := List.drop_eq_nil_iff.1 ht; omega
    refine (sure0 hmix).round F16 noLoops [0,5,6] ?_
    rw [round16]
    simp only [hge, hF, Alt_iff, Need_iff, ltI_eq, leI_eq, eqI_eq, leN_eq, eqN_eq, decide_eq_true_eq, decide_eq_false_iff_not, decide_true, decide_false, true_and, and_true, Bool.true_eq_false, Bool.false_eq_true, false_implies, true_implies, implies_true, not_true_eq_false, not_false_eq_true, Bool.not_eq_true', Bool.not_eq_false']
    exact hK.1
  | cons c t ih =>
    intro i acc ht hi hil h0 h1 hK
    have hlt : i < l.length := by
      rcases Nat.lt_or_ge i l.length with h | h
      · exact h
      · rw [List.drop_eq_nil_of_le h] at ht; cases ht
    have hd : l.drop (i + 1) = t := by rw [← List.drop_drop, ht]; rfl
    have hgc0 : l[i]? = some c := by
      have := congrArg List.head? ht
      rw [List.head?_drop] at this; exact this
    have hc := hb c (List.mem_of_getElem? hgc0)
    have hgc : getO cs (o + (i : Int).toNat * 1) = some (.int .u8 c) := by
      rw [Nat.mul_one, Int.toNat_natCast]; exact hB.cell i c hgc0
    have hl1 : (i : Int) < (l.length : Int) := by omega
    have hw1 : wr .i64 ((i : Int) + 1) = ((i + 1 : Nat) : Int) := by
      rw [wr_eq]; simp [IntKind.wrap, IntKind.bits, IntKind.signed]; omega
    have hw7 : wr .i64 (7 * (i : Int)) = 7 * (i : Int) := by
      rw [wr_eq]; simp [IntKind.wrap, IntKind.bits, IntKind.signed]; omega
    have hw7u : wr .u64 (7 * (i : Int)) = 7 * (i : Int) := by
      rw [wr_eq]; simp [IntKind.wrap, IntKind.bits, IntKind.signed]; omega
    have hcm : wr .u64 (c.tmod 128) = c % 128 := by
      rw [Int.tmod_eq_emod_of_nonneg hc.1, wr_eq]; simp [IntKind.wrap, IntKind.bits, IntKind.signed]; omega
    refine (sure0 hmix).round F16 noLoops [0,5,6] ?_
    rw [round16]
    simp only [hl1, hF, show (i : Int) < 10 by omega, hgc, Option.getD_some, isInt, intV, kindEq, hw1, hw7, hw7u, hcm, show (0:Int) ≤ 7 * (i : Int) by omega, Alt_iff, Need_iff, ltI_eq, leI_eq, eqI_eq, leN_eq, eqN_eq, decide_eq_true_eq, decide_eq_false_iff_not, decide_true, decide_false, true_and, and_true, Bool.true_eq_false, Bool.false_eq_true, false_implies, true_implies, implies_true, not_true_eq_false, not_false_eq_true, Bool.not_eq_true', Bool.not_eq_false']
    generalize hX : bitsW .or .u64 acc _ = X
    have hX' : X = Go.bits .or .u64 acc (shl .u64 (c % 128) (7 * (i : Int))) := by
      rw [← hX]; simp only [bitsW, wr_eq]; rfl
    have stop : ((i = 9 ∧ c > 1) ∨ (i > 0 ∧ c = 0)) → K .ret (T16r 0 0 false) (hp [.cells cs 1 own]) := fun h => by
      rw [decL, if_pos h] at hK; exact hK.2
    have stop0 : ((i = 9 ∧ c > 1) ∨ (i > 0 ∧ c = 0)) → K (.exit 0) (tmps 51 []) (hp [.cells cs 1 own]) := fun h => by
      rw [decL, if_pos h] at hK; exact hK.1
    have val : ¬ ((i = 9 ∧ c % 128 > 1)) → X = acc + c % 128 * 128 ^ i ∧ 0 ≤ acc + c % 128 * 128 ^ i ∧ acc + c % 128 * 128 ^ i < 128 ^ (i + 1) := fun hn => by
      obtain ⟨p1, p2, p3, p4⟩ := put7 acc (c % 128) i hi h0 h1 (by omega) (by omega) (fun e => by omega)
      exact ⟨hX'.trans p1, p2, p3⟩
    have done : ¬ ((i = 9 ∧ c > 1) ∨ (i > 0 ∧ c = 0)) → c < 128 → K AE.ret (T16r X (i + 1) true) (hp [.cells cs 1 own]) := fun hn hc8 => by
      rw [decL, if_neg hn, if_pos hc8] at hK
      rw [(val (by omega)).1, show c % 128 = c by omega]; exact hK
    have more : ¬ (i = 9 ∧ c % 128 > 1) → 128 ≤ c → LSays Try.prog 1 (sub body16 [0,0,1,0,1,1]) (T16 (.slice (some ⟨0,o,sp⟩) l.length cap) (i + 1) X) (hp [.cells cs 1 own]) K := fun hn hc8 => by
      by_cases hi8 : i ≤ 8
      · obtain ⟨p1, p2, p3⟩ := val hn
        rw [p1]
        refine ih (i + 1) _ hd (by omega) (by omega) p2 p3 ?_
        rw [decL, if_neg (by omega), if_neg (by omega)] at hK
        cases hdec : decL (i + 1) t with
        | none => rw [hdec] at hK; exact hK
        | some r =>
          rw [hdec] at hK
          simp only [Option.map_some] at hK ⊢
          have e1 : acc + c % 128 * 128 ^ i + r.1 * 128 ^ (i + 1) = acc + (c % 128 + 128 * r.1) * 128 ^ i := by
            rw [Int.add_mul, Int.pow_succ, ← Int.mul_assoc, Int.mul_comm 128 r.1, Int.mul_assoc r.1 128, Int.mul_comm 128 (128 ^ i), ← Int.mul_assoc, Int.add_assoc]
          rw [e1, show i + 1 + r.2 = i + (r.2 + 1) by omega]
          exact hK
      · obtain rfl : i = 9 := by omega
        exact rget_ten hmix cs own hB.flat o sp l.length cap X K (stop0 (.inl ⟨rfl, by omega⟩))
    refine ⟨fun h9 => ⟨fun hd1 => stop (.inl ⟨by omega, by omega⟩), fun hd1 => ⟨fun hc8 => more (by omega) hc8, fun hc8 => ⟨fun hz => ⟨fun hi0 => stop (.inr ⟨by omega, by omega⟩), fun hi0 => done (by omega) (by omega)⟩, fun hz => done (by omega) (by omega)⟩⟩⟩,
      fun h9 => ⟨fun hc8 => more (by omega) hc8, fun hc8 => ⟨fun hz => ⟨fun hi0 => stop (.inr ⟨by omega, by omega⟩), fun hi0 => done (by omega) (by omega)⟩, fun hz => done (by omega) (by omega)⟩⟩⟩
noncomputable def LK16 (cs : List Value) (own : Bool) (o : Nat) (sp : Option Nat) (len cap : Nat) (res : Option (Int × Nat)) : LoopK := fun p t h K => match p with
  | [0, 1, 0, 1, 1] => t = T16 (.slice (some ⟨0,o,sp⟩) len cap) 0 0 ∧ h = hp [.cells cs 1 own] ∧ match res with
    | some r => K .ret (T16r r.1 r.2 true) h
    | none => K (.exit 0) (tmps 51 []) h ∧ K .ret (T16r 0 0 false) h
  | _ => False
noncomputable def LK16z : LoopK := fun p t h K => match p with
  | [0, 1, 0, 1, 1] => t = T16 (.slice none 0 0) 0 0 ∧ h = hp [] ∧ K (.exit 0) (tmps 51 []) h
  | _ => False

theorem whole16s (cs : List Value) (own : Bool) (o : Nat) (sp : Option Nat) (len cap : Nat) (v : Int) (m : Nat) (K : Value → Heap → Prop) :
  funK Try.prog S0 (gcLK 1 (LK16 cs own o sp len cap (some (v, m)))) F16 body16 Try.f16 [.slice (some ⟨0,o,sp⟩) len cap] (hp [.cells cs 1 own]) K = (
FlatH (hp [Blk.cells cs 1 own]) ∧
  tmps 51
        [(0, Value.slice (some { block := 0, off := o, spot := sp }) len cap), (5, Value.int IntKind.u64 0),
          (6, Value.int IntKind.i64 0)] =
      tmps 51
        [(0, Value.slice (some { block := 0, off := o, spot := sp }) len cap), (5, Value.int IntKind.u64 0),
          (6, Value.int IntKind.i64 0)] ∧
    hp [Blk.cells cs 1 own] = hp [Blk.cells cs 1 own] ∧
      K (Value.tuple #[Value.int IntKind.u64 (v, m).fst, Value.int IntKind.i64 (↑(v, m).snd : Int), Value.bool true])
        (hp [Blk.cells cs 1 own])) := by kernel_rfl

theorem whole16n (cs : List Value) (own : Bool) (o : Nat) (sp : Option Nat) (len cap : Nat) (K : Value → Heap → Prop) :
  funK Try.prog S0 (gcLK 1 (LK16 cs own o sp len cap none)) F16 body16 Try.f16 [.slice (some ⟨0,o,sp⟩) len cap] (hp [.cells cs 1 own]) K = (
FlatH (hp [Blk.cells cs 1 own]) ∧
  tmps 51
        [(0, Value.slice (some { block := 0, off := o, spot := sp }) len cap), (5, Value.int IntKind.u64 0),
          (6, Value.int IntKind.i64 0)] =
      tmps 51
        [(0, Value.slice (some { block := 0, off := o, spot := sp }) len cap), (5, Value.int IntKind.u64 0),
          (6, Value.int IntKind.i64 0)] ∧
    hp [Blk.cells cs 1 own] = hp [Blk.cells cs 1 own] ∧
      K (Value.tuple #[Value.int IntKind.u64 0, Value.int IntKind.i64 0, Value.bool false]) (hp [Blk.cells cs 1 own]) ∧
        K (Value.tuple #[Value.int IntKind.u64 0, Value.int IntKind.i64 0, Value.bool false]) (hp [Blk.cells cs 1 own])) := by kernel_rfl

theorem whole16z (K : Value → Heap → Prop) :
  funK Try.prog S0 (gcLK 0 LK16z) F16 body16 Try.f16 [.slice none 0 0] (hp []) K = (
FlatH (hp []) ∧
  tmps 51 [(0, Value.slice none 0 0), (5, Value.int IntKind.u64 0), (6, Value.int IntKind.i64 0)] =
      tmps 51 [(0, Value.slice none 0 0), (5, Value.int IntKind.u64 0), (6, Value.int IntKind.i64 0)] ∧
    hp [] = hp [] ∧ K (Value.tuple #[Value.int IntKind.u64 0, Value.int IntKind.i64 0, Value.bool false]) (hp [])) := by kernel_rfl

theorem rget_says (hmix : Try.prog.follows .mixedOrders = true) (l : List Int) (cs : List Value) (own : Bool) (o : Nat) (sp : Option Nat) (cap : Nat) (hB : BSl cs o l) :
    FunSays Try.prog 16 [.slice (some ⟨0,o,sp⟩) l.length cap] (hp [.cells cs 1 own]) fun v h' => v = getV (dec l) ∧ h' = hp [.cells cs 1 own] := by
  have hF : FlatH (hp [.cells cs 1 own]) := FlatH.hp ⟨hB.flat, trivial⟩
  have hL : Loops Try.prog body16 1 (LK16 cs own o sp l.length cap (dec l)) := fun p t h K hk => by
    unfold LK16 at hk
    split at hk
    · obtain ⟨rfl, rfl, hk⟩ := hk
      show LSays Try.prog _ (sub body16 [0,0,1,0,1,1]) _ _ _
      refine rget_loop hmix l cs own o sp cap hB K l 0 0 rfl (by omega) (by omega) (by omega) (by simp) ?_
      unfold dec at hk
      cases hd : decL 0 l with
      | none => rw [hd] at hk; exact hk
      | some r =>
        rw [hd] at hk
        simpa using hk
    · exact hk.elim
  refine (sure0 hmix).fun F16 body16 Try.func16 rfl hL.gc ?_
  cases hd : dec l with
  | none => rw [whole16n]; and_intros <;> first | exact hF | rfl
  | some r =>
    obtain ⟨v, m⟩ := r
    rw [whole16s]; and_intros <;> first | exact hF | rfl
theorem rget_nil (hmix : Try.prog.follows .mixedOrders = true) : FunSays Try.prog 16 [.slice none 0 0] (hp []) fun v h' => v = getV none ∧ h' = hp [] := by
  have hL : Loops Try.prog body16 0 LK16z := fun p t h K hk => by
    unfold LK16z at hk
    split at hk
    · obtain ⟨rfl, rfl, hk⟩ := hk
      show LSays Try.prog _ (sub body16 [0,0,1,0,1,1]) _ _ _
      refine (sure0 hmix).round F16 noLoops [0,5,6] ?_
      rw [round16z]
      exact ⟨FlatH.empty, hk⟩
    · exact hk.elim
  refine (sure0 hmix).fun F16 body16 Try.func16 rfl hL.gc ?_
  rw [whole16z]
  and_intros <;> first | exact FlatH.empty | rfl
theorem rgetC_holds (hmix : Try.prog.follows .mixedOrders = true) : getC.Holds Try.prog 16 := by
  intro args blks hf hp
  refine ⟨trivial, ?_⟩
  simp only [getC] at hp ⊢
  split at hp
  · obtain ⟨l, rfl, hc, hB⟩ := hp
    simp only [hB.bytesAt, List.append_nil]
    exact rget_says hmix l _ _ _ _ _ hB
  · exact rget_nil hmix
  · exact hp.elim
end Go.Proofs.Ytfbjgddeipligaa

namespace Go.Proofs.Ytfbjgddeipligaa
open Go.RowKit Go.Proofs.Ytfbjgddeipligaa.AM
set_option maxRecDepth 100000
set_option maxHeartbeats 4000000
noncomputable def S1 : Book := bookOf [(9, getC), (10, putC), (12, putC), (16, getC)]
theorem sure1 (hmix : Try.prog.follows .mixedOrders = true) : Sure Try.prog S1 := ⟨hmix, plain, bookOf_ok ⟨getC_holds hmix, putC_holds hmix, rputC_holds hmix, rgetC_holds hmix, trivial⟩⟩
/-- a text's bytes -/
def bytesS (s : ByteArray) : List Int := s.data.toList.map fun b => (b.toNat : Int)
/-- the text of these bytes -/
def ofB (l : List Int) : ByteArray := ⟨(l.map fun c => UInt8.ofNat c.toNat).toArray⟩
theorem bytesS_len (s : ByteArray) : (bytesS s).length = s.size := by simp [bytesS]
theorem bytesS_ok (s : ByteArray) : Bytes (bytesS s) := fun x hx => by
  obtain ⟨b, _, rfl⟩ := List.mem_map.1 hx
  have := b.toNat_lt
  omega
theorem cells_str (s : ByteArray) : (List.take s.size s.data.toList).map (fun b => Value.int IntKind.u8 (b.toNat : Int)) = (bytesS s).map u8v := by
  rw [List.take_of_length_le (by simp)]
  simp [bytesS, u8v, Function.comp_def]
theorem oneV_u8s (l : List Int) : (l.map u8v).all oneV = true := by
  rw [List.all_eq_true]
  intro x hx
  obtain ⟨c, _, rfl⟩ := List.mem_map.1 hx; rfl
theorem strOf_u8 : ∀ l : List Int, strOf (l.map u8v) = some (l.map fun c => UInt8.ofNat c.toNat) := by
  intro l
  induction l with
  | nil => rfl
  | cons c l ih => simp only [List.map_cons, u8v, strOf] at ih ⊢; rw [ih]; rfl
theorem BSl.take {cs : List Value} {o : Nat} {l : List Int} (h : BSl cs o l) (a n : Nat) (hn : a + n ≤ l.length) : (cs.drop (o + a)).take n = ((l.drop a).take n).map u8v ∧ o + a + n ≤ max (o + a) cs.length := by
  have hi : ∀ j, j < n → cs[o + a + j]? = some (u8v ((l.drop a).getD j 0)) := fun j hj => by
    have hlt : a + j < l.length := by omega
    have := h.cell (a + j) l[a + j] (List.getElem?_eq_getElem hlt)
    rw [getO_eq, ← Nat.add_assoc] at this
    rw [this, List.getD_eq_getElem?_getD, List.getElem?_drop, List.getElem?_eq_getElem hlt]; rfl
  refine ⟨List.ext_getElem? fun j => ?_, ?_⟩
  · rw [List.getElem?_map, List.getElem?_take, List.getElem?_take]
    by_cases hj : j < n
    · rw [if_pos hj, if_pos hj, List.getElem?_drop, hi j hj]
      have hlt : a + j < l.length := by omega
      rw [List.getD_eq_getElem?_getD, List.getElem?_drop, List.getElem?_eq_getElem hlt]; rfl
    · rw [if_neg hj, if_neg hj]; rfl
  · rcases Nat.eq_zero_or_pos n with rfl | hp
    · omega
    · have := hi (n - 1) (by omega)
      have := (List.getElem?_eq_some_iff.1 this).1
      omega
noncomputable def body11 : Code := (Try.f11.body).getD .skip
def F11 : List Nat → Option (List Nat) := fun p => match p with
  | [1] => some [0]
  | [1, 1] => some [2]
  | _ => none
noncomputable def body13 : Code := (Try.f13.body).getD .skip
def F13 : List Nat → Option (List Nat) := fun p => match p with
  | [1] => some [0]
  | [1, 1] => some [2]
  | _ => none
noncomputable def body17 : Code := (Try.f17.body).getD .skip
def F17 : List Nat → Option (List Nat) := fun p => match p with
  | [1] => some [0, 1]
  | [1, 1] => some [0, 1, 7, 8, 9]
  | [1, 0, 1, 1] => some [0, 7, 8, 37]
  | [1, 0, 1, 0, 1, 1] => some [4, 5, 6]
  | [1, 1, 1] => some [0, 7, 8]
  | [1, 1, 1, 1] => some [0, 8, 10]
  | [1, 1, 1, 1, 1] => some [4, 5, 6]
  | _ => none
noncomputable def body18 : Code := (Try.f18.body).getD .skip
def F18 : List Nat → Option (List Nat) := fun p => match p with
  | [1] => some [0, 1]
  | [1, 1] => some [0, 1, 7, 8, 9]
  | [1, 0, 1, 1] => some [0, 7, 8, 36]
  | [1, 0, 1, 0, 1, 1] => some [4, 5, 6]
  | [1, 1, 1] => some [0, 7, 8]
  | [1, 1, 1, 1] => some [4, 5, 6]
  | _ => none

theorem w11 (s : ByteArray) (K : Value → Heap → Prop) :
  funK Try.prog S1 noLoop F11 body11 Try.f11 [.string s] (hp []) K = (
True ∧
  Need (leI (wr IntKind.u64 (↑s.size : Int)) 18446744073709551615) True ∧
    Need (leN s.size s.size)
      (Need
        (leN (0 + (enc (wr IntKind.u64 (↑s.size : Int))).length * 1)
          (List.map u8v (enc (wr IntKind.u64 (↑s.size : Int)))).length)
        (Alt
          (leN ((enc (wr IntKind.u64 (↑s.size : Int))).length + s.size) (enc (wr IntKind.u64 (↑s.size : Int))).length)
          (Alt (eqN s.size 0)
            (K
              (Value.slice (some { block := 0, off := 0 }) (enc (wr IntKind.u64 (↑s.size : Int))).length
                (enc (wr IntKind.u64 (↑s.size : Int))).length)
              (hp [Blk.cells (List.map u8v (enc (wr IntKind.u64 (↑s.size : Int)))) 1 true]))
            (Need
              (leN
                (0 + (enc (wr IntKind.u64 (↑s.size : Int))).length * 1 +
                  (List.map (fun b => Value.int IntKind.u8 (↑b.toNat : Int)) (List.take s.size s.data.toList)).length)
                (List.map u8v (enc (wr IntKind.u64 (↑s.size : Int)))).length)
              (Need
                ((List.map (fun b => Value.int IntKind.u8 (↑b.toNat : Int)) (List.take s.size s.data.toList)).all oneV)
                (K
                  (Value.slice (some { block := 0, off := 0 }) ((enc (wr IntKind.u64 (↑s.size : Int))).length + s.size)
                    (enc (wr IntKind.u64 (↑s.size : Int))).length)
                  (hp
                    [Blk.cells
                        (setAll (List.map u8v (enc (wr IntKind.u64 (↑s.size : Int))))
                          (0 + (enc (wr IntKind.u64 (↑s.size : Int))).length * 1)
                          (List.map (fun b => Value.int IntKind.u8 (↑b.toNat : Int)) (List.take s.size s.data.toList)))
                        1 true])))))
          (Need (leN (((enc (wr IntKind.u64 (↑s.size : Int))).length + s.size) * 1) 1099511627776)
            (Need (leN ((enc (wr IntKind.u64 (↑s.size : Int))).length + s.size) 1099511627776)
              (Need
                ((List.map (fun b => Value.int IntKind.u8 (↑b.toNat : Int)) (List.take s.size s.data.toList)).all oneV)
                (K
                  (Value.slice (some { block := 0, off := 0 }) ((enc (wr IntKind.u64 (↑s.size : Int))).length + s.size)
                    ((enc (wr IntKind.u64 (↑s.size : Int))).length + s.size))
                  (hp
                    [Blk.cells
                        (List.take ((enc (wr IntKind.u64 (↑s.size : Int))).length * 1)
                            (List.drop 0 (List.map u8v (enc (wr IntKind.u64 (↑s.size : Int))))) ++
                          List.map (fun b => Value.int IntKind.u8 (↑b.toNat : Int)) (List.take s.size s.data.toList))
                        1 true])))))))) := by kernel_rfl

theorem w13 (s : ByteArray) (K : Value → Heap → Prop) :
  funK Try.prog S1 noLoop F13 body13 Try.f13 [.string s] (hp []) K = (
True ∧
  Need (leI (wr IntKind.u64 (↑s.size : Int)) 18446744073709551615) True ∧
    Need (leN s.size s.size)
      (Need
        (leN (0 + (enc (wr IntKind.u64 (↑s.size : Int))).length * 1)
          (List.map u8v (enc (wr IntKind.u64 (↑s.size : Int)))).length)
        (Alt
          (leN ((enc (wr IntKind.u64 (↑s.size : Int))).length + s.size) (enc (wr IntKind.u64 (↑s.size : Int))).length)
          (Alt (eqN s.size 0)
            (K
              (Value.slice (some { block := 0, off := 0 }) (enc (wr IntKind.u64 (↑s.size : Int))).length
                (enc (wr IntKind.u64 (↑s.size : Int))).length)
              (hp [Blk.cells (List.map u8v (enc (wr IntKind.u64 (↑s.size : Int)))) 1 true]))
            (Need
              (leN
                (0 + (enc (wr IntKind.u64 (↑s.size : Int))).length * 1 +
                  (List.map (fun b => Value.int IntKind.u8 (↑b.toNat : Int)) (List.take s.size s.data.toList)).length)
                (List.map u8v (enc (wr IntKind.u64 (↑s.size : Int)))).length)
              (Need
                ((List.map (fun b => Value.int IntKind.u8 (↑b.toNat : Int)) (List.take s.size s.data.toList)).all oneV)
                (K
                  (Value.slice (some { block := 0, off := 0 }) ((enc (wr IntKind.u64 (↑s.size : Int))).length + s.size)
                    (enc (wr IntKind.u64 (↑s.size : Int))).length)
                  (hp
                    [Blk.cells
                        (setAll (List.map u8v (enc (wr IntKind.u64 (↑s.size : Int))))
                          (0 + (enc (wr IntKind.u64 (↑s.size : Int))).length * 1)
                          (List.map (fun b => Value.int IntKind.u8 (↑b.toNat : Int)) (List.take s.size s.data.toList)))
                        1 true])))))
          (Need (leN (((enc (wr IntKind.u64 (↑s.size : Int))).length + s.size) * 1) 1099511627776)
            (Need (leN ((enc (wr IntKind.u64 (↑s.size : Int))).length + s.size) 1099511627776)
              (Need
                ((List.map (fun b => Value.int IntKind.u8 (↑b.toNat : Int)) (List.take s.size s.data.toList)).all oneV)
                (K
                  (Value.slice (some { block := 0, off := 0 }) ((enc (wr IntKind.u64 (↑s.size : Int))).length + s.size)
                    ((enc (wr IntKind.u64 (↑s.size : Int))).length + s.size))
                  (hp
                    [Blk.cells
                        (List.take ((enc (wr IntKind.u64 (↑s.size : Int))).length * 1)
                            (List.drop 0 (List.map u8v (enc (wr IntKind.u64 (↑s.size : Int))))) ++
                          List.map (fun b => Value.int IntKind.u8 (↑b.toNat : Int)) (List.take s.size s.data.toList))
                        1 true])))))))) := by kernel_rfl

theorem w17 (cs : List Value) (own : Bool) (o : Nat) (sp : Option Nat) (len cap : Nat) (m : Int) (K : Value → Heap → Prop) :
  funK Try.prog S1 noLoop F17 body17 Try.f17 [.slice (some ⟨0,o,sp⟩) len cap, .int .i64 m] (hp [.cells cs 1 own]) K = (
(FlatL cs ∧ True) ∧
  IsBs cs o len cap ∧
    Alt (!(dec (bytesAt cs o len)).isSome)
      (K (Value.tuple #[Value.string { data := #[] }, Value.int IntKind.i64 0, Value.bool false])
        (hp [Blk.cells cs 1 own]))
      (Alt (ltI m 0)
        (K (Value.tuple #[Value.string { data := #[] }, Value.int IntKind.i64 0, Value.bool false])
          (hp [Blk.cells cs 1 own]))
        (Alt (ltI (wr IntKind.u64 m) (gN (dec (bytesAt cs o len))))
          (K (Value.tuple #[Value.string { data := #[] }, Value.int IntKind.i64 0, Value.bool false])
            (hp [Blk.cells cs 1 own]))
          (Alt
            (ltI (wr IntKind.u64 (wr IntKind.i64 ((↑len : Int) - (↑(gK (dec (bytesAt cs o len))) : Int))))
              (gN (dec (bytesAt cs o len))))
            (K (Value.tuple #[Value.string { data := #[] }, Value.int IntKind.i64 0, Value.bool false])
              (hp [Blk.cells cs 1 own]))
            (Need
              (leI 0
                (wr IntKind.i64
                  ((↑(gK (dec (bytesAt cs o len))) : Int) + wr IntKind.i64 (gN (dec (bytesAt cs o len))))))
              (Need
                (leI
                  (wr IntKind.i64
                    ((↑(gK (dec (bytesAt cs o len))) : Int) + wr IntKind.i64 (gN (dec (bytesAt cs o len)))))
                  (↑cap : Int))
                (Need
                  (leI (↑(gK (dec (bytesAt cs o len))) : Int)
                    (↑(wr IntKind.i64
                            ((↑(gK (dec (bytesAt cs o len))) : Int) +
                              wr IntKind.i64 (gN (dec (bytesAt cs o len))))).toNat :
                      Int))
                  (Need
                    (leN
                      (o + (↑(gK (dec (bytesAt cs o len))) : Int).toNat * 1 +
                        ((wr IntKind.i64
                              ((↑(gK (dec (bytesAt cs o len))) : Int) +
                                wr IntKind.i64 (gN (dec (bytesAt cs o len))))).toNat -
                          (↑(gK (dec (bytesAt cs o len))) : Int).toNat))
                      cs.length)
                    (Need
                      (strOf
                          (List.take
                            ((wr IntKind.i64
                                  ((↑(gK (dec (bytesAt cs o len))) : Int) +
                                    wr IntKind.i64 (gN (dec (bytesAt cs o len))))).toNat -
                              (↑(gK (dec (bytesAt cs o len))) : Int).toNat)
                            (List.drop (o + (↑(gK (dec (bytesAt cs o len))) : Int).toNat * 1) cs))).isSome
                      (K
                        (Value.tuple
                          #[Value.string
                              {
                                data :=
                                  ((strOf
                                          (List.take
                                            ((wr IntKind.i64
                                                  ((↑(gK (dec (bytesAt cs o len))) : Int) +
                                                    wr IntKind.i64 (gN (dec (bytesAt cs o len))))).toNat -
                                              (↑(gK (dec (bytesAt cs o len))) : Int).toNat)
                                            (List.drop (o + (↑(gK (dec (bytesAt cs o len))) : Int).toNat * 1) cs))).getD
                                      []).toArray },
                            Value.int IntKind.i64
                              (wr IntKind.i64
                                ((↑(gK (dec (bytesAt cs o len))) : Int) +
                                  wr IntKind.i64 (gN (dec (bytesAt cs o len))))),
                            Value.bool true])
                        (hp [Blk.cells cs 1 own]))))))))))) := by kernel_rfl

theorem w18 (cs : List Value) (own : Bool) (o : Nat) (sp : Option Nat) (len cap : Nat) (m : Int) (K : Value → Heap → Prop) :
  funK Try.prog S1 noLoop F18 body18 Try.f18 [.slice (some ⟨0,o,sp⟩) len cap, .int .i64 m] (hp [.cells cs 1 own]) K = (
(FlatL cs ∧ True) ∧
  IsBs cs o len cap ∧
    Alt (!(dec (bytesAt cs o len)).isSome)
      (K (Value.tuple #[Value.string { data := #[] }, Value.int IntKind.i64 0, Value.bool false])
        (hp [Blk.cells cs 1 own]))
      (Alt
        (ltI (wr IntKind.u64 (wr IntKind.i64 ((↑len : Int) - (↑(gK (dec (bytesAt cs o len))) : Int))))
          (gN (dec (bytesAt cs o len))))
        (K (Value.tuple #[Value.string { data := #[] }, Value.int IntKind.i64 0, Value.bool false])
          (hp [Blk.cells cs 1 own]))
        (Alt (ltI m 0)
          (K (Value.tuple #[Value.string { data := #[] }, Value.int IntKind.i64 0, Value.bool false])
            (hp [Blk.cells cs 1 own]))
          (Alt (ltI (wr IntKind.u64 m) (gN (dec (bytesAt cs o len))))
            (K (Value.tuple #[Value.string { data := #[] }, Value.int IntKind.i64 0, Value.bool false])
              (hp [Blk.cells cs 1 own]))
            (Need
              (leI 0
                (wr IntKind.i64
                  ((↑(gK (dec (bytesAt cs o len))) : Int) + wr IntKind.i64 (gN (dec (bytesAt cs o len))))))
              (Need
                (leI
                  (wr IntKind.i64
                    ((↑(gK (dec (bytesAt cs o len))) : Int) + wr IntKind.i64 (gN (dec (bytesAt cs o len)))))
                  (↑cap : Int))
                (Need
                  (leI (↑(gK (dec (bytesAt cs o len))) : Int)
                    (↑(wr IntKind.i64
                            ((↑(gK (dec (bytesAt cs o len))) : Int) +
                              wr IntKind.i64 (gN (dec (bytesAt cs o len))))).toNat :
                      Int))
                  (Need
                    (leN
                      (o + (↑(gK (dec (bytesAt cs o len))) : Int).toNat * 1 +
                        ((wr IntKind.i64
                              ((↑(gK (dec (bytesAt cs o len))) : Int) +
                                wr IntKind.i64 (gN (dec (bytesAt cs o len))))).toNat -
                          (↑(gK (dec (bytesAt cs o len))) : Int).toNat))
                      cs.length)
                    (Need
                      (strOf
                          (List.take
                            ((wr IntKind.i64
                                  ((↑(gK (dec (bytesAt cs o len))) : Int) +
                                    wr IntKind.i64 (gN (dec (bytesAt cs o len))))).toNat -
                              (↑(gK (dec (bytesAt cs o len))) : Int).toNat)
                            (List.drop (o + (↑(gK (dec (bytesAt cs o len))) : Int).toNat * 1) cs))).isSome
                      (K
                        (Value.tuple
                          #[Value.string
                              {
                                data :=
                                  ((strOf
                                          (List.take
                                            ((wr IntKind.i64
                                                  ((↑(gK (dec (bytesAt cs o len))) : Int) +
                                                    wr IntKind.i64 (gN (dec (bytesAt cs o len))))).toNat -
                                              (↑(gK (dec (bytesAt cs o len))) : Int).toNat)
                                            (List.drop (o + (↑(gK (dec (bytesAt cs o len))) : Int).toNat * 1) cs))).getD
                                      []).toArray },
                            Value.int IntKind.i64
                              (wr IntKind.i64
                                ((↑(gK (dec (bytesAt cs o len))) : Int) +
                                  wr IntKind.i64 (gN (dec (bytesAt cs o len))))),
                            Value.bool true])
                        (hp [Blk.cells cs 1 own]))))))))))) := by kernel_rfl

theorem w17z (m : Int) (K : Value → Heap → Prop) :
  funK Try.prog S1 noLoop F17 body17 Try.f17 [.slice none 0 0, .int .i64 m] (hp []) K = (
True ∧ True ∧ K (Value.tuple #[Value.string { data := #[] }, Value.int IntKind.i64 0, Value.bool false]) (hp [])) := by kernel_rfl

theorem w18z (m : Int) (K : Value → Heap → Prop) :
  funK Try.prog S1 noLoop F18 body18 Try.f18 [.slice none 0 0, .int .i64 m] (hp []) K = (
True ∧ True ∧ K (Value.tuple #[Value.string { data := #[] }, Value.int IntKind.i64 0, Value.bool false]) (hp [])) := by kernel_rfl

/-- a text laid -/
def ptxt (s : ByteArray) : List Int := enc s.size ++ bytesS s
theorem ptxt_says {f : FuncId} {fn : Func} {F : List Nat → Option (List Nat)} {body : Code} (hmix : Try.prog.follows .mixedOrders = true) (s : ByteArray) (hs : s.size ≤ 1000000000000) (hf : Try.prog.funcs[f]? = some fn) (hb : fn.body = some body)
    (hw : ∀ K : Value → Heap → Prop, (∀ v h', v = .slice (some ⟨0,0,none⟩) (ptxt s).length (ptxt s).length ∧ h' = hp [.cells ((ptxt s).map u8v) 1 true] → K v h') → funK Try.prog S1 noLoop F body fn [.string s] (hp []) K) :
    FunSays Try.prog f [.string s] (hp []) fun v h' => v = .slice (some ⟨0,0,none⟩) (ptxt s).length (ptxt s).length ∧ h' = hp [.cells ((ptxt s).map u8v) 1 true] := by
  refine (sure1 hmix).fun F body hf hb noLoops (hw _ ?_)
  rintro v h' ⟨rfl, rfl⟩
  exact ⟨rfl, flatH_u8 _ _, rfl, rfl⟩
theorem wsize (s : ByteArray) (hs : s.size ≤ 1000000000000) : wr .u64 (s.size : Int) = s.size := by
  rw [wr_eq]; simp [IntKind.wrap, IntKind.bits, IntKind.signed]; omega
theorem ptxt_len (s : ByteArray) : (ptxt s).length = (enc s.size).length + s.size := by simp [ptxt, bytesS_len]
theorem puttext_says (hmix : Try.prog.follows .mixedOrders = true) (s : ByteArray) (hs : s.size ≤ 1000000000000) :
    FunSays Try.prog 11 [.string s] (hp []) fun v h' => v = .slice (some ⟨0,0,none⟩) (ptxt s).length (ptxt s).length ∧ h' = hp [.cells ((ptxt s).map u8v) 1 true] := by
  refine ptxt_says (F := F11) hmix s hs Try.func11 rfl fun K hK => ?_
  have hl := enc_len s.size
  change funK Try.prog S1 noLoop F11 body11 Try.f11 [.string s] (hp []) K
  rw [w11, wsize s hs, cells_str]
  simp only [Nat.zero_add, Nat.mul_one, List.length_map, Nat.le_refl, bytesS_len, oneV_u8s, List.drop_zero, Alt_iff, Need_iff, ltI_eq, leI_eq, eqI_eq, leN_eq, eqN_eq, decide_eq_true_eq, decide_eq_false_iff_not, decide_true, decide_false, true_and, and_true, Bool.true_eq_false, Bool.false_eq_true, false_implies, true_implies, implies_true, not_true_eq_false, not_false_eq_true, Bool.not_eq_true', Bool.not_eq_false']
  rw [List.take_of_length_le (by simp), ← List.map_append]
  refine ⟨by omega, fun h => ⟨fun h0 => hK _ _ ?_, fun h0 => ?_⟩, fun h => ⟨by omega, by omega, hK _ _ ?_⟩⟩
  · have hb : bytesS s = [] := List.eq_nil_of_length_eq_zero (by rw [bytesS_len]; exact h0)
    rw [ptxt, hb, List.append_nil]; exact ⟨rfl, rfl⟩
  · omega
  · rw [ptxt_len]; exact ⟨rfl, rfl⟩
theorem rputtext_says (hmix : Try.prog.follows .mixedOrders = true) (s : ByteArray) (hs : s.size ≤ 1000000000000) :
    FunSays Try.prog 13 [.string s] (hp []) fun v h' => v = .slice (some ⟨0,0,none⟩) (ptxt s).length (ptxt s).length ∧ h' = hp [.cells ((ptxt s).map u8v) 1 true] := by
  refine ptxt_says (F := F13) hmix s hs Try.func13 rfl fun K hK => ?_
  have hl := enc_len s.size
  change funK Try.prog S1 noLoop F13 body13 Try.f13 [.string s] (hp []) K
  rw [w13, wsize s hs, cells_str]
  simp only [Nat.zero_add, Nat.mul_one, List.length_map, Nat.le_refl, bytesS_len, oneV_u8s, List.drop_zero, Alt_iff, Need_iff, ltI_eq, leI_eq, eqI_eq, leN_eq, eqN_eq, decide_eq_true_eq, decide_eq_false_iff_not, decide_true, decide_false, true_and, and_true, Bool.true_eq_false, Bool.false_eq_true, false_implies, true_implies, implies_true, not_true_eq_false, not_false_eq_true, Bool.not_eq_true', Bool.not_eq_false']
  rw [List.take_of_length_le (by simp), ← List.map_append]
  refine ⟨by omega, fun h => ⟨fun h0 => hK _ _ ?_, fun h0 => ?_⟩, fun h => ⟨by omega, by omega, hK _ _ ?_⟩⟩
  · have hb : bytesS s = [] := List.eq_nil_of_length_eq_zero (by rw [bytesS_len]; exact h0)
    rw [ptxt, hb, List.append_nil]; exact ⟨rfl, rfl⟩
  · omega
  · rw [ptxt_len]; exact ⟨rfl, rfl⟩
noncomputable def ptxtC : Ctr where
  pre := fun args blks => match args, blks with
    | [.string s], [] => Need (leN s.size 1000000000000) True
    | _, _ => False
  val := fun args blks => match args, blks with
    | [.string s], [] => .slice (some ⟨0,0,none⟩) (ptxt s).length (ptxt s).length
    | _, _ => .slice none 0 0
  new := fun args blks => match args, blks with
    | [.string s], [] => [.cells ((ptxt s).map u8v) 1 true]
    | _, _ => []
theorem ptxtC_of {f : FuncId} (hs : ∀ s : ByteArray, s.size ≤ 1000000000000 → FunSays Try.prog f [.string s] (hp []) fun v h' => v = .slice (some ⟨0,0,none⟩) (ptxt s).length (ptxt s).length ∧ h' = hp [.cells ((ptxt s).map u8v) 1 true]) : ptxtC.Holds Try.prog f := by
  intro args blks hf hp
  simp only [ptxtC] at hp ⊢
  split at hp
  · simp only [Alt_iff, Need_iff, ltI_eq, leI_eq, eqI_eq, leN_eq, eqN_eq, decide_eq_true_eq, decide_eq_false_iff_not, decide_true, decide_false, true_and, and_true, Bool.true_eq_false, Bool.false_eq_true, false_implies, true_implies, implies_true, not_true_eq_false, not_false_eq_true, Bool.not_eq_true', Bool.not_eq_false'] at hp
    exact ⟨⟨⟨flat_u8s _⟩, trivial⟩, hs _ hp⟩
  · exact hp.elim
/-- a text that bytes begin with -/
def getT (l : List Int) (m : Int) : Option (List Int × Nat) := match dec l with
  | none => none
  | some (n, k) => if m < 0 ∨ m < n ∨ (l.length : Int) - k < n then none else some ((l.drop k).take n.toNat, k + n.toNat)
def gS (r : Option (List Int × Nat)) : List Int := match r with | some r => r.1 | none => []
def gE (r : Option (List Int × Nat)) : Nat := match r with | some r => r.2 | none => 0
def getTV (r : Option (List Int × Nat)) : Value := .tuple #[.string (ofB (gS r)), .int .i64 (gE r : Int), .bool r.isSome]
theorem gettext_core (l : List Int) (cs : List Value) (o cap : Nat) (m : Int) (hc : l.length ≤ cap) (hm : m ≤ 9223372036854775807) (hB : BSl cs o l) (n : Int) (k : Nat) (hd : dec l = some (n, k)) :
    0 ≤ n ∧ 1 ≤ k ∧ k ≤ l.length ∧ wr .u64 (wr .i64 ((l.length : Int) - (k : Int))) = (l.length : Int) - k ∧ (0 ≤ m → wr .u64 m = m) ∧
    (¬ (l.length : Int) - k < n → wr .i64 ((k : Int) + wr .i64 n) = ((k + n.toNat : Nat) : Int) ∧ o + k + n.toNat ≤ cs.length ∧ strOf (((cs.drop (o + k)).take n.toNat)) = some (((l.drop k).take n.toNat).map fun c => UInt8.ofNat c.toNat)) := by
  obtain ⟨a, b, c, d, e, f, g⟩ := decL_facts l 0 n k hB.ok (by omega) hd
  have hs := hB.short
  refine ⟨a, c, d, ?_, fun h0 => ?_, fun hn => ?_⟩
  · simp only [wr_eq]; simp [IntKind.wrap, IntKind.bits, IntKind.signed]; omega
  · simp only [wr_eq]; simp [IntKind.wrap, IntKind.bits, IntKind.signed]; omega
  · obtain ⟨q1, q2⟩ := hB.take k n.toNat (by omega)
    obtain ⟨q3, q4⟩ := hB.take 0 l.length (by omega)
    refine ⟨?_, by omega, by rw [q1, strOf_u8]⟩
    simp only [wr_eq]; simp [IntKind.wrap, IntKind.bits, IntKind.signed]; omega
theorem gettext_says (hmix : Try.prog.follows .mixedOrders = true) (l : List Int) (cs : List Value) (own : Bool) (o : Nat) (sp : Option Nat) (cap : Nat) (m : Int) (hc : l.length ≤ cap) (hm : m ≤ 9223372036854775807) (hB : BSl cs o l) :
    FunSays Try.prog 17 [.slice (some ⟨0,o,sp⟩) l.length cap, .int .i64 m] (hp [.cells cs 1 own]) fun v h' => v = getTV (getT l m) ∧ h' = hp [.cells cs 1 own] := by
  have hF : FlatH (hp [.cells cs 1 own]) := FlatH.hp ⟨hB.flat, trivial⟩
  refine (sure1 hmix).fun F17 body17 Try.func17 rfl noLoops ?_
  rw [w17, hB.bytesAt]
  refine ⟨⟨hB.flat, trivial⟩, ⟨l, rfl, hc, hB⟩, ?_⟩
  unfold getT
  cases hd : dec l with
  | none => exact ⟨rfl, hF, rfl, rfl⟩
  | some r =>
    obtain ⟨n, k⟩ := r
    obtain ⟨a, b, c, d, e, f⟩ := gettext_core l cs o cap m hc hm hB n k hd
    simp only [gN, gK, Option.isSome_some, Bool.not_true, d, hF, Alt_iff, Need_iff, ltI_eq, leI_eq, eqI_eq, leN_eq, eqN_eq, decide_eq_true_eq, decide_eq_false_iff_not, decide_true, decide_false, true_and, and_true, Bool.true_eq_false, Bool.false_eq_true, false_implies, true_implies, implies_true, not_true_eq_false, not_false_eq_true, Bool.not_eq_true', Bool.not_eq_false']
    have no : (m < 0 ∨ m < n ∨ (l.length : Int) - k < n) → isJunk (Value.tuple #[Value.string { data := #[] }, Value.int IntKind.i64 0, Value.bool false]) = false ∧ Value.tuple #[Value.string { data := #[] }, Value.int IntKind.i64 0, Value.bool false] = getTV (if m < 0 ∨ m < n ∨ (l.length : Int) - k < n then none else some ((l.drop k).take n.toNat, k + n.toNat)) := fun h => by
      rw [if_pos h]; exact ⟨rfl, rfl⟩
    refine ⟨fun h1 => no (.inl h1), fun h1 => ?_⟩
    rw [e (by omega)]
    exact ⟨fun h2 => no (.inr (.inl h2)), fun h2 => ⟨fun h3 => no (.inr (.inr h3)), fun h3 => (by
      obtain ⟨f1, f2, f3⟩ := f h3
      rw [f1, Int.toNat_natCast, Int.toNat_natCast, Nat.mul_one, Nat.add_sub_cancel_left, f3, if_neg (by omega)]
      exact ⟨by omega, by omega, by omega, by omega, rfl, rfl, rfl⟩)⟩⟩
theorem rgettext_says (hmix : Try.prog.follows .mixedOrders = true) (l : List Int) (cs : List Value) (own : Bool) (o : Nat) (sp : Option Nat) (cap : Nat) (m : Int) (hc : l.length ≤ cap) (hm : m ≤ 9223372036854775807) (hB : BSl cs o l) :
    FunSays Try.prog 18 [.slice (some ⟨0,o,sp⟩) l.length cap, .int .i64 m] (hp [.cells cs 1 own]) fun v h' => v = getTV (getT l m) ∧ h' = hp [.cells cs 1 own] := by
  have hF : FlatH (hp [.cells cs 1 own]) := FlatH.hp ⟨hB.flat, trivial⟩
  refine (sure1 hmix).fun F18 body18 Try.func18 rfl noLoops ?_
  rw [w18, hB.bytesAt]
  refine ⟨⟨hB.flat, trivial⟩, ⟨l, rfl, hc, hB⟩, ?_⟩
  unfold getT
  cases hd : dec l with
  | none => exact ⟨rfl, hF, rfl, rfl⟩
  | some r =>
    obtain ⟨n, k⟩ := r
    obtain ⟨a, b, c, d, e, f⟩ := gettext_core l cs o cap m hc hm hB n k hd
    simp only [gN, gK, Option.isSome_some, Bool.not_true, d, hF, Alt_iff, Need_iff, ltI_eq, leI_eq, eqI_eq, leN_eq, eqN_eq, decide_eq_true_eq, decide_eq_false_iff_not, decide_true, decide_false, true_and, and_true, Bool.true_eq_false, Bool.false_eq_true, false_implies, true_implies, implies_true, not_true_eq_false, not_false_eq_true, Bool.not_eq_true', Bool.not_eq_false']
    have no : (m < 0 ∨ m < n ∨ (l.length : Int) - k < n) → isJunk (Value.tuple #[Value.string { data := #[] }, Value.int IntKind.i64 0, Value.bool false]) = false ∧ Value.tuple #[Value.string { data := #[] }, Value.int IntKind.i64 0, Value.bool false] = getTV (if m < 0 ∨ m < n ∨ (l.length : Int) - k < n then none else some ((l.drop k).take n.toNat, k + n.toNat)) := fun h => by
      rw [if_pos h]; exact ⟨rfl, rfl⟩
    refine ⟨fun h3 => no (.inr (.inr h3)), fun h3 => ⟨fun h1 => no (.inl h1), fun h1 => ?_⟩⟩
    rw [e (by omega)]
    exact ⟨fun h2 => no (.inr (.inl h2)), fun h2 => (by
      obtain ⟨f1, f2, f3⟩ := f h3
      rw [f1, Int.toNat_natCast, Int.toNat_natCast, Nat.mul_one, Nat.add_sub_cancel_left, f3, if_neg (by omega)]
      exact ⟨by omega, by omega, by omega, by omega, rfl, rfl, rfl⟩)⟩
theorem gettext_nil (hmix : Try.prog.follows .mixedOrders = true) (m : Int) : FunSays Try.prog 17 [.slice none 0 0, .int .i64 m] (hp []) fun v h' => v = getTV none ∧ h' = hp [] := by
  refine (sure1 hmix).fun F17 body17 Try.func17 rfl noLoops ?_
  rw [w17z]
  exact ⟨trivial, trivial, rfl, FlatH.empty, rfl, rfl⟩
theorem rgettext_nil (hmix : Try.prog.follows .mixedOrders = true) (m : Int) : FunSays Try.prog 18 [.slice none 0 0, .int .i64 m] (hp []) fun v h' => v = getTV none ∧ h' = hp [] := by
  refine (sure1 hmix).fun F18 body18 Try.func18 rfl noLoops ?_
  rw [w18z]
  exact ⟨trivial, trivial, rfl, FlatH.empty, rfl, rfl⟩
noncomputable def gettC : Ctr where
  pre := fun args blks => match args, blks with
    | [.slice (some ⟨0, o, _⟩) len cap, .int .i64 m], [.cells cs 1 _] => IsBs cs o len cap ∧ Need (leI m 9223372036854775807) True
    | [.slice none 0 0, .int .i64 m], [] => True
    | _, _ => False
  val := fun args blks => match args, blks with
    | [.slice (some ⟨0, o, _⟩) len cap, .int .i64 m], [.cells cs 1 _] => getTV (getT (bytesAt cs o len) m)
    | _, _ => getTV none
  new := fun _ _ => []
theorem gettC_of {f : FuncId} (h1 : ∀ (l : List Int) (cs : List Value) (own : Bool) (o : Nat) (sp : Option Nat) (cap : Nat) (m : Int), l.length ≤ cap → m ≤ 9223372036854775807 → BSl cs o l → FunSays Try.prog f [.slice (some ⟨0,o,sp⟩) l.length cap, .int .i64 m] (hp [.cells cs 1 own]) fun v h' => v = getTV (getT l m) ∧ h' = hp [.cells cs 1 own])
    (h2 : ∀ m : Int, FunSays Try.prog f [.slice none 0 0, .int .i64 m] (hp []) fun v h' => v = getTV none ∧ h' = hp []) : gettC.Holds Try.prog f := by
  intro args blks hf hp
  refine ⟨trivial, ?_⟩
  simp only [gettC] at hp ⊢
  split at hp
  · obtain ⟨⟨l, rfl, hc, hB⟩, hm⟩ := hp
    simp only [Alt_iff, Need_iff, ltI_eq, leI_eq, eqI_eq, leN_eq, eqN_eq, decide_eq_true_eq, decide_eq_false_iff_not, decide_true, decide_false, true_and, and_true, Bool.true_eq_false, Bool.false_eq_true, false_implies, true_implies, implies_true, not_true_eq_false, not_false_eq_true, Bool.not_eq_true', Bool.not_eq_false'] at hm
    simp only [hB.bytesAt, List.append_nil]
    exact h1 l _ _ _ _ _ _ hc hm hB
  · exact h2 _
  · exact hp.elim
theorem ptxtC_holds (hmix : Try.prog.follows .mixedOrders = true) : ptxtC.Holds Try.prog 11 := ptxtC_of (puttext_says hmix)
theorem rptxtC_holds (hmix : Try.prog.follows .mixedOrders = true) : ptxtC.Holds Try.prog 13 := ptxtC_of (rputtext_says hmix)
theorem gettC_holds (hmix : Try.prog.follows .mixedOrders = true) : gettC.Holds Try.prog 17 := gettC_of (gettext_says hmix) (gettext_nil hmix)
theorem rgettC_holds (hmix : Try.prog.follows .mixedOrders = true) : gettC.Holds Try.prog 18 := gettC_of (rgettext_says hmix) (rgettext_nil hmix)
end Go.Proofs.Ytfbjgddeipligaa

namespace Go.Proofs.Ytfbjgddeipligaa
open Go.RowKit Go.Proofs.Ytfbjgddeipligaa.AM
set_option maxRecDepth 100000
set_option maxHeartbeats 4000000
noncomputable def body14 : Code := (Try.f14.body).getD .skip
def F14 : List Nat → Option (List Nat) := fun p => match p with
  | [1] => some [0]
  | [1, 1] => some [0, 3]
  | [1, 0, 1, 1] => some [0, 3, 7, 8]
  | [1, 0, 0, 1, 0, 1, 1] => some [0, 3, 7, 8, 9]
  | [1, 0, 1, 0, 0, 1, 0, 1, 1] => some [3]
  | [1, 1, 0, 0, 1, 0, 1, 1] => some [0, 3, 7, 8]
  | [1, 0, 0, 1, 1, 0, 0, 1, 0, 1, 1] => some [0, 3, 4, 7, 8]
  | [1, 1, 1, 0, 0, 1, 0, 1, 1] => some [0, 3, 7, 8]
  | [1, 1, 1] => some [3]
  | [1, 1, 1, 1] => some [2]
  | _ => none
noncomputable def body15 : Code := (Try.f15.body).getD .skip
def F15 : List Nat → Option (List Nat) := fun p => match p with
  | [1] => some [0]
  | [1, 1] => some [0, 3]
  | [1, 0, 1, 1] => some [0, 3, 4]
  | [1, 0, 0, 0, 1, 0, 1, 1] => some [0, 3, 4, 7]
  | [1, 1, 0, 0, 0, 1, 0, 1, 1] => some [3]
  | [1, 0, 0, 1, 0, 1, 1] => some [0, 3, 4]
  | [1, 1, 0, 0, 1, 0, 1, 1] => some [0, 3, 4]
  | [1, 1, 1] => some [3]
  | [1, 1, 1, 1] => some [2]
  | _ => none
noncomputable def body19 : Code := (Try.f19.body).getD .skip
def F19 : List Nat → Option (List Nat) := fun p => match p with
  | [1] => some [0]
  | [1, 0, 1] => some [0, 9]
  | [1, 0, 1, 0, 1] => some [2, 3]
  | [1, 1] => some [0]
  | [1, 1, 1] => some [0, 4]
  | [1, 0, 1, 1, 1] => some [4, 11, 12, 13]
  | [1, 0, 0, 1, 0, 1, 1, 1] => some [4, 11, 12, 13, 14]
  | [1, 0, 1, 0, 0, 1, 0, 1, 1, 1] => some [4]
  | [1, 1, 0, 0, 1, 0, 1, 1, 1] => some [4, 11, 12, 13]
  | [1, 0, 0, 1, 1, 0, 0, 1, 0, 1, 1, 1] => some [4, 6, 11, 12, 13]
  | [1, 1, 1, 0, 0, 1, 0, 1, 1, 1] => some [4, 11, 12, 13]
  | [1, 1, 1, 1] => some [4]
  | [1, 1, 1, 1, 1] => some [2, 3]
  | _ => none
noncomputable def body20 : Code := (Try.f20.body).getD .skip
def F20 : List Nat → Option (List Nat) := fun p => match p with
  | [1] => some [0]
  | [1, 0, 1] => some [0, 8]
  | [1, 0, 1, 0, 1] => some [2, 3]
  | [1, 1] => some [0]
  | [1, 1, 1] => some [0, 4]
  | [1, 0, 1, 1, 1] => some [0, 4, 5]
  | [1, 0, 0, 0, 1, 0, 1, 1, 1] => some [0, 4, 5, 10]
  | [1, 1, 0, 0, 0, 1, 0, 1, 1, 1] => some [4]
  | [1, 0, 0, 1, 0, 1, 1, 1] => some [0, 4, 5]
  | [1, 1, 0, 0, 1, 0, 1, 1, 1] => some [0, 4, 5]
  | [1, 1, 1, 1] => some [4]
  | [1, 1, 1, 1, 1] => some [2, 3]
  | _ => none
noncomputable def T14 (w : Int) (i : Nat) : List Value := tmps 22 [(0, .int .u64 w), (3, .slice (some ⟨0,0,some 0⟩) 8 8), (7, .int .i64 8), (8, .int .i64 i)]
noncomputable def T15 (w : Int) (i : Nat) : List Value := tmps 21 [(0, .int .u64 w), (3, .slice (some ⟨0,0,some 0⟩) 8 8), (4, .int .i64 i)]

theorem r14 (cs : List Value) (w : Int) (i : Nat) (K : Post) :
  roundK Try.prog S0 noLoop F14 body14 0 [0,3,7,8] [0,0,1,0,1,1] (T14 w i) (hp [.cells cs 1 true]) K = (
Alt (ltI (↑i : Int) 8)
  (Need (leI 0 (wr IntKind.i64 (56 - wr IntKind.i64 (8 * (↑i : Int)))))
    (Need (ltI (↑i : Int) 8)
      (Need (leN (0 + (↑i : Int).toNat * 1 + 1) cs.length)
        (K AE.normal
          (tmps 22
            [(0, Value.int IntKind.u64 w), (3, Value.slice (some { block := 0, off := 0, spot := some 0 }) 8 8),
              (7, Value.int IntKind.i64 8), (8, Value.int IntKind.i64 (wr IntKind.i64 ((↑i : Int) + 1)))])
          (hp
            [Blk.cells
                (setAll cs (0 + (↑i : Int).toNat * 1)
                  [Value.int IntKind.u8
                      (wr IntKind.u8
                        (w.fdiv (2 ^ min (wr IntKind.i64 (56 - wr IntKind.i64 (8 * (↑i : Int)))).toNat 64)))])
                1 true])))))
  (K (AE.exit 0) (tmps 22 [(3, Value.slice (some { block := 0, off := 0, spot := some 0 }) 8 8)])
    (hp [Blk.cells cs 1 true]))) := by kernel_rfl

theorem r15 (cs : List Value) (w : Int) (i : Nat) (K : Post) :
  roundK Try.prog S0 noLoop F15 body15 0 [0,3,4] [0,0,1,0,1,1] (T15 w i) (hp [.cells cs 1 true]) K = (
Alt (ltI (↑i : Int) 8)
  (Need (leI 0 (wr IntKind.u64 (wr IntKind.i64 (56 - wr IntKind.i64 (8 * (↑i : Int))))))
    (Need (ltI (↑i : Int) 8)
      (Need (leN (0 + (↑i : Int).toNat * 1 + 1) cs.length)
        (K AE.normal
          (tmps 21
            [(0, Value.int IntKind.u64 w), (3, Value.slice (some { block := 0, off := 0, spot := some 0 }) 8 8),
              (4, Value.int IntKind.i64 (wr IntKind.i64 ((↑i : Int) + 1)))])
          (hp
            [Blk.cells
                (setAll cs (0 + (↑i : Int).toNat * 1)
                  [Value.int IntKind.u8
                      (wr IntKind.u8
                        (w.fdiv
                          (2 ^
                            min (wr IntKind.u64 (wr IntKind.i64 (56 - wr IntKind.i64 (8 * (↑i : Int))))).toNat 64)))])
                1 true])))))
  (K (AE.exit 0) (tmps 21 [(3, Value.slice (some { block := 0, off := 0, spot := some 0 }) 8 8)])
    (hp [Blk.cells cs 1 true]))) := by kernel_rfl

noncomputable def T19 (w : Int) (o : Nat) (sp : Option Nat) (cap i : Nat) : List Value := tmps 24 [(4, .int .u64 w), (11, .slice (some ⟨0,o,sp⟩) 8 cap), (12, .int .i64 8), (13, .int .i64 i)]
noncomputable def T20 (w : Int) (o : Nat) (sp : Option Nat) (len cap i : Nat) : List Value := tmps 22 [(0, .slice (some ⟨0,o,sp⟩) len cap), (4, .int .u64 w), (5, .int .i64 i)]

theorem r19 (cs : List Value) (own : Bool) (w : Int) (o : Nat) (sp : Option Nat) (cap i : Nat) (K : Post) :
  roundK Try.prog S0 noLoop F19 body19 1 [4,11,12,13] [0,0,1,0,1,1,1] (T19 w o sp cap i) (hp [.cells cs 1 own]) K = (
Alt (ltI (↑i : Int) 8)
  (Need (ltI (↑i : Int) 8)
    (Need (isInt IntKind.u8 ((getO cs (o + (↑i : Int).toNat * 1)).getD undef))
      (K AE.normal
        (tmps 24
          [(4,
              Value.int IntKind.u64
                (bitsW BinOp.or IntKind.u64 (wr IntKind.u64 (w * 256))
                  (wr IntKind.u64 (intV ((getO cs (o + (↑i : Int).toNat * 1)).getD undef))))),
            (11, Value.slice (some { block := 0, off := o, spot := sp }) 8 cap), (12, Value.int IntKind.i64 8),
            (13, Value.int IntKind.i64 (wr IntKind.i64 ((↑i : Int) + 1)))])
        (hp [Blk.cells cs 1 own]))))
  (K (AE.exit 0) (tmps 24 [(4, Value.int IntKind.u64 w)]) (hp [Blk.cells cs 1 own]))) := by kernel_rfl

theorem r20 (cs : List Value) (own : Bool) (w : Int) (o : Nat) (sp : Option Nat) (len cap i : Nat) (K : Post) :
  roundK Try.prog S0 noLoop F20 body20 1 [0,4,5] [0,0,1,0,1,1,1] (T20 w o sp len cap i) (hp [.cells cs 1 own]) K = (
Alt (ltI (↑i : Int) 8)
  (Need (ltI (↑i : Int) (↑len : Int))
    (Need (isInt IntKind.u8 ((getO cs (o + (↑i : Int).toNat * 1)).getD undef))
      (K AE.normal
        (tmps 22
          [(0, Value.slice (some { block := 0, off := o, spot := sp }) len cap),
            (4,
              Value.int IntKind.u64
                (bitsW BinOp.or IntKind.u64 (wr IntKind.u64 (w * 256))
                  (wr IntKind.u64 (intV ((getO cs (o + (↑i : Int).toNat * 1)).getD undef))))),
            (5, Value.int IntKind.i64 (wr IntKind.i64 ((↑i : Int) + 1)))])
        (hp [Blk.cells cs 1 own]))))
  (K (AE.exit 0) (tmps 22 [(4, Value.int IntKind.u64 w)]) (hp [Blk.cells cs 1 own]))) := by kernel_rfl

theorem setAll_mid {pre post : List Value} {z x : Value} {i : Nat} (h : pre.length = i) : setAll (pre ++ z :: post) i [x] = pre ++ x :: post := by
  subst h
  simp only [setAll, setL_eq]
  induction pre with
  | nil => rfl
  | cons a l ih => simp only [List.cons_append, List.length_cons, List.set_cons_succ, ih]
def wb (w : Int) (i : Nat) : Int := w / 2 ^ (56 - 8 * i) % 256
def wt (w : Int) : Nat → Nat → List Int
  | _, 0 => []
  | i, n + 1 => wb w i :: wt w (i + 1) n
/-- a word's bytes -/
def wordB (w : Int) : List Int := wt w 0 8
theorem p8 (i : Nat) (h : i < 8) : i = 0 ∨ i = 1 ∨ i = 2 ∨ i = 3 ∨ i = 4 ∨ i = 5 ∨ i = 6 ∨ i = 7 := by omega
theorem wbx (w : Int) (h0 : 0 ≤ w) (i n : Nat) (hn : n = 56 - 8 * i) : wr .u8 (w.fdiv (2 ^ n)) = wb w i := by
  unfold wb
  rw [Int.fdiv_eq_ediv_of_nonneg _ (Int.le_of_lt (Int.pow_pos (by decide))), wr_eq .u8, hn]
  simp [IntKind.wrap, IntKind.bits, IntKind.signed]
theorem sh14 : ∀ i : Fin 8, 0 ≤ wr .i64 (56 - wr .i64 (8 * ((i.val : Nat) : Int))) ∧ min (wr .i64 (56 - wr .i64 (8 * ((i.val : Nat) : Int)))).toNat 64 = 56 - 8 * i.val := by decide +kernel
theorem sh15 : ∀ i : Fin 8, 0 ≤ wr .u64 (wr .i64 (56 - wr .i64 (8 * ((i.val : Nat) : Int)))) ∧ min (wr .u64 (wr .i64 (56 - wr .i64 (8 * ((i.val : Nat) : Int))))).toNat 64 = 56 - 8 * i.val := by decide +kernel
theorem wb14 (w : Int) (h0 : 0 ≤ w) (i : Nat) (hi : i < 8) : 0 ≤ wr .i64 (56 - wr .i64 (8 * (i : Int))) ∧ wr .u8 (w.fdiv (2 ^ min (wr .i64 (56 - wr .i64 (8 * (i : Int)))).toNat 64)) = wb w i :=
  ⟨(sh14 ⟨i, hi⟩).1, wbx w h0 i _ (sh14 ⟨i, hi⟩).2⟩
theorem wb15 (w : Int) (h0 : 0 ≤ w) (i : Nat) (hi : i < 8) : 0 ≤ wr .u64 (wr .i64 (56 - wr .i64 (8 * (i : Int)))) ∧ wr .u8 (w.fdiv (2 ^ min (wr .u64 (wr .i64 (56 - wr .i64 (8 * (i : Int))))).toNat 64)) = wb w i :=
  ⟨(sh15 ⟨i, hi⟩).1, wbx w h0 i _ (sh15 ⟨i, hi⟩).2⟩
theorem putword_loop (hmix : Try.prog.follows .mixedOrders = true) (w : Int) (h0 : 0 ≤ w) (K : Post) : ∀ (n i : Nat) (pre post : List Value), i + n = 8 → pre.length = i → post.length = n → (∀ x ∈ pre, flat x = true) → (∀ x ∈ post, flat x = true) →
    K (.exit 0) (tmps 22 [(3, .slice (some ⟨0,0,some 0⟩) 8 8)]) (hp [.cells (pre ++ (wt w i n).map u8v) 1 true]) → LSays Try.prog 0 (sub body14 [0,0,1,0,1,1]) (T14 w i) (hp [.cells (pre ++ post) 1 true]) K := by
  intro n
  induction n with
  | zero =>
    intro i pre post hi hl hp hf1 hf2 hK
    obtain rfl := List.eq_nil_of_length_eq_zero hp
    refine (sure0 hmix).round F14 noLoops [0,3,7,8] ?_
    rw [r14]
    simp only [show ¬ (i : Int) < 8 by omega, Alt_iff, Need_iff, ltI_eq, leI_eq, eqI_eq, leN_eq, eqN_eq, decide_eq_true_eq, decide_eq_false_iff_not, decide_true, decide_false, true_and, and_true, Bool.true_eq_false, Bool.false_eq_true, false_implies, true_implies, implies_true, not_true_eq_false, not_false_eq_true, Bool.not_eq_true', Bool.not_eq_false']
    exact ⟨FlatH.hp ⟨⟨by simpa using hf1⟩, trivial⟩, hK⟩
  | succ n ih =>
    intro i pre post hi hl hp hf1 hf2 hK
    cases post with
    | nil => simp at hp
    | cons z post =>
      obtain ⟨e1, e2⟩ := wb14 w h0 i (by omega)
      have hw1 : wr .i64 ((i : Int) + 1) = ((i + 1 : Nat) : Int) := by
        rw [wr_eq]; simp [IntKind.wrap, IntKind.bits, IntKind.signed]; omega
      refine (sure0 hmix).round F14 noLoops [0,3,7,8] ?_
      rw [r14]
      simp only [show (i : Int) < 8 by omega, e1, e2, hw1, Nat.zero_add, Nat.mul_one, Int.toNat_natCast, List.length_append, List.length_cons, setAll_mid hl, Alt_iff, Need_iff, ltI_eq, leI_eq, eqI_eq, leN_eq, eqN_eq, decide_eq_true_eq, decide_eq_false_iff_not, decide_true, decide_false, true_and, and_true, Bool.true_eq_false, Bool.false_eq_true, false_implies, true_implies, implies_true, not_true_eq_false, not_false_eq_true, Bool.not_eq_true', Bool.not_eq_false']
      refine ⟨by omega, FlatH.hp ⟨⟨fun x hx => ?_⟩, trivial⟩, ?_⟩
      · rcases List.mem_append.1 hx with h | h
        · exact hf1 x h
        · rcases List.mem_cons.1 h with rfl | h
          · rfl
          · exact hf2 x (by simp [h])
      · have := ih (i + 1) (pre ++ [u8v (wb w i)]) post (by omega) (by simp [hl]) (by simpa using hp) (fun x hx => by
          rcases List.mem_append.1 hx with h | h
          · exact hf1 x h
          · simp at h; subst h; rfl) (fun x hx => hf2 x (by simp [hx])) (by simpa [wt] using hK)
        rw [List.append_assoc] at this
        exact this
theorem rputword_loop (hmix : Try.prog.follows .mixedOrders = true) (w : Int) (h0 : 0 ≤ w) (K : Post) : ∀ (n i : Nat) (pre post : List Value), i + n = 8 → pre.length = i → post.length = n → (∀ x ∈ pre, flat x = true) → (∀ x ∈ post, flat x = true) →
    K (.exit 0) (tmps 21 [(3, .slice (some ⟨0,0,some 0⟩) 8 8)]) (hp [.cells (pre ++ (wt w i n).map u8v) 1 true]) → LSays Try.prog 0 (sub body15 [0,0,1,0,1,1]) (T15 w i) (hp [.cells (pre ++ post) 1 true]) K := by
  intro n
  induction n with
  | zero =>
    intro i pre post hi hl hp hf1 hf2 hK
    obtain rfl := List.eq_nil_of_length_eq_zero hp
    refine (sure0 hmix).round F15 noLoops [0,3,4] ?_
    rw [r15]
    simp only [show ¬ (i : Int) < 8 by omega, Alt_iff, Need_iff, ltI_eq, leI_eq, eqI_eq, leN_eq, eqN_eq, decide_eq_true_eq, decide_eq_false_iff_not, decide_true, decide_false, true_and, and_true, Bool.true_eq_false, Bool.false_eq_true, false_implies, true_implies, implies_true, not_true_eq_false, not_false_eq_true, Bool.not_eq_true', Bool.not_eq_false']
    exact ⟨FlatH.hp ⟨⟨by simpa using hf1⟩, trivial⟩, hK⟩
  | succ n ih =>
    intro i pre post hi hl hp hf1 hf2 hK
    cases post with
    | nil => simp at hp
    | cons z post =>
      obtain ⟨e1, e2⟩ := wb15 w h0 i (by omega)
      have hw1 : wr .i64 ((i : Int) + 1) = ((i + 1 : Nat) : Int) := by
        rw [wr_eq]; simp [IntKind.wrap, IntKind.bits, IntKind.signed]; omega
      refine (sure0 hmix).round F15 noLoops [0,3,4] ?_
      rw [r15]
      simp only [show (i : Int) < 8 by omega, e1, e2, hw1, Nat.zero_add, Nat.mul_one, Int.toNat_natCast, List.length_append, List.length_cons, setAll_mid hl, Alt_iff, Need_iff, ltI_eq, leI_eq, eqI_eq, leN_eq, eqN_eq, decide_eq_true_eq, decide_eq_false_iff_not, decide_true, decide_false, true_and, and_true, Bool.true_eq_false, Bool.false_eq_true, false_implies, true_implies, implies_true, not_true_eq_false, not_false_eq_true, Bool.not_eq_true', Bool.not_eq_false']
      refine ⟨by omega, FlatH.hp ⟨⟨fun x hx => ?_⟩, trivial⟩, ?_⟩
      · rcases List.mem_append.1 hx with h | h
        · exact hf1 x h
        · rcases List.mem_cons.1 h with rfl | h
          · rfl
          · exact hf2 x (by simp [h])
      · have := ih (i + 1) (pre ++ [u8v (wb w i)]) post (by omega) (by simp [hl]) (by simpa using hp) (fun x hx => by
          rcases List.mem_append.1 hx with h | h
          · exact hf1 x h
          · simp at h; subst h; rfl) (fun x hx => hf2 x (by simp [hx])) (by simpa [wt] using hK)
        rw [List.append_assoc] at this
        exact this
/-- eight bytes as a word -/
def gw (l : List Int) : Int := (l.take 8).foldl (fun w c => w * 256 + c) 0
theorem step19 (w c : Int) (i : Nat) (hi : i < 8) (h0 : 0 ≤ w) (h1 : w < 256 ^ i) (hc : 0 ≤ c) (hc1 : c < 256) : bitsW .or .u64 (wr .u64 (w * 256)) (wr .u64 c) = w * 256 + c ∧ 0 ≤ w * 256 + c ∧ w * 256 + c < 256 ^ (i + 1) := by
  have hp : (256 : Int) ^ (i + 1) = 256 ^ i * 256 := Int.pow_succ _ _
  have h64 : (256 : Int) ^ (i + 1) ≤ 18446744073709551616 := by
    rcases p8 i hi with rfl | rfl | rfl | rfl | rfl | rfl | rfl | rfl <;> decide
  have e1 : wr .u64 (w * 256) = w * 256 := by rw [wr_eq, wraps_u64' _ (by omega) (by omega)]
  have e2 : wr .u64 c = c := by rw [wr_eq, wraps_u64' _ (by omega) (by omega)]
  refine ⟨?_, by omega, by omega⟩
  rw [e1, e2]
  have := or_u64_join 8 (w * 256) c (by omega) (by omega) (by omega) hc (by omega) (by omega)
  rw [← this]
  simp only [bitsW, wr_eq]; rfl
theorem getword_loop (hmix : Try.prog.follows .mixedOrders = true) (l : List Int) (cs : List Value) (own : Bool) (o : Nat) (sp : Option Nat) (cap : Nat) (hB : BSl cs o l) (h8 : 8 ≤ l.length) (K : Post) : ∀ (n i : Nat) (w : Int), i + n = 8 → 0 ≤ w → w < 256 ^ i →
    K (.exit 0) (tmps 24 [(4, .int .u64 (((l.drop i).take n).foldl (fun w c => w * 256 + c) w))]) (hp [.cells cs 1 own]) → LSays Try.prog 1 (sub body19 [0,0,1,0,1,1,1]) (T19 w o sp cap i) (hp [.cells cs 1 own]) K := by
  have hF : FlatH (hp [.cells cs 1 own]) := FlatH.hp ⟨hB.flat, trivial⟩
  intro n
  induction n with
  | zero =>
    intro i w hi h0 h1 hK
    refine (sure0 hmix).round F19 noLoops [4,11,12,13] ?_
    rw [r19]
    simp only [show ¬ (i : Int) < 8 by omega, hF, Alt_iff, Need_iff, ltI_eq, leI_eq, eqI_eq, leN_eq, eqN_eq, decide_eq_true_eq, decide_eq_false_iff_not, decide_true, decide_false, true_and, and_true, Bool.true_eq_false, Bool.false_eq_true, false_implies, true_implies, implies_true, not_true_eq_false, not_false_eq_true, Bool.not_eq_true', Bool.not_eq_false']
    simpa using hK
  | succ n ih =>
    intro i w hi h0 h1 hK
    have hlt : i < l.length := by omega
    have hgc : getO cs (o + (i : Int).toNat * 1) = some (.int .u8 l[i]) := by
      rw [Nat.mul_one, Int.toNat_natCast]; exact hB.cell i _ (List.getElem?_eq_getElem hlt)
    have hc := hB.ok l[i] (List.getElem_mem hlt)
    obtain ⟨e1, e2, e3⟩ := step19 w l[i] i (by omega) h0 h1 hc.1 hc.2
    have hw1 : wr .i64 ((i : Int) + 1) = ((i + 1 : Nat) : Int) := by
      rw [wr_eq]; simp [IntKind.wrap, IntKind.bits, IntKind.signed]; omega
    refine (sure0 hmix).round F19 noLoops [4,11,12,13] ?_
    rw [r19]
    simp only [show (i : Int) < 8 by omega, hF, hgc, Option.getD_some, isInt, intV, kindEq, e1, hw1, Alt_iff, Need_iff, ltI_eq, leI_eq, eqI_eq, leN_eq, eqN_eq, decide_eq_true_eq, decide_eq_false_iff_not, decide_true, decide_false, true_and, and_true, Bool.true_eq_false, Bool.false_eq_true, false_implies, true_implies, implies_true, not_true_eq_false, not_false_eq_true, Bool.not_eq_true', Bool.not_eq_false']
    refine ih (i + 1) _ (by omega) e2 e3 ?_
    rw [List.drop_eq_getElem_cons hlt, List.take_succ_cons] at hK
    exact hK
theorem rgetword_loop (hmix : Try.prog.follows .mixedOrders = true) (l : List Int) (cs : List Value) (own : Bool) (o : Nat) (sp : Option Nat) (cap : Nat) (hB : BSl cs o l) (h8 : 8 ≤ l.length) (K : Post) : ∀ (n i : Nat) (w : Int), i + n = 8 → 0 ≤ w → w < 256 ^ i →
    K (.exit 0) (tmps 22 [(4, .int .u64 (((l.drop i).take n).foldl (fun w c => w * 256 + c) w))]) (hp [.cells cs 1 own]) → LSays Try.prog 1 (sub body20 [0,0,1,0,1,1,1]) (T20 w o sp l.length cap i) (hp [.cells cs 1 own]) K := by
  have hF : FlatH (hp [.cells cs 1 own]) := FlatH.hp ⟨hB.flat, trivial⟩
  intro n
  induction n with
  | zero =>
    intro i w hi h0 h1 hK
    refine (sure0 hmix).round F20 noLoops [0,4,5] ?_
    rw [r20]
    simp only [show ¬ (i : Int) < 8 by omega, hF, Alt_iff, Need_iff, ltI_eq, leI_eq, eqI_eq, leN_eq, eqN_eq, decide_eq_true_eq, decide_eq_false_iff_not, decide_true, decide_false, true_and, and_true, Bool.true_eq_false, Bool.false_eq_true, false_implies, true_implies, implies_true, not_true_eq_false, not_false_eq_true, Bool.not_eq_true', Bool.not_eq_false']
    simpa using hK
  | succ n ih =>
    intro i w hi h0 h1 hK
    have hlt : i < l.length := by omega
    have hgc : getO cs (o + (i : Int).toNat * 1) = some (.int .u8 l[i]) := by
      rw [Nat.mul_one, Int.toNat_natCast]; exact hB.cell i _ (List.getElem?_eq_getElem hlt)
    have hc := hB.ok l[i] (List.getElem_mem hlt)
    obtain ⟨e1, e2, e3⟩ := step19 w l[i] i (by omega) h0 h1 hc.1 hc.2
    have hw1 : wr .i64 ((i : Int) + 1) = ((i + 1 : Nat) : Int) := by
      rw [wr_eq]; simp [IntKind.wrap, IntKind.bits, IntKind.signed]; omega
    refine (sure0 hmix).round F20 noLoops [0,4,5] ?_
    rw [r20]
    simp only [show (i : Int) < 8 by omega, show (i : Int) < (l.length : Int) by omega, hF, hgc, Option.getD_some, isInt, intV, kindEq, e1, hw1, Alt_iff, Need_iff, ltI_eq, leI_eq, eqI_eq, leN_eq, eqN_eq, decide_eq_true_eq, decide_eq_false_iff_not, decide_true, decide_false, true_and, and_true, Bool.true_eq_false, Bool.false_eq_true, false_implies, true_implies, implies_true, not_true_eq_false, not_false_eq_true, Bool.not_eq_true', Bool.not_eq_false']
    refine ih (i + 1) _ (by omega) e2 e3 ?_
    rw [List.drop_eq_getElem_cons hlt, List.take_succ_cons] at hK
    exact hK
noncomputable def zero8 : List Value := List.replicate 8 (.int .u8 0)
noncomputable def LK14 (w : Int) (cs : List Value) : LoopK := fun p t h K => match p with
  | [0, 1, 0, 1, 1] => t = T14 w 0 ∧ h = hp [.cells zero8 1 true] ∧ K (.exit 0) (tmps 22 [(3, .slice (some ⟨0,0,some 0⟩) 8 8)]) (hp [.cells cs 1 true])
  | _ => False
noncomputable def LK15 (w : Int) (cs : List Value) : LoopK := fun p t h K => match p with
  | [0, 1, 0, 1, 1] => t = T15 w 0 ∧ h = hp [.cells zero8 1 true] ∧ K (.exit 0) (tmps 21 [(3, .slice (some ⟨0,0,some 0⟩) 8 8)]) (hp [.cells cs 1 true])
  | _ => False
noncomputable def LK19 (cs : List Value) (own : Bool) (o : Nat) (sp : Option Nat) (len cap : Nat) (w : Int) : LoopK := fun p t h K => match p with
  | [0, 1, 0, 1, 1, 1] => 8 ≤ len ∧ t = T19 0 o sp cap 0 ∧ h = hp [.cells cs 1 own] ∧ K (.exit 0) (tmps 24 [(4, .int .u64 w)]) (hp [.cells cs 1 own])
  | _ => False
noncomputable def LK20 (cs : List Value) (own : Bool) (o : Nat) (sp : Option Nat) (len cap : Nat) (w : Int) : LoopK := fun p t h K => match p with
  | [0, 1, 0, 1, 1, 1] => 8 ≤ len ∧ t = T20 0 o sp len cap 0 ∧ h = hp [.cells cs 1 own] ∧ K (.exit 0) (tmps 22 [(4, .int .u64 w)]) (hp [.cells cs 1 own])
  | _ => False

theorem w14 (w : Int) (cs : List Value) (K : Value → Heap → Prop) :
  funK Try.prog S0 (gcLK 0 (LK14 w cs)) F14 body14 Try.f14 [.int .u64 w] (hp []) K = (
FlatH
    (hp
      [Blk.cells
          [Value.int IntKind.u8 0, Value.int IntKind.u8 0, Value.int IntKind.u8 0, Value.int IntKind.u8 0,
            Value.int IntKind.u8 0, Value.int IntKind.u8 0, Value.int IntKind.u8 0, Value.int IntKind.u8 0]
          1 true]) ∧
  tmps 22
        [(0, Value.int IntKind.u64 w), (3, Value.slice (some { block := 0, off := 0, spot := some 0 }) 8 8),
          (7, Value.int IntKind.i64 8), (8, Value.int IntKind.i64 0)] =
      tmps 22
        [(0, Value.int IntKind.u64 w), (3, Value.slice (some { block := 0, off := 0, spot := some 0 }) 8 8),
          (7, Value.int IntKind.i64 8), (8, Value.int IntKind.i64 0)] ∧
    hp
          [Blk.cells
              [Value.int IntKind.u8 0, Value.int IntKind.u8 0, Value.int IntKind.u8 0, Value.int IntKind.u8 0,
                Value.int IntKind.u8 0, Value.int IntKind.u8 0, Value.int IntKind.u8 0, Value.int IntKind.u8 0]
              1 true] =
        hp
          [Blk.cells
              [Value.int IntKind.u8 0, Value.int IntKind.u8 0, Value.int IntKind.u8 0, Value.int IntKind.u8 0,
                Value.int IntKind.u8 0, Value.int IntKind.u8 0, Value.int IntKind.u8 0, Value.int IntKind.u8 0]
              1 true] ∧
      K (Value.slice (some { block := 0, off := 0, spot := some 0 }) 8 8) (hp [Blk.cells cs 1 true])) := by kernel_rfl

theorem w15 (w : Int) (cs : List Value) (K : Value → Heap → Prop) :
  funK Try.prog S0 (gcLK 0 (LK15 w cs)) F15 body15 Try.f15 [.int .u64 w] (hp []) K = (
FlatH
    (hp
      [Blk.cells
          [Value.int IntKind.u8 0, Value.int IntKind.u8 0, Value.int IntKind.u8 0, Value.int IntKind.u8 0,
            Value.int IntKind.u8 0, Value.int IntKind.u8 0, Value.int IntKind.u8 0, Value.int IntKind.u8 0]
          1 true]) ∧
  tmps 21
        [(0, Value.int IntKind.u64 w), (3, Value.slice (some { block := 0, off := 0, spot := some 0 }) 8 8),
          (4, Value.int IntKind.i64 0)] =
      tmps 21
        [(0, Value.int IntKind.u64 w), (3, Value.slice (some { block := 0, off := 0, spot := some 0 }) 8 8),
          (4, Value.int IntKind.i64 0)] ∧
    hp
          [Blk.cells
              [Value.int IntKind.u8 0, Value.int IntKind.u8 0, Value.int IntKind.u8 0, Value.int IntKind.u8 0,
                Value.int IntKind.u8 0, Value.int IntKind.u8 0, Value.int IntKind.u8 0, Value.int IntKind.u8 0]
              1 true] =
        hp
          [Blk.cells
              [Value.int IntKind.u8 0, Value.int IntKind.u8 0, Value.int IntKind.u8 0, Value.int IntKind.u8 0,
                Value.int IntKind.u8 0, Value.int IntKind.u8 0, Value.int IntKind.u8 0, Value.int IntKind.u8 0]
              1 true] ∧
      K (Value.slice (some { block := 0, off := 0, spot := some 0 }) 8 8) (hp [Blk.cells cs 1 true])) := by kernel_rfl

theorem w19 (cs : List Value) (own : Bool) (o : Nat) (sp : Option Nat) (len cap : Nat) (w : Int) (K : Value → Heap → Prop) :
  funK Try.prog S0 (gcLK 1 (LK19 cs own o sp len cap w)) F19 body19 Try.f19 [.slice (some ⟨0,o,sp⟩) len cap] (hp [.cells cs 1 own]) K = (
Alt (ltI (↑len : Int) 8) (K (Value.tuple #[Value.int IntKind.u64 0, Value.bool false]) (hp [Blk.cells cs 1 own]))
  (Need (leI 8 (↑cap : Int))
    (FlatH (hp [Blk.cells cs 1 own]) ∧
      Nat.le 8 len ∧
        tmps 24
              [(4, Value.int IntKind.u64 0),
                (11, Value.slice (some { block := 0, off := o + 0, spot := sp }) 8 (cap - 0)),
                (12, Value.int IntKind.i64 8), (13, Value.int IntKind.i64 0)] =
            tmps 24
              [(4, Value.int IntKind.u64 0), (11, Value.slice (some { block := 0, off := o, spot := sp }) 8 cap),
                (12, Value.int IntKind.i64 8), (13, Value.int IntKind.i64 0)] ∧
          hp [Blk.cells cs 1 own] = hp [Blk.cells cs 1 own] ∧
            K (Value.tuple #[Value.int IntKind.u64 w, Value.bool true]) (hp [Blk.cells cs 1 own])))) := by kernel_rfl

theorem w20 (cs : List Value) (own : Bool) (o : Nat) (sp : Option Nat) (len cap : Nat) (w : Int) (K : Value → Heap → Prop) :
  funK Try.prog S0 (gcLK 1 (LK20 cs own o sp len cap w)) F20 body20 Try.f20 [.slice (some ⟨0,o,sp⟩) len cap] (hp [.cells cs 1 own]) K = (
Alt (ltI (↑len : Int) 8) (K (Value.tuple #[Value.int IntKind.u64 0, Value.bool false]) (hp [Blk.cells cs 1 own]))
  (FlatH (hp [Blk.cells cs 1 own]) ∧
    Nat.le 8 len ∧
      tmps 22
            [(0, Value.slice (some { block := 0, off := o, spot := sp }) len cap), (4, Value.int IntKind.u64 0),
              (5, Value.int IntKind.i64 0)] =
          tmps 22
            [(0, Value.slice (some { block := 0, off := o, spot := sp }) len cap), (4, Value.int IntKind.u64 0),
              (5, Value.int IntKind.i64 0)] ∧
        hp [Blk.cells cs 1 own] = hp [Blk.cells cs 1 own] ∧
          K (Value.tuple #[Value.int IntKind.u64 w, Value.bool true]) (hp [Blk.cells cs 1 own]))) := by kernel_rfl

theorem w19z (K : Value → Heap → Prop) :
  funK Try.prog S0 noLoop F19 body19 Try.f19 [.slice none 0 0] (hp []) K = (
K (Value.tuple #[Value.int IntKind.u64 0, Value.bool false]) (hp [])) := by kernel_rfl

theorem w20z (K : Value → Heap → Prop) :
  funK Try.prog S0 noLoop F20 body20 Try.f20 [.slice none 0 0] (hp []) K = (
K (Value.tuple #[Value.int IntKind.u64 0, Value.bool false]) (hp [])) := by kernel_rfl

theorem flat8 : FlatH (hp [.cells zero8 1 true]) := FlatH.hp ⟨⟨fun x hx => by rw [List.eq_of_mem_replicate hx]; rfl⟩, trivial⟩
theorem putword_says (hmix : Try.prog.follows .mixedOrders = true) (w : Int) (h0 : 0 ≤ w) :
    FunSays Try.prog 14 [.int .u64 w] (hp []) fun v h' => v = .slice (some ⟨0,0,some 0⟩) 8 8 ∧ h' = hp [.cells ((wordB w).map u8v) 1 true] := by
  have hL : Loops Try.prog body14 0 (LK14 w ((wordB w).map u8v)) := fun p t h K hk => by
    unfold LK14 at hk
    split at hk
    · obtain ⟨rfl, rfl, hk⟩ := hk
      show LSays Try.prog _ (sub body14 [0,0,1,0,1,1]) _ _ _
      exact putword_loop hmix w h0 K 8 0 [] zero8 rfl rfl rfl (fun x hx => by simp at hx) (fun x hx => by rw [List.eq_of_mem_replicate hx]; rfl) hk
    · exact hk.elim
  refine (sure0 hmix).fun F14 body14 Try.func14 rfl hL.gc ?_
  rw [w14]
  exact ⟨flat8, rfl, rfl, rfl, flatH_u8 _ _, rfl, rfl⟩
theorem rputword_says (hmix : Try.prog.follows .mixedOrders = true) (w : Int) (h0 : 0 ≤ w) :
    FunSays Try.prog 15 [.int .u64 w] (hp []) fun v h' => v = .slice (some ⟨0,0,some 0⟩) 8 8 ∧ h' = hp [.cells ((wordB w).map u8v) 1 true] := by
  have hL : Loops Try.prog body15 0 (LK15 w ((wordB w).map u8v)) := fun p t h K hk => by
    unfold LK15 at hk
    split at hk
    · obtain ⟨rfl, rfl, hk⟩ := hk
      show LSays Try.prog _ (sub body15 [0,0,1,0,1,1]) _ _ _
      exact rputword_loop hmix w h0 K 8 0 [] zero8 rfl rfl rfl (fun x hx => by simp at hx) (fun x hx => by rw [List.eq_of_mem_replicate hx]; rfl) hk
    · exact hk.elim
  refine (sure0 hmix).fun F15 body15 Try.func15 rfl hL.gc ?_
  rw [w15]
  exact ⟨flat8, rfl, rfl, rfl, flatH_u8 _ _, rfl, rfl⟩
def gwV (l : List Int) : Value := .tuple #[.int .u64 (if l.length < 8 then 0 else gw l), .bool (leN 8 l.length)]
theorem getword_says (hmix : Try.prog.follows .mixedOrders = true) (l : List Int) (cs : List Value) (own : Bool) (o : Nat) (sp : Option Nat) (cap : Nat) (hc : l.length ≤ cap) (hB : BSl cs o l) :
    FunSays Try.prog 19 [.slice (some ⟨0,o,sp⟩) l.length cap] (hp [.cells cs 1 own]) fun v h' => v = gwV l ∧ h' = hp [.cells cs 1 own] := by
  have hF : FlatH (hp [.cells cs 1 own]) := FlatH.hp ⟨hB.flat, trivial⟩
  have hL : Loops Try.prog body19 1 (LK19 cs own o sp l.length cap (gw l)) := fun p t h K hk => by
    unfold LK19 at hk
    split at hk
    · obtain ⟨h8, rfl, rfl, hk⟩ := hk
      show LSays Try.prog _ (sub body19 [0,0,1,0,1,1,1]) _ _ _
      exact getword_loop hmix l cs own o sp cap hB h8 K 8 0 0 rfl (by omega) (by decide) hk
    · exact hk.elim
  refine (sure0 hmix).fun F19 body19 Try.func19 rfl hL.gc ?_
  rw [w19]
  simp only [hF, Nat.add_zero, Nat.sub_zero, Alt_iff, Need_iff, ltI_eq, leI_eq, eqI_eq, leN_eq, eqN_eq, decide_eq_true_eq, decide_eq_false_iff_not, decide_true, decide_false, true_and, and_true, Bool.true_eq_false, Bool.false_eq_true, false_implies, true_implies, implies_true, not_true_eq_false, not_false_eq_true, Bool.not_eq_true', Bool.not_eq_false']
  refine ⟨fun h8 => ⟨rfl, by simp [gwV, leN_eq, show l.length < 8 by omega, show ¬ 8 ≤ l.length by omega]⟩, fun h8 => ?_⟩
  have e : gwV l = .tuple #[.int .u64 (gw l), .bool true] := by simp [gwV, leN_eq, show ¬ l.length < 8 by omega, show 8 ≤ l.length by omega]
  rw [e]
  and_intros <;> first | omega | rfl | exact (show 8 ≤ l.length by omega)
theorem rgetword_says (hmix : Try.prog.follows .mixedOrders = true) (l : List Int) (cs : List Value) (own : Bool) (o : Nat) (sp : Option Nat) (cap : Nat) (hc : l.length ≤ cap) (hB : BSl cs o l) :
    FunSays Try.prog 20 [.slice (some ⟨0,o,sp⟩) l.length cap] (hp [.cells cs 1 own]) fun v h' => v = gwV l ∧ h' = hp [.cells cs 1 own] := by
  have hF : FlatH (hp [.cells cs 1 own]) := FlatH.hp ⟨hB.flat, trivial⟩
  have hL : Loops Try.prog body20 1 (LK20 cs own o sp l.length cap (gw l)) := fun p t h K hk => by
    unfold LK20 at hk
    split at hk
    · obtain ⟨h8, rfl, rfl, hk⟩ := hk
      show LSays Try.prog _ (sub body20 [0,0,1,0,1,1,1]) _ _ _
      exact rgetword_loop hmix l cs own o sp cap hB h8 K 8 0 0 rfl (by omega) (by decide) hk
    · exact hk.elim
  refine (sure0 hmix).fun F20 body20 Try.func20 rfl hL.gc ?_
  rw [w20]
  simp only [hF, Nat.add_zero, Nat.sub_zero, Alt_iff, Need_iff, ltI_eq, leI_eq, eqI_eq, leN_eq, eqN_eq, decide_eq_true_eq, decide_eq_false_iff_not, decide_true, decide_false, true_and, and_true, Bool.true_eq_false, Bool.false_eq_true, false_implies, true_implies, implies_true, not_true_eq_false, not_false_eq_true, Bool.not_eq_true', Bool.not_eq_false']
  refine ⟨fun h8 => ⟨rfl, by simp [gwV, leN_eq, show l.length < 8 by omega, show ¬ 8 ≤ l.length by omega]⟩, fun h8 => ?_⟩
  have e : gwV l = .tuple #[.int .u64 (gw l), .bool true] := by simp [gwV, leN_eq, show ¬ l.length < 8 by omega, show 8 ≤ l.length by omega]
  rw [e]
  and_intros <;> first | omega | rfl | exact (show 8 ≤ l.length by omega)
theorem getword_nil (hmix : Try.prog.follows .mixedOrders = true) : FunSays Try.prog 19 [.slice none 0 0] (hp []) fun v h' => v = gwV [] ∧ h' = hp [] := by
  refine (sure0 hmix).fun F19 body19 Try.func19 rfl noLoops ?_
  rw [w19z]
  exact ⟨rfl, FlatH.empty, rfl, rfl⟩
theorem rgetword_nil (hmix : Try.prog.follows .mixedOrders = true) : FunSays Try.prog 20 [.slice none 0 0] (hp []) fun v h' => v = gwV [] ∧ h' = hp [] := by
  refine (sure0 hmix).fun F20 body20 Try.func20 rfl noLoops ?_
  rw [w20z]
  exact ⟨rfl, FlatH.empty, rfl, rfl⟩
noncomputable def pwC : Ctr where
  pre := fun args blks => match args, blks with
    | [.int .u64 n], [] => Need (leI 0 n) True
    | _, _ => False
  val := fun args blks => .slice (some ⟨0,0,some 0⟩) 8 8
  new := fun args blks => match args, blks with
    | [.int .u64 n], [] => [.cells ((wordB n).map u8v) 1 true]
    | _, _ => []
noncomputable def gwC : Ctr where
  pre := fun args blks => match args, blks with
    | [.slice (some ⟨0, o, _⟩) len cap], [.cells cs 1 _] => IsBs cs o len cap
    | [.slice none 0 0], [] => True
    | _, _ => False
  val := fun args blks => match args, blks with
    | [.slice (some ⟨0, o, _⟩) len _], [.cells cs 1 _] => gwV (bytesAt cs o len)
    | _, _ => gwV []
  new := fun _ _ => []
theorem pwC_of {f : FuncId} (hs : ∀ w : Int, 0 ≤ w → FunSays Try.prog f [.int .u64 w] (hp []) fun v h' => v = .slice (some ⟨0,0,some 0⟩) 8 8 ∧ h' = hp [.cells ((wordB w).map u8v) 1 true]) : pwC.Holds Try.prog f := by
  intro args blks hf hp
  simp only [pwC] at hp ⊢
  split at hp
  · simp only [Alt_iff, Need_iff, ltI_eq, leI_eq, eqI_eq, leN_eq, eqN_eq, decide_eq_true_eq, decide_eq_false_iff_not, decide_true, decide_false, true_and, and_true, Bool.true_eq_false, Bool.false_eq_true, false_implies, true_implies, implies_true, not_true_eq_false, not_false_eq_true, Bool.not_eq_true', Bool.not_eq_false'] at hp
    exact ⟨⟨⟨flat_u8s _⟩, trivial⟩, hs _ hp⟩
  · exact hp.elim
theorem gwC_of {f : FuncId} (h1 : ∀ (l : List Int) (cs : List Value) (own : Bool) (o : Nat) (sp : Option Nat) (cap : Nat), l.length ≤ cap → BSl cs o l → FunSays Try.prog f [.slice (some ⟨0,o,sp⟩) l.length cap] (hp [.cells cs 1 own]) fun v h' => v = gwV l ∧ h' = hp [.cells cs 1 own])
    (h2 : FunSays Try.prog f [.slice none 0 0] (hp []) fun v h' => v = gwV [] ∧ h' = hp []) : gwC.Holds Try.prog f := by
  intro args blks hf hp
  refine ⟨trivial, ?_⟩
  simp only [gwC] at hp ⊢
  split at hp
  · obtain ⟨l, rfl, hc, hB⟩ := hp
    simp only [hB.bytesAt, List.append_nil]
    exact h1 l _ _ _ _ _ hc hB
  · exact h2
  · exact hp.elim
theorem pwC_holds (hmix : Try.prog.follows .mixedOrders = true) : pwC.Holds Try.prog 14 := pwC_of (putword_says hmix)
theorem rpwC_holds (hmix : Try.prog.follows .mixedOrders = true) : pwC.Holds Try.prog 15 := pwC_of (rputword_says hmix)
theorem gwC_holds (hmix : Try.prog.follows .mixedOrders = true) : gwC.Holds Try.prog 19 := gwC_of (getword_says hmix) (getword_nil hmix)
theorem rgwC_holds (hmix : Try.prog.follows .mixedOrders = true) : gwC.Holds Try.prog 20 := gwC_of (rgetword_says hmix) (rgetword_nil hmix)
end Go.Proofs.Ytfbjgddeipligaa

namespace Go.Proofs.Ytfbjgddeipligaa
open Go.RowKit Go.Proofs.Ytfbjgddeipligaa.AM
set_option maxRecDepth 100000
set_option maxHeartbeats 4000000
/-- a law that says true of itself -/
noncomputable def trueC : Ctr where
  pre := fun args blks => match args, blks with
    | [], [] => True
    | _, _ => False
  val := fun _ _ => .bool true
  new := fun _ _ => []
noncomputable def S2 : Book := bookOf [(9, getC), (10, putC), (11, ptxtC), (12, putC), (13, ptxtC), (14, pwC), (15, pwC), (16, getC), (17, gettC), (18, gettC), (19, gwC), (20, gwC)]
noncomputable def S3 : Book := bookOf [(3, trueC), (9, getC), (10, putC), (11, ptxtC), (12, putC), (13, ptxtC), (14, pwC), (15, pwC), (16, getC), (17, gettC), (18, gettC), (19, gwC), (20, gwC)]
noncomputable def body3 : Code := (Try.f3.body).getD .skip
def F3 : List Nat → Option (List Nat) := fun p => match p with
  | [1] => some []
  | [1, 1] => some [1, 2, 3]
  | [1, 1, 1] => some [1, 2, 3, 6]
  | [1, 1, 1, 1] => some [0]
  | _ => none
noncomputable def body4 : Code := (Try.f4.body).getD .skip
def F4 : List Nat → Option (List Nat) := fun p => match p with
  | [1] => some [0]
  | [1, 0, 1] => some [0, 8]
  | [1, 0, 1, 0, 1] => some [2]
  | [1, 1] => some [0]
  | [1, 1, 1] => some [0, 3, 4, 5]
  | [1, 0, 1, 1, 1] => some [0, 3, 4, 17]
  | [1, 0, 1, 0, 1, 1, 1] => some [2]
  | [1, 1, 1, 1] => some [0, 3, 4]
  | [1, 1, 1, 1, 1] => some [2]
  | _ => none
noncomputable def body6 : Code := (Try.f6.body).getD .skip
def F6 : List Nat → Option (List Nat) := fun p => match p with
  | [1] => some [0, 1]
  | [1, 0, 1] => some [0, 1, 7]
  | [1, 0, 1, 0, 1] => some [4]
  | [1, 1] => some [0, 1]
  | [1, 1, 1] => some [4]
  | _ => none
noncomputable def body7 : Code := (Try.f7.body).getD .skip
def F7 : List Nat → Option (List Nat) := fun p => match p with
  | [1] => some [0, 1]
  | [1, 0, 1] => some [0, 1, 23]
  | [1, 0, 1, 0, 1] => some [4]
  | [1, 1] => some [0, 1]
  | [1, 1, 1] => some [0, 1, 5, 6, 7]
  | [1, 1, 1, 1] => some [0, 1, 5, 6, 7, 8, 9, 10]
  | [1, 1, 1, 1, 1] => some [0, 1, 5, 6, 7, 8, 9, 10, 11, 12, 13]
  | [1, 1, 1, 1, 1, 1] => some [0, 5, 6, 7, 8, 9, 10, 11, 12, 13, 14, 15, 16]
  | [1, 1, 1, 1, 1, 1, 1] => some [0, 5, 6, 7, 8, 9, 10, 11, 12, 13, 14, 15, 16, 17, 18]
  | [1, 1, 1, 1, 1, 1, 1, 1] => some [5, 6, 7, 8, 9, 10, 11, 12, 13, 14, 15, 16, 17, 18, 19, 20]
  | [1, 1, 1, 1, 1, 1, 1, 1, 1] => some [4]
  | _ => none

theorem w3 (K : Value → Heap → Prop) :
  funK Try.prog S2 noLoop F3 body3 Try.f3 [] (hp []) K = (
(FlatL [Value.int IntKind.u8 172, Value.int IntKind.u8 2, Value.int IntKind.u8 9] ∧ True) ∧
  IsBs [Value.int IntKind.u8 172, Value.int IntKind.u8 2, Value.int IntKind.u8 9] 0 3 3 ∧
    (FlatL [Value.int IntKind.u8 128, Value.int IntKind.u8 0] ∧ True) ∧
      IsBs [Value.int IntKind.u8 128, Value.int IntKind.u8 0] 0 2 2 ∧
        True ∧ True ∧ True ∧ True ∧ K (Value.bool true) (hp [])) := by kernel_rfl

theorem w6 (n : Int) (s : ByteArray) (K : Value → Heap → Prop) :
  funK Try.prog S3 noLoop F6 body6 Try.f6 [.int .u64 n, .string s] (hp []) K = (
Alt (ltI 400 (↑s.size : Int)) (True ∧ True ∧ K (Value.bool true) (hp []))
  (True ∧
    Need (leI 0 n) (Need (leI n 18446744073709551615) True) ∧
      Need (leN (0 + (enc n).length) (List.map u8v (enc n)).length)
        (Need (strOf (List.take (enc n).length (List.drop 0 (List.map u8v (enc n))))).isSome
          (True ∧
            Need (leI 0 n) (Need (leI n 18446744073709551615) True) ∧
              Need (leN (0 + (enc n).length) (List.map u8v (enc n)).length)
                (Need (strOf (List.take (enc n).length (List.drop 0 (List.map u8v (enc n))))).isSome
                  (Alt
                    (eqS
                      {
                        data :=
                          ((strOf (List.take (enc n).length (List.drop 0 (List.map u8v (enc n))))).getD []).toArray }
                      {
                        data :=
                          ((strOf (List.take (enc n).length (List.drop 0 (List.map u8v (enc n))))).getD []).toArray })
                    (True ∧
                      Need (leN s.size 1000000000000) True ∧
                        Need (leN (0 + (ptxt s).length) (List.map u8v (ptxt s)).length)
                          (Need (strOf (List.take (ptxt s).length (List.drop 0 (List.map u8v (ptxt s))))).isSome
                            (True ∧
                              Need (leN s.size 1000000000000) True ∧
                                Need (leN (0 + (ptxt s).length) (List.map u8v (ptxt s)).length)
                                  (Need (strOf (List.take (ptxt s).length (List.drop 0 (List.map u8v (ptxt s))))).isSome
                                    (Alt
                                      (eqS
                                        {
                                          data :=
                                            ((strOf
                                                    (List.take (ptxt s).length
                                                      (List.drop 0 (List.map u8v (ptxt s))))).getD
                                                []).toArray }
                                        {
                                          data :=
                                            ((strOf
                                                    (List.take (ptxt s).length
                                                      (List.drop 0 (List.map u8v (ptxt s))))).getD
                                                []).toArray })
                                      (True ∧
                                        Need (leI 0 n) True ∧
                                          True ∧
                                            Need (leI 0 n) True ∧
                                              Alt
                                                (eqS
                                                  {
                                                    data :=
                                                      ((strOf
                                                              [Value.int IntKind.u8 (wb n 0),
                                                                Value.int IntKind.u8 (wb n 1),
                                                                Value.int IntKind.u8 (wb n 2),
                                                                Value.int IntKind.u8 (wb n 3),
                                                                Value.int IntKind.u8 (wb n 4),
                                                                Value.int IntKind.u8 (wb n 5),
                                                                Value.int IntKind.u8 (wb n 6),
                                                                Value.int IntKind.u8 (wb n 7)]).getD
                                                          []).toArray }
                                                  {
                                                    data :=
                                                      ((strOf
                                                              [Value.int IntKind.u8 (wb n 0),
                                                                Value.int IntKind.u8 (wb n 1),
                                                                Value.int IntKind.u8 (wb n 2),
                                                                Value.int IntKind.u8 (wb n 3),
                                                                Value.int IntKind.u8 (wb n 4),
                                                                Value.int IntKind.u8 (wb n 5),
                                                                Value.int IntKind.u8 (wb n 6),
                                                                Value.int IntKind.u8 (wb n 7)]).getD
                                                          []).toArray })
                                                (True ∧
                                                  True ∧
                                                    Need (beqV 64 (Value.int IntKind.u64 n) (Value.int IntKind.u64 n))
                                                      (Need
                                                        (beqV 64
                                                          (Value.string
                                                            {
                                                              data :=
                                                                ((strOf
                                                                        [Value.int IntKind.u8 (wb n 0),
                                                                          Value.int IntKind.u8 (wb n 1),
                                                                          Value.int IntKind.u8 (wb n 2),
                                                                          Value.int IntKind.u8 (wb n 3),
                                                                          Value.int IntKind.u8 (wb n 4),
                                                                          Value.int IntKind.u8 (wb n 5),
                                                                          Value.int IntKind.u8 (wb n 6),
                                                                          Value.int IntKind.u8 (wb n 7)]).getD
                                                                    []).toArray })
                                                          (Value.string
                                                            {
                                                              data :=
                                                                ((strOf
                                                                        [Value.int IntKind.u8 (wb n 0),
                                                                          Value.int IntKind.u8 (wb n 1),
                                                                          Value.int IntKind.u8 (wb n 2),
                                                                          Value.int IntKind.u8 (wb n 3),
                                                                          Value.int IntKind.u8 (wb n 4),
                                                                          Value.int IntKind.u8 (wb n 5),
                                                                          Value.int IntKind.u8 (wb n 6),
                                                                          Value.int IntKind.u8 (wb n 7)]).getD
                                                                    []).toArray }))
                                                        (Need (beqV 64 (Value.string s) (Value.string s))
                                                          (Need
                                                            (leN (0 + (ptxt s).length) (List.map u8v (ptxt s)).length)
                                                            (Need
                                                              (strOf
                                                                  (List.take (ptxt s).length
                                                                    (List.drop 0 (List.map u8v (ptxt s))))).isSome
                                                              (Need
                                                                (beqV 64
                                                                  (Value.string
                                                                    {
                                                                      data :=
                                                                        ((strOf
                                                                                (List.take (ptxt s).length
                                                                                  (List.drop 0
                                                                                    (List.map u8v (ptxt s))))).getD
                                                                            []).toArray })
                                                                  (Value.string
                                                                    {
                                                                      data :=
                                                                        ((strOf
                                                                                (List.take (ptxt s).length
                                                                                  (List.drop 0
                                                                                    (List.map u8v (ptxt s))))).getD
                                                                            []).toArray }))
                                                                (Need
                                                                  (beqV 64 (Value.int IntKind.u64 n)
                                                                    (Value.int IntKind.u64 n))
                                                                  (Need
                                                                    (leN (0 + (enc n).length)
                                                                      (List.map u8v (enc n)).length)
                                                                    (Need
                                                                      (strOf
                                                                          (List.take (enc n).length
                                                                            (List.drop 0
                                                                              (List.map u8v (enc n))))).isSome
                                                                      (Need
                                                                        (beqV 64
                                                                          (Value.string
                                                                            {
                                                                              data :=
                                                                                ((strOf
                                                                                        (List.take (enc n).length
                                                                                          (List.drop 0
                                                                                            (List.map u8v
                                                                                              (enc n))))).getD
                                                                                    []).toArray })
                                                                          (Value.string
                                                                            {
                                                                              data :=
                                                                                ((strOf
                                                                                        (List.take (enc n).length
                                                                                          (List.drop 0
                                                                                            (List.map u8v
                                                                                              (enc n))))).getD
                                                                                    []).toArray }))
                                                                        (K (Value.bool true) (hp []))))))))))))
                                                (Need (beqV 64 (Value.int IntKind.u64 n) (Value.int IntKind.u64 n))
                                                  (Need
                                                    (beqV 64
                                                      (Value.string
                                                        {
                                                          data :=
                                                            ((strOf
                                                                    [Value.int IntKind.u8 (wb n 0),
                                                                      Value.int IntKind.u8 (wb n 1),
                                                                      Value.int IntKind.u8 (wb n 2),
                                                                      Value.int IntKind.u8 (wb n 3),
                                                                      Value.int IntKind.u8 (wb n 4),
                                                                      Value.int IntKind.u8 (wb n 5),
                                                                      Value.int IntKind.u8 (wb n 6),
                                                                      Value.int IntKind.u8 (wb n 7)]).getD
                                                                []).toArray })
                                                      (Value.string
                                                        {
                                                          data :=
                                                            ((strOf
                                                                    [Value.int IntKind.u8 (wb n 0),
                                                                      Value.int IntKind.u8 (wb n 1),
                                                                      Value.int IntKind.u8 (wb n 2),
                                                                      Value.int IntKind.u8 (wb n 3),
                                                                      Value.int IntKind.u8 (wb n 4),
                                                                      Value.int IntKind.u8 (wb n 5),
                                                                      Value.int IntKind.u8 (wb n 6),
                                                                      Value.int IntKind.u8 (wb n 7)]).getD
                                                                []).toArray }))
                                                    (Need (beqV 64 (Value.string s) (Value.string s))
                                                      (Need (leN (0 + (ptxt s).length) (List.map u8v (ptxt s)).length)
                                                        (Need
                                                          (strOf
                                                              (List.take (ptxt s).length
                                                                (List.drop 0 (List.map u8v (ptxt s))))).isSome
                                                          (Need
                                                            (beqV 64
                                                              (Value.string
                                                                {
                                                                  data :=
                                                                    ((strOf
                                                                            (List.take (ptxt s).length
                                                                              (List.drop 0
                                                                                (List.map u8v (ptxt s))))).getD
                                                                        []).toArray })
                                                              (Value.string
                                                                {
                                                                  data :=
                                                                    ((strOf
                                                                            (List.take (ptxt s).length
                                                                              (List.drop 0
                                                                                (List.map u8v (ptxt s))))).getD
                                                                        []).toArray }))
                                                            (Need
                                                              (beqV 64 (Value.int IntKind.u64 n)
                                                                (Value.int IntKind.u64 n))
                                                              (Need
                                                                (leN (0 + (enc n).length) (List.map u8v (enc n)).length)
                                                                (Need
                                                                  (strOf
                                                                      (List.take (enc n).length
                                                                        (List.drop 0 (List.map u8v (enc n))))).isSome
                                                                  (Need
                                                                    (beqV 64
                                                                      (Value.string
                                                                        {
                                                                          data :=
                                                                            ((strOf
                                                                                    (List.take (enc n).length
                                                                                      (List.drop 0
                                                                                        (List.map u8v (enc n))))).getD
                                                                                []).toArray })
                                                                      (Value.string
                                                                        {
                                                                          data :=
                                                                            ((strOf
                                                                                    (List.take (enc n).length
                                                                                      (List.drop 0
                                                                                        (List.map u8v (enc n))))).getD
                                                                                []).toArray }))
                                                                    (K (Value.bool false) (hp [])))))))))))))
                                      (Need (beqV 64 (Value.string s) (Value.string s))
                                        (Need (leN (0 + (ptxt s).length) (List.map u8v (ptxt s)).length)
                                          (Need
                                            (strOf
                                                (List.take (ptxt s).length
                                                  (List.drop 0 (List.map u8v (ptxt s))))).isSome
                                            (Need
                                              (beqV 64
                                                (Value.string
                                                  {
                                                    data :=
                                                      ((strOf
                                                              (List.take (ptxt s).length
                                                                (List.drop 0 (List.map u8v (ptxt s))))).getD
                                                          []).toArray })
                                                (Value.string
                                                  {
                                                    data :=
                                                      ((strOf
                                                              (List.take (ptxt s).length
                                                                (List.drop 0 (List.map u8v (ptxt s))))).getD
                                                          []).toArray }))
                                              (Need (beqV 64 (Value.int IntKind.u64 n) (Value.int IntKind.u64 n))
                                                (Need (leN (0 + (enc n).length) (List.map u8v (enc n)).length)
                                                  (Need
                                                    (strOf
                                                        (List.take (enc n).length
                                                          (List.drop 0 (List.map u8v (enc n))))).isSome
                                                    (Need
                                                      (beqV 64
                                                        (Value.string
                                                          {
                                                            data :=
                                                              ((strOf
                                                                      (List.take (enc n).length
                                                                        (List.drop 0 (List.map u8v (enc n))))).getD
                                                                  []).toArray })
                                                        (Value.string
                                                          {
                                                            data :=
                                                              ((strOf
                                                                      (List.take (enc n).length
                                                                        (List.drop 0 (List.map u8v (enc n))))).getD
                                                                  []).toArray }))
                                                      (K (Value.bool false) (hp [])))))))))))))))
                    (Need (beqV 64 (Value.int IntKind.u64 n) (Value.int IntKind.u64 n))
                      (Need (leN (0 + (enc n).length) (List.map u8v (enc n)).length)
                        (Need (strOf (List.take (enc n).length (List.drop 0 (List.map u8v (enc n))))).isSome
                          (Need
                            (beqV 64
                              (Value.string
                                {
                                  data :=
                                    ((strOf (List.take (enc n).length (List.drop 0 (List.map u8v (enc n))))).getD
                                        []).toArray })
                              (Value.string
                                {
                                  data :=
                                    ((strOf (List.take (enc n).length (List.drop 0 (List.map u8v (enc n))))).getD
                                        []).toArray }))
                            (K (Value.bool false) (hp [])))))))))))) := by kernel_rfl

theorem w7 (cs : List Value) (o : Nat) (sp : Option Nat) (len cap : Nat) (m : Int) (K : Value → Heap → Prop) :
  funK Try.prog S3 noLoop F7 body7 Try.f7 [.slice (some ⟨0,o,sp⟩) len cap, .int .i64 m] (hp [.cells cs 1 false]) K = (
Alt (ltI 400 (↑len : Int)) (True ∧ True ∧ K (Value.bool true) (hp [Blk.cells cs 1 false]))
  ((FlatL cs ∧ True) ∧
    IsBs cs o len cap ∧
      (FlatL cs ∧ True) ∧
        IsBs cs o len cap ∧
          (FlatL cs ∧ True) ∧
            (IsBs cs o len cap ∧ Need (leI m 9223372036854775807) True) ∧
              (FlatL cs ∧ True) ∧
                (IsBs cs o len cap ∧ Need (leI m 9223372036854775807) True) ∧
                  (FlatL cs ∧ True) ∧
                    IsBs cs o len cap ∧
                      (FlatL cs ∧ True) ∧
                        IsBs cs o len cap ∧
                          Alt (eqI (gN (dec (bytesAt cs o len))) (gN (dec (bytesAt cs o len))))
                            (Alt (eqI (↑(gK (dec (bytesAt cs o len))) : Int) (↑(gK (dec (bytesAt cs o len))) : Int))
                              (Alt ((dec (bytesAt cs o len)).isSome == (dec (bytesAt cs o len)).isSome)
                                (Alt (eqS (ofB (gS (getT (bytesAt cs o len) m))) (ofB (gS (getT (bytesAt cs o len) m))))
                                  (Alt
                                    (eqI (↑(gE (getT (bytesAt cs o len) m)) : Int)
                                      (↑(gE (getT (bytesAt cs o len) m)) : Int))
                                    (Alt ((getT (bytesAt cs o len) m).isSome == (getT (bytesAt cs o len) m).isSome)
                                      (Alt
                                        (eqI (if (bytesAt cs o len).length < 8 then 0 else gw (bytesAt cs o len))
                                          (if (bytesAt cs o len).length < 8 then 0 else gw (bytesAt cs o len)))
                                        (Alt (leN 8 (bytesAt cs o len).length == leN 8 (bytesAt cs o len).length)
                                          (True ∧ True ∧ K (Value.bool true) (hp [Blk.cells cs 1 false]))
                                          (K (Value.bool false) (hp [Blk.cells cs 1 false])))
                                        (K (Value.bool false) (hp [Blk.cells cs 1 false])))
                                      (K (Value.bool false) (hp [Blk.cells cs 1 false])))
                                    (K (Value.bool false) (hp [Blk.cells cs 1 false])))
                                  (K (Value.bool false) (hp [Blk.cells cs 1 false])))
                                (K (Value.bool false) (hp [Blk.cells cs 1 false])))
                              (K (Value.bool false) (hp [Blk.cells cs 1 false])))
                            (K (Value.bool false) (hp [Blk.cells cs 1 false])))) := by kernel_rfl

theorem w7z (m : Int) (K : Value → Heap → Prop) :
  funK Try.prog S3 noLoop F7 body7 Try.f7 [.slice none 0 0, .int .i64 m] (hp []) K = (
True ∧
  True ∧ True ∧ True ∧ True ∧ True ∧ True ∧ True ∧ True ∧ True ∧ True ∧ True ∧ True ∧ True ∧ K (Value.bool true) (hp [])) := by kernel_rfl

theorem w4 (cs : List Value) (o : Nat) (sp : Option Nat) (len cap : Nat) (K : Value → Heap → Prop) :
  funK Try.prog S3 noLoop F4 body4 Try.f4 [.slice (some ⟨0,o,sp⟩) len cap] (hp [.cells cs 1 false]) K = (
Alt (ltI 400 (↑len : Int)) (True ∧ True ∧ K (Value.bool true) (hp [Blk.cells cs 1 false]))
  ((FlatL cs ∧ True) ∧
    IsBs cs o len cap ∧
      Alt (!(dec (bytesAt cs o len)).isSome)
        (Alt (eqI (gN (dec (bytesAt cs o len))) 0)
          (Alt (eqI (↑(gK (dec (bytesAt cs o len))) : Int) 0)
            (True ∧ True ∧ K (Value.bool true) (hp [Blk.cells cs 1 false]))
            (K (Value.bool false) (hp [Blk.cells cs 1 false])))
          (K (Value.bool false) (hp [Blk.cells cs 1 false])))
        (Alt (leI 1 (↑(gK (dec (bytesAt cs o len))) : Int))
          (Alt (leI (↑(gK (dec (bytesAt cs o len))) : Int) (↑len : Int))
            (Alt (leI (↑(gK (dec (bytesAt cs o len))) : Int) 10)
              (True ∧
                Need (leI 0 (gN (dec (bytesAt cs o len))))
                    (Need (leI (gN (dec (bytesAt cs o len))) 18446744073709551615) True) ∧
                  Need
                    (leN (0 + (enc (gN (dec (bytesAt cs o len)))).length)
                      (List.map u8v (enc (gN (dec (bytesAt cs o len))))).length)
                    (Need
                      (strOf
                          (List.take (enc (gN (dec (bytesAt cs o len)))).length
                            (List.drop 0 (List.map u8v (enc (gN (dec (bytesAt cs o len)))))))).isSome
                      (Need (leI (↑(gK (dec (bytesAt cs o len))) : Int) (↑cap : Int))
                        (Need (leN (o + 0 + ((↑(gK (dec (bytesAt cs o len))) : Int).toNat - 0)) cs.length)
                          (Need
                            (strOf
                                (List.take ((↑(gK (dec (bytesAt cs o len))) : Int).toNat - 0)
                                  (List.drop (o + 0) cs))).isSome
                            (Alt
                              (eqS
                                {
                                  data :=
                                    ((strOf
                                            (List.take (enc (gN (dec (bytesAt cs o len)))).length
                                              (List.drop 0 (List.map u8v (enc (gN (dec (bytesAt cs o len)))))))).getD
                                        []).toArray }
                                {
                                  data :=
                                    ((strOf
                                            (List.take ((↑(gK (dec (bytesAt cs o len))) : Int).toNat - 0)
                                              (List.drop (o + 0) cs))).getD
                                        []).toArray })
                              (True ∧
                                True ∧
                                  Need (leN (o + 0 + ((↑(gK (dec (bytesAt cs o len))) : Int).toNat - 0)) cs.length)
                                    (Need
                                      (strOf
                                          (List.take ((↑(gK (dec (bytesAt cs o len))) : Int).toNat - 0)
                                            (List.drop (o + 0) cs))).isSome
                                      (Need
                                        (beqV 64
                                          (Value.string
                                            {
                                              data :=
                                                ((strOf
                                                        (List.take ((↑(gK (dec (bytesAt cs o len))) : Int).toNat - 0)
                                                          (List.drop (o + 0) cs))).getD
                                                    []).toArray })
                                          (Value.string
                                            {
                                              data :=
                                                ((strOf
                                                        (List.take ((↑(gK (dec (bytesAt cs o len))) : Int).toNat - 0)
                                                          (List.drop (o + 0) cs))).getD
                                                    []).toArray }))
                                        (Need (leI (↑(gK (dec (bytesAt cs o len))) : Int) (↑cap : Int))
                                          (Need
                                            (beqV 64
                                              (Value.slice (some { block := 0, off := o + 0, spot := sp })
                                                ((↑(gK (dec (bytesAt cs o len))) : Int).toNat - 0) (cap - 0))
                                              (Value.slice (some { block := 0, off := o + 0, spot := sp })
                                                ((↑(gK (dec (bytesAt cs o len))) : Int).toNat - 0) (cap - 0)))
                                            (Need
                                              (beqV 64 (Value.int IntKind.i64 (↑(gK (dec (bytesAt cs o len))) : Int))
                                                (Value.int IntKind.i64 (↑(gK (dec (bytesAt cs o len))) : Int)))
                                              (Need
                                                (beqV 64
                                                  (Value.slice (some { block := 0, off := o, spot := sp }) len cap)
                                                  (Value.slice (some { block := 0, off := o, spot := sp }) len cap))
                                                (K (Value.bool true) (hp [Blk.cells cs 1 false])))))))))
                              (Need (leN (o + 0 + ((↑(gK (dec (bytesAt cs o len))) : Int).toNat - 0)) cs.length)
                                (Need
                                  (strOf
                                      (List.take ((↑(gK (dec (bytesAt cs o len))) : Int).toNat - 0)
                                        (List.drop (o + 0) cs))).isSome
                                  (Need
                                    (beqV 64
                                      (Value.string
                                        {
                                          data :=
                                            ((strOf
                                                    (List.take ((↑(gK (dec (bytesAt cs o len))) : Int).toNat - 0)
                                                      (List.drop (o + 0) cs))).getD
                                                []).toArray })
                                      (Value.string
                                        {
                                          data :=
                                            ((strOf
                                                    (List.take ((↑(gK (dec (bytesAt cs o len))) : Int).toNat - 0)
                                                      (List.drop (o + 0) cs))).getD
                                                []).toArray }))
                                    (Need (leI (↑(gK (dec (bytesAt cs o len))) : Int) (↑cap : Int))
                                      (Need
                                        (beqV 64
                                          (Value.slice (some { block := 0, off := o + 0, spot := sp })
                                            ((↑(gK (dec (bytesAt cs o len))) : Int).toNat - 0) (cap - 0))
                                          (Value.slice (some { block := 0, off := o + 0, spot := sp })
                                            ((↑(gK (dec (bytesAt cs o len))) : Int).toNat - 0) (cap - 0)))
                                        (Need
                                          (beqV 64 (Value.int IntKind.i64 (↑(gK (dec (bytesAt cs o len))) : Int))
                                            (Value.int IntKind.i64 (↑(gK (dec (bytesAt cs o len))) : Int)))
                                          (Need
                                            (beqV 64 (Value.slice (some { block := 0, off := o, spot := sp }) len cap)
                                              (Value.slice (some { block := 0, off := o, spot := sp }) len cap))
                                            (K (Value.bool false) (hp [Blk.cells cs 1 false])))))))))))))))
              (K (Value.bool false) (hp [Blk.cells cs 1 false])))
            (K (Value.bool false) (hp [Blk.cells cs 1 false])))
          (K (Value.bool false) (hp [Blk.cells cs 1 false]))))) := by kernel_rfl

theorem w4z (K : Value → Heap → Prop) :
  funK Try.prog S3 noLoop F4 body4 Try.f4 [.slice none 0 0] (hp []) K = (
True ∧ True ∧ True ∧ True ∧ K (Value.bool true) (hp [])) := by kernel_rfl

theorem BSl.lit (l : List Int) (h : Bytes l) (hs : l.length < 1000000000000) : BSl (l.map u8v) 0 l := ⟨h, fun j c hj => by rw [Nat.zero_add, getO_eq, List.getElem?_map, hj]; rfl, hs, ⟨flat_u8s l⟩⟩
theorem sure2 (hmix : Try.prog.follows .mixedOrders = true) : Sure Try.prog S2 := ⟨hmix, plain, bookOf_ok ⟨getC_holds hmix, putC_holds hmix, ptxtC_holds hmix, rputC_holds hmix, rptxtC_holds hmix, pwC_holds hmix, rpwC_holds hmix, rgetC_holds hmix, gettC_holds hmix, rgettC_holds hmix, gwC_holds hmix, rgwC_holds hmix, trivial⟩⟩
theorem runs_says (hmix : Try.prog.follows .mixedOrders = true) : FunSays Try.prog 3 [] (hp []) fun v h' => v = .bool true ∧ h' = hp [] := by
  refine (sure2 hmix).fun F3 body3 Try.func3 rfl noLoops ?_
  rw [w3]
  have b1 : BSl [Value.int IntKind.u8 172, Value.int IntKind.u8 2, Value.int IntKind.u8 9] 0 [172, 2, 9] := BSl.lit [172, 2, 9] (fun x hx => by simp at hx; omega) (by decide)
  have b2 : BSl [Value.int IntKind.u8 128, Value.int IntKind.u8 0] 0 [128, 0] := BSl.lit [128, 0] (fun x hx => by simp at hx; omega) (by decide)
  exact ⟨⟨b1.flat, trivial⟩, ⟨_, rfl, by decide, b1⟩, ⟨b2.flat, trivial⟩, ⟨_, rfl, by decide, b2⟩, trivial, trivial, trivial, trivial, rfl, FlatH.empty, rfl, rfl⟩
theorem trueC_of {f : FuncId} (hs : FunSays Try.prog f [] (hp []) fun v h' => v = .bool true ∧ h' = hp []) : trueC.Holds Try.prog f := by
  intro args blks hf hp
  refine ⟨trivial, ?_⟩
  simp only [trueC] at hp ⊢
  split at hp
  · exact hs
  · exact hp.elim
theorem sure3 (hmix : Try.prog.follows .mixedOrders = true) : Sure Try.prog S3 := ⟨hmix, plain, bookOf_ok ⟨trueC_of (runs_says hmix), getC_holds hmix, putC_holds hmix, ptxtC_holds hmix, rputC_holds hmix, rptxtC_holds hmix, pwC_holds hmix, rpwC_holds hmix, rgetC_holds hmix, gettC_holds hmix, rgettC_holds hmix, gwC_holds hmix, rgwC_holds hmix, trivial⟩⟩
theorem strOf_take (l : List Int) : strOf (List.take l.length (List.drop 0 (List.map u8v l))) = some (l.map fun c => UInt8.ofNat c.toNat) := by
  rw [List.drop_zero, List.take_of_length_le (by simp), strOf_u8]
theorem law6 (hmix : Try.prog.follows .mixedOrders = true) (n : Int) (h0 : 0 ≤ n) (h1 : n < 18446744073709551616) (s : ByteArray) : FunSays Try.prog 6 [.int .u64 n, .string s] (hp []) fun v _ => v = .bool true := by
  refine (sure3 hmix).fun F6 body6 Try.func6 rfl noLoops ?_
  rw [w6]
  have h8 : ∀ a b c d e f g h : Int, (strOf [Value.int IntKind.u8 a, Value.int IntKind.u8 b, Value.int IntKind.u8 c, Value.int IntKind.u8 d, Value.int IntKind.u8 e, Value.int IntKind.u8 f, Value.int IntKind.u8 g, Value.int IntKind.u8 h]).isSome = true := fun a b c d e f g h => rfl
  simp only [strOf_take, Option.isSome_some, Option.getD_some, eqS_rfl, beqV_int, beqV_str, h8, List.length_map, Nat.zero_add, Nat.le_refl, h0, show n ≤ 18446744073709551615 by omega, Alt_iff, Need_iff, ltI_eq, leI_eq, eqI_eq, leN_eq, eqN_eq, decide_eq_true_eq, decide_eq_false_iff_not, decide_true, decide_false, true_and, and_true, Bool.true_eq_false, Bool.false_eq_true, false_implies, true_implies, implies_true, not_true_eq_false, not_false_eq_true, Bool.not_eq_true', Bool.not_eq_false']
  exact ⟨fun _ => ⟨rfl, FlatH.empty⟩, fun h => ⟨by omega, by omega, rfl, FlatH.empty⟩⟩
theorem law7 (hmix : Try.prog.follows .mixedOrders = true) (cs : List Value) (o : Nat) (sp : Option Nat) (cap : Nat) (m : Int) (l : List Int) (hc : l.length ≤ cap) (hm : m ≤ 9223372036854775807) (hB : l.length ≤ 400 → BSl cs o l) (hF : FlatL cs) :
    FunSays Try.prog 7 [.slice (some ⟨0,o,sp⟩) l.length cap, .int .i64 m] (hp [.cells cs 1 false]) fun v _ => v = .bool true := by
  have hF : FlatH (hp [.cells cs 1 false]) := FlatH.hp ⟨hF, trivial⟩
  refine (sure3 hmix).fun F7 body7 Try.func7 rfl noLoops ?_
  rw [w7]
  refine Alt_iff.2 ⟨fun _ => ⟨trivial, trivial, rfl, hF, rfl⟩, fun h => ?_⟩
  have hB := hB (by simp only [Alt_iff, Need_iff, ltI_eq, leI_eq, eqI_eq, leN_eq, eqN_eq, decide_eq_true_eq, decide_eq_false_iff_not, decide_true, decide_false, true_and, and_true, Bool.true_eq_false, Bool.false_eq_true, false_implies, true_implies, implies_true, not_true_eq_false, not_false_eq_true, Bool.not_eq_true', Bool.not_eq_false'] at h; omega)
  have hI : IsBs cs o l.length cap := ⟨l, rfl, hc, hB⟩
  have hf := hB.flat
  simp only [hB.bytesAt, hI, hF, hf, hm, eqS_rfl, beq_self_eq_true, Alt_iff, Need_iff, ltI_eq, leI_eq, eqI_eq, leN_eq, eqN_eq, decide_eq_true_eq, decide_eq_false_iff_not, decide_true, decide_false, true_and, and_true, Bool.true_eq_false, Bool.false_eq_true, false_implies, true_implies, implies_true, not_true_eq_false, not_false_eq_true, Bool.not_eq_true', Bool.not_eq_false']
  rfl
theorem law7z (hmix : Try.prog.follows .mixedOrders = true) (m : Int) : FunSays Try.prog 7 [.slice none 0 0, .int .i64 m] (hp []) fun v _ => v = .bool true := by
  refine (sure3 hmix).fun F7 body7 Try.func7 rfl noLoops ?_
  rw [w7z]
  and_intros <;> first | trivial | rfl | exact FlatH.empty
theorem law4z (hmix : Try.prog.follows .mixedOrders = true) : FunSays Try.prog 4 [.slice none 0 0] (hp []) fun v _ => v = .bool true := by
  refine (sure3 hmix).fun F4 body4 Try.func4 rfl noLoops ?_
  rw [w4z]
  and_intros <;> first | trivial | rfl | exact FlatH.empty
theorem law4 (hmix : Try.prog.follows .mixedOrders = true) (cs : List Value) (o : Nat) (sp : Option Nat) (cap : Nat) (l : List Int) (hc : l.length ≤ cap) (hB : l.length ≤ 400 → BSl cs o l) (hF : FlatL cs) :
    FunSays Try.prog 4 [.slice (some ⟨0,o,sp⟩) l.length cap] (hp [.cells cs 1 false]) fun v _ => v = .bool true := by
  have hF : FlatH (hp [.cells cs 1 false]) := FlatH.hp ⟨hF, trivial⟩
  refine (sure3 hmix).fun F4 body4 Try.func4 rfl noLoops ?_
  rw [w4]
  refine Alt_iff.2 ⟨fun _ => ⟨trivial, trivial, rfl, hF, rfl⟩, fun h => ?_⟩
  have hB := hB (by simp only [Alt_iff, Need_iff, ltI_eq, leI_eq, eqI_eq, leN_eq, eqN_eq, decide_eq_true_eq, decide_eq_false_iff_not, decide_true, decide_false, true_and, and_true, Bool.true_eq_false, Bool.false_eq_true, false_implies, true_implies, implies_true, not_true_eq_false, not_false_eq_true, Bool.not_eq_true', Bool.not_eq_false'] at h; omega)
  have hI : IsBs cs o l.length cap := ⟨l, rfl, hc, hB⟩
  have hf := hB.flat
  simp only [hB.bytesAt]
  cases hd : dec l with
  | none =>
    simp only [gN, gK, Option.isSome_none, hI, hF, hf, Int.natCast_zero, Alt_iff, Need_iff, ltI_eq, leI_eq, eqI_eq, leN_eq, eqN_eq, decide_eq_true_eq, decide_eq_false_iff_not, decide_true, decide_false, true_and, and_true, Bool.true_eq_false, Bool.false_eq_true, false_implies, true_implies, implies_true, not_true_eq_false, not_false_eq_true, Bool.not_eq_true', Bool.not_eq_false']
    rfl
  | some r =>
    obtain ⟨n, k⟩ := r
    obtain ⟨a, b, c, d, e, f, g⟩ := decL_facts l 0 n k hB.ok (by omega) hd
    have g := g 9 (by omega)
    have hn : n < 18446744073709551616 := by simpa using b
    obtain ⟨q1, q2⟩ := hB.take 0 k (by omega)
    have hs : strOf (List.take (k - 0) (List.drop (o + 0) cs)) = some ((enc n).map fun c => UInt8.ofNat c.toNat) := by
      rw [Nat.sub_zero, q1, strOf_u8, List.drop_zero, ← g]; rfl
    simp only [gN, gK, Option.isSome_some, hI, hF, hf, strOf_take, Int.toNat_natCast, hs, Option.getD_some, eqS_rfl, beqV_int, beqV_str, beqV_sl, List.length_map, Nat.zero_add, Nat.le_refl, a, show n ≤ 18446744073709551615 by omega, Int.toNat_natCast, Alt_iff, Need_iff, ltI_eq, leI_eq, eqI_eq, leN_eq, eqN_eq, decide_eq_true_eq, decide_eq_false_iff_not, decide_true, decide_false, true_and, and_true, Bool.true_eq_false, Bool.false_eq_true, false_implies, true_implies, implies_true, not_true_eq_false, not_false_eq_true, Bool.not_eq_true', Bool.not_eq_false']
    refine ⟨fun _ => ⟨fun _ => ⟨fun _ => ?_, fun h => by omega⟩, fun h => by omega⟩, fun h => by omega⟩
    and_intros <;> first | omega | rfl
theorem slice_u8 (zs : List Int) (len : Nat) (hl : len ≤ zs.length) (hz : ∀ n ∈ zs, (Lit.int .u8 n).wf = true) :
    (zs.take len).length = len ∧ ((zs.take len).length ≤ 400 → BSl (zs.map (Value.int .u8)) 0 (zs.take len)) := by
  refine ⟨by rw [List.length_take]; omega, fun h => ⟨fun x hx => ?_, fun j c hj => ?_, by omega, ⟨fun x hx => ?_⟩⟩⟩
  · have := u8_of (hz x (List.mem_of_mem_take hx))
    omega
  · rw [Nat.zero_add, getO_eq, List.getElem?_map]
    rw [List.getElem?_take] at hj
    split at hj
    · rw [hj]; rfl
    · cases hj
  · obtain ⟨n, _, rfl⟩ := List.mem_map.1 hx; rfl
end Go.Proofs.Ytfbjgddeipligaa

namespace Go.Proofs.Ytfbjgddeipligaa
open Go.RowKit Go.Proofs.Ytfbjgddeipligaa.AM
set_option maxHeartbeats 4000000
theorem ptxt_bytes (s : ByteArray) (hs : s.size ≤ 1000000000000) : Bytes (ptxt s) := by
  intro x hx
  rcases List.mem_append.1 hx with h | h
  · exact enc_bytes s.size (by omega) (by omega) x h
  · exact bytesS_ok s x h
theorem getT_ptxt (s : ByteArray) (t : List Int) (hs : s.size ≤ 1000000000000) : getT (ptxt s ++ t) (s.size : Int) = some (bytesS s, (ptxt s).length) := by
  unfold getT ptxt
  rw [List.append_assoc, dec_enc _ _ (by omega) (by omega)]
  simp only [List.length_append, bytesS_len]
  rw [if_neg (by push_cast; omega)]
  simp [bytesS_len]
theorem getT_less (s : ByteArray) (t : List Int) (hs : s.size ≤ 1000000000000) : getT (ptxt s ++ t) ((s.size : Int) - 1) = none := by
  unfold getT ptxt
  rw [List.append_assoc, dec_enc _ _ (by omega) (by omega)]
  simp only
  rw [if_pos (by omega)]
theorem getT_cut (s : ByteArray) (j : Nat) (m : Int) (hs : s.size ≤ 1000000000000) (hj : j < (ptxt s).length) : getT ((ptxt s).take j) m = none := by
  unfold getT
  rw [ptxt_len] at hj
  by_cases h : j < (enc s.size).length
  · have : (ptxt s).take j = (enc s.size).take j := by rw [ptxt, List.take_append_of_le_length (by omega)]
    rw [this, dec_cut _ _ h]
  · have : (ptxt s).take j = enc s.size ++ (bytesS s).take (j - (enc s.size).length) := by
      rw [ptxt, List.take_append]
      rw [List.take_of_length_le (by omega)]
    rw [this, dec_enc _ _ (by omega) (by omega)]
    simp only [List.length_append, List.length_take, bytesS_len]
    rw [if_pos (by push_cast; omega)]
theorem ofB_bytesS (s : ByteArray) : ofB (bytesS s) = s := by
  obtain ⟨⟨l⟩⟩ := s
  simp only [ofB, bytesS, List.map_map]
  congr 2
  rw [show ((fun c : Int => UInt8.ofNat c.toNat) ∘ fun b : UInt8 => (b.toNat : Int)) = id from funext fun b => by simp]
  simp
theorem gw_word (n : Int) (t : List Int) (h0 : 0 ≤ n) (h1 : n < 18446744073709551616) : gw (wordB n ++ t) = n := by
  have e : (wordB n ++ t).take 8 = wordB n := by rw [List.take_append_of_le_length (by simp [wordB, wt])]; exact List.take_of_length_le (by simp [wordB, wt])
  unfold gw
  rw [e]
  simp only [wordB, wt, wb, List.foldl_cons, List.foldl_nil]
  simp
  omega
theorem wordB_bytes (n : Int) : Bytes (wordB n) := by
  intro x hx
  simp only [wordB, wt, wb, List.mem_cons, List.not_mem_nil, or_false] at hx
  rcases hx with rfl | rfl | rfl | rfl | rfl | rfl | rfl | rfl <;> omega
theorem bytesAt_lit {l : List Int} {m : Nat} (h : l.length = m) : bytesAt (l.map u8v) 0 m = l := by
  subst h
  simp [bytesAt, u8v, intV, Function.comp_def]
theorem isBs_lit {l : List Int} {m c : Nat} (h : l.length = m) (hb : Bytes l) (hc : m ≤ c) (hs : m < 1000000000000) : IsBs (l.map u8v) 0 m c := ⟨l, h, hc, BSl.lit l hb (by omega)⟩
theorem tk_all (l : List Int) : List.take (l.length * 1) (List.drop 0 (List.map u8v l)) = l.map u8v := by
  rw [List.drop_zero, Nat.mul_one, List.take_of_length_le (by simp)]
theorem Bytes.app {a b : List Int} (ha : Bytes a) (hb : Bytes b) : Bytes (a ++ b) := fun x hx => (List.mem_append.1 hx).elim (ha x) (hb x)
theorem bytesAt_take (l : List Int) (j : Nat) : bytesAt (l.map u8v) 0 j = l.take j := by
  simp [bytesAt, u8v, intV, Function.comp_def, List.map_take]
theorem isBs_take {l : List Int} {j c : Nat} (hj : j ≤ l.length) (hb : Bytes l) (hc : j ≤ c) (hs : l.length < 1000000000000) : IsBs (l.map u8v) 0 j c := by
  have hl : (l.take j).length = j := by rw [List.length_take]; omega
  refine ⟨l.take j, hl, hc, ⟨fun x hx => hb x (List.mem_of_mem_take hx), fun i d hi => ?_, by omega, ⟨flat_u8s l⟩⟩⟩
  rw [List.getElem?_take] at hi
  split at hi
  · rw [Nat.zero_add, getO_eq, List.getElem?_map, hi]; rfl
  · cases hi
theorem flatL_u8 (l : List Int) : FlatL (l.map u8v) := ⟨flat_u8s l⟩
end Go.Proofs.Ytfbjgddeipligaa
