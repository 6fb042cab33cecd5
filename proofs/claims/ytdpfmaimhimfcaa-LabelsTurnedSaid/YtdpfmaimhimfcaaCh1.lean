/- Proved: what functions of the program come to, by their conditions over the abstract machine. Conditions: those that each theorem states. -/
import Derived.Test.YtdpfmaimhimfcaaAm4
import Derived.Test.YtdpfmaimhimfcaaProg
import Derived.WalkKit
import Derived.ProofKit
import Derived.Laws.BitsLemmas
import Derived.Lib.Bytealg
set_option linter.unusedVariables false
set_option linter.unusedSimpArgs false
namespace Go.Proofs.Ytdpfmaimhimfcaa
open Go.RowKit Go.Proofs.Ytdpfmaimhimfcaa.AM
def shl (k : IntKind) (x y : Int) : Int := k.wrap (x * 2 ^ (min y.toNat k.bits))
/-! ### numbers: bits, shifts, wraps (no program in sight) -/
theorem u8_of {x : Int} (h : (Lit.int .u8 x).wf = true) : 0 ≤ x ∧ x < 256 := by
  simp [Lit.wf, IntKind.min, IntKind.max, IntKind.bits, IntKind.signed] at h; omega
theorem u64_of {x : Int} (h : (Lit.int .u64 x).wf = true) : 0 ≤ x ∧ x < 18446744073709551616 := by
  simp [Lit.wf, IntKind.min, IntKind.max, IntKind.bits, IntKind.signed] at h; omega
theorem i64_of {x : Int} (h : (Lit.int .i64 x).wf = true) : -9223372036854775808 ≤ x ∧ x < 9223372036854775808 := by
  simp [Lit.wf, IntKind.min, IntKind.max, IntKind.bits, IntKind.signed] at h; omega
theorem wrap_u64' (n : Int) : IntKind.u64.wrap n = n % 18446744073709551616 := by simp [IntKind.wrap, IntKind.bits, IntKind.signed]
theorem wraps_u64' (n : Int) (h₀ : 0 ≤ n) (h₁ : n < 2 ^ 64) : IntKind.u64.wrap n = n := by rw [wrap_u64']; omega
theorem or_u8_128 (a : Int) (h0 : 0 ≤ a) (h1 : a < 256) : Go.bits .or .u8 a 128 = a % 128 + 128 := by
  obtain ⟨n, rfl⟩ := Int.eq_ofNat_of_zero_le h0
  have : ∀ m : Fin 256, Go.bits .or .u8 ((m.val : Nat) : Int) 128 = ((m.val : Nat) : Int) % 128 + 128 := by decide +kernel
  exact this ⟨n, by omega⟩
theorem and_u8_127 (a : Int) (h0 : 0 ≤ a) (h1 : a < 256) : Go.bits .and .u8 a 127 = a % 128 := by
  obtain ⟨n, rfl⟩ := Int.eq_ofNat_of_zero_le h0
  have : ∀ m : Fin 256, Go.bits .and .u8 ((m.val : Nat) : Int) 127 = ((m.val : Nat) : Int) % 128 := by decide +kernel
  exact this ⟨n, by omega⟩
theorem or_u64_join (i : Nat) (x y : Int) (hx₀ : 0 ≤ x) (hx : x % 2 ^ i = 0) (hx₁ : x < 18446744073709551616) (hy₀ : 0 ≤ y) (hy : y < 2 ^ i) (hy₁ : y < 18446744073709551616) :
    Go.bits .or .u64 x y = x + y :=
  bits_join .u64 64 (by decide) wraps_u64' i x y hx₀ hx (by simpa using hx₁) hy₀ hy (by simpa using hy₁)
theorem or_u64_comm (x y : Int) : Go.bits .or .u64 x y = Go.bits .or .u64 y x := by
  unfold Go.bits; simp only [BitVec.or_comm]
theorem p7 (i : Nat) (h : i ≤ 9) : i = 0 ∨ i = 1 ∨ i = 2 ∨ i = 3 ∨ i = 4 ∨ i = 5 ∨ i = 6 ∨ i = 7 ∨ i = 8 ∨ i = 9 := by omega
theorem shl7 (c : Int) (i : Nat) (hi : i ≤ 9) (hc : 0 ≤ c) (hc1 : c < 128) (h9 : i = 9 → c ≤ 1) :
    shl .u64 c (7 * (i : Int)) = c * 128 ^ i ∧ c * 128 ^ i < 18446744073709551616 := by
  unfold shl
  rw [wrap_u64']
  rcases p7 i hi with rfl | rfl | rfl | rfl | rfl | rfl | rfl | rfl | rfl | rfl
  all_goals
    simp [IntKind.bits] at h9 ⊢
    omega
/-- what one byte of a number adds: `i` bytes were read, `c` is the next one. -/
theorem put7 (acc c : Int) (i : Nat) (hi : i ≤ 9) (ha : 0 ≤ acc) (hb : acc < 128 ^ i) (hc : 0 ≤ c) (hc1 : c < 128) (h9 : i = 9 → c ≤ 1) :
    Go.bits .or .u64 acc (shl .u64 c (7 * (i : Int))) = acc + c * 128 ^ i ∧ 0 ≤ acc + c * 128 ^ i ∧ acc + c * 128 ^ i < 128 ^ (i + 1) ∧ acc + c * 128 ^ i < 18446744073709551616 := by
  obtain ⟨e, hl⟩ := shl7 c i hi hc hc1 h9
  have hp : (0 : Int) < 128 ^ i := Int.pow_pos (by decide)
  have h0 : 0 ≤ c * 128 ^ i := Int.mul_nonneg hc (Int.le_of_lt hp)
  have hm : c * (128 : Int) ^ i ≤ 127 * 128 ^ i := Int.mul_le_mul_of_nonneg_right (by omega) (Int.le_of_lt hp)
  have h2 : (2 : Int) ^ (7 * i) = 128 ^ i := by rw [Int.pow_mul]; rfl
  have hs : acc + c * 128 ^ i < 128 ^ (i + 1) := by rw [Int.pow_succ]; omega
  have h64 : acc + c * 128 ^ i < 18446744073709551616 := by
    rcases Nat.lt_or_ge i 9 with h | h
    · have : (128 : Int) ^ (i + 1) ≤ 128 ^ 9 := by exact_mod_cast Nat.pow_le_pow_right (n := 128) (by decide) (show i + 1 ≤ 9 by omega)
      have e9 : (128 : Int) ^ 9 = 9223372036854775808 := by decide
      omega
    · obtain rfl : i = 9 := by omega
      have := h9 rfl
      have e9 : (128 : Int) ^ 9 = 9223372036854775808 := by decide
      rw [e9] at hb ⊢
      omega
  refine ⟨?_, by omega, hs, h64⟩
  rw [e, or_u64_comm, or_u64_join (7 * i) (c * 128 ^ i) acc h0 (by rw [h2]; exact Int.mul_emod_left _ _) hl ha (by rw [h2]; exact hb) (by omega)]
  omega
/-! ### numbers as bytes: plain lists -/
def Bytes (l : List Int) : Prop := ∀ x ∈ l, 0 ≤ x ∧ x < 256
def encN : Nat → Int → List Int
  | 0, n => [n]
  | f + 1, n => if n ≥ 128 then (n % 128 + 128) :: encN f (n / 128) else [n]
/-- a number's bytes -/
def enc (n : Int) : List Int := encN 9 n
def decL : Nat → List Int → Option (Int × Nat)
  | _, [] => none
  | i, c :: t => if (i = 9 ∧ c > 1) ∨ (i > 0 ∧ c = 0) then none else if c < 128 then some (c, 1) else (decL (i + 1) t).map fun r => (c % 128 + 128 * r.1, r.2 + 1)
/-- the number that bytes begin with -/
def dec (l : List Int) : Option (Int × Nat) := decL 0 l
theorem encN_len (f : Nat) : ∀ n, 1 ≤ (encN f n).length ∧ (encN f n).length ≤ f + 1 := by
  induction f with
  | zero => intro n; simp [encN]
  | succ f ih => intro n; rw [encN]; split <;> simp; have := ih (n / 128); omega
theorem enc_len (n : Int) : 1 ≤ (enc n).length ∧ (enc n).length ≤ 10 := encN_len 9 n
theorem encN_bytes (f : Nat) : ∀ n, 0 ≤ n → n < 128 ^ (f + 1) → Bytes (encN f n) := by
  induction f with
  | zero => intro n h0 h1; simp [Bytes, encN]; simp at h1; omega
  | succ f ih =>
    intro n h0 h1; rw [encN]; split
    · intro x hx
      rcases List.mem_cons.1 hx with rfl | hx
      · omega
      · exact ih (n / 128) (by omega) (by rw [Int.pow_succ] at h1; omega) x hx
    · intro x hx; simp at hx; omega
theorem enc_bytes (n : Int) (h0 : 0 ≤ n) (h1 : n < 18446744073709551616) : Bytes (enc n) := encN_bytes 9 n h0 (by simp; omega)
theorem decL_facts : ∀ (l : List Int) (i : Nat) (v : Int) (m : Nat), Bytes l → i ≤ 9 → decL i l = some (v, m) →
    0 ≤ v ∧ v * 128 ^ i < 18446744073709551616 ∧ 1 ≤ m ∧ m ≤ l.length ∧ i + m ≤ 10 ∧ (0 < i → 0 < v) ∧ ∀ f, 9 ≤ f + i → encN f v = l.take m := by
  intro l
  induction l with
  | nil => intro i v m _ _ h; simp [decL] at h
  | cons c t ih =>
    intro i v m hb hi h
    have hc := hb c (by simp)
    rw [decL] at h
    split at h
    · cases h
    · rename_i hn
      split at h
      · rename_i hlt
        simp only [Option.some.injEq, Prod.mk.injEq] at h
        obtain ⟨rfl, rfl⟩ := h
        have h9 : i = 9 → c ≤ 1 := fun e => by
          rcases Int.lt_or_le 1 c with h1 | h1
          · exact absurd (Or.inl ⟨e, h1⟩) hn
          · exact h1
        refine ⟨hc.1, (shl7 c i hi hc.1 hlt h9).2, by omega, by simp, by omega, fun h0 => ?_, fun f hf => ?_⟩
        · rcases Int.lt_or_le 0 c with h1 | h1
          · exact h1
          · exact absurd (Or.inr ⟨h0, by omega⟩) hn
        · cases f with
          | zero => simp [encN]
          | succ f => rw [encN, if_neg (by omega)]; simp
      · rename_i hge
        have hi8 : i ≤ 8 := by
          rcases Nat.lt_or_ge i 9 with h1 | h1
          · omega
          · exact absurd (Or.inl ⟨by omega, by omega⟩) hn
        cases hd : decL (i + 1) t with
        | none => rw [hd] at h; cases h
        | some r =>
          obtain ⟨v', m'⟩ := r
          rw [hd] at h
          simp only [Option.map_some, Option.some.injEq, Prod.mk.injEq] at h
          obtain ⟨rfl, rfl⟩ := h
          obtain ⟨q0, q1, q2, q3, q4, q5, q6⟩ := ih (i + 1) v' m' (fun x hx => hb x (by simp [hx])) (by omega) hd
          have hv := q5 (by omega)
          refine ⟨by omega, ?_, by omega, by simp; omega, by omega, fun _ => by omega, fun f hf => ?_⟩
          · have hp : (0 : Int) < 128 ^ i := Int.pow_pos (by decide)
            have e1 : v' * (128 : Int) ^ (i + 1) = (v' * 128 ^ i) * 128 := by rw [Int.pow_succ, Int.mul_assoc]
            rw [e1] at q1
            have e2 : (c % 128 + 128 * v') * (128 : Int) ^ i = (c % 128) * 128 ^ i + (v' * 128 ^ i) * 128 := by
              rw [Int.add_mul, Int.mul_comm 128 v', Int.mul_assoc, Int.mul_assoc, Int.mul_comm 128]
            have hd8 : (128 : Int) ^ i ∣ 18446744073709551616 := by
              rcases p7 i (by omega) with rfl | rfl | rfl | rfl | rfl | rfl | rfl | rfl | rfl | rfl <;> decide
            obtain ⟨z, hz⟩ := hd8
            have hx : (c % 128 + 128 * v') * (128 : Int) ^ i = 128 ^ i * (c % 128 + 128 * v') := Int.mul_comm _ _
            have hlt' : (128 : Int) ^ i * (128 * v') < 128 ^ i * z := by
              rw [← hz, ← Int.mul_assoc, Int.mul_comm _ v', ← Int.mul_assoc]; exact q1
            have hv' : 128 * v' < z := Int.lt_of_mul_lt_mul_left hlt' (Int.le_of_lt hp)
            have hzm : z % 128 = 0 := by
              rcases p7 i (by omega) with rfl | rfl | rfl | rfl | rfl | rfl | rfl | rfl | rfl | rfl <;> simp at hz <;> omega
            rw [hx, hz]
            exact Int.mul_lt_mul_of_pos_left (by omega) hp
          · cases f with
            | zero => omega
            | succ f =>
              rw [encN, if_pos (by omega), List.take_succ_cons]
              congr 1
              · omega
              · rw [show (c % 128 + 128 * v') / 128 = v' by omega]; exact q6 f (by omega)
theorem dec_facts {l : List Int} {v : Int} {m : Nat} (hb : Bytes l) (h : dec l = some (v, m)) :
    0 ≤ v ∧ v < 18446744073709551616 ∧ 1 ≤ m ∧ m ≤ l.length ∧ m ≤ 10 ∧ enc v = l.take m := by
  obtain ⟨q0, q1, q2, q3, q4, _, q6⟩ := decL_facts l 0 v m hb (by omega) h
  exact ⟨q0, by simpa using q1, q2, q3, by omega, q6 9 (by omega)⟩
theorem decL_enc : ∀ (f : Nat) (i : Nat) (v : Int) (t : List Int), 0 ≤ v → i + f = 9 → v * 128 ^ i < 18446744073709551616 → (0 < i → 0 < v) →
    decL i (encN f v ++ t) = some (v, (encN f v).length) := by
  intro f
  induction f with
  | zero =>
    intro i v t h0 hi hlt hp
    obtain rfl : i = 9 := by omega
    have := hp (by omega)
    have e9 : (128 : Int) ^ 9 = 9223372036854775808 := by decide
    rw [e9] at hlt
    simp only [encN, List.cons_append, List.nil_append, decL]
    rw [if_neg (by omega), if_pos (by omega)]; rfl
  | succ f ih =>
    intro i v t h0 hi hlt hp
    rw [encN]
    split
    · rename_i hge
      simp only [List.cons_append, decL]
      rw [if_neg (by omega), if_neg (by omega)]
      have e1 : v / 128 * (128 : Int) ^ (i + 1) ≤ v * 128 ^ i := by
        have hpw : (0 : Int) < 128 ^ i := Int.pow_pos (by decide)
        have : v / 128 * (128 : Int) ^ (i + 1) = (128 * (v / 128)) * 128 ^ i := by
          rw [Int.pow_succ, Int.mul_comm 128 (v / 128), Int.mul_assoc, Int.mul_comm (128 ^ i)]
        rw [this]
        exact Int.mul_le_mul_of_nonneg_right (by omega) (Int.le_of_lt hpw)
      rw [ih (i + 1) (v / 128) t (by omega) (by omega) (by omega) (fun _ => by omega)]
      simp only [Option.map_some, List.length_cons, Option.some.injEq, Prod.mk.injEq, and_true]
      omega
    · have hp' := hp
      simp only [List.cons_append, List.nil_append, decL]
      rw [if_neg (by omega), if_pos (by omega)]; rfl
theorem dec_enc (v : Int) (t : List Int) (h0 : 0 ≤ v) (h1 : v < 18446744073709551616) : dec (enc v ++ t) = some (v, (enc v).length) :=
  decL_enc 9 0 v t h0 (by omega) (by simpa using h1) (by omega)
/-- no beginning of a number is one -/
theorem decL_cut : ∀ (f : Nat) (i : Nat) (v : Int) (j : Nat), j < (encN f v).length → decL i ((encN f v).take j) = none := by
  intro f
  induction f with
  | zero => intro i v j hj; simp [encN] at hj; subst hj; rfl
  | succ f ih =>
    intro i v j hj
    rw [encN] at hj ⊢
    split at hj
    · rename_i hge
      rw [if_pos hge]
      cases j with
      | zero => rfl
      | succ j =>
        rw [List.take_succ_cons, decL]
        split
        · rfl
        · rw [if_neg (by omega), ih (i + 1) (v / 128) j (by simpa using hj)]; rfl
    · rename_i hge
      rw [if_neg hge]
      simp at hj; subst hj; rfl
theorem dec_cut (v : Int) (j : Nat) (hj : j < (enc v).length) : dec ((enc v).take j) = none := decL_cut 9 0 v j hj
theorem enc_inj (a b : Int) (ha : 0 ≤ a) (ha1 : a < 18446744073709551616) (hb : 0 ≤ b) (hb1 : b < 18446744073709551616) (h : enc a = enc b) : a = b := by
  have h1 := dec_enc a [] ha ha1
  have h2 := dec_enc b [] hb hb1
  rw [h, h2] at h1
  simpa using h1.symm
theorem encN_mono (f : Nat) : ∀ a b : Int, 0 ≤ a → a ≤ b → (encN f a).length ≤ (encN f b).length := by
  induction f with
  | zero => intro a b _ _; simp [encN]
  | succ f ih =>
    intro a b h0 h
    rw [encN, encN]
    split
    · rw [if_pos (by omega)]; simp; exact ih _ _ (by omega) (by omega)
    · split <;> simp
theorem enc_mono (a b : Int) (h0 : 0 ≤ a) (h : a ≤ b) : (enc a).length ≤ (enc b).length := encN_mono 9 a b h0 h
theorem enc_small (n : Int) (h : n < 128) : enc n = [n] := by rw [enc, encN, if_neg (by omega)]

set_option maxRecDepth 100000
set_option maxHeartbeats 4000000
noncomputable def S0 : Book := fun _ => none
noncomputable def LK0 : LoopK := fun _ _ _ _ => False
noncomputable def jk (n : Nat) : List Value := List.replicate n junk
theorem named : (Try.prog.funcs.toList.all fun fn => !(fn.name == "runtime.NumGoroutine")) = true := by decide +kernel
theorem plain : Plain Try.prog := fun f fn hf _ hn => by
  have h1 := List.all_eq_true.1 named fn (by simpa using Array.mem_of_getElem? hf)
  rw [hn] at h1
  exact absurd h1 (by decide)
theorem sums0 : SumsOk Try.prog S0.sums := fun f s hs => by cases hs
end Go.Proofs.Ytdpfmaimhimfcaa

namespace Go.Proofs.Ytdpfmaimhimfcaa
open Go.RowKit Go.Proofs.Ytdpfmaimhimfcaa.AM
set_option maxRecDepth 100000
set_option maxHeartbeats 4000000
theorem sure0 (hmix : Try.prog.follows .mixedOrders = true) : Sure Try.prog S0 := ⟨hmix, plain, sums0⟩
/-- cells that hold these bytes -/
structure BSl (cs : List Value) (o : Nat) (l : List Int) : Prop where
  ok : Bytes l
  cell : ∀ (j : Nat) c, l[j]? = some c → getO cs (o + j) = some (.int .u8 c)
  short : l.length < 1000000000000
  flat : FlatL cs
inductive IsBs (cs : List Value) (o len cap : Nat) : Prop
  | mk (l : List Int) (h : l.length = len) (hc : len ≤ cap) (hb : BSl cs o l) : IsBs cs o len cap
noncomputable def bytesAt (cs : List Value) (o len : Nat) : List Int := ((cs.drop o).take len).map intV
theorem BSl.bytesAt {cs : List Value} {o : Nat} {l : List Int} (h : BSl cs o l) : bytesAt cs o l.length = l := by
  unfold Go.Proofs.Ytdpfmaimhimfcaa.bytesAt
  refine List.ext_getElem? fun j => ?_
  rw [List.getElem?_map, List.getElem?_take]
  cases hj : l[j]? with
  | none =>
    have := List.getElem?_eq_none_iff.1 hj
    rw [if_neg (by omega)]; rfl
  | some c =>
    have hlt : j < l.length := (List.getElem?_eq_some_iff.1 hj).1
    rw [if_pos hlt, List.getElem?_drop, ← getO_eq, h.cell j c hj]; rfl
noncomputable def body9 : Code := (Try.f51.body).getD .skip
def F9 : List Nat → Option (List Nat) := fun p => match p with
  | [1] => some [0]
  | [1, 1] => some [0, 5]
  | [1, 0, 1, 1] => some [5, 8, 9, 10]
  | [1, 0, 0, 1, 0, 1, 1] => some [5, 8, 9, 10, 11]
  | [1, 0, 1, 0, 0, 1, 0, 1, 1] => some []
  | [1, 1, 0, 0, 1, 0, 1, 1] => some [5, 8, 9, 10]
  | [1, 0, 0, 1, 1, 0, 0, 1, 0, 1, 1] => some [5, 6, 7, 8, 9, 10]
  | [1, 0, 1, 0, 0, 1, 1, 0, 0, 1, 0, 1, 1] => some [5, 6, 7, 8, 9, 10, 28]
  | [0, 1, 0, 1, 0, 0, 1, 1, 0, 0, 1, 0, 1, 1] => some []
  | [1, 1, 0, 0, 1, 1, 0, 0, 1, 0, 1, 1] => some [5, 6, 7, 8, 9, 10]
  | [1, 1, 1, 0, 0, 1, 1, 0, 0, 1, 0, 1, 1] => some [5, 6, 7, 8, 9, 10]
  | [1, 1, 1, 1, 0, 0, 1, 1, 0, 0, 1, 0, 1, 1] => some [5, 6, 8, 9, 10, 38]
  | [1, 0, 1, 1, 1, 1, 0, 0, 1, 1, 0, 0, 1, 0, 1, 1] => some [2, 3, 4]
  | [1, 1, 1, 0, 0, 1, 0, 1, 1] => some [5, 8, 9, 10]
  | [1, 1, 1] => some []
  | [1, 1, 1, 1] => some [2, 3, 4]
  | _ => none
noncomputable def T9 (o : Nat) (sp : Option Nat) (len cap i : Nat) (n : Int) : List Value := tmps 43 [(5, .int .u64 n), (8, .slice (some ⟨0,o,sp⟩) len cap), (9, .int .i64 len), (10, .int .i64 i)]
noncomputable def T9r (n : Int) (k : Nat) : List Value := tmps 43 [(2, .int .u64 n), (3, .int .i64 k), (4, .bool true)]

theorem round9 (cs : List Value) (own : Bool) (o : Nat) (sp : Option Nat) (len cap i : Nat) (n : Int) (K : Post) :
  roundK Try.prog S0 noLoop F9 body9 1 [5,8,9,10] [0,0,1,0,1,1] (T9 o sp len cap i n) (hp [.cells cs 1 own]) K = (
Alt (ltI (↑i : Int) (↑len : Int))
  (Need (ltI (↑i : Int) (↑len : Int))
    (Need (isInt IntKind.u8 ((getO cs (o + (↑i : Int).toNat * 1)).getD undef))
      (Alt (eqI (↑i : Int) 9)
        (Alt (ltI 1 (intV ((getO cs (o + (↑i : Int).toNat * 1)).getD undef)))
          (K (AE.exit 0) (tmps 43 []) (hp [Blk.cells cs 1 own]))
          (Alt (ltI 0 (↑i : Int))
            (Alt (eqI (intV ((getO cs (o + (↑i : Int).toNat * 1)).getD undef)) 0)
              (K (AE.exit 0) (tmps 43 []) (hp [Blk.cells cs 1 own]))
              (Need (leI 0 (wr IntKind.i64 (7 * (↑i : Int))))
                (Alt (ltI (intV ((getO cs (o + (↑i : Int).toNat * 1)).getD undef)) 128)
                  (K AE.ret
                    (tmps 43
                      [(2,
                          Value.int IntKind.u64
                            (bitsW BinOp.or IntKind.u64 n
                              (wr IntKind.u64
                                (wr IntKind.u64
                                    (bitsW BinOp.and IntKind.u8 (intV ((getO cs (o + (↑i : Int).toNat * 1)).getD undef))
                                      127) *
                                  2 ^ min (wr IntKind.i64 (7 * (↑i : Int))).toNat 64)))),
                        (3, Value.int IntKind.i64 (wr IntKind.i64 ((↑i : Int) + 1))), (4, Value.bool true)])
                    (hp [Blk.cells cs 1 own]))
                  (K AE.normal
                    (tmps 43
                      [(5,
                          Value.int IntKind.u64
                            (bitsW BinOp.or IntKind.u64 n
                              (wr IntKind.u64
                                (wr IntKind.u64
                                    (bitsW BinOp.and IntKind.u8 (intV ((getO cs (o + (↑i : Int).toNat * 1)).getD undef))
                                      127) *
                                  2 ^ min (wr IntKind.i64 (7 * (↑i : Int))).toNat 64)))),
                        (8, Value.slice (some { block := 0, off := o, spot := sp : Addr }) len cap),
                        (9, Value.int IntKind.i64 (↑len : Int)),
                        (10, Value.int IntKind.i64 (wr IntKind.i64 ((↑i : Int) + 1)))])
                    (hp [Blk.cells cs 1 own])))))
            (Need (leI 0 (wr IntKind.i64 (7 * (↑i : Int))))
              (Alt (ltI (intV ((getO cs (o + (↑i : Int).toNat * 1)).getD undef)) 128)
                (K AE.ret
                  (tmps 43
                    [(2,
                        Value.int IntKind.u64
                          (bitsW BinOp.or IntKind.u64 n
                            (wr IntKind.u64
                              (wr IntKind.u64
                                  (bitsW BinOp.and IntKind.u8 (intV ((getO cs (o + (↑i : Int).toNat * 1)).getD undef))
                                    127) *
                                2 ^ min (wr IntKind.i64 (7 * (↑i : Int))).toNat 64)))),
                      (3, Value.int IntKind.i64 (wr IntKind.i64 ((↑i : Int) + 1))), (4, Value.bool true)])
                  (hp [Blk.cells cs 1 own]))
                (K AE.normal
                  (tmps 43
                    [(5,
                        Value.int IntKind.u64
                          (bitsW BinOp.or IntKind.u64 n
                            (wr IntKind.u64
                              (wr IntKind.u64
                                  (bitsW BinOp.and IntKind.u8 (intV ((getO cs (o + (↑i : Int).toNat * 1)).getD undef))
                                    127) *
                                2 ^ min (wr IntKind.i64 (7 * (↑i : Int))).toNat 64)))),
                      (8, Value.slice (some { block := 0, off := o, spot := sp : Addr }) len cap),
                      (9, Value.int IntKind.i64 (↑len : Int)),
                      (10, Value.int IntKind.i64 (wr IntKind.i64 ((↑i : Int) + 1)))])
                  (hp [Blk.cells cs 1 own]))))))
        (Alt (ltI 0 (↑i : Int))
          (Alt (eqI (intV ((getO cs (o + (↑i : Int).toNat * 1)).getD undef)) 0)
            (K (AE.exit 0) (tmps 43 []) (hp [Blk.cells cs 1 own]))
            (Need (leI 0 (wr IntKind.i64 (7 * (↑i : Int))))
              (Alt (ltI (intV ((getO cs (o + (↑i : Int).toNat * 1)).getD undef)) 128)
                (K AE.ret
                  (tmps 43
                    [(2,
                        Value.int IntKind.u64
                          (bitsW BinOp.or IntKind.u64 n
                            (wr IntKind.u64
                              (wr IntKind.u64
                                  (bitsW BinOp.and IntKind.u8 (intV ((getO cs (o + (↑i : Int).toNat * 1)).getD undef))
                                    127) *
                                2 ^ min (wr IntKind.i64 (7 * (↑i : Int))).toNat 64)))),
                      (3, Value.int IntKind.i64 (wr IntKind.i64 ((↑i : Int) + 1))), (4, Value.bool true)])
                  (hp [Blk.cells cs 1 own]))
                (K AE.normal
                  (tmps 43
                    [(5,
                        Value.int IntKind.u64
                          (bitsW BinOp.or IntKind.u64 n
                            (wr IntKind.u64
                              (wr IntKind.u64
                                  (bitsW BinOp.and IntKind.u8 (intV ((getO cs (o + (↑i : Int).toNat * 1)).getD undef))
                                    127) *
                                2 ^ min (wr IntKind.i64 (7 * (↑i : Int))).toNat 64)))),
                      (8, Value.slice (some { block := 0, off := o, spot := sp : Addr }) len cap),
                      (9, Value.int IntKind.i64 (↑len : Int)),
                      (10, Value.int IntKind.i64 (wr IntKind.i64 ((↑i : Int) + 1)))])
                  (hp [Blk.cells cs 1 own])))))
          (Need (leI 0 (wr IntKind.i64 (7 * (↑i : Int))))
            (Alt (ltI (intV ((getO cs (o + (↑i : Int).toNat * 1)).getD undef)) 128)
              (K AE.ret
                (tmps 43
                  [(2,
                      Value.int IntKind.u64
                        (bitsW BinOp.or IntKind.u64 n
                          (wr IntKind.u64
                            (wr IntKind.u64
                                (bitsW BinOp.and IntKind.u8 (intV ((getO cs (o + (↑i : Int).toNat * 1)).getD undef))
                                  127) *
                              2 ^ min (wr IntKind.i64 (7 * (↑i : Int))).toNat 64)))),
                    (3, Value.int IntKind.i64 (wr IntKind.i64 ((↑i : Int) + 1))), (4, Value.bool true)])
                (hp [Blk.cells cs 1 own]))
              (K AE.normal
                (tmps 43
                  [(5,
                      Value.int IntKind.u64
                        (bitsW BinOp.or IntKind.u64 n
                          (wr IntKind.u64
                            (wr IntKind.u64
                                (bitsW BinOp.and IntKind.u8 (intV ((getO cs (o + (↑i : Int).toNat * 1)).getD undef))
                                  127) *
                              2 ^ min (wr IntKind.i64 (7 * (↑i : Int))).toNat 64)))),
                    (8, Value.slice (some { block := 0, off := o, spot := sp : Addr }) len cap),
                    (9, Value.int IntKind.i64 (↑len : Int)),
                    (10, Value.int IntKind.i64 (wr IntKind.i64 ((↑i : Int) + 1)))])
                (hp [Blk.cells cs 1 own]))))))))
  (K (AE.exit 0) (tmps 43 []) (hp [Blk.cells cs 1 own]))) := by kernel_rfl

theorem get_loop (hmix : Try.prog.follows .mixedOrders = true) (l : List Int) (cs : List Value) (own : Bool) (o : Nat) (sp : Option Nat) (cap : Nat) (hB : BSl cs o l) (K : Post) :
    ∀ (t : List Int) (i : Nat) (acc : Int), l.drop i = t → i ≤ 9 → i ≤ l.length → 0 ≤ acc → acc < 128 ^ i →
    (match decL i t with
      | some r => K .ret (T9r (acc + r.1 * 128 ^ i) (i + r.2)) (hp [.cells cs 1 own])
      | none => K (.exit 0) (tmps 43 []) (hp [.cells cs 1 own])) →
    LSays Try.prog 1 (sub body9 [0,0,1,0,1,1]) (T9 o sp l.length cap i acc) (hp [.cells cs 1 own]) K := by
  have hF : FlatH (hp [.cells cs 1 own]) := FlatH.hp ⟨hB.flat, trivial⟩
  have hb := hB.ok
  have hlen := hB.short
  intro t
  induction t with
  | nil =>
    intro i acc ht hi hil h0 h1 hK
    have hge : ¬ ((i : Int) < (l.length : Int)) := by have := List.drop_eq_nil_iff.1 ht; omega
    refine (sure0 hmix).round F9 noLoops [5,8,9,10] ?_
    rw [round9]
    simp only [hge, hF, Alt_iff, Need_iff, ltI_eq, leI_eq, eqI_eq, leN_eq, eqN_eq, decide_eq_true_eq, decide_eq_false_iff_not, decide_true, decide_false, true_and, and_true, Bool.true_eq_false, Bool.false_eq_true, false_implies, true_implies, implies_true, not_true_eq_false, not_false_eq_true, Bool.not_eq_true', Bool.not_eq_false']
    exact hK
  | cons c t ih =>
    intro i acc ht hi hil h0 h1 hK
    have hlt : i < l.length := by
      rcases Nat.lt_or_ge i l.length with h | h
      · exact h
      · rw [List.drop_eq_nil_of_le h] at ht; cases ht
    have hd : l.drop (i + 1) = t := by rw [← List.drop_drop, ht]; rfl
    have hgc0 : l[i]? = some c := by
      have := congrArg List.head? ht
      rw [List.head?_drop] at this; exact this
    have hc := hb c (List.mem_of_getElem? hgc0)
    have hgc : getO cs (o + (i : Int).toNat * 1) = some (.int .u8 c) := by
      rw [Nat.mul_one, Int.toNat_natCast]; exact hB.cell i c hgc0
    have hl1 : (i : Int) < (l.length : Int) := by omega
    have hw1 : wr .i64 ((i : Int) + 1) = ((i + 1 : Nat) : Int) := by
      rw [wr_eq]; simp [IntKind.wrap, IntKind.bits, IntKind.signed]; omega
    have hw7 : wr .i64 (7 * (i : Int)) = 7 * (i : Int) := by
      rw [wr_eq]; simp [IntKind.wrap, IntKind.bits, IntKind.signed]; omega
    refine (sure0 hmix).round F9 noLoops [5,8,9,10] ?_
    rw [round9]
    simp only [hl1, hF, hgc, Option.getD_some, isInt, intV, kindEq, hw1, hw7, show (0:Int) ≤ 7 * (i : Int) by omega, Alt_iff, Need_iff, ltI_eq, leI_eq, eqI_eq, leN_eq, eqN_eq, decide_eq_true_eq, decide_eq_false_iff_not, decide_true, decide_false, true_and, and_true, Bool.true_eq_false, Bool.false_eq_true, false_implies, true_implies, implies_true, not_true_eq_false, not_false_eq_true, Bool.not_eq_true', Bool.not_eq_false']
    generalize hX : bitsW .or .u64 acc _ = X
    have hX' : X = Go.bits .or .u64 acc (shl .u64 (IntKind.u64.wrap (Go.bits .and .u8 c 127)) (7 * (i : Int))) := by
      rw [← hX]; simp only [bitsW, wr_eq]; rfl
    have stop : ((i = 9 ∧ c > 1) ∨ (i > 0 ∧ c = 0)) → K (.exit 0) (tmps 43 []) (hp [.cells cs 1 own]) := fun h => by
      rw [decL, if_pos h] at hK; exact hK
    have go : ¬ ((i = 9 ∧ c > 1) ∨ (i > 0 ∧ c = 0)) → (c < 128 → K AE.ret (T9r X (i + 1)) (hp [.cells cs 1 own])) ∧
        (¬ c < 128 → LSays Try.prog 1 (sub body9 [0,0,1,0,1,1]) (T9 o sp l.length cap (i + 1) X) (hp [.cells cs 1 own]) K) := fun hn => by
      rw [and_u8_127 c hc.1 hc.2, wraps_u64' (c % 128) (by omega) (by omega)] at hX'
      obtain ⟨p1, p2, p3, p4⟩ := put7 acc (c % 128) i hi h0 h1 (by omega) (by omega) (fun e => by
        rcases Int.lt_or_le 1 c with h1 | h1
        · exact absurd (Or.inl ⟨e, h1⟩) hn
        · omega)
      rw [p1] at hX'
      rw [decL, if_neg hn] at hK
      refine ⟨fun hc8 => ?_, fun hc8 => ?_⟩
      · rw [if_pos hc8] at hK
        rw [hX', show c % 128 = c by omega]; exact hK
      · have hi8 : i ≤ 8 := by
          rcases Nat.lt_or_ge i 9 with h1 | h1
          · omega
          · exact absurd (Or.inl ⟨by omega, by omega⟩) hn
        rw [if_neg hc8] at hK
        rw [hX']
        refine ih (i + 1) _ hd (by omega) (by omega) p2 p3 ?_
        cases hdec : decL (i + 1) t with
        | none => rw [hdec] at hK; exact hK
        | some r =>
          rw [hdec] at hK
          simp only [Option.map_some] at hK ⊢
          have e1 : acc + c % 128 * 128 ^ i + r.1 * 128 ^ (i + 1) = acc + (c % 128 + 128 * r.1) * 128 ^ i := by
            rw [Int.add_mul, Int.pow_succ, ← Int.mul_assoc, Int.mul_comm 128 r.1, Int.mul_assoc r.1 128, Int.mul_comm 128 (128 ^ i), ← Int.mul_assoc, Int.add_assoc]
          rw [e1, show i + 1 + r.2 = i + (r.2 + 1) by omega]
          exact hK
    refine ⟨fun h9 => ⟨fun hc1 => stop (.inl ⟨by omega, hc1⟩), fun hc1 => ⟨fun hi0 => ⟨fun hc0 => stop (.inr ⟨by omega, hc0⟩), fun hc0 => go (by omega)⟩, fun hi0 => go (by omega)⟩⟩,
      fun h9 => ⟨fun hi0 => ⟨fun hc0 => stop (.inr ⟨by omega, hc0⟩), fun hc0 => go (by omega)⟩, fun hi0 => go (by omega)⟩⟩
noncomputable def LK9 (cs : List Value) (own : Bool) (o : Nat) (sp : Option Nat) (len cap : Nat) (res : Option (Int × Nat)) : LoopK := fun p t h K => match p with
  | [0, 1, 0, 1, 1] => t = T9 o sp len cap 0 0 ∧ h = hp [.cells cs 1 own] ∧ match res with
    | some r => K .ret (T9r r.1 r.2) h
    | none => K (.exit 0) (tmps 43 []) h
  | _ => False
def gN (r : Option (Int × Nat)) : Int := match r with | some r => r.1 | none => 0
def gK (r : Option (Int × Nat)) : Nat := match r with | some r => r.2 | none => 0
def getV (r : Option (Int × Nat)) : Value := .tuple #[.int .u64 (gN r), .int .i64 (gK r : Int), .bool r.isSome]

theorem whole9s (cs : List Value) (own : Bool) (o : Nat) (sp : Option Nat) (len cap : Nat) (v : Int) (m : Nat) (K : Value → Heap → Prop) :
  funK Try.prog S0 (gcLK 1 (LK9 cs own o sp len cap (some (v, m)))) F9 body9 Try.f51 [.slice (some ⟨0,o,sp⟩) len cap] (hp [.cells cs 1 own]) K = (
FlatH (hp [Blk.cells cs 1 own]) ∧
  tmps 43
        [(5, Value.int IntKind.u64 0), (8, Value.slice (some { block := 0, off := o, spot := sp : Addr }) len cap),
          (9, Value.int IntKind.i64 (↑len : Int)), (10, Value.int IntKind.i64 0)] =
      tmps 43
        [(5, Value.int IntKind.u64 0), (8, Value.slice (some { block := 0, off := o, spot := sp : Addr }) len cap),
          (9, Value.int IntKind.i64 (↑len : Int)), (10, Value.int IntKind.i64 0)] ∧
    hp [Blk.cells cs 1 own] = hp [Blk.cells cs 1 own] ∧
      K (Value.tuple #[Value.int IntKind.u64 (v, m).fst, Value.int IntKind.i64 (↑(v, m).snd : Int), Value.bool true])
        (hp [Blk.cells cs 1 own])) := by kernel_rfl

theorem whole9n (cs : List Value) (own : Bool) (o : Nat) (sp : Option Nat) (len cap : Nat) (K : Value → Heap → Prop) :
  funK Try.prog S0 (gcLK 1 (LK9 cs own o sp len cap none)) F9 body9 Try.f51 [.slice (some ⟨0,o,sp⟩) len cap] (hp [.cells cs 1 own]) K = (
FlatH (hp [Blk.cells cs 1 own]) ∧
  tmps 43
        [(5, Value.int IntKind.u64 0), (8, Value.slice (some { block := 0, off := o, spot := sp : Addr }) len cap),
          (9, Value.int IntKind.i64 (↑len : Int)), (10, Value.int IntKind.i64 0)] =
      tmps 43
        [(5, Value.int IntKind.u64 0), (8, Value.slice (some { block := 0, off := o, spot := sp : Addr }) len cap),
          (9, Value.int IntKind.i64 (↑len : Int)), (10, Value.int IntKind.i64 0)] ∧
    hp [Blk.cells cs 1 own] = hp [Blk.cells cs 1 own] ∧
      K (Value.tuple #[Value.int IntKind.u64 0, Value.int IntKind.i64 0, Value.bool false]) (hp [Blk.cells cs 1 own])) := by kernel_rfl

theorem get_says (hmix : Try.prog.follows .mixedOrders = true) (l : List Int) (cs : List Value) (own : Bool) (o : Nat) (sp : Option Nat) (cap : Nat) (hB : BSl cs o l) :
    FunSays Try.prog 51 [.slice (some ⟨0,o,sp⟩) l.length cap] (hp [.cells cs 1 own]) fun v h' => v = getV (dec l) ∧ h' = hp [.cells cs 1 own] := by
  have hF : FlatH (hp [.cells cs 1 own]) := FlatH.hp ⟨hB.flat, trivial⟩
  have hL : Loops Try.prog body9 1 (LK9 cs own o sp l.length cap (dec l)) := fun p t h K hk => by
    unfold LK9 at hk
    split at hk
    · obtain ⟨rfl, rfl, hk⟩ := hk
      show LSays Try.prog _ (sub body9 [0,0,1,0,1,1]) _ _ _
      refine get_loop hmix l cs own o sp cap hB K l 0 0 rfl (by omega) (by omega) (by omega) (by simp) ?_
      unfold dec at hk
      cases hd : decL 0 l with
      | none => rw [hd] at hk; exact hk
      | some r =>
        rw [hd] at hk
        simpa using hk
    · exact hk.elim
  refine (sure0 hmix).fun F9 body9 Try.func51 rfl hL.gc ?_
  cases hd : dec l with
  | none => rw [whole9n]; exact ⟨hF, rfl, rfl, rfl, hF, rfl, rfl⟩
  | some r =>
    obtain ⟨v, m⟩ := r
    rw [whole9s]; exact ⟨hF, rfl, rfl, rfl, hF, rfl, rfl⟩

noncomputable def T9z : List Value := tmps 43 [(5, .int .u64 0), (8, .slice none 0 0), (9, .int .i64 0), (10, .int .i64 0)]
noncomputable def LK9z : LoopK := fun p t h K => match p with
  | [0, 1, 0, 1, 1] => t = T9z ∧ h = hp [] ∧ K (.exit 0) (tmps 43 []) h
  | _ => False

theorem round9z (K : Post) :
  roundK Try.prog S0 noLoop F9 body9 0 [5,8,9,10] [0,0,1,0,1,1] T9z (hp []) K = (
K (AE.exit 0) (tmps 43 []) (hp [])) := by kernel_rfl

theorem whole9z (K : Value → Heap → Prop) :
  funK Try.prog S0 (gcLK 0 LK9z) F9 body9 Try.f51 [.slice none 0 0] (hp []) K = (
FlatH (hp []) ∧
  tmps 43
        [(5, Value.int IntKind.u64 0), (8, Value.slice none 0 0), (9, Value.int IntKind.i64 0),
          (10, Value.int IntKind.i64 0)] =
      tmps 43
        [(5, Value.int IntKind.u64 0), (8, Value.slice none 0 0), (9, Value.int IntKind.i64 0),
          (10, Value.int IntKind.i64 0)] ∧
    hp [] = hp [] ∧ K (Value.tuple #[Value.int IntKind.u64 0, Value.int IntKind.i64 0, Value.bool false]) (hp [])) := by kernel_rfl

theorem get_nil (hmix : Try.prog.follows .mixedOrders = true) : FunSays Try.prog 51 [.slice none 0 0] (hp []) fun v h' => v = getV none ∧ h' = hp [] := by
  have hL : Loops Try.prog body9 0 LK9z := fun p t h K hk => by
    unfold LK9z at hk
    split at hk
    · obtain ⟨rfl, rfl, hk⟩ := hk
      show LSays Try.prog _ (sub body9 [0,0,1,0,1,1]) _ _ _
      refine (sure0 hmix).round F9 noLoops [5,8,9,10] ?_
      rw [round9z]
      exact ⟨FlatH.empty, hk⟩
    · exact hk.elim
  refine (sure0 hmix).fun F9 body9 Try.func51 rfl hL.gc ?_
  rw [whole9z]
  exact ⟨FlatH.empty, rfl, rfl, rfl, FlatH.empty, rfl, rfl⟩
/-- what 'Get' says of a slice of bytes: a contract -/
noncomputable def getC : Ctr where
  pre := fun args blks => match args, blks with
    | [.slice (some ⟨0, o, _⟩) len cap], [.cells cs 1 _] => IsBs cs o len cap
    | [.slice none 0 0], [] => True
    | _, _ => False
  val := fun args blks => match args, blks with
    | [.slice (some ⟨0, o, _⟩) len _], [.cells cs 1 _] => getV (dec (bytesAt cs o len))
    | _, _ => getV none
  new := fun _ _ => []
theorem getC_holds (hmix : Try.prog.follows .mixedOrders = true) : getC.Holds Try.prog 51 := by
  intro args blks hf hp
  refine ⟨trivial, ?_⟩
  simp only [getC] at hp ⊢
  split at hp
  · obtain ⟨l, rfl, hc, hB⟩ := hp
    simp only [hB.bytesAt, List.append_nil]
    exact get_says hmix l _ _ _ _ _ hB
  · exact get_nil hmix
  · exact hp.elim
end Go.Proofs.Ytdpfmaimhimfcaa

namespace Go.Proofs.Ytdpfmaimhimfcaa
open Go.RowKit Go.Proofs.Ytdpfmaimhimfcaa.AM
set_option maxRecDepth 100000
set_option maxHeartbeats 4000000
noncomputable def body10 : Code := (Try.f30.body).getD .skip
def F10 : List Nat → Option (List Nat) := fun p => match p with
  | [1] => some [0]
  | [1, 1] => some [0, 3]
  | [1, 0, 0, 0, 0, 1, 1] => some [0, 3, 5]
  | [1, 1, 0, 0, 0, 0, 1, 1] => some [0, 3]
  | [1, 0, 0, 0, 1, 1] => some [0, 3]
  | [1, 0, 1, 0, 0, 0, 1, 1] => some [0, 3]
  | [1, 1, 1] => some [0, 3]
  | [1, 1, 1, 1] => some [2]
  | _ => none
noncomputable def T10 (n : Int) (k : Nat) : List Value := tmps 19 [(0, .int .u64 n), (3, .slice (some ⟨0,0,some 1⟩) k k)]

theorem round10 (cs : List Value) (n : Int) (k : Nat) (K : Post) :
  roundX Try.prog S0 noLoop F10 body10 0 [] [] [] [] [0,3] [0,0,0,1,1] (T10 n k) (hp [.cells cs 1 true]) K = (
Alt (leI 128 n)
  (Need (leN (0 + k * 1) cs.length)
    (Need (leN ((k + 1) * 1) 1099511627776)
      (Need (leN (k + 1) 1099511627776)
        (K AE.normal
          (tmps 19
            [(0, Value.int IntKind.u64 (n.fdiv 128)),
              (3, Value.slice (some { block := 0, off := 0, spot := some 1 : Addr }) (k + 1) (k + 1))])
          (hp
            [Blk.cells
                (List.take (k * 1) (List.drop 0 cs) ++
                  [Value.int IntKind.u8 (bitsW BinOp.or IntKind.u8 (wr IntKind.u8 n) 128)])
                1 true])))))
  (K (AE.exit 0)
    (tmps 19
      [(0, Value.int IntKind.u64 n), (3, Value.slice (some { block := 0, off := 0, spot := some 1 : Addr }) k k)])
    (hp [Blk.cells cs 1 true]))) := by kernel_rfl

def u8v (c : Int) : Value := .int .u8 c
theorem flat_u8s (l : List Int) : ∀ x ∈ l.map u8v, flat x = true := fun x hx => by
  obtain ⟨c, _, rfl⟩ := List.mem_map.1 hx; rfl
theorem flatH_u8 (l : List Int) (own : Bool) : FlatH (hp [.cells (l.map u8v) 1 own]) := FlatH.hp ⟨⟨flat_u8s l⟩, trivial⟩

theorem flatD_u8 (l : List Int) (own : Bool) : FlatD [] (hp [.cells (l.map u8v) 1 own]) := FlatD.hp ⟨⟨flat_u8s l⟩, trivial⟩
theorem oneV_u8s (l : List Int) : (l.map u8v).all oneV = true := by
  rw [List.all_eq_true]
  intro x hx
  obtain ⟨c, _, rfl⟩ := List.mem_map.1 hx; rfl
theorem byte10 (n : Int) (h0 : 0 ≤ n) : bitsW .or .u8 (wr .u8 n) 128 = n % 128 + 128 := by
  have e : wr .u8 n = n % 256 := by rw [wr_eq]; simp [IntKind.wrap, IntKind.bits, IntKind.signed]
  have := or_u8_128 (n % 256) (by omega) (by omega)
  rw [e]
  refine Eq.trans ?_ (this.trans (by omega))
  simp only [bitsW, wr_eq]; rfl
theorem next10 (n : Int) (h0 : 0 ≤ n) (h1 : n < 18446744073709551616) : n.fdiv 128 = n / 128 := Int.fdiv_eq_ediv_of_nonneg _ (by decide)
theorem encN_split : ∀ (f : Nat) (n : Int), 0 ≤ n → n < 128 ^ (f + 1) → ∃ pre last, encN f n = pre ++ [last] ∧ 0 ≤ last ∧ last < 128 := by
  intro f
  induction f with
  | zero => intro n h0 h1; exact ⟨[], n, rfl, h0, by simpa using h1⟩
  | succ f ih =>
    intro n h0 h1
    rw [encN]
    split
    · obtain ⟨pre, last, he, h⟩ := ih (n / 128) (by omega) (by rw [Int.pow_succ] at h1; omega)
      exact ⟨(n % 128 + 128) :: pre, last, by rw [he]; rfl, h⟩
    · exact ⟨[], n, rfl, h0, by omega⟩
theorem put_loop (hmix : Try.prog.follows .mixedOrders = true) (K : Post) : ∀ (f : Nat) (n : Int) (acc : List Int), 0 ≤ n → n < 18446744073709551616 → n < 128 ^ (f + 1) → acc.length + f < 1000000 →
    (∀ pre last, encN f n = pre ++ [last] → 0 ≤ last → last < 128 → K (.exit 0) (T10 last (acc ++ pre).length) (hp [.cells ((acc ++ pre).map u8v) 1 true])) →
    LSays Try.prog 0 (sub body10 [0,0,0,1,1]) (T10 n acc.length) (hp [.cells (acc.map u8v) 1 true]) K := by
  intro f
  induction f with
  | zero =>
    intro n acc h0 h64 h1 hl hK
    have hlt : n < 128 := by simpa using h1
    have hk := hK [] n rfl h0 hlt
    rw [List.append_nil] at hk
    refine (sure0 hmix).roundX F10 noLoops [] [] [] [] [0,3] ?_
    rw [round10]
    simp only [show ¬ (128 : Int) ≤ n by omega, Alt_iff, Need_iff, ltI_eq, leI_eq, eqI_eq, leN_eq, eqN_eq, decide_eq_true_eq, decide_eq_false_iff_not, decide_true, decide_false, true_and, and_true, Bool.true_eq_false, Bool.false_eq_true, false_implies, true_implies, implies_true, not_true_eq_false, not_false_eq_true, Bool.not_eq_true', Bool.not_eq_false']
    exact ⟨flatD_u8 acc true, hk⟩
  | succ f ih =>
    intro n acc h0 h64 h1 hl hK
    refine (sure0 hmix).roundX F10 noLoops [] [] [] [] [0,3] ?_
    rw [round10]
    by_cases hge : 128 ≤ n
    · have next : LSays Try.prog 0 (sub body10 [0,0,0,1,1]) (T10 (n / 128) (acc.length + 1)) (hp [.cells (acc.map u8v ++ [u8v (n % 128 + 128)]) 1 true]) K := by
        have := ih (n / 128) (acc ++ [n % 128 + 128]) (by omega) (by omega) (by rw [Int.pow_succ] at h1; omega) (by simp; omega) fun pre last he hl0 hl1 => by
          have := hK ((n % 128 + 128) :: pre) last (by rw [encN, if_pos (by omega), he]; rfl) hl0 hl1
          simpa [List.append_assoc] using this
        simpa using this
      have hF := flatD_u8 (acc ++ [n % 128 + 128]) true
      rw [List.map_append] at hF
      simp only [hge, byte10 n h0, next10 n h0 h64, Nat.zero_add, Nat.mul_one, List.length_map, Nat.le_refl, List.drop_zero, Alt_iff, Need_iff, ltI_eq, leI_eq, eqI_eq, leN_eq, eqN_eq, decide_eq_true_eq, decide_eq_false_iff_not, decide_true, decide_false, true_and, and_true, Bool.true_eq_false, Bool.false_eq_true, false_implies, true_implies, implies_true, not_true_eq_false, not_false_eq_true, Bool.not_eq_true', Bool.not_eq_false']
      rw [List.take_of_length_le (by simp)]
      exact ⟨by omega, by omega, hF, next⟩
    · have hk := hK [] n (by rw [encN, if_neg (by omega)]; rfl) h0 (by omega)
      rw [List.append_nil] at hk
      simp only [hge, Alt_iff, Need_iff, ltI_eq, leI_eq, eqI_eq, leN_eq, eqN_eq, decide_eq_true_eq, decide_eq_false_iff_not, decide_true, decide_false, true_and, and_true, Bool.true_eq_false, Bool.false_eq_true, false_implies, true_implies, implies_true, not_true_eq_false, not_false_eq_true, Bool.not_eq_true', Bool.not_eq_false']
      exact ⟨flatD_u8 acc true, hk⟩

theorem whole10 (n last : Int) (k : Nat) (cs : List Value) (K : Value → Heap → Prop) :
  funX Try.prog S0 (gcLKX (at0 []) (at0 [.tmp 3 1]) 0 (cutLK [⟨[0,0,1,1], T10 n 0, hp [.cells [] 1 true], fun K => K (.exit 0) (T10 last k) (hp [.cells cs 1 true])⟩])) F10 body10 Try.f30 [] [.tmp 0 1] [.int .u64 n] (hp []) K = (
FlatD [] (hp [Blk.cells [] 1 true]) ∧
  tmps 19 [(0, Value.int IntKind.u64 n), (3, Value.slice (some { block := 0, off := 0, spot := some 1 : Addr }) 0 0)] =
      tmps 19
        [(0, Value.int IntKind.u64 n), (3, Value.slice (some { block := 0, off := 0, spot := some 1 : Addr }) 0 0)] ∧
    hp [Blk.cells [] 1 true] = hp [Blk.cells [] 1 true] ∧
      Need (leN (0 + k * 1) cs.length)
        (Need (leN ((k + 1) * 1) 1099511627776)
          (Need (leN (k + 1) 1099511627776)
            (K (Value.slice (some { block := 0, off := 0, spot := some 1 : Addr }) (k + 1) (k + 1))
              (hp
                [Blk.cells (List.take (k * 1) (List.drop 0 cs) ++ [Value.int IntKind.u8 (wr IntKind.u8 last)]) 1
                    true]))))) := by kernel_rfl

theorem put_says (hmix : Try.prog.follows .mixedOrders = true) (n : Int) (h0 : 0 ≤ n) (h1 : n < 18446744073709551616) :
    FunSays Try.prog 30 [.int .u64 n] (hp []) fun v h' => v = .slice (some ⟨0,0,some 1⟩) (enc n).length (enc n).length ∧ h' = hp [.cells ((enc n).map u8v) 1 true] := by
  obtain ⟨pre, last, he, hl0, hl1⟩ := encN_split 9 n h0 (by simp; omega)
  have hlen := enc_len n
  rw [enc, he] at hlen ⊢
  simp only [List.length_append, List.length_cons, List.length_nil, Nat.zero_add] at hlen
  have hL : Loops Try.prog body10 0 (cutLK [⟨[0,0,1,1], T10 n 0, hp [.cells [] 1 true], fun K => K (.exit 0) (T10 last pre.length) (hp [.cells (pre.map u8v) 1 true])⟩]) := Loops.none.more _ fun K hK => by
    show LSays Try.prog _ (sub body10 [0,0,0,1,1]) _ _ _
    refine put_loop hmix K 9 n [] h0 h1 (by simp; omega) (by simp) fun pre' last' he' _ _ => ?_
    rw [he] at he'
    obtain ⟨rfl, e⟩ := List.append_inj' he' rfl
    injection e with e
    subst e
    exact hK
  have hF := flatD_u8 (pre ++ [last]) true
  rw [List.map_append] at hF
  have hw : wr .u8 last = last := by rw [wr_eq]; simp [IntKind.wrap, IntKind.bits, IntKind.signed]; omega
  refine (sure0 hmix).funX F10 body10 [] [.tmp 0 1] Try.func30 rfl (hL.gcX (at0 []) (at0 [.tmp 3 1])) ?_
  rw [whole10, hw]
  simp only [Nat.zero_add, Nat.mul_one, List.length_map, Nat.le_refl, List.drop_zero, Alt_iff, Need_iff, ltI_eq, leI_eq, eqI_eq, leN_eq, eqN_eq, decide_eq_true_eq, decide_eq_false_iff_not, decide_true, decide_false, true_and, and_true, Bool.true_eq_false, Bool.false_eq_true, false_implies, true_implies, implies_true, not_true_eq_false, not_false_eq_true, Bool.not_eq_true', Bool.not_eq_false']
  rw [List.take_of_length_le (by simp)]
  and_intros <;> first | exact hF | exact flatD_u8 [] true | exact flatD_u8 pre true | omega | rfl | (simp [u8v]; done)
noncomputable def putC : Ctr where
  pre := fun args blks => match args, blks with
    | [.int .u64 n], [] => Need (leI 0 n) (Need (leI n 18446744073709551615) True)
    | _, _ => False
  val := fun args blks => match args, blks with
    | [.int .u64 n], [] => .slice (some ⟨0,0,some 1⟩) (enc n).length (enc n).length
    | _, _ => .slice none 0 0
  new := fun args blks => match args, blks with
    | [.int .u64 n], [] => [.cells ((enc n).map u8v) 1 true]
    | _, _ => []
theorem putC_of {f : FuncId} (hs : ∀ n : Int, 0 ≤ n → n < 18446744073709551616 → FunSays Try.prog f [.int .u64 n] (hp []) fun v h' => v = .slice (some ⟨0,0,some 1⟩) (enc n).length (enc n).length ∧ h' = hp [.cells ((enc n).map u8v) 1 true]) : putC.Holds Try.prog f := by
  intro args blks hf hp
  simp only [putC] at hp ⊢
  split at hp
  · rename_i n
    simp only [Alt_iff, Need_iff, ltI_eq, leI_eq, eqI_eq, leN_eq, eqN_eq, decide_eq_true_eq, decide_eq_false_iff_not, decide_true, decide_false, true_and, and_true, Bool.true_eq_false, Bool.false_eq_true, false_implies, true_implies, implies_true, not_true_eq_false, not_false_eq_true, Bool.not_eq_true', Bool.not_eq_false'] at hp
    exact ⟨⟨⟨flat_u8s _⟩, trivial⟩, hs n hp.1 (by omega)⟩
  · exact hp.elim
theorem putC_holds (hmix : Try.prog.follows .mixedOrders = true) : putC.Holds Try.prog 30 := putC_of (put_says hmix)
end Go.Proofs.Ytdpfmaimhimfcaa

namespace Go.Proofs.Ytdpfmaimhimfcaa
open Go.RowKit Go.Proofs.Ytdpfmaimhimfcaa.AM
set_option maxRecDepth 100000
set_option maxHeartbeats 4000000
noncomputable def body12 : Code := (Try.f45.body).getD .skip
def F12 : List Nat → Option (List Nat) := fun p => match p with
  | [1] => some [0]
  | [1, 1] => some [0, 3]
  | [1, 0, 0, 0, 0, 1, 1] => some [0, 3, 5]
  | [1, 1, 0, 0, 0, 0, 1, 1] => some [0, 3]
  | [1, 0, 0, 0, 1, 1] => some [0, 3]
  | [1, 0, 1, 0, 0, 0, 1, 1] => some [0, 3]
  | [1, 1, 1] => some [0, 3]
  | [1, 1, 1, 1] => some [2]
  | _ => none
noncomputable def T12 (n : Int) (k : Nat) : List Value := tmps 20 [(0, .int .u64 n), (3, .slice (some ⟨0,0,some 1⟩) k k)]

theorem round12 (cs : List Value) (n : Int) (k : Nat) (K : Post) :
  roundX Try.prog S0 noLoop F12 body12 0 [] [] [] [] [0,3] [0,0,0,1,1] (T12 n k) (hp [.cells cs 1 true]) K = (
Alt (leI 128 n)
  (Need (leN (0 + k * 1) cs.length)
    (Need (leN ((k + 1) * 1) 1099511627776)
      (Need (leN (k + 1) 1099511627776)
        (K AE.normal
          (tmps 20
            [(0, Value.int IntKind.u64 (wr IntKind.u64 (n.tdiv 128))),
              (3, Value.slice (some { block := 0, off := 0, spot := some 1 : Addr }) (k + 1) (k + 1))])
          (hp
            [Blk.cells
                (List.take (k * 1) (List.drop 0 cs) ++
                  [Value.int IntKind.u8 (wr IntKind.u8 (wr IntKind.u8 (n.tmod 128) + 128))])
                1 true])))))
  (K (AE.exit 0)
    (tmps 20
      [(0, Value.int IntKind.u64 n), (3, Value.slice (some { block := 0, off := 0, spot := some 1 : Addr }) k k)])
    (hp [Blk.cells cs 1 true]))) := by kernel_rfl

theorem byte12 (n : Int) (h0 : 0 ≤ n) : wr .u8 (wr .u8 (n.tmod 128) + 128) = n % 128 + 128 := by
  rw [Int.tmod_eq_emod_of_nonneg h0]
  simp only [wr_eq]
  simp [IntKind.wrap, IntKind.bits, IntKind.signed]; omega
theorem next12 (n : Int) (h0 : 0 ≤ n) (h1 : n < 18446744073709551616) : wr .u64 (n.tdiv 128) = n / 128 := by
  rw [Int.tdiv_eq_ediv_of_nonneg h0, wr_eq]
  simp [IntKind.wrap, IntKind.bits, IntKind.signed]; omega
theorem rput_loop (hmix : Try.prog.follows .mixedOrders = true) (K : Post) : ∀ (f : Nat) (n : Int) (acc : List Int), 0 ≤ n → n < 18446744073709551616 → n < 128 ^ (f + 1) → acc.length + f < 1000000 →
    (∀ pre last, encN f n = pre ++ [last] → 0 ≤ last → last < 128 → K (.exit 0) (T12 last (acc ++ pre).length) (hp [.cells ((acc ++ pre).map u8v) 1 true])) →
    LSays Try.prog 0 (sub body12 [0,0,0,1,1]) (T12 n acc.length) (hp [.cells (acc.map u8v) 1 true]) K := by
  intro f
  induction f with
  | zero =>
    intro n acc h0 h64 h1 hl hK
    have hlt : n < 128 := by simpa using h1
    have hk := hK [] n rfl h0 hlt
    rw [List.append_nil] at hk
    refine (sure0 hmix).roundX F12 noLoops [] [] [] [] [0,3] ?_
    rw [round12]
    simp only [show ¬ (128 : Int) ≤ n by omega, Alt_iff, Need_iff, ltI_eq, leI_eq, eqI_eq, leN_eq, eqN_eq, decide_eq_true_eq, decide_eq_false_iff_not, decide_true, decide_false, true_and, and_true, Bool.true_eq_false, Bool.false_eq_true, false_implies, true_implies, implies_true, not_true_eq_false, not_false_eq_true, Bool.not_eq_true', Bool.not_eq_false']
    exact ⟨flatD_u8 acc true, hk⟩
  | succ f ih =>
    intro n acc h0 h64 h1 hl hK
    refine (sure0 hmix).roundX F12 noLoops [] [] [] [] [0,3] ?_
    rw [round12]
    by_cases hge : 128 ≤ n
    · have next : LSays Try.prog 0 (sub body12 [0,0,0,1,1]) (T12 (n / 128) (acc.length + 1)) (hp [.cells (acc.map u8v ++ [u8v (n % 128 + 128)]) 1 true]) K := by
        have := ih (n / 128) (acc ++ [n % 128 + 128]) (by omega) (by omega) (by rw [Int.pow_succ] at h1; omega) (by simp; omega) fun pre last he hl0 hl1 => by
          have := hK ((n % 128 + 128) :: pre) last (by rw [encN, if_pos (by omega), he]; rfl) hl0 hl1
          simpa [List.append_assoc] using this
        simpa using this
      have hF := flatD_u8 (acc ++ [n % 128 + 128]) true
      rw [List.map_append] at hF
      simp only [hge, byte12 n h0, next12 n h0 h64, Nat.zero_add, Nat.mul_one, List.length_map, Nat.le_refl, List.drop_zero, Alt_iff, Need_iff, ltI_eq, leI_eq, eqI_eq, leN_eq, eqN_eq, decide_eq_true_eq, decide_eq_false_iff_not, decide_true, decide_false, true_and, and_true, Bool.true_eq_false, Bool.false_eq_true, false_implies, true_implies, implies_true, not_true_eq_false, not_false_eq_true, Bool.not_eq_true', Bool.not_eq_false']
      rw [List.take_of_length_le (by simp)]
      exact ⟨by omega, by omega, hF, next⟩
    · have hk := hK [] n (by rw [encN, if_neg (by omega)]; rfl) h0 (by omega)
      rw [List.append_nil] at hk
      simp only [hge, Alt_iff, Need_iff, ltI_eq, leI_eq, eqI_eq, leN_eq, eqN_eq, decide_eq_true_eq, decide_eq_false_iff_not, decide_true, decide_false, true_and, and_true, Bool.true_eq_false, Bool.false_eq_true, false_implies, true_implies, implies_true, not_true_eq_false, not_false_eq_true, Bool.not_eq_true', Bool.not_eq_false']
      exact ⟨flatD_u8 acc true, hk⟩

theorem whole12 (n last : Int) (k : Nat) (cs : List Value) (K : Value → Heap → Prop) :
  funX Try.prog S0 (gcLKX (at0 []) (at0 [.tmp 3 1]) 0 (cutLK [⟨[0,0,1,1], T12 n 0, hp [.cells [] 1 true], fun K => K (.exit 0) (T12 last k) (hp [.cells cs 1 true])⟩])) F12 body12 Try.f45 [] [.tmp 0 1] [.int .u64 n] (hp []) K = (
FlatD [] (hp [Blk.cells [] 1 true]) ∧
  tmps 20 [(0, Value.int IntKind.u64 n), (3, Value.slice (some { block := 0, off := 0, spot := some 1 : Addr }) 0 0)] =
      tmps 20
        [(0, Value.int IntKind.u64 n), (3, Value.slice (some { block := 0, off := 0, spot := some 1 : Addr }) 0 0)] ∧
    hp [Blk.cells [] 1 true] = hp [Blk.cells [] 1 true] ∧
      Need (leN (0 + k * 1) cs.length)
        (Need (leN ((k + 1) * 1) 1099511627776)
          (Need (leN (k + 1) 1099511627776)
            (K (Value.slice (some { block := 0, off := 0, spot := some 1 : Addr }) (k + 1) (k + 1))
              (hp
                [Blk.cells (List.take (k * 1) (List.drop 0 cs) ++ [Value.int IntKind.u8 (wr IntKind.u8 last)]) 1
                    true]))))) := by kernel_rfl

theorem rput_says (hmix : Try.prog.follows .mixedOrders = true) (n : Int) (h0 : 0 ≤ n) (h1 : n < 18446744073709551616) :
    FunSays Try.prog 45 [.int .u64 n] (hp []) fun v h' => v = .slice (some ⟨0,0,some 1⟩) (enc n).length (enc n).length ∧ h' = hp [.cells ((enc n).map u8v) 1 true] := by
  obtain ⟨pre, last, he, hl0, hl1⟩ := encN_split 9 n h0 (by simp; omega)
  have hlen := enc_len n
  rw [enc, he] at hlen ⊢
  simp only [List.length_append, List.length_cons, List.length_nil, Nat.zero_add] at hlen
  have hL : Loops Try.prog body12 0 (cutLK [⟨[0,0,1,1], T12 n 0, hp [.cells [] 1 true], fun K => K (.exit 0) (T12 last pre.length) (hp [.cells (pre.map u8v) 1 true])⟩]) := Loops.none.more _ fun K hK => by
    show LSays Try.prog _ (sub body12 [0,0,0,1,1]) _ _ _
    refine rput_loop hmix K 9 n [] h0 h1 (by simp; omega) (by simp) fun pre' last' he' _ _ => ?_
    rw [he] at he'
    obtain ⟨rfl, e⟩ := List.append_inj' he' rfl
    injection e with e
    subst e
    exact hK
  have hF := flatD_u8 (pre ++ [last]) true
  rw [List.map_append] at hF
  have hw : wr .u8 last = last := by rw [wr_eq]; simp [IntKind.wrap, IntKind.bits, IntKind.signed]; omega
  refine (sure0 hmix).funX F12 body12 [] [.tmp 0 1] Try.func45 rfl (hL.gcX (at0 []) (at0 [.tmp 3 1])) ?_
  rw [whole12, hw]
  simp only [Nat.zero_add, Nat.mul_one, List.length_map, Nat.le_refl, List.drop_zero, Alt_iff, Need_iff, ltI_eq, leI_eq, eqI_eq, leN_eq, eqN_eq, decide_eq_true_eq, decide_eq_false_iff_not, decide_true, decide_false, true_and, and_true, Bool.true_eq_false, Bool.false_eq_true, false_implies, true_implies, implies_true, not_true_eq_false, not_false_eq_true, Bool.not_eq_true', Bool.not_eq_false']
  rw [List.take_of_length_le (by simp)]
  and_intros <;> first | exact hF | exact flatD_u8 [] true | exact flatD_u8 pre true | omega | rfl | (simp [u8v]; done)
theorem rputC_holds (hmix : Try.prog.follows .mixedOrders = true) : putC.Holds Try.prog 45 := putC_of (rput_says hmix)
end Go.Proofs.Ytdpfmaimhimfcaa

namespace Go.Proofs.Ytdpfmaimhimfcaa
open Go.RowKit Go.Proofs.Ytdpfmaimhimfcaa.AM
set_option maxRecDepth 100000
set_option maxHeartbeats 4000000
noncomputable def body16 : Code := (Try.f43.body).getD .skip
def F16 : List Nat → Option (List Nat) := fun p => match p with
  | [1] => some [0]
  | [1, 1] => some [0, 5]
  | [1, 0, 1, 1] => some [0, 5, 6]
  | [1, 0, 0, 0, 1, 0, 1, 1] => some [0, 5, 6, 15]
  | [1, 1, 0, 0, 0, 1, 0, 1, 1] => some []
  | [1, 0, 0, 1, 0, 1, 1] => some [0, 5, 6]
  | [1, 0, 0, 1, 0, 0, 1, 0, 1, 1] => some [0, 5, 6, 7]
  | [1, 0, 1, 0, 0, 1, 0, 0, 1, 0, 1, 1] => some [0, 5, 6, 7, 29]
  | [1, 0, 1, 0, 1, 0, 0, 1, 0, 0, 1, 0, 1, 1] => some [2, 3, 4]
  | [1, 1, 0, 0, 1, 0, 0, 1, 0, 1, 1] => some [0, 5, 6, 7]
  | [1, 1, 1, 0, 0, 1, 0, 0, 1, 0, 1, 1] => some [0, 5, 6, 7]
  | [1, 0, 1, 1, 1, 0, 0, 1, 0, 0, 1, 0, 1, 1] => some [0, 5, 6, 7, 41]
  | [0, 1, 0, 1, 1, 1, 0, 0, 1, 0, 0, 1, 0, 1, 1] => some [0, 5, 6]
  | [1, 1, 1, 1, 0, 0, 1, 0, 0, 1, 0, 1, 1] => some [5, 6, 7]
  | [1, 0, 1, 1, 1, 1, 0, 0, 1, 0, 0, 1, 0, 1, 1] => some [5, 6, 47]
  | [1, 0, 1, 0, 1, 1, 1, 1, 0, 0, 1, 0, 0, 1, 0, 1, 1] => some [2, 3, 4]
  | [1, 1, 1, 1, 1, 0, 0, 1, 0, 0, 1, 0, 1, 1] => some [5, 6]
  | [1, 1, 1, 1, 1, 1, 0, 0, 1, 0, 0, 1, 0, 1, 1] => some [2, 3, 4]
  | [1, 1, 0, 0, 1, 0, 1, 1] => some [0, 5, 6]
  | [1, 1, 1] => some []
  | [1, 1, 1, 1] => some [2, 3, 4]
  | _ => none
noncomputable def T16 (s : Value) (i : Nat) (n : Int) : List Value := tmps 51 [(0, s), (5, .int .u64 n), (6, .int .i64 i)]
noncomputable def T16r (n : Int) (k : Nat) (b : Bool) : List Value := tmps 51 [(2, .int .u64 n), (3, .int .i64 k), (4, .bool b)]

theorem round16 (cs : List Value) (own : Bool) (o : Nat) (sp : Option Nat) (len cap i : Nat) (n : Int) (K : Post) :
  roundK Try.prog S0 noLoop F16 body16 1 [0,5,6] [0,0,1,0,1,1] (T16 (.slice (some ⟨0,o,sp⟩) len cap) i n) (hp [.cells cs 1 own]) K = (
Alt (ltI (↑i : Int) (↑len : Int))
  (Alt (ltI (↑i : Int) 10)
    (Need (ltI (↑i : Int) (↑len : Int))
      (Need (isInt IntKind.u8 ((getO cs (o + (↑i : Int).toNat * 1)).getD undef))
        (Alt (eqI (↑i : Int) 9)
          (Alt (ltI 1 (wr IntKind.u64 ((intV ((getO cs (o + (↑i : Int).toNat * 1)).getD undef)).tmod 128)))
            (K AE.ret (tmps 51 [(2, Value.int IntKind.u64 0), (3, Value.int IntKind.i64 0), (4, Value.bool false)])
              (hp [Blk.cells cs 1 own]))
            (Need (leI 0 (wr IntKind.u64 (wr IntKind.i64 (7 * (↑i : Int)))))
              (Need (ltI (↑i : Int) (↑len : Int))
                (Need (isInt IntKind.u8 ((getO cs (o + (↑i : Int).toNat * 1)).getD undef))
                  (Alt (leI 128 (intV ((getO cs (o + (↑i : Int).toNat * 1)).getD undef)))
                    (K AE.normal
                      (tmps 51
                        [(0, Value.slice (some { block := 0, off := o, spot := sp : Addr }) len cap),
                          (5,
                            Value.int IntKind.u64
                              (bitsW BinOp.or IntKind.u64 n
                                (wr IntKind.u64
                                  (wr IntKind.u64 ((intV ((getO cs (o + (↑i : Int).toNat * 1)).getD undef)).tmod 128) *
                                    2 ^ min (wr IntKind.u64 (wr IntKind.i64 (7 * (↑i : Int)))).toNat 64)))),
                          (6, Value.int IntKind.i64 (wr IntKind.i64 ((↑i : Int) + 1)))])
                      (hp [Blk.cells cs 1 own]))
                    (Alt (eqI (wr IntKind.u64 ((intV ((getO cs (o + (↑i : Int).toNat * 1)).getD undef)).tmod 128)) 0)
                      (Alt (ltI 0 (↑i : Int))
                        (K AE.ret
                          (tmps 51 [(2, Value.int IntKind.u64 0), (3, Value.int IntKind.i64 0), (4, Value.bool false)])
                          (hp [Blk.cells cs 1 own]))
                        (K AE.ret
                          (tmps 51
                            [(2,
                                Value.int IntKind.u64
                                  (bitsW BinOp.or IntKind.u64 n
                                    (wr IntKind.u64
                                      (wr IntKind.u64
                                          ((intV ((getO cs (o + (↑i : Int).toNat * 1)).getD undef)).tmod 128) *
                                        2 ^ min (wr IntKind.u64 (wr IntKind.i64 (7 * (↑i : Int)))).toNat 64)))),
                              (3, Value.int IntKind.i64 (wr IntKind.i64 ((↑i : Int) + 1))), (4, Value.bool true)])
                          (hp [Blk.cells cs 1 own])))
                      (K AE.ret
                        (tmps 51
                          [(2,
                              Value.int IntKind.u64
                                (bitsW BinOp.or IntKind.u64 n
                                  (wr IntKind.u64
                                    (wr IntKind.u64
                                        ((intV ((getO cs (o + (↑i : Int).toNat * 1)).getD undef)).tmod 128) *
                                      2 ^ min (wr IntKind.u64 (wr IntKind.i64 (7 * (↑i : Int)))).toNat 64)))),
                            (3, Value.int IntKind.i64 (wr IntKind.i64 ((↑i : Int) + 1))), (4, Value.bool true)])
                        (hp [Blk.cells cs 1 own]))))))))
          (Need (leI 0 (wr IntKind.u64 (wr IntKind.i64 (7 * (↑i : Int)))))
            (Need (ltI (↑i : Int) (↑len : Int))
              (Need (isInt IntKind.u8 ((getO cs (o + (↑i : Int).toNat * 1)).getD undef))
                (Alt (leI 128 (intV ((getO cs (o + (↑i : Int).toNat * 1)).getD undef)))
                  (K AE.normal
                    (tmps 51
                      [(0, Value.slice (some { block := 0, off := o, spot := sp : Addr }) len cap),
                        (5,
                          Value.int IntKind.u64
                            (bitsW BinOp.or IntKind.u64 n
                              (wr IntKind.u64
                                (wr IntKind.u64 ((intV ((getO cs (o + (↑i : Int).toNat * 1)).getD undef)).tmod 128) *
                                  2 ^ min (wr IntKind.u64 (wr IntKind.i64 (7 * (↑i : Int)))).toNat 64)))),
                        (6, Value.int IntKind.i64 (wr IntKind.i64 ((↑i : Int) + 1)))])
                    (hp [Blk.cells cs 1 own]))
                  (Alt (eqI (wr IntKind.u64 ((intV ((getO cs (o + (↑i : Int).toNat * 1)).getD undef)).tmod 128)) 0)
                    (Alt (ltI 0 (↑i : Int))
                      (K AE.ret
                        (tmps 51 [(2, Value.int IntKind.u64 0), (3, Value.int IntKind.i64 0), (4, Value.bool false)])
                        (hp [Blk.cells cs 1 own]))
                      (K AE.ret
                        (tmps 51
                          [(2,
                              Value.int IntKind.u64
                                (bitsW BinOp.or IntKind.u64 n
                                  (wr IntKind.u64
                                    (wr IntKind.u64
                                        ((intV ((getO cs (o + (↑i : Int).toNat * 1)).getD undef)).tmod 128) *
                                      2 ^ min (wr IntKind.u64 (wr IntKind.i64 (7 * (↑i : Int)))).toNat 64)))),
                            (3, Value.int IntKind.i64 (wr IntKind.i64 ((↑i : Int) + 1))), (4, Value.bool true)])
                        (hp [Blk.cells cs 1 own])))
                    (K AE.ret
                      (tmps 51
                        [(2,
                            Value.int IntKind.u64
                              (bitsW BinOp.or IntKind.u64 n
                                (wr IntKind.u64
                                  (wr IntKind.u64 ((intV ((getO cs (o + (↑i : Int).toNat * 1)).getD undef)).tmod 128) *
                                    2 ^ min (wr IntKind.u64 (wr IntKind.i64 (7 * (↑i : Int)))).toNat 64)))),
                          (3, Value.int IntKind.i64 (wr IntKind.i64 ((↑i : Int) + 1))), (4, Value.bool true)])
                      (hp [Blk.cells cs 1 own]))))))))))
    (K (AE.exit 0) (tmps 51 []) (hp [Blk.cells cs 1 own])))
  (K (AE.exit 0) (tmps 51 []) (hp [Blk.cells cs 1 own]))) := by kernel_rfl

theorem round16z (K : Post) :
  roundK Try.prog S0 noLoop F16 body16 0 [0,5,6] [0,0,1,0,1,1] (T16 (.slice none 0 0) 0 0) (hp []) K = (
K (AE.exit 0) (tmps 51 []) (hp [])) := by kernel_rfl

theorem rget_ten (hmix : Try.prog.follows .mixedOrders = true) (cs : List Value) (own : Bool) (hc : FlatL cs) (o : Nat) (sp : Option Nat) (len cap : Nat) (acc : Int) (K : Post) (hK : K (.exit 0) (tmps 51 []) (hp [.cells cs 1 own])) :
    LSays Try.prog 1 (sub body16 [0,0,1,0,1,1]) (T16 (.slice (some ⟨0,o,sp⟩) len cap) 10 acc) (hp [.cells cs 1 own]) K := by
  have hF : FlatH (hp [.cells cs 1 own]) := FlatH.hp ⟨hc, trivial⟩
  refine (sure0 hmix).round F16 noLoops [0,5,6] ?_
  rw [round16]
  simp only [hF, show ¬ ((10 : Nat) : Int) < 10 by omega, Alt_iff, Need_iff, ltI_eq, leI_eq, eqI_eq, leN_eq, eqN_eq, decide_eq_true_eq, decide_eq_false_iff_not, decide_true, decide_false, true_and, and_true, Bool.true_eq_false, Bool.false_eq_true, false_implies, true_implies, implies_true, not_true_eq_false, not_false_eq_true, Bool.not_eq_true', Bool.not_eq_false']
  exact ⟨fun _ => hK, fun _ => hK⟩
theorem rget_loop (hmix : Try.prog.follows .mixedOrders = true) (l : List Int) (cs : List Value) (own : Bool) (o : Nat) (sp : Option Nat) (cap : Nat) (hB : BSl cs o l) (K : Post) :
    ∀ (t : List Int) (i : Nat) (acc : Int), l.drop i = t → i ≤ 9 → i ≤ l.length → 0 ≤ acc → acc < 128 ^ i →
    (match decL i t with
      | some r => K .ret (T16r (acc + r.1 * 128 ^ i) (i + r.2) true) (hp [.cells cs 1 own])
      | none => K (.exit 0) (tmps 51 []) (hp [.cells cs 1 own]) ∧ K .ret (T16r 0 0 false) (hp [.cells cs 1 own])) →
    LSays Try.prog 1 (sub body16 [0,0,1,0,1,1]) (T16 (.slice (some ⟨0,o,sp⟩) l.length cap) i acc) (hp [.cells cs 1 own]) K := by
  have hF : FlatH (hp [.cells cs 1 own]) := FlatH.hp ⟨hB.flat, trivial⟩
  have hb := hB.ok
  have hlen := hB.short
  intro t
  induction t with
  | nil =>
    intro i acc ht hi hil h0 h1 hK
    have hge : ¬ ((i : Int) < (l.length : Int)) := by have := List.drop_eq_nil_iff.1 ht; omega
    refine (sure0 hmix).round F16 noLoops [0,5,6] ?_
    rw [round16]
    simp only [hge, hF, Alt_iff, Need_iff, ltI_eq, leI_eq, eqI_eq, leN_eq, eqN_eq, decide_eq_true_eq, decide_eq_false_iff_not, decide_true, decide_false, true_and, and_true, Bool.true_eq_false, Bool.false_eq_true, false_implies, true_implies, implies_true, not_true_eq_false, not_false_eq_true, Bool.not_eq_true', Bool.not_eq_false']
    exact hK.1
  | cons c t ih =>
    intro i acc ht hi hil h0 h1 hK
    have hlt : i < l.length := by
      rcases Nat.lt_or_ge i l.length with h | h
      · exact h
      · rw [List.drop_eq_nil_of_le h] at ht; cases ht
    have hd : l.drop (i + 1) = t := by rw [← List.drop_drop, ht]; rfl
    have hgc0 : l[i]? = some c := by
      have := congrArg List.head? ht
      rw [List.head?_drop] at this; exact this
    have hc := hb c (List.mem_of_getElem? hgc0)
    have hgc : getO cs (o + (i : Int).toNat * 1) = some (.int .u8 c) := by
      rw [Nat.mul_one, Int.toNat_natCast]; exact hB.cell i c hgc0
    have hl1 : (i : Int) < (l.length : Int) := by omega
    have hw1 : wr .i64 ((i : Int) + 1) = ((i + 1 : Nat) : Int) := by
      rw [wr_eq]; simp [IntKind.wrap, IntKind.bits, IntKind.signed]; omega
    have hw7 : wr .i64 (7 * (i : Int)) = 7 * (i : Int) := by
      rw [wr_eq]; simp [IntKind.wrap, IntKind.bits, IntKind.signed]; omega
    have hw7u : wr .u64 (7 * (i : Int)) = 7 * (i : Int) := by
      rw [wr_eq]; simp [IntKind.wrap, IntKind.bits, IntKind.signed]; omega
    have hcm : wr .u64 (c.tmod 128) = c % 128 := by
      rw [Int.tmod_eq_emod_of_nonneg hc.1, wr_eq]; simp [IntKind.wrap, IntKind.bits, IntKind.signed]; omega
    refine (sure0 hmix).round F16 noLoops [0,5,6] ?_
    rw [round16]
    simp only [hl1, hF, show (i : Int) < 10 by omega, hgc, Option.getD_some, isInt, intV, kindEq, hw1, hw7, hw7u, hcm, show (0:Int) ≤ 7 * (i : Int) by omega, Alt_iff, Need_iff, ltI_eq, leI_eq, eqI_eq, leN_eq, eqN_eq, decide_eq_true_eq, decide_eq_false_iff_not, decide_true, decide_false, true_and, and_true, Bool.true_eq_false, Bool.false_eq_true, false_implies, true_implies, implies_true, not_true_eq_false, not_false_eq_true, Bool.not_eq_true', Bool.not_eq_false']
    generalize hX : bitsW .or .u64 acc _ = X
    have hX' : X = Go.bits .or .u64 acc (shl .u64 (c % 128) (7 * (i : Int))) := by
      rw [← hX]; simp only [bitsW, wr_eq]; rfl
    have stop : ((i = 9 ∧ c > 1) ∨ (i > 0 ∧ c = 0)) → K .ret (T16r 0 0 false) (hp [.cells cs 1 own]) := fun h => by
      rw [decL, if_pos h] at hK; exact hK.2
    have stop0 : ((i = 9 ∧ c > 1) ∨ (i > 0 ∧ c = 0)) → K (.exit 0) (tmps 51 []) (hp [.cells cs 1 own]) := fun h => by
      rw [decL, if_pos h] at hK; exact hK.1
    have val : ¬ ((i = 9 ∧ c % 128 > 1)) → X = acc + c % 128 * 128 ^ i ∧ 0 ≤ acc + c % 128 * 128 ^ i ∧ acc + c % 128 * 128 ^ i < 128 ^ (i + 1) := fun hn => by
      obtain ⟨p1, p2, p3, p4⟩ := put7 acc (c % 128) i hi h0 h1 (by omega) (by omega) (fun e => by omega)
      exact ⟨hX'.trans p1, p2, p3⟩
    have done : ¬ ((i = 9 ∧ c > 1) ∨ (i > 0 ∧ c = 0)) → c < 128 → K AE.ret (T16r X (i + 1) true) (hp [.cells cs 1 own]) := fun hn hc8 => by
      rw [decL, if_neg hn, if_pos hc8] at hK
      rw [(val (by omega)).1, show c % 128 = c by omega]; exact hK
    have more : ¬ (i = 9 ∧ c % 128 > 1) → 128 ≤ c → LSays Try.prog 1 (sub body16 [0,0,1,0,1,1]) (T16 (.slice (some ⟨0,o,sp⟩) l.length cap) (i + 1) X) (hp [.cells cs 1 own]) K := fun hn hc8 => by
      by_cases hi8 : i ≤ 8
      · obtain ⟨p1, p2, p3⟩ := val hn
        rw [p1]
        refine ih (i + 1) _ hd (by omega) (by omega) p2 p3 ?_
        rw [decL, if_neg (by omega), if_neg (by omega)] at hK
        cases hdec : decL (i + 1) t with
        | none => rw [hdec] at hK; exact hK
        | some r =>
          rw [hdec] at hK
          simp only [Option.map_some] at hK ⊢
          have e1 : acc + c % 128 * 128 ^ i + r.1 * 128 ^ (i + 1) = acc + (c % 128 + 128 * r.1) * 128 ^ i := by
            rw [Int.add_mul, Int.pow_succ, ← Int.mul_assoc, Int.mul_comm 128 r.1, Int.mul_assoc r.1 128, Int.mul_comm 128 (128 ^ i), ← Int.mul_assoc, Int.add_assoc]
          rw [e1, show i + 1 + r.2 = i + (r.2 + 1) by omega]
          exact hK
      · obtain rfl : i = 9 := by omega
        exact rget_ten hmix cs own hB.flat o sp l.length cap X K (stop0 (.inl ⟨rfl, by omega⟩))
    refine ⟨fun h9 => ⟨fun hd1 => stop (.inl ⟨by omega, by omega⟩), fun hd1 => ⟨fun hc8 => more (by omega) hc8, fun hc8 => ⟨fun hz => ⟨fun hi0 => stop (.inr ⟨by omega, by omega⟩), fun hi0 => done (by omega) (by omega)⟩, fun hz => done (by omega) (by omega)⟩⟩⟩,
      fun h9 => ⟨fun hc8 => more (by omega) hc8, fun hc8 => ⟨fun hz => ⟨fun hi0 => stop (.inr ⟨by omega, by omega⟩), fun hi0 => done (by omega) (by omega)⟩, fun hz => done (by omega) (by omega)⟩⟩⟩
noncomputable def LK16 (cs : List Value) (own : Bool) (o : Nat) (sp : Option Nat) (len cap : Nat) (res : Option (Int × Nat)) : LoopK := fun p t h K => match p with
  | [0, 1, 0, 1, 1] => t = T16 (.slice (some ⟨0,o,sp⟩) len cap) 0 0 ∧ h = hp [.cells cs 1 own] ∧ match res with
    | some r => K .ret (T16r r.1 r.2 true) h
    | none => K (.exit 0) (tmps 51 []) h ∧ K .ret (T16r 0 0 false) h
  | _ => False
noncomputable def LK16z : LoopK := fun p t h K => match p with
  | [0, 1, 0, 1, 1] => t = T16 (.slice none 0 0) 0 0 ∧ h = hp [] ∧ K (.exit 0) (tmps 51 []) h
  | _ => False

theorem whole16s (cs : List Value) (own : Bool) (o : Nat) (sp : Option Nat) (len cap : Nat) (v : Int) (m : Nat) (K : Value → Heap → Prop) :
  funK Try.prog S0 (gcLK 1 (LK16 cs own o sp len cap (some (v, m)))) F16 body16 Try.f43 [.slice (some ⟨0,o,sp⟩) len cap] (hp [.cells cs 1 own]) K = (
FlatH (hp [Blk.cells cs 1 own]) ∧
  tmps 51
        [(0, Value.slice (some { block := 0, off := o, spot := sp : Addr }) len cap), (5, Value.int IntKind.u64 0),
          (6, Value.int IntKind.i64 0)] =
      tmps 51
        [(0, Value.slice (some { block := 0, off := o, spot := sp : Addr }) len cap), (5, Value.int IntKind.u64 0),
          (6, Value.int IntKind.i64 0)] ∧
    hp [Blk.cells cs 1 own] = hp [Blk.cells cs 1 own] ∧
      K (Value.tuple #[Value.int IntKind.u64 (v, m).fst, Value.int IntKind.i64 (↑(v, m).snd : Int), Value.bool true])
        (hp [Blk.cells cs 1 own])) := by kernel_rfl

theorem whole16n (cs : List Value) (own : Bool) (o : Nat) (sp : Option Nat) (len cap : Nat) (K : Value → Heap → Prop) :
  funK Try.prog S0 (gcLK 1 (LK16 cs own o sp len cap none)) F16 body16 Try.f43 [.slice (some ⟨0,o,sp⟩) len cap] (hp [.cells cs 1 own]) K = (
FlatH (hp [Blk.cells cs 1 own]) ∧
  tmps 51
        [(0, Value.slice (some { block := 0, off := o, spot := sp : Addr }) len cap), (5, Value.int IntKind.u64 0),
          (6, Value.int IntKind.i64 0)] =
      tmps 51
        [(0, Value.slice (some { block := 0, off := o, spot := sp : Addr }) len cap), (5, Value.int IntKind.u64 0),
          (6, Value.int IntKind.i64 0)] ∧
    hp [Blk.cells cs 1 own] = hp [Blk.cells cs 1 own] ∧
      K (Value.tuple #[Value.int IntKind.u64 0, Value.int IntKind.i64 0, Value.bool false]) (hp [Blk.cells cs 1 own]) ∧
        K (Value.tuple #[Value.int IntKind.u64 0, Value.int IntKind.i64 0, Value.bool false]) (hp [Blk.cells cs 1 own])) := by kernel_rfl

theorem whole16z (K : Value → Heap → Prop) :
  funK Try.prog S0 (gcLK 0 LK16z) F16 body16 Try.f43 [.slice none 0 0] (hp []) K = (
FlatH (hp []) ∧
  tmps 51 [(0, Value.slice none 0 0), (5, Value.int IntKind.u64 0), (6, Value.int IntKind.i64 0)] =
      tmps 51 [(0, Value.slice none 0 0), (5, Value.int IntKind.u64 0), (6, Value.int IntKind.i64 0)] ∧
    hp [] = hp [] ∧ K (Value.tuple #[Value.int IntKind.u64 0, Value.int IntKind.i64 0, Value.bool false]) (hp [])) := by kernel_rfl

theorem rget_says (hmix : Try.prog.follows .mixedOrders = true) (l : List Int) (cs : List Value) (own : Bool) (o : Nat) (sp : Option Nat) (cap : Nat) (hB : BSl cs o l) :
    FunSays Try.prog 43 [.slice (some ⟨0,o,sp⟩) l.length cap] (hp [.cells cs 1 own]) fun v h' => v = getV (dec l) ∧ h' = hp [.cells cs 1 own] := by
  have hF : FlatH (hp [.cells cs 1 own]) := FlatH.hp ⟨hB.flat, trivial⟩
  have hL : Loops Try.prog body16 1 (LK16 cs own o sp l.length cap (dec l)) := fun p t h K hk => by
    unfold LK16 at hk
    split at hk
    · obtain ⟨rfl, rfl, hk⟩ := hk
      show LSays Try.prog _ (sub body16 [0,0,1,0,1,1]) _ _ _
      refine rget_loop hmix l cs own o sp cap hB K l 0 0 rfl (by omega) (by omega) (by omega) (by simp) ?_
      unfold dec at hk
      cases hd : decL 0 l with
      | none => rw [hd] at hk; exact hk
      | some r =>
        rw [hd] at hk
        simpa using hk
    · exact hk.elim
  refine (sure0 hmix).fun F16 body16 Try.func43 rfl hL.gc ?_
  cases hd : dec l with
  | none => rw [whole16n]; and_intros <;> first | exact hF | rfl
  | some r =>
    obtain ⟨v, m⟩ := r
    rw [whole16s]; and_intros <;> first | exact hF | rfl
theorem rget_nil (hmix : Try.prog.follows .mixedOrders = true) : FunSays Try.prog 43 [.slice none 0 0] (hp []) fun v h' => v = getV none ∧ h' = hp [] := by
  have hL : Loops Try.prog body16 0 LK16z := fun p t h K hk => by
    unfold LK16z at hk
    split at hk
    · obtain ⟨rfl, rfl, hk⟩ := hk
      show LSays Try.prog _ (sub body16 [0,0,1,0,1,1]) _ _ _
      refine (sure0 hmix).round F16 noLoops [0,5,6] ?_
      rw [round16z]
      exact ⟨FlatH.empty, hk⟩
    · exact hk.elim
  refine (sure0 hmix).fun F16 body16 Try.func43 rfl hL.gc ?_
  rw [whole16z]
  and_intros <;> first | exact FlatH.empty | rfl
theorem rgetC_holds (hmix : Try.prog.follows .mixedOrders = true) : getC.Holds Try.prog 43 := by
  intro args blks hf hp
  refine ⟨trivial, ?_⟩
  simp only [getC] at hp ⊢
  split at hp
  · obtain ⟨l, rfl, hc, hB⟩ := hp
    simp only [hB.bytesAt, List.append_nil]
    exact rget_says hmix l _ _ _ _ _ hB
  · exact rget_nil hmix
  · exact hp.elim
end Go.Proofs.Ytdpfmaimhimfcaa

namespace Go.Proofs.Ytdpfmaimhimfcaa
open Go.RowKit Go.Proofs.Ytdpfmaimhimfcaa.AM
set_option maxRecDepth 100000
set_option maxHeartbeats 4000000
noncomputable def S1 : Book := bookOf [(51, getC), (30, putC), (45, putC), (43, getC)]
theorem sure1 (hmix : Try.prog.follows .mixedOrders = true) : Sure Try.prog S1 := ⟨hmix, plain, bookOf_ok ⟨getC_holds hmix, putC_holds hmix, rputC_holds hmix, rgetC_holds hmix, trivial⟩⟩
/-- a text's bytes -/
def bytesS (s : ByteArray) : List Int := s.data.toList.map fun b => (b.toNat : Int)
/-- the text of these bytes -/
def ofB (l : List Int) : ByteArray := ⟨(l.map fun c => UInt8.ofNat c.toNat).toArray⟩
theorem bytesS_len (s : ByteArray) : (bytesS s).length = s.size := by simp [bytesS]
theorem bytesS_ok (s : ByteArray) : Bytes (bytesS s) := fun x hx => by
  obtain ⟨b, _, rfl⟩ := List.mem_map.1 hx
  have := b.toNat_lt
  omega
theorem cells_str (s : ByteArray) : (List.take s.size s.data.toList).map (fun b => Value.int IntKind.u8 (b.toNat : Int)) = (bytesS s).map u8v := by
  rw [List.take_of_length_le (by simp)]
  simp [bytesS, u8v, Function.comp_def]
theorem strOf_u8 : ∀ l : List Int, strOf (l.map u8v) = some (l.map fun c => UInt8.ofNat c.toNat) := by
  intro l
  induction l with
  | nil => rfl
  | cons c l ih => simp only [List.map_cons, u8v, strOf] at ih ⊢; rw [ih]; rfl
theorem BSl.take {cs : List Value} {o : Nat} {l : List Int} (h : BSl cs o l) (a n : Nat) (hn : a + n ≤ l.length) : (cs.drop (o + a)).take n = ((l.drop a).take n).map u8v ∧ o + a + n ≤ max (o + a) cs.length := by
  have hi : ∀ j, j < n → cs[o + a + j]? = some (u8v ((l.drop a).getD j 0)) := fun j hj => by
    have hlt : a + j < l.length := by omega
    have := h.cell (a + j) l[a + j] (List.getElem?_eq_getElem hlt)
    rw [getO_eq, ← Nat.add_assoc] at this
    rw [this, List.getD_eq_getElem?_getD, List.getElem?_drop, List.getElem?_eq_getElem hlt]; rfl
  refine ⟨List.ext_getElem? fun j => ?_, ?_⟩
  · rw [List.getElem?_map, List.getElem?_take, List.getElem?_take]
    by_cases hj : j < n
    · rw [if_pos hj, if_pos hj, List.getElem?_drop, hi j hj]
      have hlt : a + j < l.length := by omega
      rw [List.getD_eq_getElem?_getD, List.getElem?_drop, List.getElem?_eq_getElem hlt]; rfl
    · rw [if_neg hj, if_neg hj]; rfl
  · rcases Nat.eq_zero_or_pos n with rfl | hp
    · omega
    · have := hi (n - 1) (by omega)
      have := (List.getElem?_eq_some_iff.1 this).1
      omega
noncomputable def body11 : Code := (Try.f29.body).getD .skip
def F11 : List Nat → Option (List Nat) := fun p => match p with
  | [1] => some [0]
  | [1, 1] => some [2]
  | _ => none
noncomputable def body13 : Code := (Try.f37.body).getD .skip
def F13 : List Nat → Option (List Nat) := fun p => match p with
  | [1] => some [0]
  | [1, 1] => some [2]
  | _ => none
noncomputable def body17 : Code := (Try.f54.body).getD .skip
def F17 : List Nat → Option (List Nat) := fun p => match p with
  | [1] => some [0, 1]
  | [1, 1] => some [0, 1, 7, 8, 9]
  | [1, 0, 1, 1] => some [0, 7, 8, 37]
  | [1, 0, 1, 0, 1, 1] => some [4, 5, 6]
  | [1, 1, 1] => some [0, 7, 8]
  | [1, 1, 1, 1] => some [0, 8, 10]
  | [1, 1, 1, 1, 1] => some [4, 5, 6]
  | _ => none
noncomputable def body18 : Code := (Try.f44.body).getD .skip
def F18 : List Nat → Option (List Nat) := fun p => match p with
  | [1] => some [0, 1]
  | [1, 1] => some [0, 1, 7, 8, 9]
  | [1, 0, 1, 1] => some [0, 7, 8, 36]
  | [1, 0, 1, 0, 1, 1] => some [4, 5, 6]
  | [1, 1, 1] => some [0, 7, 8]
  | [1, 1, 1, 1] => some [4, 5, 6]
  | _ => none

theorem w11 (s : ByteArray) (K : Value → Heap → Prop) :
  funK Try.prog S1 noLoop F11 body11 Try.f29 [.string s] (hp []) K = (
True ∧
  Need (leI (wr IntKind.u64 (↑s.size : Int)) 18446744073709551615) True ∧
    Need (leN s.size s.size)
      (Need
        (leN (0 + (enc (wr IntKind.u64 (↑s.size : Int))).length * 1)
          (List.map u8v (enc (wr IntKind.u64 (↑s.size : Int)))).length)
        (Need (leN (((enc (wr IntKind.u64 (↑s.size : Int))).length + s.size) * 1) 1099511627776)
          (Need (leN ((enc (wr IntKind.u64 (↑s.size : Int))).length + s.size) 1099511627776)
            (Need
              ((List.map (fun (b : UInt8) => Value.int IntKind.u8 (↑b.toNat : Int))
                    (List.take s.size s.data.toList)).all
                oneV)
              (K
                (Value.slice (some { block := 0, off := 0, spot := some 1 : Addr })
                  ((enc (wr IntKind.u64 (↑s.size : Int))).length + s.size)
                  ((enc (wr IntKind.u64 (↑s.size : Int))).length + s.size))
                (hp
                  [Blk.cells
                      (List.take ((enc (wr IntKind.u64 (↑s.size : Int))).length * 1)
                          (List.drop 0 (List.map u8v (enc (wr IntKind.u64 (↑s.size : Int))))) ++
                        List.map (fun (b : UInt8) => Value.int IntKind.u8 (↑b.toNat : Int))
                          (List.take s.size s.data.toList))
                      1 true]))))))) := by kernel_rfl

theorem w13 (s : ByteArray) (K : Value → Heap → Prop) :
  funK Try.prog S1 noLoop F13 body13 Try.f37 [.string s] (hp []) K = (
True ∧
  Need (leI (wr IntKind.u64 (↑s.size : Int)) 18446744073709551615) True ∧
    Need (leN s.size s.size)
      (Need
        (leN (0 + (enc (wr IntKind.u64 (↑s.size : Int))).length * 1)
          (List.map u8v (enc (wr IntKind.u64 (↑s.size : Int)))).length)
        (Need (leN (((enc (wr IntKind.u64 (↑s.size : Int))).length + s.size) * 1) 1099511627776)
          (Need (leN ((enc (wr IntKind.u64 (↑s.size : Int))).length + s.size) 1099511627776)
            (Need
              ((List.map (fun (b : UInt8) => Value.int IntKind.u8 (↑b.toNat : Int))
                    (List.take s.size s.data.toList)).all
                oneV)
              (K
                (Value.slice (some { block := 0, off := 0, spot := some 1 : Addr })
                  ((enc (wr IntKind.u64 (↑s.size : Int))).length + s.size)
                  ((enc (wr IntKind.u64 (↑s.size : Int))).length + s.size))
                (hp
                  [Blk.cells
                      (List.take ((enc (wr IntKind.u64 (↑s.size : Int))).length * 1)
                          (List.drop 0 (List.map u8v (enc (wr IntKind.u64 (↑s.size : Int))))) ++
                        List.map (fun (b : UInt8) => Value.int IntKind.u8 (↑b.toNat : Int))
                          (List.take s.size s.data.toList))
                      1 true]))))))) := by kernel_rfl

theorem w17 (cs : List Value) (own : Bool) (o : Nat) (sp : Option Nat) (len cap : Nat) (m : Int) (K : Value → Heap → Prop) :
  funK Try.prog S1 noLoop F17 body17 Try.f54 [.slice (some ⟨0,o,sp⟩) len cap, .int .i64 m] (hp [.cells cs 1 own]) K = (
(FlatL cs ∧ True) ∧
  IsBs cs o len cap ∧
    Alt (!(dec (bytesAt cs o len)).isSome)
      (K (Value.tuple #[Value.string { data := #[] : ByteArray }, Value.int IntKind.i64 0, Value.bool false])
        (hp [Blk.cells cs 1 own]))
      (Alt (ltI m 0)
        (K (Value.tuple #[Value.string { data := #[] : ByteArray }, Value.int IntKind.i64 0, Value.bool false])
          (hp [Blk.cells cs 1 own]))
        (Alt (ltI (wr IntKind.u64 m) (gN (dec (bytesAt cs o len))))
          (K (Value.tuple #[Value.string { data := #[] : ByteArray }, Value.int IntKind.i64 0, Value.bool false])
            (hp [Blk.cells cs 1 own]))
          (Alt
            (ltI (wr IntKind.u64 (wr IntKind.i64 ((↑len : Int) - (↑(gK (dec (bytesAt cs o len))) : Int))))
              (gN (dec (bytesAt cs o len))))
            (K (Value.tuple #[Value.string { data := #[] : ByteArray }, Value.int IntKind.i64 0, Value.bool false])
              (hp [Blk.cells cs 1 own]))
            (Need
              (leI 0
                (wr IntKind.i64
                  ((↑(gK (dec (bytesAt cs o len))) : Int) + wr IntKind.i64 (gN (dec (bytesAt cs o len))))))
              (Need
                (leI
                  (wr IntKind.i64
                    ((↑(gK (dec (bytesAt cs o len))) : Int) + wr IntKind.i64 (gN (dec (bytesAt cs o len)))))
                  (↑cap : Int))
                (Need
                  (leI (↑(gK (dec (bytesAt cs o len))) : Int)
                    (↑(wr IntKind.i64
                            ((↑(gK (dec (bytesAt cs o len))) : Int) +
                              wr IntKind.i64 (gN (dec (bytesAt cs o len))))).toNat :
                      Int))
                  (Need
                    (leN
                      (o + (↑(gK (dec (bytesAt cs o len))) : Int).toNat * 1 +
                        ((wr IntKind.i64
                              ((↑(gK (dec (bytesAt cs o len))) : Int) +
                                wr IntKind.i64 (gN (dec (bytesAt cs o len))))).toNat -
                          (↑(gK (dec (bytesAt cs o len))) : Int).toNat))
                      cs.length)
                    (Need
                      (strOf
                          (List.take
                            ((wr IntKind.i64
                                  ((↑(gK (dec (bytesAt cs o len))) : Int) +
                                    wr IntKind.i64 (gN (dec (bytesAt cs o len))))).toNat -
                              (↑(gK (dec (bytesAt cs o len))) : Int).toNat)
                            (List.drop (o + (↑(gK (dec (bytesAt cs o len))) : Int).toNat * 1) cs))).isSome
                      (K
                        (Value.tuple
                          #[Value.string
                              {
                                data :=
                                  ((strOf
                                          (List.take
                                            ((wr IntKind.i64
                                                  ((↑(gK (dec (bytesAt cs o len))) : Int) +
                                                    wr IntKind.i64 (gN (dec (bytesAt cs o len))))).toNat -
                                              (↑(gK (dec (bytesAt cs o len))) : Int).toNat)
                                            (List.drop (o + (↑(gK (dec (bytesAt cs o len))) : Int).toNat * 1) cs))).getD
                                      []).toArray :
                                ByteArray },
                            Value.int IntKind.i64
                              (wr IntKind.i64
                                ((↑(gK (dec (bytesAt cs o len))) : Int) +
                                  wr IntKind.i64 (gN (dec (bytesAt cs o len))))),
                            Value.bool true])
                        (hp [Blk.cells cs 1 own]))))))))))) := by kernel_rfl

theorem w18 (cs : List Value) (own : Bool) (o : Nat) (sp : Option Nat) (len cap : Nat) (m : Int) (K : Value → Heap → Prop) :
  funK Try.prog S1 noLoop F18 body18 Try.f44 [.slice (some ⟨0,o,sp⟩) len cap, .int .i64 m] (hp [.cells cs 1 own]) K = (
(FlatL cs ∧ True) ∧
  IsBs cs o len cap ∧
    Alt (!(dec (bytesAt cs o len)).isSome)
      (K (Value.tuple #[Value.string { data := #[] : ByteArray }, Value.int IntKind.i64 0, Value.bool false])
        (hp [Blk.cells cs 1 own]))
      (Alt
        (ltI (wr IntKind.u64 (wr IntKind.i64 ((↑len : Int) - (↑(gK (dec (bytesAt cs o len))) : Int))))
          (gN (dec (bytesAt cs o len))))
        (K (Value.tuple #[Value.string { data := #[] : ByteArray }, Value.int IntKind.i64 0, Value.bool false])
          (hp [Blk.cells cs 1 own]))
        (Alt (ltI m 0)
          (K (Value.tuple #[Value.string { data := #[] : ByteArray }, Value.int IntKind.i64 0, Value.bool false])
            (hp [Blk.cells cs 1 own]))
          (Alt (ltI (wr IntKind.u64 m) (gN (dec (bytesAt cs o len))))
            (K (Value.tuple #[Value.string { data := #[] : ByteArray }, Value.int IntKind.i64 0, Value.bool false])
              (hp [Blk.cells cs 1 own]))
            (Need
              (leI 0
                (wr IntKind.i64
                  ((↑(gK (dec (bytesAt cs o len))) : Int) + wr IntKind.i64 (gN (dec (bytesAt cs o len))))))
              (Need
                (leI
                  (wr IntKind.i64
                    ((↑(gK (dec (bytesAt cs o len))) : Int) + wr IntKind.i64 (gN (dec (bytesAt cs o len)))))
                  (↑cap : Int))
                (Need
                  (leI (↑(gK (dec (bytesAt cs o len))) : Int)
                    (↑(wr IntKind.i64
                            ((↑(gK (dec (bytesAt cs o len))) : Int) +
                              wr IntKind.i64 (gN (dec (bytesAt cs o len))))).toNat :
                      Int))
                  (Need
                    (leN
                      (o + (↑(gK (dec (bytesAt cs o len))) : Int).toNat * 1 +
                        ((wr IntKind.i64
                              ((↑(gK (dec (bytesAt cs o len))) : Int) +
                                wr IntKind.i64 (gN (dec (bytesAt cs o len))))).toNat -
                          (↑(gK (dec (bytesAt cs o len))) : Int).toNat))
                      cs.length)
                    (Need
                      (strOf
                          (List.take
                            ((wr IntKind.i64
                                  ((↑(gK (dec (bytesAt cs o len))) : Int) +
                                    wr IntKind.i64 (gN (dec (bytesAt cs o len))))).toNat -
                              (↑(gK (dec (bytesAt cs o len))) : Int).toNat)
                            (List.drop (o + (↑(gK (dec (bytesAt cs o len))) : Int).toNat * 1) cs))).isSome
                      (K
                        (Value.tuple
                          #[Value.string
                              {
                                data :=
                                  ((strOf
                                          (List.take
                                            ((wr IntKind.i64
                                                  ((↑(gK (dec (bytesAt cs o len))) : Int) +
                                                    wr IntKind.i64 (gN (dec (bytesAt cs o len))))).toNat -
                                              (↑(gK (dec (bytesAt cs o len))) : Int).toNat)
                                            (List.drop (o + (↑(gK (dec (bytesAt cs o len))) : Int).toNat * 1) cs))).getD
                                      []).toArray :
                                ByteArray },
                            Value.int IntKind.i64
                              (wr IntKind.i64
                                ((↑(gK (dec (bytesAt cs o len))) : Int) +
                                  wr IntKind.i64 (gN (dec (bytesAt cs o len))))),
                            Value.bool true])
                        (hp [Blk.cells cs 1 own]))))))))))) := by kernel_rfl

theorem w17z (m : Int) (K : Value → Heap → Prop) :
  funK Try.prog S1 noLoop F17 body17 Try.f54 [.slice none 0 0, .int .i64 m] (hp []) K = (
True ∧
  True ∧ K (Value.tuple #[Value.string { data := #[] : ByteArray }, Value.int IntKind.i64 0, Value.bool false]) (hp [])) := by kernel_rfl

theorem w18z (m : Int) (K : Value → Heap → Prop) :
  funK Try.prog S1 noLoop F18 body18 Try.f44 [.slice none 0 0, .int .i64 m] (hp []) K = (
True ∧
  True ∧ K (Value.tuple #[Value.string { data := #[] : ByteArray }, Value.int IntKind.i64 0, Value.bool false]) (hp [])) := by kernel_rfl

/-- a text laid -/
def ptxt (s : ByteArray) : List Int := enc s.size ++ bytesS s
theorem ptxt_says {f : FuncId} {fn : Func} {F : List Nat → Option (List Nat)} {body : Code} (hmix : Try.prog.follows .mixedOrders = true) (s : ByteArray) (hs : s.size ≤ 1000000000000) (hf : Try.prog.funcs[f]? = some fn) (hb : fn.body = some body)
    (hw : ∀ K : Value → Heap → Prop, (∀ v h', v = .slice (some ⟨0,0,some 1⟩) (ptxt s).length (ptxt s).length ∧ h' = hp [.cells ((ptxt s).map u8v) 1 true] → K v h') → funK Try.prog S1 noLoop F body fn [.string s] (hp []) K) :
    FunSays Try.prog f [.string s] (hp []) fun v h' => v = .slice (some ⟨0,0,some 1⟩) (ptxt s).length (ptxt s).length ∧ h' = hp [.cells ((ptxt s).map u8v) 1 true] := by
  refine (sure1 hmix).fun F body hf hb noLoops (hw _ ?_)
  rintro v h' ⟨rfl, rfl⟩
  exact ⟨rfl, flatH_u8 _ _, rfl, rfl⟩
theorem wsize (s : ByteArray) (hs : s.size ≤ 1000000000000) : wr .u64 (s.size : Int) = s.size := by
  rw [wr_eq]; simp [IntKind.wrap, IntKind.bits, IntKind.signed]; omega
theorem ptxt_len (s : ByteArray) : (ptxt s).length = (enc s.size).length + s.size := by simp [ptxt, bytesS_len]
theorem puttext_says (hmix : Try.prog.follows .mixedOrders = true) (s : ByteArray) (hs : s.size ≤ 1000000000000) :
    FunSays Try.prog 29 [.string s] (hp []) fun v h' => v = .slice (some ⟨0,0,some 1⟩) (ptxt s).length (ptxt s).length ∧ h' = hp [.cells ((ptxt s).map u8v) 1 true] := by
  refine ptxt_says (F := F11) hmix s hs Try.func29 rfl fun K hK => ?_
  have hl := enc_len s.size
  change funK Try.prog S1 noLoop F11 body11 Try.f29 [.string s] (hp []) K
  rw [w11, wsize s hs, cells_str]
  simp only [Nat.zero_add, Nat.mul_one, List.length_map, Nat.le_refl, bytesS_len, oneV_u8s, List.drop_zero, Alt_iff, Need_iff, ltI_eq, leI_eq, eqI_eq, leN_eq, eqN_eq, decide_eq_true_eq, decide_eq_false_iff_not, decide_true, decide_false, true_and, and_true, Bool.true_eq_false, Bool.false_eq_true, false_implies, true_implies, implies_true, not_true_eq_false, not_false_eq_true, Bool.not_eq_true', Bool.not_eq_false']
  rw [List.take_of_length_le (by simp), ← List.map_append]
  refine ⟨by omega, by omega, by omega, hK _ _ ?_⟩
  rw [ptxt_len]; exact ⟨rfl, rfl⟩
theorem rputtext_says (hmix : Try.prog.follows .mixedOrders = true) (s : ByteArray) (hs : s.size ≤ 1000000000000) :
    FunSays Try.prog 37 [.string s] (hp []) fun v h' => v = .slice (some ⟨0,0,some 1⟩) (ptxt s).length (ptxt s).length ∧ h' = hp [.cells ((ptxt s).map u8v) 1 true] := by
  refine ptxt_says (F := F13) hmix s hs Try.func37 rfl fun K hK => ?_
  have hl := enc_len s.size
  change funK Try.prog S1 noLoop F13 body13 Try.f37 [.string s] (hp []) K
  rw [w13, wsize s hs, cells_str]
  simp only [Nat.zero_add, Nat.mul_one, List.length_map, Nat.le_refl, bytesS_len, oneV_u8s, List.drop_zero, Alt_iff, Need_iff, ltI_eq, leI_eq, eqI_eq, leN_eq, eqN_eq, decide_eq_true_eq, decide_eq_false_iff_not, decide_true, decide_false, true_and, and_true, Bool.true_eq_false, Bool.false_eq_true, false_implies, true_implies, implies_true, not_true_eq_false, not_false_eq_true, Bool.not_eq_true', Bool.not_eq_false']
  rw [List.take_of_length_le (by simp), ← List.map_append]
  refine ⟨by omega, by omega, by omega, hK _ _ ?_⟩
  rw [ptxt_len]; exact ⟨rfl, rfl⟩
noncomputable def ptxtC : Ctr where
  pre := fun args blks => match args, blks with
    | [.string s], [] => Need (leN s.size 1000000000000) True
    | _, _ => False
  val := fun args blks => match args, blks with
    | [.string s], [] => .slice (some ⟨0,0,some 1⟩) (ptxt s).length (ptxt s).length
    | _, _ => .slice none 0 0
  new := fun args blks => match args, blks with
    | [.string s], [] => [.cells ((ptxt s).map u8v) 1 true]
    | _, _ => []
theorem ptxtC_of {f : FuncId} (hs : ∀ s : ByteArray, s.size ≤ 1000000000000 → FunSays Try.prog f [.string s] (hp []) fun v h' => v = .slice (some ⟨0,0,some 1⟩) (ptxt s).length (ptxt s).length ∧ h' = hp [.cells ((ptxt s).map u8v) 1 true]) : ptxtC.Holds Try.prog f := by
  intro args blks hf hp
  simp only [ptxtC] at hp ⊢
  split at hp
  · simp only [Alt_iff, Need_iff, ltI_eq, leI_eq, eqI_eq, leN_eq, eqN_eq, decide_eq_true_eq, decide_eq_false_iff_not, decide_true, decide_false, true_and, and_true, Bool.true_eq_false, Bool.false_eq_true, false_implies, true_implies, implies_true, not_true_eq_false, not_false_eq_true, Bool.not_eq_true', Bool.not_eq_false'] at hp
    exact ⟨⟨⟨flat_u8s _⟩, trivial⟩, hs _ hp⟩
  · exact hp.elim
/-- a text that bytes begin with -/
def getT (l : List Int) (m : Int) : Option (List Int × Nat) := match dec l with
  | none => none
  | some (n, k) => if m < 0 ∨ m < n ∨ (l.length : Int) - k < n then none else some ((l.drop k).take n.toNat, k + n.toNat)
def gS (r : Option (List Int × Nat)) : List Int := match r with | some r => r.1 | none => []
def gE (r : Option (List Int × Nat)) : Nat := match r with | some r => r.2 | none => 0
def getTV (r : Option (List Int × Nat)) : Value := .tuple #[.string (ofB (gS r)), .int .i64 (gE r : Int), .bool r.isSome]
theorem gettext_core (l : List Int) (cs : List Value) (o cap : Nat) (m : Int) (hc : l.length ≤ cap) (hm : m ≤ 9223372036854775807) (hB : BSl cs o l) (n : Int) (k : Nat) (hd : dec l = some (n, k)) :
    0 ≤ n ∧ 1 ≤ k ∧ k ≤ l.length ∧ wr .u64 (wr .i64 ((l.length : Int) - (k : Int))) = (l.length : Int) - k ∧ (0 ≤ m → wr .u64 m = m) ∧
    (¬ (l.length : Int) - k < n → wr .i64 ((k : Int) + wr .i64 n) = ((k + n.toNat : Nat) : Int) ∧ o + k + n.toNat ≤ cs.length ∧ strOf (((cs.drop (o + k)).take n.toNat)) = some (((l.drop k).take n.toNat).map fun c => UInt8.ofNat c.toNat)) := by
  obtain ⟨a, b, c, d, e, f, g⟩ := decL_facts l 0 n k hB.ok (by omega) hd
  have hs := hB.short
  refine ⟨a, c, d, ?_, fun h0 => ?_, fun hn => ?_⟩
  · simp only [wr_eq]; simp [IntKind.wrap, IntKind.bits, IntKind.signed]; omega
  · simp only [wr_eq]; simp [IntKind.wrap, IntKind.bits, IntKind.signed]; omega
  · obtain ⟨q1, q2⟩ := hB.take k n.toNat (by omega)
    obtain ⟨q3, q4⟩ := hB.take 0 l.length (by omega)
    refine ⟨?_, by omega, by rw [q1, strOf_u8]⟩
    simp only [wr_eq]; simp [IntKind.wrap, IntKind.bits, IntKind.signed]; omega
theorem gettext_says (hmix : Try.prog.follows .mixedOrders = true) (l : List Int) (cs : List Value) (own : Bool) (o : Nat) (sp : Option Nat) (cap : Nat) (m : Int) (hc : l.length ≤ cap) (hm : m ≤ 9223372036854775807) (hB : BSl cs o l) :
    FunSays Try.prog 54 [.slice (some ⟨0,o,sp⟩) l.length cap, .int .i64 m] (hp [.cells cs 1 own]) fun v h' => v = getTV (getT l m) ∧ h' = hp [.cells cs 1 own] := by
  have hF : FlatH (hp [.cells cs 1 own]) := FlatH.hp ⟨hB.flat, trivial⟩
  refine (sure1 hmix).fun F17 body17 Try.func54 rfl noLoops ?_
  rw [w17, hB.bytesAt]
  refine ⟨⟨hB.flat, trivial⟩, ⟨l, rfl, hc, hB⟩, ?_⟩
  unfold getT
  cases hd : dec l with
  | none => exact ⟨rfl, hF, rfl, rfl⟩
  | some r =>
    obtain ⟨n, k⟩ := r
    obtain ⟨a, b, c, d, e, f⟩ := gettext_core l cs o cap m hc hm hB n k hd
    simp only [gN, gK, Option.isSome_some, Bool.not_true, d, hF, Alt_iff, Need_iff, ltI_eq, leI_eq, eqI_eq, leN_eq, eqN_eq, decide_eq_true_eq, decide_eq_false_iff_not, decide_true, decide_false, true_and, and_true, Bool.true_eq_false, Bool.false_eq_true, false_implies, true_implies, implies_true, not_true_eq_false, not_false_eq_true, Bool.not_eq_true', Bool.not_eq_false']
    have no : (m < 0 ∨ m < n ∨ (l.length : Int) - k < n) → isJunk (Value.tuple #[Value.string { data := #[] }, Value.int IntKind.i64 0, Value.bool false]) = false ∧ Value.tuple #[Value.string { data := #[] }, Value.int IntKind.i64 0, Value.bool false] = getTV (if m < 0 ∨ m < n ∨ (l.length : Int) - k < n then none else some ((l.drop k).take n.toNat, k + n.toNat)) := fun h => by
      rw [if_pos h]; exact ⟨rfl, rfl⟩
    refine ⟨fun h1 => no (.inl h1), fun h1 => ?_⟩
    rw [e (by omega)]
    exact ⟨fun h2 => no (.inr (.inl h2)), fun h2 => ⟨fun h3 => no (.inr (.inr h3)), fun h3 => (by
      obtain ⟨f1, f2, f3⟩ := f h3
      rw [f1, Int.toNat_natCast, Int.toNat_natCast, Nat.mul_one, Nat.add_sub_cancel_left, f3, if_neg (by omega)]
      exact ⟨by omega, by omega, by omega, by omega, rfl, rfl, rfl⟩)⟩⟩
theorem rgettext_says (hmix : Try.prog.follows .mixedOrders = true) (l : List Int) (cs : List Value) (own : Bool) (o : Nat) (sp : Option Nat) (cap : Nat) (m : Int) (hc : l.length ≤ cap) (hm : m ≤ 9223372036854775807) (hB : BSl cs o l) :
    FunSays Try.prog 44 [.slice (some ⟨0,o,sp⟩) l.length cap, .int .i64 m] (hp [.cells cs 1 own]) fun v h' => v = getTV (getT l m) ∧ h' = hp [.cells cs 1 own] := by
  have hF : FlatH (hp [.cells cs 1 own]) := FlatH.hp ⟨hB.flat, trivial⟩
  refine (sure1 hmix).fun F18 body18 Try.func44 rfl noLoops ?_
  rw [w18, hB.bytesAt]
  refine ⟨⟨hB.flat, trivial⟩, ⟨l, rfl, hc, hB⟩, ?_⟩
  unfold getT
  cases hd : dec l with
  | none => exact ⟨rfl, hF, rfl, rfl⟩
  | some r =>
    obtain ⟨n, k⟩ := r
    obtain ⟨a, b, c, d, e, f⟩ := gettext_core l cs o cap m hc hm hB n k hd
    simp only [gN, gK, Option.isSome_some, Bool.not_true, d, hF, Alt_iff, Need_iff, ltI_eq, leI_eq, eqI_eq, leN_eq, eqN_eq, decide_eq_true_eq, decide_eq_false_iff_not, decide_true, decide_false, true_and, and_true, Bool.true_eq_false, Bool.false_eq_true, false_implies, true_implies, implies_true, not_true_eq_false, not_false_eq_true, Bool.not_eq_true', Bool.not_eq_false']
    have no : (m < 0 ∨ m < n ∨ (l.length : Int) - k < n) → isJunk (Value.tuple #[Value.string { data := #[] }, Value.int IntKind.i64 0, Value.bool false]) = false ∧ Value.tuple #[Value.string { data := #[] }, Value.int IntKind.i64 0, Value.bool false] = getTV (if m < 0 ∨ m < n ∨ (l.length : Int) - k < n then none else some ((l.drop k).take n.toNat, k + n.toNat)) := fun h => by
      rw [if_pos h]; exact ⟨rfl, rfl⟩
    refine ⟨fun h3 => no (.inr (.inr h3)), fun h3 => ⟨fun h1 => no (.inl h1), fun h1 => ?_⟩⟩
    rw [e (by omega)]
    exact ⟨fun h2 => no (.inr (.inl h2)), fun h2 => (by
      obtain ⟨f1, f2, f3⟩ := f h3
      rw [f1, Int.toNat_natCast, Int.toNat_natCast, Nat.mul_one, Nat.add_sub_cancel_left, f3, if_neg (by omega)]
      exact ⟨by omega, by omega, by omega, by omega, rfl, rfl, rfl⟩)⟩
theorem gettext_nil (hmix : Try.prog.follows .mixedOrders = true) (m : Int) : FunSays Try.prog 54 [.slice none 0 0, .int .i64 m] (hp []) fun v h' => v = getTV none ∧ h' = hp [] := by
  refine (sure1 hmix).fun F17 body17 Try.func54 rfl noLoops ?_
  rw [w17z]
  exact ⟨trivial, trivial, rfl, FlatH.empty, rfl, rfl⟩
theorem rgettext_nil (hmix : Try.prog.follows .mixedOrders = true) (m : Int) : FunSays Try.prog 44 [.slice none 0 0, .int .i64 m] (hp []) fun v h' => v = getTV none ∧ h' = hp [] := by
  refine (sure1 hmix).fun F18 body18 Try.func44 rfl noLoops ?_
  rw [w18z]
  exact ⟨trivial, trivial, rfl, FlatH.empty, rfl, rfl⟩
noncomputable def gettC : Ctr where
  pre := fun args blks => match args, blks with
    | [.slice (some ⟨0, o, _⟩) len cap, .int .i64 m], [.cells cs 1 _] => IsBs cs o len cap ∧ Need (leI m 9223372036854775807) True
    | [.slice none 0 0, .int .i64 m], [] => True
    | _, _ => False
  val := fun args blks => match args, blks with
    | [.slice (some ⟨0, o, _⟩) len cap, .int .i64 m], [.cells cs 1 _] => getTV (getT (bytesAt cs o len) m)
    | _, _ => getTV none
  new := fun _ _ => []
theorem gettC_of {f : FuncId} (h1 : ∀ (l : List Int) (cs : List Value) (own : Bool) (o : Nat) (sp : Option Nat) (cap : Nat) (m : Int), l.length ≤ cap → m ≤ 9223372036854775807 → BSl cs o l → FunSays Try.prog f [.slice (some ⟨0,o,sp⟩) l.length cap, .int .i64 m] (hp [.cells cs 1 own]) fun v h' => v = getTV (getT l m) ∧ h' = hp [.cells cs 1 own])
    (h2 : ∀ m : Int, FunSays Try.prog f [.slice none 0 0, .int .i64 m] (hp []) fun v h' => v = getTV none ∧ h' = hp []) : gettC.Holds Try.prog f := by
  intro args blks hf hp
  refine ⟨trivial, ?_⟩
  simp only [gettC] at hp ⊢
  split at hp
  · obtain ⟨⟨l, rfl, hc, hB⟩, hm⟩ := hp
    simp only [Alt_iff, Need_iff, ltI_eq, leI_eq, eqI_eq, leN_eq, eqN_eq, decide_eq_true_eq, decide_eq_false_iff_not, decide_true, decide_false, true_and, and_true, Bool.true_eq_false, Bool.false_eq_true, false_implies, true_implies, implies_true, not_true_eq_false, not_false_eq_true, Bool.not_eq_true', Bool.not_eq_false'] at hm
    simp only [hB.bytesAt, List.append_nil]
    exact h1 l _ _ _ _ _ _ hc hm hB
  · exact h2 _
  · exact hp.elim
theorem ptxtC_holds (hmix : Try.prog.follows .mixedOrders = true) : ptxtC.Holds Try.prog 29 := ptxtC_of (puttext_says hmix)
theorem rptxtC_holds (hmix : Try.prog.follows .mixedOrders = true) : ptxtC.Holds Try.prog 37 := ptxtC_of (rputtext_says hmix)
theorem gettC_holds (hmix : Try.prog.follows .mixedOrders = true) : gettC.Holds Try.prog 54 := gettC_of (gettext_says hmix) (gettext_nil hmix)
theorem rgettC_holds (hmix : Try.prog.follows .mixedOrders = true) : gettC.Holds Try.prog 44 := gettC_of (rgettext_says hmix) (rgettext_nil hmix)
end Go.Proofs.Ytdpfmaimhimfcaa

namespace Go.Proofs.Ytdpfmaimhimfcaa
open Go.RowKit Go.Proofs.Ytdpfmaimhimfcaa.AM
set_option maxHeartbeats 4000000
theorem BSl.lit (l : List Int) (h : Bytes l) (hs : l.length < 1000000000000) : BSl (l.map u8v) 0 l := ⟨h, fun j c hj => by rw [Nat.zero_add, getO_eq, List.getElem?_map, hj]; rfl, hs, ⟨flat_u8s l⟩⟩
theorem slice_u8 (zs : List Int) (len : Nat) (hl : len ≤ zs.length) (hz : ∀ n ∈ zs, (Lit.int .u8 n).wf = true) :
    (zs.take len).length = len ∧ ((zs.take len).length ≤ 400 → BSl (zs.map (Value.int .u8)) 0 (zs.take len)) := by
  refine ⟨by rw [List.length_take]; omega, fun h => ⟨fun x hx => ?_, fun j c hj => ?_, by omega, ⟨fun x hx => ?_⟩⟩⟩
  · have := u8_of (hz x (List.mem_of_mem_take hx))
    omega
  · rw [Nat.zero_add, getO_eq, List.getElem?_map]
    rw [List.getElem?_take] at hj
    split at hj
    · rw [hj]; rfl
    · cases hj
  · obtain ⟨n, _, rfl⟩ := List.mem_map.1 hx; rfl
theorem ptxt_bytes (s : ByteArray) (hs : s.size ≤ 1000000000000) : Bytes (ptxt s) := by
  intro x hx
  rcases List.mem_append.1 hx with h | h
  · exact enc_bytes s.size (by omega) (by omega) x h
  · exact bytesS_ok s x h
theorem getT_ptxt (s : ByteArray) (t : List Int) (hs : s.size ≤ 1000000000000) : getT (ptxt s ++ t) (s.size : Int) = some (bytesS s, (ptxt s).length) := by
  unfold getT ptxt
  rw [List.append_assoc, dec_enc _ _ (by omega) (by omega)]
  simp only [List.length_append, bytesS_len]
  rw [if_neg (by push_cast; omega)]
  simp [bytesS_len]
theorem getT_less (s : ByteArray) (t : List Int) (hs : s.size ≤ 1000000000000) : getT (ptxt s ++ t) ((s.size : Int) - 1) = none := by
  unfold getT ptxt
  rw [List.append_assoc, dec_enc _ _ (by omega) (by omega)]
  simp only
  rw [if_pos (by omega)]
theorem getT_cut (s : ByteArray) (j : Nat) (m : Int) (hs : s.size ≤ 1000000000000) (hj : j < (ptxt s).length) : getT ((ptxt s).take j) m = none := by
  unfold getT
  rw [ptxt_len] at hj
  by_cases h : j < (enc s.size).length
  · have : (ptxt s).take j = (enc s.size).take j := by rw [ptxt, List.take_append_of_le_length (by omega)]
    rw [this, dec_cut _ _ h]
  · have : (ptxt s).take j = enc s.size ++ (bytesS s).take (j - (enc s.size).length) := by
      rw [ptxt, List.take_append]
      rw [List.take_of_length_le (by omega)]
    rw [this, dec_enc _ _ (by omega) (by omega)]
    simp only [List.length_append, List.length_take, bytesS_len]
    rw [if_pos (by push_cast; omega)]
theorem ofB_bytesS (s : ByteArray) : ofB (bytesS s) = s := by
  obtain ⟨⟨l⟩⟩ := s
  simp only [ofB, bytesS, List.map_map]
  congr 2
  rw [show ((fun c : Int => UInt8.ofNat c.toNat) ∘ fun b : UInt8 => (b.toNat : Int)) = id from funext fun b => by simp]
  simp
theorem bytesAt_lit {l : List Int} {m : Nat} (h : l.length = m) : bytesAt (l.map u8v) 0 m = l := by
  subst h
  simp [bytesAt, u8v, intV, Function.comp_def]
theorem isBs_lit {l : List Int} {m c : Nat} (h : l.length = m) (hb : Bytes l) (hc : m ≤ c) (hs : m < 1000000000000) : IsBs (l.map u8v) 0 m c := ⟨l, h, hc, BSl.lit l hb (by omega)⟩
theorem tk_all (l : List Int) : List.take (l.length * 1) (List.drop 0 (List.map u8v l)) = l.map u8v := by
  rw [List.drop_zero, Nat.mul_one, List.take_of_length_le (by simp)]
theorem Bytes.app {a b : List Int} (ha : Bytes a) (hb : Bytes b) : Bytes (a ++ b) := fun x hx => (List.mem_append.1 hx).elim (ha x) (hb x)
theorem bytesAt_take (l : List Int) (j : Nat) : bytesAt (l.map u8v) 0 j = l.take j := by
  simp [bytesAt, u8v, intV, Function.comp_def, List.map_take]
theorem isBs_take {l : List Int} {j c : Nat} (hj : j ≤ l.length) (hb : Bytes l) (hc : j ≤ c) (hs : l.length < 1000000000000) : IsBs (l.map u8v) 0 j c := by
  have hl : (l.take j).length = j := by rw [List.length_take]; omega
  refine ⟨l.take j, hl, hc, ⟨fun x hx => hb x (List.mem_of_mem_take hx), fun i d hi => ?_, by omega, ⟨flat_u8s l⟩⟩⟩
  rw [List.getElem?_take] at hi
  split at hi
  · rw [Nat.zero_add, getO_eq, List.getElem?_map, hi]; rfl
  · cases hi
theorem flatL_u8 (l : List Int) : FlatL (l.map u8v) := ⟨flat_u8s l⟩
end Go.Proofs.Ytdpfmaimhimfcaa

namespace Go.Proofs.Ytdpfmaimhimfcaa
open Go.RowKit Go.Proofs.Ytdpfmaimhimfcaa.AM
set_option maxRecDepth 100000
set_option maxHeartbeats 4000000
noncomputable def body131 : Code := (Try.f31.body).getD .skip
def F131 : List Nat → Option (List Nat) := fun p => match p with
  | [1] => some [0]
  | [1, 1] => some [2]
  | _ => none
noncomputable def body113 : Code := (Try.f13.body).getD .skip
def F113 : List Nat → Option (List Nat) := fun p => match p with
  | [1] => some [0]
  | [1, 0, 1] => some [0, 17]
  | [1, 0, 1, 0, 1] => some [2]
  | [1, 1] => some [0]
  | [1, 0, 1, 1] => some [0, 19, 20]
  | [1, 0, 0, 1, 0, 1, 1] => some [0, 19, 20, 21]
  | [1, 0, 1, 0, 0, 1, 0, 1, 1] => some []
  | [1, 1, 0, 0, 1, 0, 1, 1] => some [0, 19, 20]
  | [1, 0, 0, 1, 1, 0, 0, 1, 0, 1, 1] => some [0, 3, 19, 20]
  | [1, 1, 0, 0, 1, 1, 0, 0, 1, 0, 1, 1] => some [0, 19, 20, 39]
  | [1, 0, 1, 1, 0, 0, 1, 1, 0, 0, 1, 0, 1, 1] => some [2]
  | [1, 1, 1, 0, 0, 1, 0, 1, 1] => some [0, 19, 20]
  | [1, 1, 1] => some []
  | [1, 1, 1, 1] => some [2]
  | _ => none
noncomputable def body115 : Code := (Try.f15.body).getD .skip
def F115 : List Nat → Option (List Nat) := fun p => match p with
  | [1] => some [0]
  | [1, 0, 1] => some [0, 3]
  | [1, 0, 0, 0, 1, 0, 1] => some [0, 3, 9]
  | [1, 1, 0, 0, 0, 1, 0, 1] => some [0]
  | [1, 0, 0, 1, 0, 1] => some [0, 3]
  | [1, 0, 0, 1, 0, 0, 1, 0, 1] => some [0, 3, 4]
  | [1, 1, 0, 0, 1, 0, 0, 1, 0, 1] => some [0, 3, 4, 5]
  | [1, 1, 1, 0, 0, 1, 0, 0, 1, 0, 1] => some [0, 3, 46]
  | [1, 0, 1, 1, 1, 0, 0, 1, 0, 0, 1, 0, 1] => some [2]
  | [1, 1, 0, 0, 1, 0, 1] => some [0, 3]
  | [1, 1] => some [0]
  | [1, 1, 1] => some [2]
  | _ => none
noncomputable def body116 : Code := (Try.f16.body).getD .skip
def F116 : List Nat → Option (List Nat) := fun p => match p with
  | [1] => some [0]
  | [1, 1] => some [2]
  | _ => none
noncomputable def body117 : Code := (Try.f17.body).getD .skip
def F117 : List Nat → Option (List Nat) := fun p => match p with
  | [1] => some [0]
  | [1, 1] => some [2]
  | _ => none

theorem w131 (c : Int) (K : Value → Heap → Prop) :
  funK Try.prog S0 noLoop F131 body131 Try.f31 [.int .u8 c] (hp []) K = (
Alt (leI 97 c)
  (Alt (leI c 122) (K (Value.bool true) (hp []))
    (Alt (leI 65 c) (Alt (leI c 90) (K (Value.bool true) (hp [])) (K (Value.bool (eqI c 95)) (hp [])))
      (K (Value.bool (eqI c 95)) (hp []))))
  (Alt (leI 65 c) (Alt (leI c 90) (K (Value.bool true) (hp [])) (K (Value.bool (eqI c 95)) (hp [])))
    (K (Value.bool (eqI c 95)) (hp [])))) := by kernel_rfl

theorem w116 (s : ByteArray) (K : Value → Heap → Prop) :
  funK Try.prog S0 noLoop F116 body116 Try.f16 [.string s] (hp []) K = (
Alt (leI 1 (↑s.size : Int)) (K (Value.bool (leI (↑s.size : Int) 24)) (hp [])) (K (Value.bool false) (hp []))) := by kernel_rfl

theorem w117 (s : ByteArray) (K : Value → Heap → Prop) :
  funK Try.prog S0 noLoop F117 body117 Try.f17 [.string s] (hp []) K = (
Alt (leI 1 (↑s.size : Int)) (K (Value.bool (leI (↑s.size : Int) 24)) (hp [])) (K (Value.bool false) (hp []))) := by kernel_rfl

/-- a byte as it stands in a text -/
def byteAt (s : ByteArray) (i : Nat) : Int := ((s.data.toList.getD i 0).toNat : Int)
def isLet (c : Int) : Bool := (leI 97 c && leI c 122) || (leI 65 c && leI c 90) || eqI c 95
def isNum (c : Int) : Bool := leI 48 c && leI c 57
noncomputable def letC : Ctr where
  pre := fun args blks => match args, blks with
    | [.int .u8 _], [] => True
    | _, _ => False
  val := fun args blks => match args, blks with
    | [.int .u8 c], [] => .bool (isLet c)
    | _, _ => .bool false
  new := fun _ _ => []
noncomputable def S4 : Book := bookOf [(31, letC)]
noncomputable def T113 (s : ByteArray) (i : Nat) : List Value := tmps 41 [(0, .string s), (19, .int .i64 s.size), (20, .int .i64 i)]
noncomputable def T115 (s : ByteArray) (i : Nat) : List Value := tmps 55 [(0, .string s), (3, .int .i64 i)]

theorem r113 (s : ByteArray) (i : Nat) (K : Post) :
  roundK Try.prog S4 noLoop F113 body113 0 [0,19,20] [0,0,1,0,1,1] (T113 s i) (hp []) K = (
Alt (ltI (↑i : Int) (↑s.size : Int))
  (Need (ltI (↑i : Int) (↑s.size : Int))
    (True ∧
      True ∧
        Alt (!isLet (↑(s.data.toList.getD (↑i : Int).toNat (OfNat.ofNat 0)).toNat : Int))
          (Need (ltI (↑i : Int) (↑s.size : Int))
            (Alt (ltI (↑(s.data.toList.getD (↑i : Int).toNat (OfNat.ofNat 0)).toNat : Int) 48)
              (K AE.ret (tmps 41 [(2, Value.bool false)]) (hp []))
              (Need (ltI (↑i : Int) (↑s.size : Int))
                (Alt (ltI 57 (↑(s.data.toList.getD (↑i : Int).toNat (OfNat.ofNat 0)).toNat : Int))
                  (K AE.ret (tmps 41 [(2, Value.bool false)]) (hp []))
                  (K AE.normal
                    (tmps 41
                      [(0, Value.string s), (19, Value.int IntKind.i64 (↑s.size : Int)),
                        (20, Value.int IntKind.i64 (wr IntKind.i64 ((↑i : Int) + 1)))])
                    (hp []))))))
          (K AE.normal
            (tmps 41
              [(0, Value.string s), (19, Value.int IntKind.i64 (↑s.size : Int)),
                (20, Value.int IntKind.i64 (wr IntKind.i64 ((↑i : Int) + 1)))])
            (hp []))))
  (K (AE.exit 0) (tmps 41 []) (hp []))) := by kernel_rfl

theorem r115 (s : ByteArray) (i : Nat) (K : Post) :
  roundK Try.prog S4 noLoop F115 body115 0 [0,3] [0,0,1,0,1] (T115 s i) (hp []) K = (
Alt (ltI (↑i : Int) (↑s.size : Int))
  (Need (ltI (↑i : Int) (↑s.size : Int))
    (Alt (leI 97 (↑(s.data.toList.getD (↑i : Int).toNat (OfNat.ofNat 0)).toNat : Int))
      (Alt (leI (↑(s.data.toList.getD (↑i : Int).toNat (OfNat.ofNat 0)).toNat : Int) 122)
        (K AE.normal (tmps 55 [(0, Value.string s), (3, Value.int IntKind.i64 (wr IntKind.i64 ((↑i : Int) + 1)))])
          (hp []))
        (Alt (leI 65 (↑(s.data.toList.getD (↑i : Int).toNat (OfNat.ofNat 0)).toNat : Int))
          (Alt (leI (↑(s.data.toList.getD (↑i : Int).toNat (OfNat.ofNat 0)).toNat : Int) 90)
            (K AE.normal (tmps 55 [(0, Value.string s), (3, Value.int IntKind.i64 (wr IntKind.i64 ((↑i : Int) + 1)))])
              (hp []))
            (Alt (!eqI (↑(s.data.toList.getD (↑i : Int).toNat (OfNat.ofNat 0)).toNat : Int) 95)
              (Alt (eqI (↑i : Int) 0) (K AE.ret (tmps 55 [(2, Value.bool false)]) (hp []))
                (Alt (ltI (↑(s.data.toList.getD (↑i : Int).toNat (OfNat.ofNat 0)).toNat : Int) 48)
                  (K AE.ret (tmps 55 [(2, Value.bool false)]) (hp []))
                  (Alt (ltI 57 (↑(s.data.toList.getD (↑i : Int).toNat (OfNat.ofNat 0)).toNat : Int))
                    (K AE.ret (tmps 55 [(2, Value.bool false)]) (hp []))
                    (K AE.normal
                      (tmps 55 [(0, Value.string s), (3, Value.int IntKind.i64 (wr IntKind.i64 ((↑i : Int) + 1)))])
                      (hp [])))))
              (K AE.normal (tmps 55 [(0, Value.string s), (3, Value.int IntKind.i64 (wr IntKind.i64 ((↑i : Int) + 1)))])
                (hp []))))
          (Alt (!eqI (↑(s.data.toList.getD (↑i : Int).toNat (OfNat.ofNat 0)).toNat : Int) 95)
            (Alt (eqI (↑i : Int) 0) (K AE.ret (tmps 55 [(2, Value.bool false)]) (hp []))
              (Alt (ltI (↑(s.data.toList.getD (↑i : Int).toNat (OfNat.ofNat 0)).toNat : Int) 48)
                (K AE.ret (tmps 55 [(2, Value.bool false)]) (hp []))
                (Alt (ltI 57 (↑(s.data.toList.getD (↑i : Int).toNat (OfNat.ofNat 0)).toNat : Int))
                  (K AE.ret (tmps 55 [(2, Value.bool false)]) (hp []))
                  (K AE.normal
                    (tmps 55 [(0, Value.string s), (3, Value.int IntKind.i64 (wr IntKind.i64 ((↑i : Int) + 1)))])
                    (hp [])))))
            (K AE.normal (tmps 55 [(0, Value.string s), (3, Value.int IntKind.i64 (wr IntKind.i64 ((↑i : Int) + 1)))])
              (hp [])))))
      (Alt (leI 65 (↑(s.data.toList.getD (↑i : Int).toNat (OfNat.ofNat 0)).toNat : Int))
        (Alt (leI (↑(s.data.toList.getD (↑i : Int).toNat (OfNat.ofNat 0)).toNat : Int) 90)
          (K AE.normal (tmps 55 [(0, Value.string s), (3, Value.int IntKind.i64 (wr IntKind.i64 ((↑i : Int) + 1)))])
            (hp []))
          (Alt (!eqI (↑(s.data.toList.getD (↑i : Int).toNat (OfNat.ofNat 0)).toNat : Int) 95)
            (Alt (eqI (↑i : Int) 0) (K AE.ret (tmps 55 [(2, Value.bool false)]) (hp []))
              (Alt (ltI (↑(s.data.toList.getD (↑i : Int).toNat (OfNat.ofNat 0)).toNat : Int) 48)
                (K AE.ret (tmps 55 [(2, Value.bool false)]) (hp []))
                (Alt (ltI 57 (↑(s.data.toList.getD (↑i : Int).toNat (OfNat.ofNat 0)).toNat : Int))
                  (K AE.ret (tmps 55 [(2, Value.bool false)]) (hp []))
                  (K AE.normal
                    (tmps 55 [(0, Value.string s), (3, Value.int IntKind.i64 (wr IntKind.i64 ((↑i : Int) + 1)))])
                    (hp [])))))
            (K AE.normal (tmps 55 [(0, Value.string s), (3, Value.int IntKind.i64 (wr IntKind.i64 ((↑i : Int) + 1)))])
              (hp []))))
        (Alt (!eqI (↑(s.data.toList.getD (↑i : Int).toNat (OfNat.ofNat 0)).toNat : Int) 95)
          (Alt (eqI (↑i : Int) 0) (K AE.ret (tmps 55 [(2, Value.bool false)]) (hp []))
            (Alt (ltI (↑(s.data.toList.getD (↑i : Int).toNat (OfNat.ofNat 0)).toNat : Int) 48)
              (K AE.ret (tmps 55 [(2, Value.bool false)]) (hp []))
              (Alt (ltI 57 (↑(s.data.toList.getD (↑i : Int).toNat (OfNat.ofNat 0)).toNat : Int))
                (K AE.ret (tmps 55 [(2, Value.bool false)]) (hp []))
                (K AE.normal
                  (tmps 55 [(0, Value.string s), (3, Value.int IntKind.i64 (wr IntKind.i64 ((↑i : Int) + 1)))])
                  (hp [])))))
          (K AE.normal (tmps 55 [(0, Value.string s), (3, Value.int IntKind.i64 (wr IntKind.i64 ((↑i : Int) + 1)))])
            (hp []))))))
  (K (AE.exit 0) (tmps 55 [(0, Value.string s)]) (hp []))) := by kernel_rfl

theorem byte_eq (s : ByteArray) (i : Nat) : (↑(s.data.toList.getD (↑i : Int).toNat (OfNat.ofNat 0)).toNat : Int) = byteAt s i := rfl
theorem byte_at (s : ByteArray) (i : Nat) (h : i < s.size) : (bytesS s)[i]? = some (byteAt s i) := by
  have h' : i < s.data.toList.length := by simpa using h
  rw [bytesS, List.getElem?_map, List.getElem?_eq_getElem h', byteAt, List.getD_eq_getElem?_getD, List.getElem?_eq_getElem h']; rfl
def okc (c : Int) : Bool := isLet c || isNum c
/-- whether a text is a name -/
def nameB (s : ByteArray) : Bool := leN 1 s.size && leN s.size 12 && isLet (byteAt s 0) && (bytesS s).all okc
def valueB (s : ByteArray) : Bool := leN 1 s.size && leN s.size 24
theorem letC_holds (hmix : Try.prog.follows .mixedOrders = true) : letC.Holds Try.prog 31 := by
  intro args blks hf hp
  refine ⟨trivial, ?_⟩
  simp only [letC] at hp ⊢
  split at hp
  · rename_i c
    refine (sure0 hmix).fun F131 body131 Try.func31 rfl noLoops ?_
    rw [w131]
    unfold isLet
    cases leI 97 c <;> cases leI c 122 <;> cases leI 65 c <;> cases leI c 90 <;> cases eqI c 95 <;> exact ⟨rfl, FlatH.empty, rfl, rfl⟩
  · exact hp.elim
theorem sure4 (hmix : Try.prog.follows .mixedOrders = true) : Sure Try.prog S4 := ⟨hmix, plain, bookOf_ok ⟨letC_holds hmix, trivial⟩⟩
theorem next_i (i : Nat) (h : i < 9223372036854775807) : wr .i64 ((i : Int) + 1) = ((i + 1 : Nat) : Int) := by
  rw [wr_eq]; simp [IntKind.wrap, IntKind.bits, IntKind.signed]; omega
noncomputable def c113 (s : ByteArray) (b : Bool) : Cut := ⟨[0,1,0,1,1], T113 s 0, hp [], fun K => Alt b (K (.exit 0) (tmps 41 []) (hp [])) (K .ret (tmps 41 [(2, .bool false)]) (hp []))⟩
noncomputable def c115 (s : ByteArray) (b : Bool) : Cut := ⟨[0,1,0,1], T115 s 0, hp [], fun K => Alt b (K (.exit 0) (tmps 55 [(0, .string s)]) (hp [])) (K .ret (tmps 55 [(2, .bool false)]) (hp []))⟩

theorem w113 (s : ByteArray) (b : Bool) (K : Value → Heap → Prop) :
  funK Try.prog S4 (gcLK 0 (cutLK [c113 s b])) F113 body113 Try.f13 [.string s] (hp []) K = (
Alt (ltI (↑s.size : Int) 1) (K (Value.bool false) (hp []))
  (Alt (ltI 12 (↑s.size : Int)) (K (Value.bool false) (hp []))
    (Need (ltI 0 (↑s.size : Int))
      (True ∧
        True ∧
          Alt (!isLet (↑(s.data.toList.getD 0 (OfNat.ofNat 0)).toNat : Int)) (K (Value.bool false) (hp []))
            (FlatH (hp []) ∧
              tmps 41
                    [(0, Value.string s), (19, Value.int IntKind.i64 (↑s.size : Int)), (20, Value.int IntKind.i64 0)] =
                  tmps 41
                    [(0, Value.string s), (19, Value.int IntKind.i64 (↑s.size : Int)), (20, Value.int IntKind.i64 0)] ∧
                hp [] = hp [] ∧ Alt b (K (Value.bool true) (hp [])) (K (Value.bool false) (hp []))))))) := by kernel_rfl

theorem w115 (s : ByteArray) (b : Bool) (K : Value → Heap → Prop) :
  funK Try.prog S4 (gcLK 0 (cutLK [c115 s b])) F115 body115 Try.f15 [.string s] (hp []) K = (
FlatH (hp []) ∧
  tmps 55 [(0, Value.string s), (3, Value.int IntKind.i64 0)] =
      tmps 55 [(0, Value.string s), (3, Value.int IntKind.i64 0)] ∧
    hp [] = hp [] ∧
      Alt b
        (Alt (leI 1 (↑s.size : Int)) (K (Value.bool (leI (↑s.size : Int) 12)) (hp [])) (K (Value.bool false) (hp [])))
        (K (Value.bool false) (hp []))) := by kernel_rfl

theorem drop_cons {α : Type} {l t : List α} {c : α} {i : Nat} (h : l.drop i = c :: t) : i < l.length ∧ l[i]? = some c ∧ l.drop (i + 1) = t := by
  have hlt : i < l.length := by
    rcases Nat.lt_or_ge i l.length with h' | h'
    · exact h'
    · rw [List.drop_eq_nil_of_le h'] at h; cases h
  refine ⟨hlt, ?_, by rw [← List.drop_drop, h]; rfl⟩
  have := congrArg List.head? h
  rw [List.head?_drop] at this; exact this
theorem name_loop (hmix : Try.prog.follows .mixedOrders = true) (s : ByteArray) (hs : s.size ≤ 9223372036854775807) (K : Post) : ∀ (t : List Int) (i : Nat), (bytesS s).drop i = t → i ≤ s.size →
    Alt (t.all okc) (K (.exit 0) (tmps 41 []) (hp [])) (K .ret (tmps 41 [(2, .bool false)]) (hp [])) → LSays Try.prog 0 (sub body113 [0,0,1,0,1,1]) (T113 s i) (hp []) K := by
  intro t
  induction t with
  | nil =>
    intro i ht hi hK
    have hge : ¬ ((i : Int) < (s.size : Int)) := by have := List.drop_eq_nil_iff.1 ht; rw [bytesS_len] at this; omega
    refine (sure4 hmix).round F113 noLoops [0,19,20] ?_
    rw [r113]
    simp only [hge, FlatH.empty, Alt_iff, Need_iff, ltI_eq, leI_eq, eqI_eq, leN_eq, eqN_eq, decide_eq_true_eq, decide_eq_false_iff_not, decide_true, decide_false, true_and, and_true, Bool.true_eq_false, Bool.false_eq_true, false_implies, true_implies, implies_true, not_true_eq_false, not_false_eq_true, Bool.not_eq_true', Bool.not_eq_false']
    exact hK
  | cons c t ih =>
    intro i ht hi hK
    obtain ⟨hlt, hc, hd⟩ := drop_cons ht
    rw [bytesS_len] at hlt
    rw [byte_at s i hlt] at hc
    injection hc with hc
    have hl : (i : Int) < (s.size : Int) := by omega
    refine (sure4 hmix).round F113 noLoops [0,19,20] ?_
    rw [r113]
    simp only [byte_eq, hc, hl, next_i i (by omega), FlatH.empty, Alt_iff, Need_iff, ltI_eq, leI_eq, eqI_eq, leN_eq, eqN_eq, decide_eq_true_eq, decide_eq_false_iff_not, decide_true, decide_false, true_and, and_true, Bool.true_eq_false, Bool.false_eq_true, false_implies, true_implies, implies_true, not_true_eq_false, not_false_eq_true, Bool.not_eq_true', Bool.not_eq_false']
    rw [List.all_cons] at hK
    have more : okc c = true → LSays Try.prog 0 (sub body113 [0,0,1,0,1,1]) (T113 s (i + 1)) (hp []) K := fun h => by
      rw [h, Bool.true_and] at hK
      exact ih (i + 1) hd (by omega) hK
    have stop : okc c = false → K .ret (tmps 41 [(2, .bool false)]) (hp []) := fun h => by
      rw [h, Bool.false_and] at hK
      exact hK
    have e : okc c = (isLet c || isNum c) := rfl
    refine ⟨fun h => ⟨fun h1 => stop ?_, fun h1 => ⟨fun h2 => stop ?_, fun h2 => more ?_⟩⟩, fun h => more ?_⟩
    · rw [e, h]; simp [isNum, leI_eq]; omega
    · rw [e, h]; simp [isNum, leI_eq]; omega
    · rw [e, h]; simp [isNum, leI_eq]; omega
    · rw [e, h]; rfl
theorem rname_loop (hmix : Try.prog.follows .mixedOrders = true) (s : ByteArray) (hs : s.size ≤ 9223372036854775807) (K : Post) : ∀ (t : List Int) (i : Nat), (bytesS s).drop i = t → i ≤ s.size →
    Alt ((i != 0 || s.size == 0 || isLet (byteAt s 0)) && t.all okc) (K (.exit 0) (tmps 55 [(0, .string s)]) (hp [])) (K .ret (tmps 55 [(2, .bool false)]) (hp [])) → LSays Try.prog 0 (sub body115 [0,0,1,0,1]) (T115 s i) (hp []) K := by
  intro t
  induction t with
  | nil =>
    intro i ht hi hK
    have hz : s.size ≤ i := by have := List.drop_eq_nil_iff.1 ht; rw [bytesS_len] at this; omega
    have hge : ¬ ((i : Int) < (s.size : Int)) := by omega
    have h1 : (i != 0 || s.size == 0 || isLet (byteAt s 0)) = true := by
      by_cases h : i = 0
      · simp [show s.size = 0 by omega]
      · simp [h]
    rw [h1] at hK
    refine (sure4 hmix).round F115 noLoops [0,3] ?_
    rw [r115]
    simp only [hge, FlatH.empty, Alt_iff, Need_iff, ltI_eq, leI_eq, eqI_eq, leN_eq, eqN_eq, decide_eq_true_eq, decide_eq_false_iff_not, decide_true, decide_false, true_and, and_true, Bool.true_eq_false, Bool.false_eq_true, false_implies, true_implies, implies_true, not_true_eq_false, not_false_eq_true, Bool.not_eq_true', Bool.not_eq_false']
    exact hK
  | cons c t ih =>
    intro i ht hi hK
    obtain ⟨hlt, hc, hd⟩ := drop_cons ht
    rw [bytesS_len] at hlt
    rw [byte_at s i hlt] at hc
    injection hc with hc
    have hl : (i : Int) < (s.size : Int) := by omega
    refine (sure4 hmix).round F115 noLoops [0,3] ?_
    rw [r115]
    simp only [byte_eq, hc, hl, next_i i (by omega), FlatH.empty, show ((i : Int) = 0) = (i = 0) from propext (by omega), Alt_iff, Need_iff, ltI_eq, leI_eq, eqI_eq, leN_eq, eqN_eq, decide_eq_true_eq, decide_eq_false_iff_not, decide_true, decide_false, true_and, and_true, Bool.true_eq_false, Bool.false_eq_true, false_implies, true_implies, implies_true, not_true_eq_false, not_false_eq_true, Bool.not_eq_true', Bool.not_eq_false']
    rw [List.all_cons] at hK
    have more : (isLet c = true ∨ i ≠ 0 ∧ isNum c = true) → LSays Try.prog 0 (sub body115 [0,0,1,0,1]) (T115 s (i + 1)) (hp []) K := fun h => by
      refine ih (i + 1) hd (by omega) ?_
      have h1 : (i != 0 || s.size == 0 || isLet (byteAt s 0)) = true := by
        by_cases h0 : i = 0
        · subst h0
          rcases h with h | h
          · rw [hc]; simp [h]
          · exact absurd rfl h.1
        · simp [h0]
      have h2 : okc c = true := by
        rcases h with h | h
        · simp [okc, h]
        · simp [okc, h.2]
      rw [h1, h2] at hK
      simpa using hK
    have stop : isLet c = false → (i = 0 ∨ isNum c = false) → K .ret (tmps 55 [(2, .bool false)]) (hp []) := fun h h' => by
      have : ((i != 0 || s.size == 0 || isLet (byteAt s 0)) && (okc c && t.all okc)) = false := by
        rcases h' with h' | h'
        · subst h'
          rw [hc, h]
          have : s.size ≠ 0 := by omega
          simp [this]
        · simp [okc, h, h']
      rw [this] at hK
      exact hK
    have el : isLet c = true ↔ (97 ≤ c ∧ c ≤ 122) ∨ (65 ≤ c ∧ c ≤ 90) ∨ c = 95 := by simp [isLet, leI_eq, eqI_eq, or_assoc]
    have en : isNum c = true ↔ 48 ≤ c ∧ c ≤ 57 := by simp [isNum, leI_eq]
    have el' : isLet c = false ↔ ¬ ((97 ≤ c ∧ c ≤ 122) ∨ (65 ≤ c ∧ c ≤ 90) ∨ c = 95) := by rw [← el]; simp
    have en' : isNum c = false ↔ ¬ (48 ≤ c ∧ c ≤ 57) := by rw [← en]; simp
    simp only [el, en, el', en'] at more stop
    refine ⟨fun h1 => ⟨fun h2 => more (by omega), fun h2 => ?_⟩, fun h1 => ?_⟩
    all_goals
      refine ⟨fun h3 => ⟨fun h4 => more (by omega), fun h4 => ?_⟩, fun h3 => ?_⟩
      all_goals
        refine ⟨fun h5 => ⟨fun h6 => stop (by omega) (by omega), fun h6 => ⟨fun h7 => stop (by omega) (by omega), fun h7 => ⟨fun h8 => stop (by omega) (by omega), fun h8 => more (by omega)⟩⟩⟩, fun h5 => more (by omega)⟩
end Go.Proofs.Ytdpfmaimhimfcaa

namespace Go.Proofs.Ytdpfmaimhimfcaa
open Go.RowKit Go.Proofs.Ytdpfmaimhimfcaa.AM
set_option maxRecDepth 100000
set_option maxHeartbeats 4000000
/-- a yes or no of a text -/
noncomputable def strBC (f : ByteArray → Bool) : Ctr where
  pre := fun args blks => match args, blks with
    | [.string s], [] => Need (leN s.size 9223372036854775807) True
    | _, _ => False
  val := fun args blks => match args, blks with
    | [.string s], [] => .bool (f s)
    | _, _ => .bool false
  new := fun _ _ => []
noncomputable def nameC : Ctr := strBC nameB
noncomputable def valueC : Ctr := strBC valueB
theorem strBC_of {g : ByteArray → Bool} {f : FuncId} (hs : ∀ s : ByteArray, s.size ≤ 9223372036854775807 → FunSays Try.prog f [.string s] (hp []) fun v h' => v = .bool (g s) ∧ h' = hp []) : (strBC g).Holds Try.prog f := by
  intro args blks hf hp
  refine ⟨trivial, ?_⟩
  simp only [strBC] at hp ⊢
  split at hp
  · simp only [Alt_iff, Need_iff, ltI_eq, leI_eq, eqI_eq, leN_eq, eqN_eq, decide_eq_true_eq, decide_eq_false_iff_not, decide_true, decide_false, true_and, and_true, Bool.true_eq_false, Bool.false_eq_true, false_implies, true_implies, implies_true, not_true_eq_false, not_false_eq_true, Bool.not_eq_true', Bool.not_eq_false'] at hp
    exact hs _ hp
  · exact hp.elim
theorem name_says (hmix : Try.prog.follows .mixedOrders = true) (s : ByteArray) (hs : s.size ≤ 9223372036854775807) : FunSays Try.prog 13 [.string s] (hp []) fun v h' => v = .bool (nameB s) ∧ h' = hp [] := by
  have hL : Loops Try.prog body113 0 (cutLK [c113 s ((bytesS s).all okc)]) := Loops.none.more (c113 s ((bytesS s).all okc)) fun K hK => name_loop hmix s hs K (bytesS s) 0 rfl (by omega) hK
  refine (sure4 hmix).fun F113 body113 Try.func13 rfl hL.gc ?_
  rw [w113]
  have e : (↑(s.data.toList.getD 0 (OfNat.ofNat 0)).toNat : Int) = byteAt s 0 := rfl
  rw [e]
  unfold nameB
  simp only [FlatH.empty, Alt_iff, Need_iff, ltI_eq, leI_eq, eqI_eq, leN_eq, eqN_eq, decide_eq_true_eq, decide_eq_false_iff_not, decide_true, decide_false, true_and, and_true, Bool.true_eq_false, Bool.false_eq_true, false_implies, true_implies, implies_true, not_true_eq_false, not_false_eq_true, Bool.not_eq_true', Bool.not_eq_false']
  refine ⟨fun h => ⟨rfl, by simp [show s.size = 0 by omega, leN_eq]⟩, fun h => ⟨fun h1 => ⟨rfl, by simp [show ¬ s.size ≤ 12 by omega, leN_eq]⟩, fun h1 => ⟨by omega, fun h2 => ⟨rfl, by simp [h2]⟩, fun h2 => ?_⟩⟩⟩
  have e2 : (decide (1 ≤ s.size) && decide (s.size ≤ 12) && isLet (byteAt s 0) && (bytesS s).all okc) = (bytesS s).all okc := by simp [show 1 ≤ s.size by omega, show s.size ≤ 12 by omega, h2]
  rw [e2]
  refine ⟨fun h3 => ⟨rfl, by rw [h3]⟩, fun h3 => ⟨rfl, by rw [h3]⟩⟩
theorem okc_let {c : Int} (h : isLet c = true) : okc c = true := by simp [okc, h]
theorem rname_says (hmix : Try.prog.follows .mixedOrders = true) (s : ByteArray) (hs : s.size ≤ 9223372036854775807) : FunSays Try.prog 15 [.string s] (hp []) fun v h' => v = .bool (nameB s) ∧ h' = hp [] := by
  have hL : Loops Try.prog body115 0 (cutLK [c115 s ((s.size == 0 || isLet (byteAt s 0)) && (bytesS s).all okc)]) := Loops.none.more (c115 s ((s.size == 0 || isLet (byteAt s 0)) && (bytesS s).all okc)) fun K hK => rname_loop hmix s hs K (bytesS s) 0 rfl (by omega) (show Alt _ _ _ from hK)
  refine (sure4 hmix).fun F115 body115 Try.func15 rfl hL.gc ?_
  rw [w115]
  refine ⟨FlatH.empty, rfl, rfl, ?_⟩
  unfold nameB
  simp only [FlatH.empty, Alt_iff, Need_iff, ltI_eq, leI_eq, eqI_eq, leN_eq, eqN_eq, decide_eq_true_eq, decide_eq_false_iff_not, decide_true, decide_false, true_and, and_true, Bool.true_eq_false, Bool.false_eq_true, false_implies, true_implies, implies_true, not_true_eq_false, not_false_eq_true, Bool.not_eq_true', Bool.not_eq_false']
  refine ⟨fun h => ⟨fun h1 => ⟨rfl, ?_⟩, fun h1 => ⟨rfl, ?_⟩⟩, fun h => ⟨rfl, ?_⟩⟩
  · have : s.size ≠ 0 := by omega
    simp only [Bool.and_eq_true, Bool.or_eq_true, beq_iff_eq, this, false_or] at h
    simp [h.1, h.2, show 1 ≤ s.size by omega]
    omega
  · simp [show s.size = 0 by omega]
  · by_cases h0 : s.size = 0
    · simp [h0]
    · rw [show (s.size == 0) = false by simp [h0], Bool.false_or] at h
      rw [Bool.and_assoc, Bool.and_assoc] at *
      simp [h]
theorem value_says (hmix : Try.prog.follows .mixedOrders = true) (s : ByteArray) (hs : s.size ≤ 9223372036854775807) : FunSays Try.prog 16 [.string s] (hp []) fun v h' => v = .bool (valueB s) ∧ h' = hp [] := by
  refine (sure0 hmix).fun F116 body116 Try.func16 rfl noLoops ?_
  rw [w116]
  unfold valueB
  simp only [FlatH.empty, Alt_iff, Need_iff, ltI_eq, leI_eq, eqI_eq, leN_eq, eqN_eq, decide_eq_true_eq, decide_eq_false_iff_not, decide_true, decide_false, true_and, and_true, Bool.true_eq_false, Bool.false_eq_true, false_implies, true_implies, implies_true, not_true_eq_false, not_false_eq_true, Bool.not_eq_true', Bool.not_eq_false']
  exact ⟨fun h => ⟨rfl, by simp [show 1 ≤ s.size by omega]; omega⟩, fun h => ⟨rfl, by simp [show ¬ 1 ≤ s.size by omega]⟩⟩
theorem rvalue_says (hmix : Try.prog.follows .mixedOrders = true) (s : ByteArray) (hs : s.size ≤ 9223372036854775807) : FunSays Try.prog 17 [.string s] (hp []) fun v h' => v = .bool (valueB s) ∧ h' = hp [] := by
  refine (sure0 hmix).fun F117 body117 Try.func17 rfl noLoops ?_
  rw [w117]
  unfold valueB
  simp only [FlatH.empty, Alt_iff, Need_iff, ltI_eq, leI_eq, eqI_eq, leN_eq, eqN_eq, decide_eq_true_eq, decide_eq_false_iff_not, decide_true, decide_false, true_and, and_true, Bool.true_eq_false, Bool.false_eq_true, false_implies, true_implies, implies_true, not_true_eq_false, not_false_eq_true, Bool.not_eq_true', Bool.not_eq_false']
  exact ⟨fun h => ⟨rfl, by simp [show 1 ≤ s.size by omega]; omega⟩, fun h => ⟨rfl, by simp [show ¬ 1 ≤ s.size by omega]⟩⟩
noncomputable def T111 (o : Nat) (sp : Option Nat) (len cap i : Nat) : List Value := tmps 46 [(0, .slice (some ⟨0,o,sp⟩) len cap), (13, .slice (some ⟨0,o,sp⟩) len cap), (14, .int .i64 len), (15, .int .i64 i)]
noncomputable def T118 (o : Nat) (sp : Option Nat) (len cap i : Nat) : List Value := tmps 52 [(0, .slice (some ⟨0,o,sp⟩) len cap), (3, .int .i64 i)]
noncomputable def T132 (o : Nat) (sp : Option Nat) (len cap i : Nat) : List Value := tmps 19 [(0, .slice (some ⟨0,o,sp⟩) len cap), (1, .func (.func 33) #[] #[.pointer (some ⟨1,0,none⟩)]), (7, .int .i64 len), (8, .int .i64 i)]
noncomputable def T120 (o : Nat) (sp : Option Nat) (len cap i : Nat) (s : ByteArray) : List Value := tmps 24 [(0, .slice (some ⟨0,o,sp⟩) len cap), (1, .string s), (5, .int .i64 i)]
noncomputable def T114 (o : Nat) (sp : Option Nat) (len cap i : Nat) (m n : Int) : List Value := tmps 58 [(0, .slice (some ⟨0,o,sp⟩) len cap), (1, .int .i64 m), (5, .int .i64 n), (6, .int .i64 i)]
/-- 'is it that name': the function that is handed to IndexFunc -/
noncomputable def eqNC : Ctr where
  pre := fun args blks => match args, blks with
    | [.agg xs, .pointer (some ⟨0,0,none⟩)], [.cells [.string s] 1 _] => match xs.toList with
      | [.string _, .string _] => True
      | _ => False
    | _, _ => False
  val := fun args blks => match args, blks with
    | [.agg xs, .pointer (some ⟨0,0,none⟩)], [.cells [.string s] 1 _] => match xs.toList with
      | [.string a, .string _] => .bool (eqS a s)
      | _ => .bool false
    | _, _ => .bool false
  new := fun _ _ => []
noncomputable def S5 : Book := bookOf [(13, nameC), (15, nameC), (16, valueC), (17, valueC), (33, eqNC)]
noncomputable def body111 : Code := (Try.f11.body).getD .skip
def F111 : List Nat → Option (List Nat) := fun p => match p with
  | [1] => some [0]
  | [1, 0, 1] => some [0, 12]
  | [1, 0, 1, 0, 1] => some [2]
  | [1, 1] => some [0]
  | [1, 0, 1, 1] => some [0, 13, 14, 15]
  | [1, 0, 0, 1, 0, 1, 1] => some [0, 13, 14, 15, 16]
  | [1, 0, 1, 0, 0, 1, 0, 1, 1] => some []
  | [1, 1, 0, 0, 1, 0, 1, 1] => some [0, 13, 14, 15]
  | [1, 0, 0, 1, 1, 0, 0, 1, 0, 1, 1] => some [0, 3, 4, 13, 14, 15]
  | [1, 1, 0, 0, 1, 1, 0, 0, 1, 0, 1, 1] => some [0, 13, 14, 15, 44]
  | [1, 0, 1, 1, 0, 0, 1, 1, 0, 0, 1, 0, 1, 1] => some [2]
  | [1, 1, 1, 0, 0, 1, 0, 1, 1] => some [0, 13, 14, 15]
  | [1, 1, 1] => some []
  | [1, 1, 1, 1] => some [2]
  | _ => none
noncomputable def body118 : Code := (Try.f18.body).getD .skip
def F118 : List Nat → Option (List Nat) := fun p => match p with
  | [1] => some [0]
  | [1, 0, 1] => some [0, 11]
  | [1, 0, 1, 0, 1] => some [2]
  | [1, 1] => some [0]
  | [1, 0, 1, 1] => some [0, 3]
  | [1, 0, 0, 0, 1, 0, 1, 1] => some [0, 3, 15]
  | [1, 1, 0, 0, 0, 1, 0, 1, 1] => some []
  | [1, 0, 0, 1, 0, 1, 1] => some [0, 3]
  | [1, 0, 0, 1, 0, 0, 1, 0, 1, 1] => some [0, 3, 51]
  | [1, 0, 1, 0, 0, 1, 0, 0, 1, 0, 1, 1] => some [2]
  | [1, 1, 0, 0, 1, 0, 1, 1] => some [0, 3]
  | [1, 1, 1] => some []
  | [1, 1, 1, 1] => some [2]
  | _ => none
noncomputable def body132 : Code := (Try.f32.body).getD .skip
def F132 : List Nat → Option (List Nat) := fun p => match p with
  | [1] => some [0, 1]
  | [1, 0, 1] => some [0, 1, 7, 8]
  | [1, 0, 0, 1, 0, 1] => some [0, 1, 7, 8, 9]
  | [1, 0, 1, 0, 0, 1, 0, 1] => some []
  | [1, 1, 0, 0, 1, 0, 1] => some [0, 1, 7, 8]
  | [1, 0, 0, 1, 1, 0, 0, 1, 0, 1] => some [0, 1, 5, 7, 8]
  | [1, 1, 0, 0, 1, 1, 0, 0, 1, 0, 1] => some [0, 1, 5, 7, 8, 16]
  | [1, 0, 1, 1, 0, 0, 1, 1, 0, 0, 1, 0, 1] => some [4]
  | [1, 1, 1, 0, 0, 1, 0, 1] => some [0, 1, 7, 8]
  | [1, 1] => some []
  | [1, 1, 1] => some [4]
  | _ => none
noncomputable def body133 : Code := (Try.f33.body).getD .skip
def F133 : List Nat → Option (List Nat) := fun p => match p with
  | [1] => some [1, 2]
  | [1, 1] => some [3]
  | _ => none
noncomputable def body120 : Code := (Try.f20.body).getD .skip
def F120 : List Nat → Option (List Nat) := fun p => match p with
  | [1] => some [0, 1]
  | [1, 0, 1] => some [0, 1, 5]
  | [1, 0, 0, 0, 1, 0, 1] => some [0, 1, 5, 9]
  | [1, 1, 0, 0, 0, 1, 0, 1] => some []
  | [1, 0, 0, 1, 0, 1] => some [0, 1, 5]
  | [1, 0, 0, 1, 0, 0, 1, 0, 1] => some [0, 1, 5, 18]
  | [1, 0, 1, 0, 0, 1, 0, 0, 1, 0, 1] => some [4]
  | [1, 1, 0, 0, 1, 0, 1] => some [0, 1, 5]
  | [1, 1] => some []
  | [1, 1, 1] => some [4]
  | _ => none
noncomputable def body114 : Code := (Try.f14.body).getD .skip
def F114 : List Nat → Option (List Nat) := fun p => match p with
  | [1] => some [0, 1]
  | [1, 1] => some [0, 1, 5]
  | [1, 0, 1, 1] => some [0, 1, 5, 6]
  | [1, 0, 0, 0, 1, 0, 1, 1] => some [0, 1, 5, 6, 15]
  | [1, 1, 0, 0, 0, 1, 0, 1, 1] => some [1, 5]
  | [1, 0, 0, 1, 0, 1, 1] => some [0, 1, 5, 6]
  | [1, 0, 0, 0, 1, 0, 0, 1, 0, 1, 1] => some [0, 1, 5, 6, 35]
  | [1, 0, 1, 0, 0, 0, 1, 0, 0, 1, 0, 1, 1] => some [4]
  | [1, 0, 0, 1, 0, 0, 1, 0, 1, 1] => some [0, 1, 5, 6]
  | [1, 1, 0, 0, 1, 0, 1, 1] => some [0, 1, 5, 6]
  | [1, 1, 1] => some [1, 5]
  | [1, 1, 1, 1] => some [4]
  | _ => none

theorem w133 (a b s : ByteArray) (own : Bool) (K : Value → Heap → Prop) :
  funK Try.prog S0 noLoop F133 body133 Try.f33 [.agg #[.string a, .string b], .pointer (some ⟨0,0,none⟩)] (hp [.cells [.string s] 1 own]) K = (
K (Value.bool (eqS (strV (Value.string a)) (strV (Value.string s)))) (hp [Blk.cells [Value.string s] 1 own])) := by kernel_rfl

theorem r111 (cs : List Value) (own : Bool) (o : Nat) (sp : Option Nat) (len cap i : Nat) (K : Post) :
  roundK Try.prog S5 noLoop F111 body111 1 [0,13,14,15] [0,0,1,0,1,1] (T111 o sp len cap i) (hp [.cells cs 2 own]) K = (
Alt (ltI (↑i : Int) (↑len : Int))
  (Need (ltI (↑i : Int) (↑len : Int))
    (Need (isStr ((getO cs (o + (↑i : Int).toNat * 2)).getD undef))
      (Need (isStr ((getO cs (o + (↑i : Int).toNat * 2 + 1)).getD undef))
        (True ∧
          Need
              (leN (strV (Value.string (strV ((getO cs (o + (↑i : Int).toNat * 2)).getD undef)))).size
                9223372036854775807)
              True ∧
            Alt (!nameB (strV (Value.string (strV ((getO cs (o + (↑i : Int).toNat * 2)).getD undef)))))
              (K AE.ret (tmps 46 [(2, Value.bool false)]) (hp [Blk.cells cs 2 own]))
              (True ∧
                Need
                    (leN (strV (Value.string (strV ((getO cs (o + (↑i : Int).toNat * 2 + 1)).getD undef)))).size
                      9223372036854775807)
                    True ∧
                  Alt (!valueB (strV (Value.string (strV ((getO cs (o + (↑i : Int).toNat * 2 + 1)).getD undef)))))
                    (K AE.ret (tmps 46 [(2, Value.bool false)]) (hp [Blk.cells cs 2 own]))
                    (Alt (ltI 0 (↑i : Int))
                      (Need (leI 0 (wr IntKind.i64 ((↑i : Int) - 1)))
                        (Need (ltI (wr IntKind.i64 ((↑i : Int) - 1)) (↑len : Int))
                          (Need (isStr ((getO cs (o + (wr IntKind.i64 ((↑i : Int) - 1)).toNat * 2 + 0)).getD undef))
                            (Alt
                              (ltS (strV (Value.string (strV ((getO cs (o + (↑i : Int).toNat * 2)).getD undef))))
                                  (strV ((getO cs (o + (wr IntKind.i64 ((↑i : Int) - 1)).toNat * 2 + 0)).getD undef)) ||
                                eqS (strV (Value.string (strV ((getO cs (o + (↑i : Int).toNat * 2)).getD undef))))
                                  (strV ((getO cs (o + (wr IntKind.i64 ((↑i : Int) - 1)).toNat * 2 + 0)).getD undef)))
                              (K AE.ret (tmps 46 [(2, Value.bool false)]) (hp [Blk.cells cs 2 own]))
                              (K AE.normal
                                (tmps 46
                                  [(0, Value.slice (some { block := 0, off := o, spot := sp : Addr }) len cap),
                                    (13, Value.slice (some { block := 0, off := o, spot := sp : Addr }) len cap),
                                    (14, Value.int IntKind.i64 (↑len : Int)),
                                    (15, Value.int IntKind.i64 (wr IntKind.i64 ((↑i : Int) + 1)))])
                                (hp [Blk.cells cs 2 own]))))))
                      (K AE.normal
                        (tmps 46
                          [(0, Value.slice (some { block := 0, off := o, spot := sp : Addr }) len cap),
                            (13, Value.slice (some { block := 0, off := o, spot := sp : Addr }) len cap),
                            (14, Value.int IntKind.i64 (↑len : Int)),
                            (15, Value.int IntKind.i64 (wr IntKind.i64 ((↑i : Int) + 1)))])
                        (hp [Blk.cells cs 2 own]))))))))
  (K (AE.exit 0) (tmps 46 []) (hp [Blk.cells cs 2 own]))) := by kernel_rfl

theorem r118 (cs : List Value) (own : Bool) (o : Nat) (sp : Option Nat) (len cap i : Nat) (K : Post) :
  roundK Try.prog S5 noLoop F118 body118 1 [0,3] [0,0,1,0,1,1] (T118 o sp len cap i) (hp [.cells cs 2 own]) K = (
Alt (ltI (↑i : Int) (↑len : Int))
  (Need (ltI (↑i : Int) (↑len : Int))
    (Need (isStr ((getO cs (o + (↑i : Int).toNat * 2 + 0)).getD undef))
      (True ∧
        Need (leN (strV ((getO cs (o + (↑i : Int).toNat * 2 + 0)).getD undef)).size 9223372036854775807) True ∧
          Alt (!nameB (strV ((getO cs (o + (↑i : Int).toNat * 2 + 0)).getD undef)))
            (K AE.ret (tmps 52 [(2, Value.bool false)]) (hp [Blk.cells cs 2 own]))
            (Need (ltI (↑i : Int) (↑len : Int))
              (Need (isStr ((getO cs (o + (↑i : Int).toNat * 2 + 1)).getD undef))
                (True ∧
                  Need (leN (strV ((getO cs (o + (↑i : Int).toNat * 2 + 1)).getD undef)).size 9223372036854775807)
                      True ∧
                    Alt (!valueB (strV ((getO cs (o + (↑i : Int).toNat * 2 + 1)).getD undef)))
                      (K AE.ret (tmps 52 [(2, Value.bool false)]) (hp [Blk.cells cs 2 own]))
                      (Alt (ltI 0 (↑i : Int))
                        (Need (ltI (↑i : Int) (↑len : Int))
                          (Need (isStr ((getO cs (o + (↑i : Int).toNat * 2 + 0)).getD undef))
                            (Need (leI 0 (wr IntKind.i64 ((↑i : Int) - 1)))
                              (Need (ltI (wr IntKind.i64 ((↑i : Int) - 1)) (↑len : Int))
                                (Need
                                  (isStr ((getO cs (o + (wr IntKind.i64 ((↑i : Int) - 1)).toNat * 2 + 0)).getD undef))
                                  (Alt
                                    (ltS (strV ((getO cs (o + (↑i : Int).toNat * 2 + 0)).getD undef))
                                        (strV
                                          ((getO cs (o + (wr IntKind.i64 ((↑i : Int) - 1)).toNat * 2 + 0)).getD
                                            undef)) ||
                                      eqS (strV ((getO cs (o + (↑i : Int).toNat * 2 + 0)).getD undef))
                                        (strV
                                          ((getO cs (o + (wr IntKind.i64 ((↑i : Int) - 1)).toNat * 2 + 0)).getD undef)))
                                    (K AE.ret (tmps 52 [(2, Value.bool false)]) (hp [Blk.cells cs 2 own]))
                                    (K AE.normal
                                      (tmps 52
                                        [(0, Value.slice (some { block := 0, off := o, spot := sp : Addr }) len cap),
                                          (3, Value.int IntKind.i64 (wr IntKind.i64 ((↑i : Int) + 1)))])
                                      (hp [Blk.cells cs 2 own]))))))))
                        (K AE.normal
                          (tmps 52
                            [(0, Value.slice (some { block := 0, off := o, spot := sp : Addr }) len cap),
                              (3, Value.int IntKind.i64 (wr IntKind.i64 ((↑i : Int) + 1)))])
                          (hp [Blk.cells cs 2 own])))))))))
  (K (AE.exit 0) (tmps 52 []) (hp [Blk.cells cs 2 own]))) := by kernel_rfl

theorem r132 (cs : List Value) (own own2 : Bool) (s : ByteArray) (o : Nat) (sp : Option Nat) (len cap i : Nat) (K : Post) :
  roundK Try.prog S5 noLoop F132 body132 2 [0,1,7,8] [0,0,1,0,1] (T132 o sp len cap i) (hp [.cells cs 2 own, .cells [.string s] 1 own2]) K = (
Alt (ltI (↑i : Int) (↑len : Int))
  (Need (ltI (↑i : Int) (↑len : Int))
    (Need (isStr ((getO cs (o + (↑i : Int).toNat * 2)).getD undef))
      (Need (isStr ((getO cs (o + (↑i : Int).toNat * 2 + 1)).getD undef))
        ((FlatL [Value.string s] ∧ True) ∧
          True ∧
            Alt (eqS (strV ((getO cs (o + (↑i : Int).toNat * 2)).getD undef)) s)
              (K AE.ret (tmps 19 [(4, Value.int IntKind.i64 (↑i : Int))])
                (hp [Blk.cells cs 2 own, Blk.cells [Value.string s] 1 own2]))
              (K AE.normal
                (tmps 19
                  [(0, Value.slice (some { block := 0, off := o, spot := sp : Addr }) len cap),
                    (1, Value.func (Fn.func 33) #[] #[Value.pointer (some { block := 1, off := 0 : Addr })]),
                    (7, Value.int IntKind.i64 (↑len : Int)),
                    (8, Value.int IntKind.i64 (wr IntKind.i64 ((↑i : Int) + 1)))])
                (hp [Blk.cells cs 2 own, Blk.cells [Value.string s] 1 own2]))))))
  (K (AE.exit 0) (tmps 19 []) (hp [Blk.cells cs 2 own, Blk.cells [Value.string s] 1 own2]))) := by kernel_rfl

theorem r120 (cs : List Value) (own : Bool) (s : ByteArray) (o : Nat) (sp : Option Nat) (len cap i : Nat) (K : Post) :
  roundK Try.prog S5 noLoop F120 body120 1 [0,1,5] [0,0,1,0,1] (T120 o sp len cap i s) (hp [.cells cs 2 own]) K = (
Alt (ltI (↑i : Int) (↑len : Int))
  (Need (ltI (↑i : Int) (↑len : Int))
    (Need (isStr ((getO cs (o + (↑i : Int).toNat * 2 + 0)).getD undef))
      (Alt (eqS (strV ((getO cs (o + (↑i : Int).toNat * 2 + 0)).getD undef)) s)
        (Need (ltI (↑i : Int) (↑len : Int))
          (Need (isStr ((getO cs (o + (↑i : Int).toNat * 2 + 1)).getD undef))
            (K AE.ret (tmps 24 [(4, Value.string (strV ((getO cs (o + (↑i : Int).toNat * 2 + 1)).getD undef)))])
              (hp [Blk.cells cs 2 own]))))
        (K AE.normal
          (tmps 24
            [(0, Value.slice (some { block := 0, off := o, spot := sp : Addr }) len cap), (1, Value.string s),
              (5, Value.int IntKind.i64 (wr IntKind.i64 ((↑i : Int) + 1)))])
          (hp [Blk.cells cs 2 own])))))
  (K (AE.exit 0) (tmps 24 []) (hp [Blk.cells cs 2 own]))) := by kernel_rfl

theorem r114 (cs : List Value) (own : Bool) (m n : Int) (o : Nat) (sp : Option Nat) (len cap i : Nat) (K : Post) :
  roundK Try.prog S5 noLoop F114 body114 1 [0,1,5,6] [0,0,1,0,1,1] (T114 o sp len cap i m n) (hp [.cells cs 2 own]) K = (
Alt (ltI (↑i : Int) (↑len : Int))
  (Alt (leI n m)
    (Need (ltI (↑i : Int) (↑len : Int))
      (Need (isStr ((getO cs (o + (↑i : Int).toNat * 2 + 0)).getD undef))
        (Alt (ltI m (↑(strV ((getO cs (o + (↑i : Int).toNat * 2 + 0)).getD undef)).size : Int))
          (K AE.ret (tmps 58 [(4, Value.int IntKind.i64 (wr IntKind.i64 (m + 1)))]) (hp [Blk.cells cs 2 own]))
          (Need (ltI (↑i : Int) (↑len : Int))
            (Need (isStr ((getO cs (o + (↑i : Int).toNat * 2 + 1)).getD undef))
              (Alt (ltI m (↑(strV ((getO cs (o + (↑i : Int).toNat * 2 + 1)).getD undef)).size : Int))
                (K AE.ret (tmps 58 [(4, Value.int IntKind.i64 (wr IntKind.i64 (m + 1)))]) (hp [Blk.cells cs 2 own]))
                (Need (ltI (↑i : Int) (↑len : Int))
                  (Need (isStr ((getO cs (o + (↑i : Int).toNat * 2 + 0)).getD undef))
                    (Need (ltI (↑i : Int) (↑len : Int))
                      (Need (isStr ((getO cs (o + (↑i : Int).toNat * 2 + 1)).getD undef))
                        (K AE.normal
                          (tmps 58
                            [(0, Value.slice (some { block := 0, off := o, spot := sp : Addr }) len cap),
                              (1, Value.int IntKind.i64 m),
                              (5,
                                Value.int IntKind.i64
                                  (wr IntKind.i64
                                    (wr IntKind.i64
                                        (wr IntKind.i64 (n + 1) +
                                          (↑(strV ((getO cs (o + (↑i : Int).toNat * 2 + 0)).getD undef)).size : Int)) +
                                      (↑(strV ((getO cs (o + (↑i : Int).toNat * 2 + 1)).getD undef)).size : Int)))),
                              (6, Value.int IntKind.i64 (wr IntKind.i64 ((↑i : Int) + 1)))])
                          (hp [Blk.cells cs 2 own]))))))))))))
    (K (AE.exit 0) (tmps 58 [(1, Value.int IntKind.i64 m), (5, Value.int IntKind.i64 n)]) (hp [Blk.cells cs 2 own])))
  (K (AE.exit 0) (tmps 58 [(1, Value.int IntKind.i64 m), (5, Value.int IntKind.i64 n)]) (hp [Blk.cells cs 2 own]))) := by kernel_rfl

theorem nameC_holds (hmix : Try.prog.follows .mixedOrders = true) : nameC.Holds Try.prog 13 := strBC_of (name_says hmix)
theorem rnameC_holds (hmix : Try.prog.follows .mixedOrders = true) : nameC.Holds Try.prog 15 := strBC_of (rname_says hmix)
theorem valueC_holds (hmix : Try.prog.follows .mixedOrders = true) : valueC.Holds Try.prog 16 := strBC_of (value_says hmix)
theorem rvalueC_holds (hmix : Try.prog.follows .mixedOrders = true) : valueC.Holds Try.prog 17 := strBC_of (rvalue_says hmix)
theorem eqNC_holds (hmix : Try.prog.follows .mixedOrders = true) : eqNC.Holds Try.prog 33 := by
  intro args blks hf hp
  refine ⟨trivial, ?_⟩
  simp only [eqNC] at hp ⊢
  split at hp
  · rename_i xs s own
    obtain ⟨xs⟩ := xs
    simp only at hp ⊢
    split at hp
    · refine (sure0 hmix).fun F133 body133 Try.func33 rfl noLoops ?_
      rw [w133]
      exact ⟨rfl, FlatH.hp ⟨⟨fun x hx => by simp at hx; subst hx; rfl⟩, trivial⟩, rfl, rfl⟩
    · exact hp.elim
  · exact hp.elim
theorem sure5 (hmix : Try.prog.follows .mixedOrders = true) : Sure Try.prog S5 := ⟨hmix, plain, bookOf_ok ⟨nameC_holds hmix, rnameC_holds hmix, valueC_holds hmix, rvalueC_holds hmix, eqNC_holds hmix, trivial⟩⟩
/-! ### labels in cells -/
abbrev Lb := ByteArray × ByteArray
structure LSl (cs : List Value) (o : Nat) (l : List Lb) : Prop where
  name : ∀ (j : Nat) x, l[j]? = some x → getO cs (o + j * 2) = some (.string x.1)
  value : ∀ (j : Nat) x, l[j]? = some x → getO cs (o + j * 2 + 1) = some (.string x.2)
  size : ∀ x ∈ l, x.1.size ≤ 9223372036854775807 ∧ x.2.size ≤ 9223372036854775807
  short : l.length ≤ 9223372036854775807
  flat : FlatL cs
inductive IsLs (cs : List Value) (o len cap : Nat) : Prop
  | mk (l : List Lb) (h : l.length = len) (hc : len ≤ cap) (hb : LSl cs o l) : IsLs cs o len cap
noncomputable def labsAt (cs : List Value) (o len : Nat) : List Lb := (List.range len).map fun j => (strV ((getO cs (o + j * 2)).getD undef), strV ((getO cs (o + j * 2 + 1)).getD undef))
theorem LSl.labsAt {cs : List Value} {o : Nat} {l : List Lb} (h : LSl cs o l) : labsAt cs o l.length = l := by
  unfold Go.Proofs.Ytdpfmaimhimfcaa.labsAt
  refine List.ext_getElem? fun j => ?_
  rw [List.getElem?_map]
  by_cases hj : j < l.length
  · rw [List.getElem?_range hj, List.getElem?_eq_getElem hj]
    have e := List.getElem?_eq_getElem hj
    rw [Option.map_some, h.name j _ e, h.value j _ e]; rfl
  · rw [List.getElem?_eq_none (by simp; omega), List.getElem?_eq_none (by omega)]; rfl
/-- what stands behind a name -/
def after : Option ByteArray → ByteArray → Bool
  | none, _ => true
  | some b, a => !(ltS a b || eqS a b)
def setF : Option ByteArray → List Lb → Bool
  | _, [] => true
  | p, x :: t => nameB x.1 && (valueB x.2 && (after p x.1 && setF (some x.1) t))
/-- whether labels are a set -/
def isSetB (l : List Lb) : Bool := leN 1 l.length && leN l.length 6 && setF none l
def prevN (l : List Lb) (i : Nat) : Option ByteArray := if i = 0 then none else (l[i - 1]?).map (·.1)
theorem prev_i (i : Nat) (h0 : 0 < i) (h : i < 9223372036854775807) : wr .i64 ((i : Int) - 1) = ((i - 1 : Nat) : Int) := by
  rw [wr_eq]; simp [IntKind.wrap, IntKind.bits, IntKind.signed]; omega
theorem is_loop (hmix : Try.prog.follows .mixedOrders = true) (l : List Lb) (cs : List Value) (own : Bool) (o : Nat) (sp : Option Nat) (cap : Nat) (hB : LSl cs o l) (K : Post) : ∀ (t : List Lb) (i : Nat), l.drop i = t → i ≤ l.length →
    Alt (setF (prevN l i) t) (K (.exit 0) (tmps 46 []) (hp [.cells cs 2 own])) (K .ret (tmps 46 [(2, .bool false)]) (hp [.cells cs 2 own])) →
    LSays Try.prog 1 (sub body111 [0,0,1,0,1,1]) (T111 o sp l.length cap i) (hp [.cells cs 2 own]) K := by
  have hF : FlatH (hp [.cells cs 2 own]) := FlatH.hp ⟨hB.flat, trivial⟩
  intro t
  induction t with
  | nil =>
    intro i ht hi hK
    have hge : ¬ ((i : Int) < (l.length : Int)) := by have := List.drop_eq_nil_iff.1 ht; omega
    refine (sure5 hmix).round F111 noLoops [0,13,14,15] ?_
    rw [r111]
    simp only [hge, hF, Alt_iff, Need_iff, ltI_eq, leI_eq, eqI_eq, leN_eq, eqN_eq, decide_eq_true_eq, decide_eq_false_iff_not, decide_true, decide_false, true_and, and_true, Bool.true_eq_false, Bool.false_eq_true, false_implies, true_implies, implies_true, not_true_eq_false, not_false_eq_true, Bool.not_eq_true', Bool.not_eq_false']
    exact hK
  | cons x t ih =>
    intro i ht hi hK
    obtain ⟨hlt, hx, hd⟩ := drop_cons ht
    have hl : (i : Int) < (l.length : Int) := by omega
    have hsh := hB.short
    have hg1 := hB.name i x hx
    have hg2 := hB.value i x hx
    obtain ⟨z1, z2⟩ := hB.size x (List.mem_of_getElem? hx)
    refine (sure5 hmix).round F111 noLoops [0,13,14,15] ?_
    rw [r111]
    simp only [hl, hF, Int.toNat_natCast, hg1, hg2, Option.getD_some, isStr, strV, z1, z2, next_i i (by omega), Alt_iff, Need_iff, ltI_eq, leI_eq, eqI_eq, leN_eq, eqN_eq, decide_eq_true_eq, decide_eq_false_iff_not, decide_true, decide_false, true_and, and_true, Bool.true_eq_false, Bool.false_eq_true, false_implies, true_implies, implies_true, not_true_eq_false, not_false_eq_true, Bool.not_eq_true', Bool.not_eq_false']
    have hpn : prevN l (i + 1) = some x.1 := by rw [prevN, if_neg (by omega), Nat.add_sub_cancel, hx]; rfl
    have more : nameB x.1 = true → valueB x.2 = true → after (prevN l i) x.1 = true → LSays Try.prog 1 (sub body111 [0,0,1,0,1,1]) (T111 o sp l.length cap (i + 1)) (hp [.cells cs 2 own]) K := fun h1 h2 h3 => by
      refine ih (i + 1) hd (by omega) ?_
      rw [hpn]
      rw [setF, h1, h2, h3] at hK
      exact hK
    have stop : (nameB x.1 && (valueB x.2 && after (prevN l i) x.1)) = false → K .ret (tmps 46 [(2, .bool false)]) (hp [.cells cs 2 own]) := fun h => by
      have : setF (prevN l i) (x :: t) = false := by
        rw [setF, ← Bool.and_assoc, ← Bool.and_assoc, Bool.and_assoc (nameB x.1), h]; rfl
      rw [this] at hK
      exact hK
    refine ⟨fun h1 => stop (by rw [h1]; rfl), fun h1 => ⟨fun h2 => stop (by rw [h1, h2]; rfl), fun h2 => ⟨fun h3 => ?_, fun h3 => ?_⟩⟩⟩
    · have hi0 : 0 < i := by omega
      have hpv : l[i - 1]? = some l[i - 1] := List.getElem?_eq_getElem (by omega)
      have hg3 := hB.name (i - 1) _ hpv
      have hpi : prevN l i = some l[i - 1].1 := by rw [prevN, if_neg (by omega), hpv]; rfl
      rw [hpi] at more stop
      simp only [prev_i i hi0 (by omega), Int.toNat_natCast, Nat.add_zero, hg3, Option.getD_some, isStr, strV, show (0 : Int) ≤ ((i - 1 : Nat) : Int) by omega, show ((i - 1 : Nat) : Int) < (l.length : Int) by omega, Alt_iff, Need_iff, ltI_eq, leI_eq, eqI_eq, leN_eq, eqN_eq, decide_eq_true_eq, decide_eq_false_iff_not, decide_true, decide_false, true_and, and_true, Bool.true_eq_false, Bool.false_eq_true, false_implies, true_implies, implies_true, not_true_eq_false, not_false_eq_true, Bool.not_eq_true', Bool.not_eq_false']
      refine ⟨fun h4 => stop (by simp [after, h4]), fun h4 => more h1 h2 (by simp only [after, h4]; rfl)⟩
    · have hi0 : i = 0 := by omega
      exact more h1 h2 (by rw [prevN, if_pos hi0]; rfl)
end Go.Proofs.Ytdpfmaimhimfcaa

namespace Go.Proofs.Ytdpfmaimhimfcaa
open Go.RowKit Go.Proofs.Ytdpfmaimhimfcaa.AM
set_option maxRecDepth 100000
set_option maxHeartbeats 4000000
theorem isset_loop (hmix : Try.prog.follows .mixedOrders = true) (l : List Lb) (cs : List Value) (own : Bool) (o : Nat) (sp : Option Nat) (cap : Nat) (hB : LSl cs o l) (K : Post) : ∀ (t : List Lb) (i : Nat), l.drop i = t → i ≤ l.length →
    Alt (setF (prevN l i) t) (K (.exit 0) (tmps 52 []) (hp [.cells cs 2 own])) (K .ret (tmps 52 [(2, .bool false)]) (hp [.cells cs 2 own])) →
    LSays Try.prog 1 (sub body118 [0,0,1,0,1,1]) (T118 o sp l.length cap i) (hp [.cells cs 2 own]) K := by
  have hF : FlatH (hp [.cells cs 2 own]) := FlatH.hp ⟨hB.flat, trivial⟩
  intro t
  induction t with
  | nil =>
    intro i ht hi hK
    have hge : ¬ ((i : Int) < (l.length : Int)) := by have := List.drop_eq_nil_iff.1 ht; omega
    refine (sure5 hmix).round F118 noLoops [0,3] ?_
    rw [r118]
    simp only [hge, hF, Alt_iff, Need_iff, ltI_eq, leI_eq, eqI_eq, leN_eq, eqN_eq, decide_eq_true_eq, decide_eq_false_iff_not, decide_true, decide_false, true_and, and_true, Bool.true_eq_false, Bool.false_eq_true, false_implies, true_implies, implies_true, not_true_eq_false, not_false_eq_true, Bool.not_eq_true', Bool.not_eq_false']
    exact hK
  | cons x t ih =>
    intro i ht hi hK
    obtain ⟨hlt, hx, hd⟩ := drop_cons ht
    have hl : (i : Int) < (l.length : Int) := by omega
    have hsh := hB.short
    have hg1 := hB.name i x hx
    have hg2 := hB.value i x hx
    obtain ⟨z1, z2⟩ := hB.size x (List.mem_of_getElem? hx)
    refine (sure5 hmix).round F118 noLoops [0,3] ?_
    rw [r118]
    simp only [hl, hF, Int.toNat_natCast, Nat.add_zero, hg1, hg2, Option.getD_some, isStr, strV, z1, z2, next_i i (by omega), Alt_iff, Need_iff, ltI_eq, leI_eq, eqI_eq, leN_eq, eqN_eq, decide_eq_true_eq, decide_eq_false_iff_not, decide_true, decide_false, true_and, and_true, Bool.true_eq_false, Bool.false_eq_true, false_implies, true_implies, implies_true, not_true_eq_false, not_false_eq_true, Bool.not_eq_true', Bool.not_eq_false']
    have hpn : prevN l (i + 1) = some x.1 := by rw [prevN, if_neg (by omega), Nat.add_sub_cancel, hx]; rfl
    have more : nameB x.1 = true → valueB x.2 = true → after (prevN l i) x.1 = true → LSays Try.prog 1 (sub body118 [0,0,1,0,1,1]) (T118 o sp l.length cap (i + 1)) (hp [.cells cs 2 own]) K := fun h1 h2 h3 => by
      refine ih (i + 1) hd (by omega) ?_
      rw [hpn]
      rw [setF, h1, h2, h3] at hK
      exact hK
    have stop : (nameB x.1 && (valueB x.2 && after (prevN l i) x.1)) = false → K .ret (tmps 52 [(2, .bool false)]) (hp [.cells cs 2 own]) := fun h => by
      have : setF (prevN l i) (x :: t) = false := by
        rw [setF, ← Bool.and_assoc, ← Bool.and_assoc, Bool.and_assoc (nameB x.1), h]; rfl
      rw [this] at hK
      exact hK
    refine ⟨fun h1 => stop (by rw [h1]; rfl), fun h1 => ⟨fun h2 => stop (by rw [h1, h2]; rfl), fun h2 => ⟨fun h3 => ?_, fun h3 => ?_⟩⟩⟩
    · have hi0 : 0 < i := by omega
      have hpv : l[i - 1]? = some l[i - 1] := List.getElem?_eq_getElem (by omega)
      have hg3 := hB.name (i - 1) _ hpv
      have hpi : prevN l i = some l[i - 1].1 := by rw [prevN, if_neg (by omega), hpv]; rfl
      rw [hpi] at more stop
      simp only [prev_i i hi0 (by omega), Int.toNat_natCast, Nat.add_zero, hg3, Option.getD_some, isStr, strV, show (0 : Int) ≤ ((i - 1 : Nat) : Int) by omega, show ((i - 1 : Nat) : Int) < (l.length : Int) by omega, Alt_iff, Need_iff, ltI_eq, leI_eq, eqI_eq, leN_eq, eqN_eq, decide_eq_true_eq, decide_eq_false_iff_not, decide_true, decide_false, true_and, and_true, Bool.true_eq_false, Bool.false_eq_true, false_implies, true_implies, implies_true, not_true_eq_false, not_false_eq_true, Bool.not_eq_true', Bool.not_eq_false']
      refine ⟨fun h4 => stop (by simp [after, h4]), fun h4 => more h1 h2 (by simp only [after, h4]; rfl)⟩
    · have hi0 : i = 0 := by omega
      exact more h1 h2 (by rw [prevN, if_pos hi0]; rfl)
noncomputable def c111 (cs : List Value) (own : Bool) (o : Nat) (sp : Option Nat) (len cap : Nat) (b : Bool) : Cut := ⟨[0,1,0,1,1], T111 o sp len cap 0, hp [.cells cs 2 own], fun K => Alt b (K (.exit 0) (tmps 46 []) (hp [.cells cs 2 own])) (K .ret (tmps 46 [(2, .bool false)]) (hp [.cells cs 2 own]))⟩
noncomputable def c118 (cs : List Value) (own : Bool) (o : Nat) (sp : Option Nat) (len cap : Nat) (b : Bool) : Cut := ⟨[0,1,0,1,1], T118 o sp len cap 0, hp [.cells cs 2 own], fun K => Alt b (K (.exit 0) (tmps 52 []) (hp [.cells cs 2 own])) (K .ret (tmps 52 [(2, .bool false)]) (hp [.cells cs 2 own]))⟩
def idxF (s : ByteArray) : Nat → List Lb → Int
  | _, [] => -1
  | i, x :: t => if eqS x.1 s then (i : Int) else idxF s (i + 1) t
/-- what a name has -/
def getF (s : ByteArray) : List Lb → ByteArray
  | [] => ⟨#[]⟩
  | x :: t => if eqS x.1 s then x.2 else getF s t
theorem idx_get (s : ByteArray) : ∀ (t : List Lb) (i : Nat), (idxF s i t = -1 ∧ getF s t = ⟨#[]⟩) ∨ ∃ j x, t[j]? = some x ∧ idxF s i t = ((i + j : Nat) : Int) ∧ getF s t = x.2 := by
  intro t
  induction t with
  | nil => intro i; exact .inl ⟨rfl, rfl⟩
  | cons x t ih =>
    intro i
    simp only [idxF, getF]
    by_cases h : eqS x.1 s = true
    · rw [if_pos h, if_pos h]; exact .inr ⟨0, x, rfl, rfl, rfl⟩
    · rw [if_neg h, if_neg h]
      rcases ih (i + 1) with h' | ⟨j, y, h1, h2, h3⟩
      · exact .inl h'
      · exact .inr ⟨j + 1, y, by simpa using h1, by rw [h2]; congr 1; omega, h3⟩
theorem index_loop (hmix : Try.prog.follows .mixedOrders = true) (l : List Lb) (cs : List Value) (own own2 : Bool) (s : ByteArray) (o : Nat) (sp : Option Nat) (cap : Nat) (hB : LSl cs o l) (K : Post) : ∀ (t : List Lb) (i : Nat), l.drop i = t → i ≤ l.length →
    (K (.exit 0) (tmps 19 []) (hp [.cells cs 2 own, .cells [.string s] 1 own2]) ∨ idxF s i t ≠ -1) → (idxF s i t ≠ -1 → K .ret (tmps 19 [(4, .int .i64 (idxF s i t))]) (hp [.cells cs 2 own, .cells [.string s] 1 own2])) →
    LSays Try.prog 2 (sub body132 [0,0,1,0,1]) (T132 o sp l.length cap i) (hp [.cells cs 2 own, .cells [.string s] 1 own2]) K := by
  have fs : FlatL [Value.string s] := ⟨fun x hx => by simp at hx; subst hx; rfl⟩
  have hF : FlatH (hp [.cells cs 2 own, .cells [.string s] 1 own2]) := FlatH.hp ⟨hB.flat, fs, trivial⟩
  intro t
  induction t with
  | nil =>
    intro i ht hi hK hK2
    have hge : ¬ ((i : Int) < (l.length : Int)) := by have := List.drop_eq_nil_iff.1 ht; omega
    refine (sure5 hmix).round F132 noLoops [0,1,7,8] ?_
    rw [r132]
    simp only [hge, hF, Alt_iff, Need_iff, ltI_eq, leI_eq, eqI_eq, leN_eq, eqN_eq, decide_eq_true_eq, decide_eq_false_iff_not, decide_true, decide_false, true_and, and_true, Bool.true_eq_false, Bool.false_eq_true, false_implies, true_implies, implies_true, not_true_eq_false, not_false_eq_true, Bool.not_eq_true', Bool.not_eq_false']
    exact hK.resolve_right (fun h => h rfl)
  | cons x t ih =>
    intro i ht hi hK hK2
    obtain ⟨hlt, hx, hd⟩ := drop_cons ht
    have hl : (i : Int) < (l.length : Int) := by omega
    have hsh := hB.short
    have hg1 := hB.name i x hx
    have hg2 := hB.value i x hx
    refine (sure5 hmix).round F132 noLoops [0,1,7,8] ?_
    rw [r132]
    simp only [hl, hF, fs, Int.toNat_natCast, hg1, hg2, Option.getD_some, isStr, strV, next_i i (by omega), Alt_iff, Need_iff, ltI_eq, leI_eq, eqI_eq, leN_eq, eqN_eq, decide_eq_true_eq, decide_eq_false_iff_not, decide_true, decide_false, true_and, and_true, Bool.true_eq_false, Bool.false_eq_true, false_implies, true_implies, implies_true, not_true_eq_false, not_false_eq_true, Bool.not_eq_true', Bool.not_eq_false']
    refine ⟨fun h => ?_, fun h => ?_⟩
    · rw [idxF, if_pos h] at hK2
      exact hK2 (by omega)
    · rw [idxF, if_neg (by rw [h]; simp)] at hK hK2
      exact ih (i + 1) hd (by omega) hK hK2
theorem getl_loop (hmix : Try.prog.follows .mixedOrders = true) (l : List Lb) (cs : List Value) (own : Bool) (s : ByteArray) (o : Nat) (sp : Option Nat) (cap : Nat) (hB : LSl cs o l) (K : Post) : ∀ (t : List Lb) (i : Nat), l.drop i = t → i ≤ l.length →
    (K (.exit 0) (tmps 24 []) (hp [.cells cs 2 own]) ∨ idxF s i t ≠ -1) → (idxF s i t ≠ -1 → K .ret (tmps 24 [(4, .string (getF s t))]) (hp [.cells cs 2 own])) →
    LSays Try.prog 1 (sub body120 [0,0,1,0,1]) (T120 o sp l.length cap i s) (hp [.cells cs 2 own]) K := by
  have hF : FlatH (hp [.cells cs 2 own]) := FlatH.hp ⟨hB.flat, trivial⟩
  intro t
  induction t with
  | nil =>
    intro i ht hi hK hK2
    have hge : ¬ ((i : Int) < (l.length : Int)) := by have := List.drop_eq_nil_iff.1 ht; omega
    refine (sure5 hmix).round F120 noLoops [0,1,5] ?_
    rw [r120]
    simp only [hge, hF, Alt_iff, Need_iff, ltI_eq, leI_eq, eqI_eq, leN_eq, eqN_eq, decide_eq_true_eq, decide_eq_false_iff_not, decide_true, decide_false, true_and, and_true, Bool.true_eq_false, Bool.false_eq_true, false_implies, true_implies, implies_true, not_true_eq_false, not_false_eq_true, Bool.not_eq_true', Bool.not_eq_false']
    exact hK.resolve_right (fun h => h rfl)
  | cons x t ih =>
    intro i ht hi hK hK2
    obtain ⟨hlt, hx, hd⟩ := drop_cons ht
    have hl : (i : Int) < (l.length : Int) := by omega
    have hsh := hB.short
    have hg1 := hB.name i x hx
    have hg2 := hB.value i x hx
    refine (sure5 hmix).round F120 noLoops [0,1,5] ?_
    rw [r120]
    simp only [hl, hF, Int.toNat_natCast, Nat.add_zero, hg1, hg2, Option.getD_some, isStr, strV, next_i i (by omega), Alt_iff, Need_iff, ltI_eq, leI_eq, eqI_eq, leN_eq, eqN_eq, decide_eq_true_eq, decide_eq_false_iff_not, decide_true, decide_false, true_and, and_true, Bool.true_eq_false, Bool.false_eq_true, false_implies, true_implies, implies_true, not_true_eq_false, not_false_eq_true, Bool.not_eq_true', Bool.not_eq_false']
    refine ⟨fun h => ?_, fun h => ?_⟩
    · rw [idxF, if_pos h, getF, if_pos h] at hK2
      exact hK2 (by omega)
    · rw [idxF, if_neg (by rw [h]; simp)] at hK hK2
      rw [getF, if_neg (by rw [h]; simp)] at hK2
      exact ih (i + 1) hd (by omega) hK hK2
/-- how much labels weigh, as far as it is reckoned; none: one is too long -/
def wgtO (m : Int) : Int → List Lb → Option Int
  | n, [] => some n
  | n, x :: t => if n ≤ m then (if m < (x.1.size : Int) ∨ m < (x.2.size : Int) then none else wgtO m (n + 1 + x.1.size + x.2.size) t) else some n
theorem weight_loop (hmix : Try.prog.follows .mixedOrders = true) (l : List Lb) (cs : List Value) (own : Bool) (m : Int) (hm0 : 0 ≤ m) (hm : m ≤ 1000000) (o : Nat) (sp : Option Nat) (cap : Nat) (hB : LSl cs o l) (K : Post) : ∀ (t : List Lb) (i : Nat) (n : Int), l.drop i = t → i ≤ l.length → 0 ≤ n → n ≤ 10000000 →
    Alt (wgtO m n t).isNone (K .ret (tmps 58 [(4, .int .i64 (m + 1))]) (hp [.cells cs 2 own])) (K (.exit 0) (tmps 58 [(1, .int .i64 m), (5, .int .i64 ((wgtO m n t).getD 0))]) (hp [.cells cs 2 own])) →
    LSays Try.prog 1 (sub body114 [0,0,1,0,1,1]) (T114 o sp l.length cap i m n) (hp [.cells cs 2 own]) K := by
  have hF : FlatH (hp [.cells cs 2 own]) := FlatH.hp ⟨hB.flat, trivial⟩
  intro t
  induction t with
  | nil =>
    intro i n ht hi hn0 hn hK
    have hge : ¬ ((i : Int) < (l.length : Int)) := by have := List.drop_eq_nil_iff.1 ht; omega
    refine (sure5 hmix).round F114 noLoops [0,1,5,6] ?_
    rw [r114]
    simp only [hge, hF, Alt_iff, Need_iff, ltI_eq, leI_eq, eqI_eq, leN_eq, eqN_eq, decide_eq_true_eq, decide_eq_false_iff_not, decide_true, decide_false, true_and, and_true, Bool.true_eq_false, Bool.false_eq_true, false_implies, true_implies, implies_true, not_true_eq_false, not_false_eq_true, Bool.not_eq_true', Bool.not_eq_false']
    exact hK
  | cons x t ih =>
    intro i n ht hi hn0 hn hK
    obtain ⟨hlt, hx, hd⟩ := drop_cons ht
    have hl : (i : Int) < (l.length : Int) := by omega
    have hsh := hB.short
    have hg1 := hB.name i x hx
    have hg2 := hB.value i x hx
    have hw1 : wr .i64 (m + 1) = m + 1 := by rw [wr_eq]; simp [IntKind.wrap, IntKind.bits, IntKind.signed]; omega
    refine (sure5 hmix).round F114 noLoops [0,1,5,6] ?_
    rw [r114]
    simp only [hl, hF, Int.toNat_natCast, Nat.add_zero, hg1, hg2, Option.getD_some, isStr, strV, next_i i (by omega), hw1, Alt_iff, Need_iff, ltI_eq, leI_eq, eqI_eq, leN_eq, eqN_eq, decide_eq_true_eq, decide_eq_false_iff_not, decide_true, decide_false, true_and, and_true, Bool.true_eq_false, Bool.false_eq_true, false_implies, true_implies, implies_true, not_true_eq_false, not_false_eq_true, Bool.not_eq_true', Bool.not_eq_false']
    rw [wgtO] at hK
    refine ⟨fun h => ?_, fun h => by rw [if_neg h] at hK; exact hK⟩
    rw [if_pos h] at hK
    refine ⟨fun h1 => by rw [if_pos (.inl h1)] at hK; exact hK, fun h1 => ⟨fun h2 => by rw [if_pos (.inr h2)] at hK; exact hK, fun h2 => ?_⟩⟩
    rw [if_neg (by omega)] at hK
    have hw2 : wr .i64 (wr .i64 (wr .i64 (n + 1) + (x.1.size : Int)) + (x.2.size : Int)) = n + 1 + x.1.size + x.2.size := by
      simp only [wr_eq]; simp [IntKind.wrap, IntKind.bits, IntKind.signed]; omega
    rw [hw2]
    exact ih (i + 1) _ hd (by omega) (by omega) (by omega) hK
noncomputable def c132 (cs : List Value) (own own2 : Bool) (s : ByteArray) (o : Nat) (sp : Option Nat) (len cap : Nat) (f : Bool) (r : Int) : Cut := ⟨[0,1,0,1], T132 o sp len cap 0, hp [.cells cs 2 own, .cells [.string s] 1 own2], fun K => Alt f (K .ret (tmps 19 [(4, .int .i64 r)]) (hp [.cells cs 2 own, .cells [.string s] 1 own2])) (K (.exit 0) (tmps 19 []) (hp [.cells cs 2 own, .cells [.string s] 1 own2]))⟩
noncomputable def c120 (cs : List Value) (own : Bool) (s : ByteArray) (o : Nat) (sp : Option Nat) (len cap : Nat) (f : Bool) (r : ByteArray) : Cut := ⟨[0,1,0,1], T120 o sp len cap 0 s, hp [.cells cs 2 own], fun K => Alt f (K .ret (tmps 24 [(4, .string r)]) (hp [.cells cs 2 own])) (K (.exit 0) (tmps 24 []) (hp [.cells cs 2 own]))⟩
noncomputable def c114 (cs : List Value) (own : Bool) (m : Int) (o : Nat) (sp : Option Nat) (len cap : Nat) (f : Bool) (n : Int) : Cut := ⟨[0,1,0,1,1], T114 o sp len cap 0 m 0, hp [.cells cs 2 own], fun K => Alt f (K .ret (tmps 58 [(4, .int .i64 (m + 1))]) (hp [.cells cs 2 own])) (K (.exit 0) (tmps 58 [(1, .int .i64 m), (5, .int .i64 n)]) (hp [.cells cs 2 own]))⟩
noncomputable def c132z (s : ByteArray) (own2 : Bool) : Cut := ⟨[0,1,0,1], tmps 19 [(0, .slice none 0 0), (1, .func (.func 33) #[] #[.pointer (some ⟨0,0,none⟩)]), (7, .int .i64 0), (8, .int .i64 0)], hp [.cells [.string s] 1 own2], fun K => K (.exit 0) (tmps 19 []) (hp [.cells [.string s] 1 own2])⟩
noncomputable def c120z (s : ByteArray) : Cut := ⟨[0,1,0,1], tmps 24 [(0, .slice none 0 0), (1, .string s), (5, .int .i64 0)], hp [], fun K => K (.exit 0) (tmps 24 []) (hp [])⟩
noncomputable def c114z (m : Int) : Cut := ⟨[0,1,0,1,1], tmps 58 [(0, .slice none 0 0), (1, .int .i64 m), (5, .int .i64 0), (6, .int .i64 0)], hp [], fun K => K (.exit 0) (tmps 58 [(1, .int .i64 m), (5, .int .i64 0)]) (hp [])⟩

theorem w111 (cs : List Value) (own : Bool) (o : Nat) (sp : Option Nat) (len cap : Nat) (b : Bool) (K : Value → Heap → Prop) :
  funK Try.prog S5 (gcLK 1 (cutLK [c111 cs own o sp len cap b])) F111 body111 Try.f11 [.slice (some ⟨0,o,sp⟩) len cap] (hp [.cells cs 2 own]) K = (
Alt (ltI (↑len : Int) 1) (K (Value.bool false) (hp [Blk.cells cs 2 own]))
  (Alt (ltI 6 (↑len : Int)) (K (Value.bool false) (hp [Blk.cells cs 2 own]))
    (FlatH (hp [Blk.cells cs 2 own]) ∧
      tmps 46
            [(0, Value.slice (some { block := 0, off := o, spot := sp : Addr }) len cap),
              (13, Value.slice (some { block := 0, off := o, spot := sp : Addr }) len cap),
              (14, Value.int IntKind.i64 (↑len : Int)), (15, Value.int IntKind.i64 0)] =
          tmps 46
            [(0, Value.slice (some { block := 0, off := o, spot := sp : Addr }) len cap),
              (13, Value.slice (some { block := 0, off := o, spot := sp : Addr }) len cap),
              (14, Value.int IntKind.i64 (↑len : Int)), (15, Value.int IntKind.i64 0)] ∧
        hp [Blk.cells cs 2 own] = hp [Blk.cells cs 2 own] ∧
          Alt b (K (Value.bool true) (hp [Blk.cells cs 2 own])) (K (Value.bool false) (hp [Blk.cells cs 2 own]))))) := by kernel_rfl

theorem w118 (cs : List Value) (own : Bool) (o : Nat) (sp : Option Nat) (len cap : Nat) (b : Bool) (K : Value → Heap → Prop) :
  funK Try.prog S5 (gcLK 1 (cutLK [c118 cs own o sp len cap b])) F118 body118 Try.f18 [.slice (some ⟨0,o,sp⟩) len cap] (hp [.cells cs 2 own]) K = (
Alt (ltI (↑len : Int) 1) (K (Value.bool false) (hp [Blk.cells cs 2 own]))
  (Alt (ltI 6 (↑len : Int)) (K (Value.bool false) (hp [Blk.cells cs 2 own]))
    (FlatH (hp [Blk.cells cs 2 own]) ∧
      tmps 52
            [(0, Value.slice (some { block := 0, off := o, spot := sp : Addr }) len cap),
              (3, Value.int IntKind.i64 0)] =
          tmps 52
            [(0, Value.slice (some { block := 0, off := o, spot := sp : Addr }) len cap),
              (3, Value.int IntKind.i64 0)] ∧
        hp [Blk.cells cs 2 own] = hp [Blk.cells cs 2 own] ∧
          Alt b (K (Value.bool true) (hp [Blk.cells cs 2 own])) (K (Value.bool false) (hp [Blk.cells cs 2 own]))))) := by kernel_rfl

theorem w111z (K : Value → Heap → Prop) :
  funK Try.prog S5 noLoop F111 body111 Try.f11 [.slice none 0 0] (hp []) K = (
K (Value.bool false) (hp [])) := by kernel_rfl

theorem w118z (K : Value → Heap → Prop) :
  funK Try.prog S5 noLoop F118 body118 Try.f18 [.slice none 0 0] (hp []) K = (
K (Value.bool false) (hp [])) := by kernel_rfl

theorem w132 (cs : List Value) (own own2 : Bool) (s : ByteArray) (o : Nat) (sp : Option Nat) (len cap : Nat) (f : Bool) (r : Int) (K : Value → Heap → Prop) :
  funK Try.prog S5 (gcLK 2 (cutLK [c132 cs own own2 s o sp len cap f r])) F132 body132 Try.f32 [.slice (some ⟨0,o,sp⟩) len cap, .func (.func 33) #[] #[.pointer (some ⟨1,0,none⟩)]] (hp [.cells cs 2 own, .cells [.string s] 1 own2]) K = (
FlatH (hp [Blk.cells cs 2 own, Blk.cells [Value.string s] 1 own2]) ∧
  tmps 19
        [(0, Value.slice (some { block := 0, off := o, spot := sp : Addr }) len cap),
          (1, Value.func (Fn.func 33) #[] #[Value.pointer (some { block := 1, off := 0 : Addr })]),
          (7, Value.int IntKind.i64 (↑len : Int)), (8, Value.int IntKind.i64 0)] =
      tmps 19
        [(0, Value.slice (some { block := 0, off := o, spot := sp : Addr }) len cap),
          (1, Value.func (Fn.func 33) #[] #[Value.pointer (some { block := 1, off := 0 : Addr })]),
          (7, Value.int IntKind.i64 (↑len : Int)), (8, Value.int IntKind.i64 0)] ∧
    hp [Blk.cells cs 2 own, Blk.cells [Value.string s] 1 own2] =
        hp [Blk.cells cs 2 own, Blk.cells [Value.string s] 1 own2] ∧
      Alt f (K (Value.int IntKind.i64 r) (hp [Blk.cells cs 2 own, Blk.cells [Value.string s] 1 own2]))
        (K (Value.int IntKind.i64 (-1)) (hp [Blk.cells cs 2 own, Blk.cells [Value.string s] 1 own2]))) := by kernel_rfl

theorem w120 (cs : List Value) (own : Bool) (s : ByteArray) (o : Nat) (sp : Option Nat) (len cap : Nat) (f : Bool) (r : ByteArray) (K : Value → Heap → Prop) :
  funK Try.prog S5 (gcLK 1 (cutLK [c120 cs own s o sp len cap f r])) F120 body120 Try.f20 [.slice (some ⟨0,o,sp⟩) len cap, .string s] (hp [.cells cs 2 own]) K = (
FlatH (hp [Blk.cells cs 2 own]) ∧
  tmps 24
        [(0, Value.slice (some { block := 0, off := o, spot := sp : Addr }) len cap), (1, Value.string s),
          (5, Value.int IntKind.i64 0)] =
      tmps 24
        [(0, Value.slice (some { block := 0, off := o, spot := sp : Addr }) len cap), (1, Value.string s),
          (5, Value.int IntKind.i64 0)] ∧
    hp [Blk.cells cs 2 own] = hp [Blk.cells cs 2 own] ∧
      Alt f (K (Value.string r) (hp [Blk.cells cs 2 own]))
        (K (Value.string { data := #[] : ByteArray }) (hp [Blk.cells cs 2 own]))) := by kernel_rfl

theorem w114 (cs : List Value) (own : Bool) (m : Int) (o : Nat) (sp : Option Nat) (len cap : Nat) (f : Bool) (n : Int) (K : Value → Heap → Prop) :
  funK Try.prog S5 (gcLK 1 (cutLK [c114 cs own m o sp len cap f n])) F114 body114 Try.f14 [.slice (some ⟨0,o,sp⟩) len cap, .int .i64 m] (hp [.cells cs 2 own]) K = (
FlatH (hp [Blk.cells cs 2 own]) ∧
  tmps 58
        [(0, Value.slice (some { block := 0, off := o, spot := sp : Addr }) len cap), (1, Value.int IntKind.i64 m),
          (5, Value.int IntKind.i64 0), (6, Value.int IntKind.i64 0)] =
      tmps 58
        [(0, Value.slice (some { block := 0, off := o, spot := sp : Addr }) len cap), (1, Value.int IntKind.i64 m),
          (5, Value.int IntKind.i64 0), (6, Value.int IntKind.i64 0)] ∧
    hp [Blk.cells cs 2 own] = hp [Blk.cells cs 2 own] ∧
      Alt f (K (Value.int IntKind.i64 (m + 1)) (hp [Blk.cells cs 2 own]))
        (K (Value.int IntKind.i64 (if wr IntKind.i64 (m + 1) < n then wr IntKind.i64 (m + 1) else n))
          (hp [Blk.cells cs 2 own]))) := by kernel_rfl

theorem r132z (s : ByteArray) (own2 : Bool) (K : Post) :
  roundK Try.prog S5 noLoop F132 body132 1 [0,1,7,8] [0,0,1,0,1] (c132z s own2).t (c132z s own2).h K = (
K (AE.exit 0) (tmps 19 []) (hp [Blk.cells [Value.string s] 1 own2])) := by kernel_rfl

theorem r120z (s : ByteArray) (K : Post) :
  roundK Try.prog S5 noLoop F120 body120 0 [0,1,5] [0,0,1,0,1] (c120z s).t (c120z s).h K = (
K (AE.exit 0) (tmps 24 []) (hp [])) := by kernel_rfl

theorem r114z (m : Int) (K : Post) :
  roundK Try.prog S5 noLoop F114 body114 0 [0,1,5,6] [0,0,1,0,1,1] (c114z m).t (c114z m).h K = (
K (AE.exit 0) (tmps 58 [(1, Value.int IntKind.i64 m), (5, Value.int IntKind.i64 0)]) (hp [])) := by kernel_rfl

theorem w132z (s : ByteArray) (own2 : Bool) (K : Value → Heap → Prop) :
  funK Try.prog S5 (gcLK 1 (cutLK [c132z s own2])) F132 body132 Try.f32 [.slice none 0 0, .func (.func 33) #[] #[.pointer (some ⟨0,0,none⟩)]] (hp [.cells [.string s] 1 own2]) K = (
FlatH (hp [Blk.cells [Value.string s] 1 own2]) ∧
  tmps 19
        [(0, Value.slice none 0 0),
          (1, Value.func (Fn.func 33) #[] #[Value.pointer (some { block := 0, off := 0 : Addr })]),
          (7, Value.int IntKind.i64 0), (8, Value.int IntKind.i64 0)] =
      tmps 19
        [(0, Value.slice none 0 0),
          (1, Value.func (Fn.func 33) #[] #[Value.pointer (some { block := 0, off := 0 : Addr })]),
          (7, Value.int IntKind.i64 0), (8, Value.int IntKind.i64 0)] ∧
    hp [Blk.cells [Value.string s] 1 own2] = hp [Blk.cells [Value.string s] 1 own2] ∧
      K (Value.int IntKind.i64 (-1)) (hp [Blk.cells [Value.string s] 1 own2])) := by kernel_rfl

theorem w120z (s : ByteArray) (K : Value → Heap → Prop) :
  funK Try.prog S5 (gcLK 0 (cutLK [c120z s])) F120 body120 Try.f20 [.slice none 0 0, .string s] (hp []) K = (
FlatH (hp []) ∧
  tmps 24 [(0, Value.slice none 0 0), (1, Value.string s), (5, Value.int IntKind.i64 0)] =
      tmps 24 [(0, Value.slice none 0 0), (1, Value.string s), (5, Value.int IntKind.i64 0)] ∧
    hp [] = hp [] ∧ K (Value.string { data := #[] : ByteArray }) (hp [])) := by kernel_rfl

theorem w114z (m : Int) (K : Value → Heap → Prop) :
  funK Try.prog S5 (gcLK 0 (cutLK [c114z m])) F114 body114 Try.f14 [.slice none 0 0, .int .i64 m] (hp []) K = (
FlatH (hp []) ∧
  tmps 58
        [(0, Value.slice none 0 0), (1, Value.int IntKind.i64 m), (5, Value.int IntKind.i64 0),
          (6, Value.int IntKind.i64 0)] =
      tmps 58
        [(0, Value.slice none 0 0), (1, Value.int IntKind.i64 m), (5, Value.int IntKind.i64 0),
          (6, Value.int IntKind.i64 0)] ∧
    hp [] = hp [] ∧ K (Value.int IntKind.i64 (if wr IntKind.i64 (m + 1) < 0 then wr IntKind.i64 (m + 1) else 0)) (hp [])) := by kernel_rfl

end Go.Proofs.Ytdpfmaimhimfcaa

namespace Go.Proofs.Ytdpfmaimhimfcaa
open Go.RowKit Go.Proofs.Ytdpfmaimhimfcaa.AM
set_option maxRecDepth 100000
set_option maxHeartbeats 4000000
noncomputable def lsC (g : List Lb → List Value → Value) (ok : List Value → Prop) : Ctr where
  pre := fun args blks => match args, blks with
    | .slice (some ⟨0, o, _⟩) len cap :: xs, [.cells cs 2 _] => IsLs cs o len cap ∧ ok xs
    | .slice none 0 0 :: xs, [] => ok xs
    | _, _ => False
  val := fun args blks => match args, blks with
    | .slice (some ⟨0, o, _⟩) len _ :: xs, [.cells cs 2 _] => g (labsAt cs o len) xs
    | .slice none 0 0 :: xs, [] => g [] xs
    | _, _ => .bool false
  new := fun _ _ => []
theorem lsC_of {f : FuncId} {g : List Lb → List Value → Value} {ok : List Value → Prop}
    (h1 : ∀ (l : List Lb) (cs : List Value) (own : Bool) (o : Nat) (sp : Option Nat) (cap : Nat) (xs : List Value), l.length ≤ cap → LSl cs o l → ok xs → FunSays Try.prog f (.slice (some ⟨0,o,sp⟩) l.length cap :: xs) (hp [.cells cs 2 own]) fun v h' => v = g l xs ∧ h' = hp [.cells cs 2 own])
    (h2 : ∀ xs : List Value, ok xs → FunSays Try.prog f (.slice none 0 0 :: xs) (hp []) fun v h' => v = g [] xs ∧ h' = hp []) : (lsC g ok).Holds Try.prog f := by
  intro args blks hf hp
  refine ⟨trivial, ?_⟩
  simp only [lsC] at hp ⊢
  split at hp
  · obtain ⟨⟨l, rfl, hc, hB⟩, hk⟩ := hp
    simp only [hB.labsAt, List.append_nil]
    exact h1 l _ _ _ _ _ _ hc hB hk
  · exact h2 _ hp
  · exact hp.elim
noncomputable def ok0 : List Value → Prop := fun xs => match xs with
  | [] => True
  | _ => False
noncomputable def ok1 : List Value → Prop := fun xs => match xs with
  | [.string _] => True
  | _ => False
noncomputable def okW : List Value → Prop := fun xs => match xs with
  | [.int .i64 m] => Need (leI 0 m) (Need (leI m 1000000) True)
  | _ => False
noncomputable def isSetC : Ctr := lsC (fun l _ => .bool (isSetB l)) ok0
noncomputable def getLC : Ctr := lsC (fun l xs => .string (getF (strV (xs.headD (.bool false))) l)) ok1
def wgtV (l : List Lb) (m : Int) : Int := match wgtO m 0 l with
  | none => m + 1
  | some n => if m + 1 < n then m + 1 else n
noncomputable def wgtC : Ctr := lsC (fun l xs => .int .i64 (wgtV l (intV (xs.headD (.bool false))))) okW
noncomputable def isK (fn : Fn) (f c : Array Value) (b : Nat) : Prop := match fn, f.toList, c.toList with
  | .func g, [], [.pointer (some ⟨b', 0, none⟩)] => Need (eqN g 33) (Need (eqN b' b) True)
  | _, _, _ => False
theorem isK_eq {fn : Fn} {f c : Array Value} {b : Nat} (h : isK fn f c b) : fn = .func 33 ∧ f = #[] ∧ c = #[.pointer (some ⟨b, 0, none⟩)] := by
  obtain ⟨f⟩ := f
  obtain ⟨c⟩ := c
  unfold isK at h
  split at h
  · rename_i g b' h1 h2
    simp only at h1 h2
    subst h1 h2
    simp only [Alt_iff, Need_iff, ltI_eq, leI_eq, eqI_eq, leN_eq, eqN_eq, decide_eq_true_eq, decide_eq_false_iff_not, decide_true, decide_false, true_and, and_true, Bool.true_eq_false, Bool.false_eq_true, false_implies, true_implies, implies_true, not_true_eq_false, not_false_eq_true, Bool.not_eq_true', Bool.not_eq_false'] at h
    obtain ⟨rfl, rfl⟩ := h
    exact ⟨rfl, rfl, rfl⟩
  · exact h.elim
noncomputable def idxC : Ctr where
  pre := fun args blks => match args, blks with
    | [.slice (some ⟨0, o, _⟩) len cap, .func fn f c], [.cells cs 2 _, .cells [.string _] 1 _] => IsLs cs o len cap ∧ isK fn f c 1
    | [.slice none 0 0, .func fn f c], [.cells [.string _] 1 _] => isK fn f c 0
    | _, _ => False
  val := fun args blks => match args, blks with
    | [.slice (some ⟨0, o, _⟩) len _, .func _ _ _], [.cells cs 2 _, .cells [.string s] 1 _] => .int .i64 (idxF s 0 (labsAt cs o len))
    | _, _ => .int .i64 (-1)
  new := fun _ _ => []
theorem is_says (hmix : Try.prog.follows .mixedOrders = true) : isSetC.Holds Try.prog 11 := by
  refine lsC_of (fun l cs own o sp cap xs hc hB hk => ?_) (fun xs hk => ?_)
  · cases xs with
    | cons => exact hk.elim
    | nil =>
      have hF : FlatH (hp [.cells cs 2 own]) := FlatH.hp ⟨hB.flat, trivial⟩
      have hL : Loops Try.prog body111 1 (cutLK [c111 cs own o sp l.length cap (setF none l)]) := Loops.none.more _ fun K hK => is_loop hmix l cs own o sp cap hB K l 0 rfl (by omega) hK
      refine (sure5 hmix).fun F111 body111 Try.func11 rfl hL.gc ?_
      rw [w111]
      simp only [hF, isSetB, Alt_iff, Need_iff, ltI_eq, leI_eq, eqI_eq, leN_eq, eqN_eq, decide_eq_true_eq, decide_eq_false_iff_not, decide_true, decide_false, true_and, and_true, Bool.true_eq_false, Bool.false_eq_true, false_implies, true_implies, implies_true, not_true_eq_false, not_false_eq_true, Bool.not_eq_true', Bool.not_eq_false']
      refine ⟨fun h => ⟨rfl, by simp [show l.length = 0 by omega]⟩, fun h => ⟨fun h1 => ⟨rfl, by simp [show ¬ l.length ≤ 6 by omega]⟩, fun h1 => ?_⟩⟩
      have e : (decide (1 ≤ l.length) && decide (l.length ≤ 6) && setF none l) = setF none l := by simp [show 1 ≤ l.length by omega, show l.length ≤ 6 by omega]
      rw [e]
      exact ⟨fun h2 => ⟨rfl, by rw [h2]⟩, fun h2 => ⟨rfl, by rw [h2]⟩⟩
  · cases xs with
    | cons => exact hk.elim
    | nil =>
      refine (sure5 hmix).fun F111 body111 Try.func11 rfl noLoops ?_
      rw [w111z]
      exact ⟨rfl, FlatH.empty, rfl, rfl⟩
theorem isset_says (hmix : Try.prog.follows .mixedOrders = true) : isSetC.Holds Try.prog 18 := by
  refine lsC_of (fun l cs own o sp cap xs hc hB hk => ?_) (fun xs hk => ?_)
  · cases xs with
    | cons => exact hk.elim
    | nil =>
      have hF : FlatH (hp [.cells cs 2 own]) := FlatH.hp ⟨hB.flat, trivial⟩
      have hL : Loops Try.prog body118 1 (cutLK [c118 cs own o sp l.length cap (setF none l)]) := Loops.none.more _ fun K hK => isset_loop hmix l cs own o sp cap hB K l 0 rfl (by omega) hK
      refine (sure5 hmix).fun F118 body118 Try.func18 rfl hL.gc ?_
      rw [w118]
      simp only [hF, isSetB, Alt_iff, Need_iff, ltI_eq, leI_eq, eqI_eq, leN_eq, eqN_eq, decide_eq_true_eq, decide_eq_false_iff_not, decide_true, decide_false, true_and, and_true, Bool.true_eq_false, Bool.false_eq_true, false_implies, true_implies, implies_true, not_true_eq_false, not_false_eq_true, Bool.not_eq_true', Bool.not_eq_false']
      refine ⟨fun h => ⟨rfl, by simp [show l.length = 0 by omega]⟩, fun h => ⟨fun h1 => ⟨rfl, by simp [show ¬ l.length ≤ 6 by omega]⟩, fun h1 => ?_⟩⟩
      have e : (decide (1 ≤ l.length) && decide (l.length ≤ 6) && setF none l) = setF none l := by simp [show 1 ≤ l.length by omega, show l.length ≤ 6 by omega]
      rw [e]
      exact ⟨fun h2 => ⟨rfl, by rw [h2]⟩, fun h2 => ⟨rfl, by rw [h2]⟩⟩
  · cases xs with
    | cons => exact hk.elim
    | nil =>
      refine (sure5 hmix).fun F118 body118 Try.func18 rfl noLoops ?_
      rw [w118z]
      exact ⟨rfl, FlatH.empty, rfl, rfl⟩
theorem ok1_eq {xs : List Value} (h : ok1 xs) : ∃ s, xs = [.string s] := by
  unfold ok1 at h
  split at h
  · exact ⟨_, rfl⟩
  · exact h.elim
theorem okW_eq {xs : List Value} (h : okW xs) : ∃ m : Int, xs = [.int .i64 m] ∧ 0 ≤ m ∧ m ≤ 1000000 := by
  unfold okW at h
  split at h
  · simp only [Alt_iff, Need_iff, ltI_eq, leI_eq, eqI_eq, leN_eq, eqN_eq, decide_eq_true_eq, decide_eq_false_iff_not, decide_true, decide_false, true_and, and_true, Bool.true_eq_false, Bool.false_eq_true, false_implies, true_implies, implies_true, not_true_eq_false, not_false_eq_true, Bool.not_eq_true', Bool.not_eq_false'] at h
    exact ⟨_, rfl, h⟩
  · exact h.elim
theorem getl_says (hmix : Try.prog.follows .mixedOrders = true) : getLC.Holds Try.prog 20 := by
  refine lsC_of (fun l cs own o sp cap xs hc hB hk => ?_) (fun xs hk => ?_)
  · obtain ⟨s, rfl⟩ := ok1_eq hk
    have hF : FlatH (hp [.cells cs 2 own]) := FlatH.hp ⟨hB.flat, trivial⟩
    rcases idx_get s l 0 with ⟨e1, e2⟩ | ⟨j, x, e0, e1, e2⟩
    · have hL : Loops Try.prog body120 1 (cutLK [c120 cs own s o sp l.length cap false ⟨#[]⟩]) := Loops.none.more _ fun K hK => getl_loop hmix l cs own s o sp cap hB K l 0 rfl (by omega) (.inl hK) (fun h => absurd e1 h)
      refine (sure5 hmix).fun F120 body120 Try.func20 rfl hL.gc ?_
      rw [w120]
      refine ⟨hF, rfl, rfl, rfl, hF, ?_, rfl⟩
      show _ = Value.string (getF s l)
      rw [e2]
    · have hne : idxF s 0 l ≠ -1 := by rw [e1]; omega
      have hL : Loops Try.prog body120 1 (cutLK [c120 cs own s o sp l.length cap true (getF s l)]) := Loops.none.more _ fun K hK => getl_loop hmix l cs own s o sp cap hB K l 0 rfl (by omega) (.inr hne) (fun _ => hK)
      refine (sure5 hmix).fun F120 body120 Try.func20 rfl hL.gc ?_
      rw [w120]
      exact ⟨hF, rfl, rfl, rfl, hF, rfl, rfl⟩
  · obtain ⟨s, rfl⟩ := ok1_eq hk
    have hL : Loops Try.prog body120 0 (cutLK [c120z s]) := Loops.none.more _ fun K hK => by
      show LSays Try.prog 0 (sub body120 [0,0,1,0,1]) _ _ _
      refine (sure5 hmix).round F120 noLoops [0,1,5] ?_
      rw [r120z]
      exact ⟨FlatH.empty, hK⟩
    refine (sure5 hmix).fun F120 body120 Try.func20 rfl hL.gc ?_
    rw [w120z]
    exact ⟨FlatH.empty, rfl, rfl, rfl, FlatH.empty, rfl, rfl⟩
theorem wgt_says (hmix : Try.prog.follows .mixedOrders = true) : wgtC.Holds Try.prog 14 := by
  refine lsC_of (fun l cs own o sp cap xs hc hB hk => ?_) (fun xs hk => ?_)
  · obtain ⟨m, rfl, hm0, hm⟩ := okW_eq hk
    have hF : FlatH (hp [.cells cs 2 own]) := FlatH.hp ⟨hB.flat, trivial⟩
    have hw1 : wr .i64 (m + 1) = m + 1 := by rw [wr_eq]; simp [IntKind.wrap, IntKind.bits, IntKind.signed]; omega
    have hL : Loops Try.prog body114 1 (cutLK [c114 cs own m o sp l.length cap (wgtO m 0 l).isNone ((wgtO m 0 l).getD 0)]) := Loops.none.more _ fun K hK => weight_loop hmix l cs own m hm0 hm o sp cap hB K l 0 0 rfl (by omega) (by omega) (by omega) hK
    refine (sure5 hmix).fun F114 body114 Try.func14 rfl hL.gc ?_
    rw [w114, hw1]
    refine ⟨hF, rfl, rfl, ?_⟩
    show Alt _ (_ ∧ _ ∧ _ = Value.int .i64 (wgtV l m) ∧ _) (_ ∧ _ ∧ _ = Value.int .i64 (wgtV l m) ∧ _)
    unfold wgtV
    cases hw : wgtO m 0 l with
    | none => exact ⟨rfl, hF, rfl, rfl⟩
    | some n => exact ⟨rfl, hF, rfl, rfl⟩
  · obtain ⟨m, rfl, hm0, hm⟩ := okW_eq hk
    have hw1 : wr .i64 (m + 1) = m + 1 := by rw [wr_eq]; simp [IntKind.wrap, IntKind.bits, IntKind.signed]; omega
    have hL : Loops Try.prog body114 0 (cutLK [c114z m]) := Loops.none.more _ fun K hK => by
      show LSays Try.prog 0 (sub body114 [0,0,1,0,1,1]) _ _ _
      refine (sure5 hmix).round F114 noLoops [0,1,5,6] ?_
      rw [r114z]
      exact ⟨FlatH.empty, hK⟩
    refine (sure5 hmix).fun F114 body114 Try.func14 rfl hL.gc ?_
    rw [w114z, hw1]
    exact ⟨FlatH.empty, rfl, rfl, rfl, FlatH.empty, rfl, rfl⟩
theorem idx_says (hmix : Try.prog.follows .mixedOrders = true) : idxC.Holds Try.prog 32 := by
  intro args blks hf hp
  refine ⟨trivial, ?_⟩
  simp only [idxC] at hp ⊢
  split at hp
  · rename_i o sp len cap fn f c cs own s own2
    obtain ⟨⟨l, rfl, hc, hB⟩, hk⟩ := hp
    obtain ⟨rfl, rfl, rfl⟩ := isK_eq hk
    simp only [hB.labsAt, List.append_nil]
    have fs : FlatL [Value.string s] := ⟨fun x hx => by simp at hx; subst hx; rfl⟩
    have hF : FlatH (AM.hp [.cells cs 2 own, .cells [.string s] 1 own2]) := FlatH.hp ⟨hB.flat, fs, trivial⟩
    rcases idx_get s l 0 with ⟨e1, e2⟩ | ⟨j, x, e0, e1, e2⟩
    · have hL : Loops Try.prog body132 2 (cutLK [c132 cs own own2 s o sp l.length cap false 0]) := Loops.none.more _ fun K hK => index_loop hmix l cs own own2 s o sp cap hB K l 0 rfl (by omega) (.inl hK) (fun h => absurd e1 h)
      refine (sure5 hmix).fun F132 body132 Try.func32 rfl hL.gc ?_
      rw [w132, e1]
      exact ⟨hF, rfl, rfl, rfl, hF, rfl, rfl⟩
    · have hne : idxF s 0 l ≠ -1 := by rw [e1]; omega
      have hL : Loops Try.prog body132 2 (cutLK [c132 cs own own2 s o sp l.length cap true (idxF s 0 l)]) := Loops.none.more _ fun K hK => index_loop hmix l cs own own2 s o sp cap hB K l 0 rfl (by omega) (.inr hne) (fun _ => hK)
      refine (sure5 hmix).fun F132 body132 Try.func32 rfl hL.gc ?_
      rw [w132]
      exact ⟨hF, rfl, rfl, rfl, hF, rfl, rfl⟩
  · rename_i fn f c s own2
    obtain ⟨rfl, rfl, rfl⟩ := isK_eq hp
    have fs : FlatL [Value.string s] := ⟨fun x hx => by simp at hx; subst hx; rfl⟩
    have hF : FlatH (AM.hp [.cells [.string s] 1 own2]) := FlatH.hp ⟨fs, trivial⟩
    have hL : Loops Try.prog body132 1 (cutLK [c132z s own2]) := Loops.none.more _ fun K hK => by
      show LSays Try.prog 1 (sub body132 [0,0,1,0,1]) _ _ _
      refine (sure5 hmix).round F132 noLoops [0,1,7,8] ?_
      rw [r132z]
      exact ⟨hF, hK⟩
    refine (sure5 hmix).fun F132 body132 Try.func32 rfl hL.gc ?_
    rw [w132z]
    exact ⟨hF, rfl, rfl, rfl, hF, rfl, rfl⟩
  · exact hp.elim
noncomputable def S6 : Book := bookOf [(32, idxC)]
theorem sure6 (hmix : Try.prog.follows .mixedOrders = true) : Sure Try.prog S6 := ⟨hmix, plain, bookOf_ok ⟨idx_says hmix, trivial⟩⟩
noncomputable def body119 : Code := (Try.f19.body).getD .skip
def F119 : List Nat → Option (List Nat) := fun p => match p with
  | [1] => some [0, 3]
  | [1, 1] => some [0, 5]
  | [1, 0, 1, 1] => some [0, 5, 10]
  | [1, 0, 1, 0, 1, 1] => some [4]
  | [1, 1, 1] => some [0, 5]
  | [1, 1, 1, 1] => some [4]
  | _ => none

theorem w119 (cs : List Value) (own : Bool) (s : ByteArray) (o : Nat) (sp : Option Nat) (len cap : Nat) (K : Value → Heap → Prop) :
  funK Try.prog S6 noLoop F119 body119 Try.f19 [.slice (some ⟨0,o,sp⟩) len cap, .string s] (hp [.cells cs 2 own]) K = (
(FlatL cs ∧ FlatL [Value.string s] ∧ True) ∧
  (IsLs cs o len cap ∧ True) ∧
    Alt (ltI (idxF s 0 (labsAt cs o len)) 0) (K (Value.string { data := #[] : ByteArray }) (hp [Blk.cells cs 2 own]))
      (Need (leI 0 (idxF s 0 (labsAt cs o len)))
        (Need (ltI (idxF s 0 (labsAt cs o len)) (↑len : Int))
          (Need (isStr ((getO cs (o + (idxF s 0 (labsAt cs o len)).toNat * 2 + 1)).getD undef))
            (K (Value.string (strV ((getO cs (o + (idxF s 0 (labsAt cs o len)).toNat * 2 + 1)).getD undef)))
              (hp [Blk.cells cs 2 own])))))) := by kernel_rfl

theorem w119z (s : ByteArray) (K : Value → Heap → Prop) :
  funK Try.prog S6 noLoop F119 body119 Try.f19 [.slice none 0 0, .string s] (hp []) K = (
(FlatL [Value.string s] ∧ True) ∧ True ∧ K (Value.string { data := #[] : ByteArray }) (hp [])) := by kernel_rfl

theorem getk_says (hmix : Try.prog.follows .mixedOrders = true) : getLC.Holds Try.prog 19 := by
  refine lsC_of (fun l cs own o sp cap xs hc hB hk => ?_) (fun xs hk => ?_)
  · obtain ⟨s, rfl⟩ := ok1_eq hk
    have hF : FlatH (hp [.cells cs 2 own]) := FlatH.hp ⟨hB.flat, trivial⟩
    have fs : FlatL [Value.string s] := ⟨fun x hx => by simp at hx; subst hx; rfl⟩
    refine (sure6 hmix).fun F119 body119 Try.func19 rfl noLoops ?_
    rw [w119, hB.labsAt]
    refine ⟨⟨hB.flat, fs, trivial⟩, ⟨⟨l, rfl, hc, hB⟩, trivial⟩, ?_⟩
    show Alt _ (_ ∧ _ ∧ _ = Value.string (getF s l) ∧ _) _
    rcases idx_get s l 0 with ⟨e1, e2⟩ | ⟨j, x, e0, e1, e2⟩
    · rw [e1, e2]
      exact ⟨rfl, hF, rfl, rfl⟩
    · have hlt := (List.getElem?_eq_some_iff.1 e0).1
      rw [e1, Nat.zero_add]
      simp only [show ¬ ((j : Nat) : Int) < 0 by omega, show (0 : Int) ≤ (j : Int) by omega, show (j : Int) < (l.length : Int) by omega, Int.toNat_natCast, hB.value j x e0, Option.getD_some, isStr, strV, hF, Alt_iff, Need_iff, ltI_eq, leI_eq, eqI_eq, leN_eq, eqN_eq, decide_eq_true_eq, decide_eq_false_iff_not, decide_true, decide_false, true_and, and_true, Bool.true_eq_false, Bool.false_eq_true, false_implies, true_implies, implies_true, not_true_eq_false, not_false_eq_true, Bool.not_eq_true', Bool.not_eq_false']
      exact ⟨rfl, congrArg Value.string e2.symm⟩
  · obtain ⟨s, rfl⟩ := ok1_eq hk
    have fs : FlatL [Value.string s] := ⟨fun x hx => by simp at hx; subst hx; rfl⟩
    refine (sure6 hmix).fun F119 body119 Try.func19 rfl noLoops ?_
    rw [w119z]
    exact ⟨⟨fs, trivial⟩, trivial, rfl, FlatH.empty, rfl, rfl⟩
/-- a law that says true of itself -/
noncomputable def trueC : Ctr where
  pre := fun args blks => match args, blks with
    | [], [] => True
    | _, _ => False
  val := fun _ _ => .bool true
  new := fun _ _ => []
theorem trueC_of {f : FuncId} (hs : FunSays Try.prog f [] (hp []) fun v h' => v = .bool true ∧ h' = hp []) : trueC.Holds Try.prog f := by
  intro args blks hf hp
  refine ⟨trivial, ?_⟩
  simp only [trueC] at hp ⊢
  split at hp
  · exact hs
  · exact hp.elim
theorem runs_run : isTrueR (acall Try.prog (fun _ => none) 300 3 [] Heap.empty) = true := by decide +kernel
theorem runs_holds (hmix : Try.prog.follows .mixedOrders = true) : trueC.Holds Try.prog 3 := trueC_of (FunSays.of_run hmix plain Try.func3 rfl runs_run)
noncomputable def S7 : Book := bookOf [(3, trueC), (11, isSetC), (13, nameC), (14, wgtC), (15, nameC), (16, valueC), (17, valueC), (18, isSetC), (19, getLC), (20, getLC)]
theorem sure7 (hmix : Try.prog.follows .mixedOrders = true) : Sure Try.prog S7 := ⟨hmix, plain, bookOf_ok ⟨runs_holds hmix, is_says hmix, nameC_holds hmix, wgt_says hmix, rnameC_holds hmix, valueC_holds hmix, rvalueC_holds hmix, isset_says hmix, getk_says hmix, getl_says hmix, trivial⟩⟩
noncomputable def body104 : Code := (Try.f4.body).getD .skip
def F104 : List Nat → Option (List Nat) := fun p => match p with
  | [1] => some [0, 1]
  | [1, 0, 1] => some [0, 1, 12]
  | [1, 0, 1, 0, 1] => some [4]
  | [1, 1] => some [0, 1]
  | [1, 1, 1] => some [4]
  | _ => none

theorem w104 (cs : List Value) (s : ByteArray) (o : Nat) (sp : Option Nat) (len cap : Nat) (K : Value → Heap → Prop) :
  funK Try.prog S7 noLoop F104 body104 Try.f4 [.string s, .slice (some ⟨0,o,sp⟩) len cap] (hp [.cells cs 2 false]) K = (
Alt (ltI 300 (↑s.size : Int)) (True ∧ True ∧ K (Value.bool true) (hp [Blk.cells cs 2 false]))
  ((FlatL cs ∧ True) ∧
    (IsLs cs o len cap ∧ True) ∧
      Alt (ltI 300 (wgtV (labsAt cs o len) (intV (Value.int IntKind.i64 300))))
        (True ∧ True ∧ K (Value.bool true) (hp [Blk.cells cs 2 false]))
        (True ∧
          Need (leN s.size 9223372036854775807) True ∧
            True ∧
              Need (leN s.size 9223372036854775807) True ∧
                Alt (nameB s == nameB s)
                  (True ∧
                    Need (leN s.size 9223372036854775807) True ∧
                      True ∧
                        Need (leN s.size 9223372036854775807) True ∧
                          Alt (valueB s == valueB s)
                            ((FlatL cs ∧ True) ∧
                              (IsLs cs o len cap ∧ True) ∧
                                (FlatL cs ∧ True) ∧
                                  (IsLs cs o len cap ∧ True) ∧
                                    Alt (isSetB (labsAt cs o len) == isSetB (labsAt cs o len))
                                      ((FlatL cs ∧ True) ∧
                                        (IsLs cs o len cap ∧ True) ∧
                                          (FlatL cs ∧ True) ∧
                                            (IsLs cs o len cap ∧ True) ∧
                                              Alt
                                                (eqS (getF (strV (Value.string s)) (labsAt cs o len))
                                                  (getF (strV (Value.string s)) (labsAt cs o len)))
                                                (True ∧ True ∧ K (Value.bool true) (hp [Blk.cells cs 2 false]))
                                                (K (Value.bool false) (hp [Blk.cells cs 2 false])))
                                      (K (Value.bool false) (hp [Blk.cells cs 2 false])))
                            (K (Value.bool false) (hp [Blk.cells cs 2 false])))
                  (K (Value.bool false) (hp [Blk.cells cs 2 false]))))) := by kernel_rfl

theorem w104z (s : ByteArray) (K : Value → Heap → Prop) :
  funK Try.prog S7 noLoop F104 body104 Try.f4 [.string s, .slice none 0 0] (hp []) K = (
Alt (ltI 300 (↑s.size : Int)) (True ∧ True ∧ K (Value.bool true) (hp []))
  (True ∧
    True ∧
      True ∧
        Need (leN s.size 9223372036854775807) True ∧
          True ∧
            Need (leN s.size 9223372036854775807) True ∧
              Alt (nameB s == nameB s)
                (True ∧
                  Need (leN s.size 9223372036854775807) True ∧
                    True ∧
                      Need (leN s.size 9223372036854775807) True ∧
                        Alt (valueB s == valueB s)
                          (True ∧
                            True ∧ True ∧ True ∧ True ∧ True ∧ True ∧ True ∧ True ∧ True ∧ K (Value.bool true) (hp []))
                          (K (Value.bool false) (hp [])))
                (K (Value.bool false) (hp [])))) := by kernel_rfl

theorem law104 (hmix : Try.prog.follows .mixedOrders = true) (cs : List Value) (s : ByteArray) (o : Nat) (sp : Option Nat) (cap : Nat) (l : List Lb) (hs : s.size ≤ 9223372036854775807) (hc : l.length ≤ cap) (hB : LSl cs o l) :
    FunSays Try.prog 4 [.string s, .slice (some ⟨0,o,sp⟩) l.length cap] (hp [.cells cs 2 false]) fun v _ => v = .bool true := by
  have hF : FlatH (hp [.cells cs 2 false]) := FlatH.hp ⟨hB.flat, trivial⟩
  refine (sure7 hmix).fun F104 body104 Try.func4 rfl noLoops ?_
  rw [w104]
  have hI : IsLs cs o l.length cap := ⟨l, rfl, hc, hB⟩
  have hf := hB.flat
  simp only [hI, hF, hf, hs, eqS_rfl, beq_self_eq_true, Alt_iff, Need_iff, ltI_eq, leI_eq, eqI_eq, leN_eq, eqN_eq, decide_eq_true_eq, decide_eq_false_iff_not, decide_true, decide_false, true_and, and_true, Bool.true_eq_false, Bool.false_eq_true, false_implies, true_implies, implies_true, not_true_eq_false, not_false_eq_true, Bool.not_eq_true', Bool.not_eq_false']
  exact ⟨fun _ => rfl, fun _ => ⟨fun _ => rfl, fun _ => rfl⟩⟩
theorem law104z (hmix : Try.prog.follows .mixedOrders = true) (s : ByteArray) (hs : s.size ≤ 9223372036854775807) : FunSays Try.prog 4 [.string s, .slice none 0 0] (hp []) fun v _ => v = .bool true := by
  refine (sure7 hmix).fun F104 body104 Try.func4 rfl noLoops ?_
  rw [w104z]
  simp only [FlatH.empty, hs, beq_self_eq_true, Alt_iff, Need_iff, ltI_eq, leI_eq, eqI_eq, leN_eq, eqN_eq, decide_eq_true_eq, decide_eq_false_iff_not, decide_true, decide_false, true_and, and_true, Bool.true_eq_false, Bool.false_eq_true, false_implies, true_implies, implies_true, not_true_eq_false, not_false_eq_true, Bool.not_eq_true', Bool.not_eq_false']
  exact ⟨fun _ => rfl, fun _ => rfl⟩
theorem slice_labs (L : List (List Value)) (len : Nat) (hl : len ≤ L.length) (hL : L.length ≤ 9223372036854775807) (hg : ∀ c ∈ L, c.length = 2 ∧ ∃ a b : ByteArray, c = [.string a, .string b] ∧ a.size ≤ 9223372036854775807 ∧ b.size ≤ 9223372036854775807) (hf : FlatL L.flatten) :
    ∃ l : List Lb, l.length = len ∧ LSl L.flatten 0 l := by
  have key : ∀ L : List (List Value), (∀ c ∈ L, c.length = 2 ∧ ∃ a b : ByteArray, c = [.string a, .string b] ∧ a.size ≤ 9223372036854775807 ∧ b.size ≤ 9223372036854775807) →
      ∃ l : List Lb, l.length = L.length ∧ (∀ x ∈ l, x.1.size ≤ 9223372036854775807 ∧ x.2.size ≤ 9223372036854775807) ∧ ∀ (j : Nat) x, l[j]? = some x → L.flatten[j * 2]? = some (.string x.1) ∧ L.flatten[j * 2 + 1]? = some (.string x.2) := by
    intro L
    induction L with
    | nil => intro _; exact ⟨[], rfl, fun x hx => by simp at hx, fun j x hj => by simp at hj⟩
    | cons c L ih =>
      intro h
      obtain ⟨_, a, b, rfl, ha, hb⟩ := h c (by simp)
      obtain ⟨l, h1, h2, h3⟩ := ih fun c hc => h c (by simp [hc])
      refine ⟨(a, b) :: l, by simp [h1], fun x hx => ?_, fun j x hj => ?_⟩
      · rcases List.mem_cons.1 hx with rfl | hx
        · exact ⟨ha, hb⟩
        · exact h2 x hx
      · cases j with
        | zero => simp at hj; subst hj; simp
        | succ j =>
          obtain ⟨z1, z2⟩ := h3 j x (by simpa using hj)
          rw [List.flatten_cons]
          refine ⟨?_, ?_⟩
          · rw [List.getElem?_append_right (by simp; omega)]
            simpa [Nat.succ_mul] using z1
          · rw [List.getElem?_append_right (by simp; omega)]
            rw [show (j + 1) * 2 + 1 - [Value.string a, Value.string b].length = j * 2 + 1 by simp; omega]; exact z2
  obtain ⟨l, h1, h2, h3⟩ := key L hg
  refine ⟨l.take len, by rw [List.length_take]; omega, fun j x hj => ?_, fun j x hj => ?_, fun x hx => h2 x (List.mem_of_mem_take hx), by rw [List.length_take]; omega, hf⟩
  all_goals
    rw [List.getElem?_take] at hj
    split at hj
    · rw [Nat.zero_add, getO_eq]
      first | exact (h3 j x hj).1 | exact (h3 j x hj).2
    · cases hj
end Go.Proofs.Ytdpfmaimhimfcaa

namespace Go.Proofs.Ytdpfmaimhimfcaa
open Go.RowKit Go.Proofs.Ytdpfmaimhimfcaa.AM
set_option maxRecDepth 100000
set_option maxHeartbeats 4000000
noncomputable def body134 : Code := (Try.f34.body).getD .skip
def F134 : List Nat → Option (List Nat) := fun p => match p with
  | [1] => some [0]
  | [1, 1] => some [2]
  | _ => none
noncomputable def body135 : Code := (Try.f35.body).getD .skip
def F135 : List Nat → Option (List Nat) := fun p => match p with
  | [1] => some [0, 1, 2]
  | [1, 1] => some [0, 1, 2]
  | [1, 0, 1, 1] => some [0, 1, 2, 14]
  | [1, 1, 1] => some [0, 1]
  | [1, 1, 1, 1] => some [6]
  | _ => none
noncomputable def body136 : Code := (Try.f36.body).getD .skip
def F136 : List Nat → Option (List Nat) := fun p => match p with
  | [1] => some [0]
  | [1, 1] => some [2]
  | _ => none
noncomputable def body150 : Code := (Try.f50.body).getD .skip
def F150 : List Nat → Option (List Nat) := fun p => match p with
  | [1] => some [0, 1, 2]
  | [1, 0, 1] => some [0, 1, 2, 14]
  | [1, 0, 1, 0, 1] => some [6]
  | [1, 1] => some [0, 1, 2]
  | [1, 1, 1] => some [6]
  | _ => none
noncomputable def body121 : Code := (Try.f21.body).getD .skip
def F121 : List Nat → Option (List Nat) := fun p => match p with
  | [1] => some [0]
  | [1, 1] => some [0, 3]
  | [1, 0, 1, 1] => some [0, 3, 4]
  | [1, 0, 0, 0, 1, 0, 1, 1] => some [0, 3, 4, 15]
  | [1, 1, 0, 0, 0, 1, 0, 1, 1] => some [3]
  | [1, 0, 0, 1, 0, 1, 1] => some [0, 3, 4]
  | [1, 0, 0, 1, 0, 0, 1, 0, 1, 1] => some [0, 3, 4, 5]
  | [1, 1, 0, 0, 1, 0, 0, 1, 0, 1, 1] => some [0, 3, 4, 5, 36]
  | [1, 1, 0, 0, 1, 0, 1, 1] => some [0, 3, 4]
  | [1, 1, 1] => some [3]
  | [1, 0, 1, 1, 1] => some [3, 43]
  | [1, 1, 1, 1] => some [3]
  | [1, 1, 1, 1, 1] => some [6]
  | [1, 1, 1, 1, 1, 1] => some [2]
  | _ => none
noncomputable def body128 : Code := (Try.f28.body).getD .skip
def F128 : List Nat → Option (List Nat) := fun p => match p with
  | [1] => some [0]
  | [1, 1] => some [0, 4]
  | [1, 0, 1, 1] => some [0, 4, 5]
  | [1, 0, 0, 0, 1, 0, 1, 1] => some [0, 4, 5, 10]
  | [1, 1, 0, 0, 0, 1, 0, 1, 1] => some [4]
  | [1, 0, 0, 1, 0, 1, 1] => some [0, 4, 5]
  | [1, 0, 0, 1, 0, 0, 1, 0, 1, 1] => some [0, 4, 5, 6]
  | [1, 0, 0, 0, 0, 1, 0, 0, 1, 0, 0, 1, 0, 1, 1] => some [0, 4, 5, 6, 30]
  | [1, 1, 0, 0, 0, 0, 1, 0, 0, 1, 0, 0, 1, 0, 1, 1] => some [0, 4, 5, 6]
  | [1, 0, 0, 0, 1, 0, 0, 1, 0, 0, 1, 0, 1, 1] => some [0, 4, 5, 6]
  | [1, 1, 0, 0, 1, 0, 0, 1, 0, 1, 1] => some [0, 4, 5, 6]
  | [1, 1, 0, 0, 1, 0, 1, 1] => some [0, 4, 5]
  | [1, 1, 1] => some [4]
  | [1, 0, 1, 1, 1] => some [4, 49]
  | [1, 0, 1, 0, 1, 1, 1] => some [2, 3]
  | [1, 1, 1, 1] => some [4]
  | [1, 1, 1, 1, 1] => some [2, 3]
  | _ => none
noncomputable def body110 : Code := (Try.f10.body).getD .skip
def F110 : List Nat → Option (List Nat) := fun p => match p with
  | [1] => some [0, 1]
  | [1, 1] => some [0, 1, 5]
  | [1, 0, 1, 1] => some [0, 5, 8, 9, 10]
  | [1, 0, 0, 1, 0, 1, 1] => some [0, 5, 8, 9, 10, 11]
  | [1, 0, 1, 0, 0, 1, 0, 1, 1] => some [5]
  | [1, 1, 0, 0, 1, 0, 1, 1] => some [0, 5, 8, 9, 10]
  | [1, 0, 0, 1, 1, 0, 0, 1, 0, 1, 1] => some [0, 5, 7, 8, 9, 10]
  | [1, 1, 1, 0, 0, 1, 0, 1, 1] => some [0, 5, 8, 9, 10]
  | [1, 1, 1] => some [5]
  | [1, 1, 1, 1] => some [4]
  | _ => none
noncomputable def body122 : Code := (Try.f22.body).getD .skip
def F122 : List Nat → Option (List Nat) := fun p => match p with
  | [1] => some [0, 1]
  | [1, 1] => some [0, 1, 5]
  | [1, 0, 1, 1] => some [0, 1, 5, 6]
  | [1, 0, 0, 0, 1, 0, 1, 1] => some [0, 1, 5, 6, 10]
  | [1, 1, 0, 0, 0, 1, 0, 1, 1] => some [5]
  | [1, 0, 0, 1, 0, 1, 1] => some [0, 1, 5, 6]
  | [1, 1, 0, 0, 1, 0, 1, 1] => some [0, 1, 5, 6]
  | [1, 1, 1] => some [5]
  | [1, 1, 1, 1] => some [4]
  | _ => none

theorem w135 (n lo hi : Int) (K : Value → Heap → Prop) :
  funK Try.prog S0 noLoop F135 body135 Try.f35 [.int .i64 n, .int .i64 lo, .int .i64 hi] (hp []) K = (
Need (!eqI (wr IntKind.i64 (wr IntKind.i64 (hi - lo) + 1)) 0)
  (Alt (ltI (n.tmod (wr IntKind.i64 (wr IntKind.i64 (hi - lo) + 1))) 0)
    (K
      (Value.int IntKind.i64
        (wr IntKind.i64
          (lo +
            wr IntKind.i64
              (wr IntKind.i64 (wr IntKind.i64 (n.tmod (wr IntKind.i64 (wr IntKind.i64 (hi - lo) + 1)) + hi) - lo) +
                1))))
      (hp []))
    (K (Value.int IntKind.i64 (wr IntKind.i64 (lo + n.tmod (wr IntKind.i64 (wr IntKind.i64 (hi - lo) + 1))))) (hp [])))) := by kernel_rfl

theorem w150 (n lo hi : Int) (K : Value → Heap → Prop) :
  funK Try.prog S0 noLoop F150 body150 Try.f50 [.int .i64 n, .int .i64 lo, .int .i64 hi] (hp []) K = (
Need (leI lo n) (Need (leI n hi) (K (Value.int IntKind.i64 n) (hp [])))) := by kernel_rfl

noncomputable def withinC : Ctr where
  pre := fun args blks => match args, blks with
    | [.int .i64 _, .int .i64 lo, .int .i64 hi], [] => Need (leI 0 lo) (Need (leI lo hi) (Need (leI hi 1000) True))
    | _, _ => False
  val := fun args blks => match args with
    | [.int .i64 n, .int .i64 lo, .int .i64 hi] => .int .i64 (lo + n % (hi - lo + 1))
    | _ => .bool false
  new := fun _ _ => []
noncomputable def inIC : Ctr where
  pre := fun args blks => match args, blks with
    | [.int .i64 n, .int .i64 lo, .int .i64 hi], [] => Need (leI lo n) (Need (leI n hi) True)
    | _, _ => False
  val := fun args blks => match args with
    | [.int .i64 n, .int .i64 _, .int .i64 _] => .int .i64 n
    | _ => .bool false
  new := fun _ _ => []
theorem wr_small (x : Int) (h0 : -9223372036854775808 ≤ x) (h1 : x < 9223372036854775808) : wr .i64 x = x := by
  rw [wr_eq]; simp [IntKind.wrap, IntKind.bits, IntKind.signed]; omega
theorem within_says (hmix : Try.prog.follows .mixedOrders = true) : withinC.Holds Try.prog 35 := by
  intro args blks hf hp
  refine ⟨trivial, ?_⟩
  simp only [withinC] at hp ⊢
  split at hp
  · rename_i n lo hi
    simp only [Alt_iff, Need_iff, ltI_eq, leI_eq, eqI_eq, leN_eq, eqN_eq, decide_eq_true_eq, decide_eq_false_iff_not, decide_true, decide_false, true_and, and_true, Bool.true_eq_false, Bool.false_eq_true, false_implies, true_implies, implies_true, not_true_eq_false, not_false_eq_true, Bool.not_eq_true', Bool.not_eq_false'] at hp
    obtain ⟨h0, h1, h2⟩ := hp
    refine (sure0 hmix).fun F135 body135 Try.func35 rfl noLoops ?_
    rw [w135, wr_small (hi - lo) (by omega) (by omega), wr_small (hi - lo + 1) (by omega) (by omega)]
    have hm : 0 ≤ n % (hi - lo + 1) ∧ n % (hi - lo + 1) < hi - lo + 1 := ⟨Int.emod_nonneg _ (by omega), Int.emod_lt_of_pos _ (by omega)⟩
    have ht : (n.tmod (hi - lo + 1) < 0 → n.tmod (hi - lo + 1) = n % (hi - lo + 1) - (hi - lo + 1)) ∧ (¬ n.tmod (hi - lo + 1) < 0 → n.tmod (hi - lo + 1) = n % (hi - lo + 1)) := by
      rw [Int.tmod_eq_emod]
      split
      · refine ⟨fun h => by omega, fun _ => by omega⟩
      · rename_i hn
        have : ((hi - lo + 1).natAbs : Int) = hi - lo + 1 := by omega
        refine ⟨fun h => by omega, fun h => by omega⟩
    simp only [Alt_iff, Need_iff, ltI_eq, leI_eq, eqI_eq, leN_eq, eqN_eq, decide_eq_true_eq, decide_eq_false_iff_not, decide_true, decide_false, true_and, and_true, Bool.true_eq_false, Bool.false_eq_true, false_implies, true_implies, implies_true, not_true_eq_false, not_false_eq_true, Bool.not_eq_true', Bool.not_eq_false']
    refine ⟨by omega, fun h => ⟨rfl, FlatH.empty, ?_, rfl⟩, fun h => ⟨rfl, FlatH.empty, ?_, rfl⟩⟩
    · rw [ht.1 h, wr_small (n % (hi - lo + 1) - (hi - lo + 1) + hi) (by omega) (by omega), wr_small (n % (hi - lo + 1) - (hi - lo + 1) + hi - lo) (by omega) (by omega), wr_small (n % (hi - lo + 1) - (hi - lo + 1) + hi - lo + 1) (by omega) (by omega), wr_small _ (by omega) (by omega)]
      congr 1; omega
    · rw [ht.2 h, wr_small _ (by omega) (by omega)]
  · exact hp.elim
theorem in_says (hmix : Try.prog.follows .mixedOrders = true) : inIC.Holds Try.prog 50 := by
  intro args blks hf hp
  refine ⟨trivial, ?_⟩
  simp only [inIC] at hp ⊢
  split at hp
  · rename_i n lo hi
    simp only [Alt_iff, Need_iff, ltI_eq, leI_eq, eqI_eq, leN_eq, eqN_eq, decide_eq_true_eq, decide_eq_false_iff_not, decide_true, decide_false, true_and, and_true, Bool.true_eq_false, Bool.false_eq_true, false_implies, true_implies, implies_true, not_true_eq_false, not_false_eq_true, Bool.not_eq_true', Bool.not_eq_false'] at hp
    obtain ⟨p1, p2⟩ := hp
    refine (sure0 hmix).fun F150 body150 Try.func50 rfl noLoops ?_
    rw [w150]
    simp only [p1, p2, Alt_iff, Need_iff, ltI_eq, leI_eq, eqI_eq, leN_eq, eqN_eq, decide_eq_true_eq, decide_eq_false_iff_not, decide_true, decide_false, true_and, and_true, Bool.true_eq_false, Bool.false_eq_true, false_implies, true_implies, implies_true, not_true_eq_false, not_false_eq_true, Bool.not_eq_true', Bool.not_eq_false']
    first | exact ⟨rfl, FlatH.empty⟩ | exact ⟨rfl, FlatH.empty, rfl⟩
  · exact hp.elim
noncomputable def S40 : Book := bookOf [(50, inIC)]
theorem sure40 (hmix : Try.prog.follows .mixedOrders = true) : Sure Try.prog S40 := ⟨hmix, plain, bookOf_ok ⟨in_says hmix, trivial⟩⟩

theorem w134_0 (K : Value → Heap → Prop) :
  funK Try.prog S40 noLoop F134 body134 Try.f34 [.int .i64 0] (hp []) K = (
True ∧ True ∧ K (Value.string { data := #[OfNat.ofNat 115, OfNat.ofNat 101, OfNat.ofNat 118] : ByteArray }) (hp [])) := by kernel_rfl

theorem w134_1 (K : Value → Heap → Prop) :
  funK Try.prog S40 noLoop F134 body134 Try.f34 [.int .i64 1] (hp []) K = (
True ∧ True ∧ K (Value.string { data := #[OfNat.ofNat 106, OfNat.ofNat 111, OfNat.ofNat 98] : ByteArray }) (hp [])) := by kernel_rfl

theorem w134_2 (K : Value → Heap → Prop) :
  funK Try.prog S40 noLoop F134 body134 Try.f34 [.int .i64 2] (hp []) K = (
True ∧
  True ∧
    K (Value.string { data := #[OfNat.ofNat 104, OfNat.ofNat 111, OfNat.ofNat 115, OfNat.ofNat 116] : ByteArray })
      (hp [])) := by kernel_rfl

theorem w134_3 (K : Value → Heap → Prop) :
  funK Try.prog S40 noLoop F134 body134 Try.f34 [.int .i64 3] (hp []) K = (
True ∧ True ∧ K (Value.string { data := #[OfNat.ofNat 95, OfNat.ofNat 120] : ByteArray }) (hp [])) := by kernel_rfl

theorem w134_4 (K : Value → Heap → Prop) :
  funK Try.prog S40 noLoop F134 body134 Try.f34 [.int .i64 4] (hp []) K = (
True ∧
  True ∧
    K
      (Value.string
        { data := #[OfNat.ofNat 90, OfNat.ofNat 111, OfNat.ofNat 110, OfNat.ofNat 101, OfNat.ofNat 57] : ByteArray })
      (hp [])) := by kernel_rfl

theorem w136_0 (K : Value → Heap → Prop) :
  funK Try.prog S40 noLoop F136 body136 Try.f36 [.int .i64 0] (hp []) K = (
True ∧ True ∧ K (Value.string { data := #[OfNat.ofNat 97] : ByteArray }) (hp [])) := by kernel_rfl

theorem w136_1 (K : Value → Heap → Prop) :
  funK Try.prog S40 noLoop F136 body136 Try.f36 [.int .i64 1] (hp []) K = (
True ∧ True ∧ K (Value.string { data := #[OfNat.ofNat 98] : ByteArray }) (hp [])) := by kernel_rfl

theorem w136_2 (K : Value → Heap → Prop) :
  funK Try.prog S40 noLoop F136 body136 Try.f36 [.int .i64 2] (hp []) K = (
True ∧
  True ∧
    K (Value.string { data := #[OfNat.ofNat 99, OfNat.ofNat 114, OfNat.ofNat 105, OfNat.ofNat 116] : ByteArray })
      (hp [])) := by kernel_rfl

theorem w136_3 (K : Value → Heap → Prop) :
  funK Try.prog S40 noLoop F136 body136 Try.f36 [.int .i64 3] (hp []) K = (
True ∧
  True ∧
    K (Value.string { data := #[OfNat.ofNat 119, OfNat.ofNat 97, OfNat.ofNat 114, OfNat.ofNat 110] : ByteArray })
      (hp [])) := by kernel_rfl

theorem w136_4 (K : Value → Heap → Prop) :
  funK Try.prog S40 noLoop F136 body136 Try.f36 [.int .i64 4] (hp []) K = (
True ∧ True ∧ K (Value.string { data := #[OfNat.ofNat 97, OfNat.ofNat 98] : ByteArray }) (hp [])) := by kernel_rfl

theorem w136_5 (K : Value → Heap → Prop) :
  funK Try.prog S40 noLoop F136 body136 Try.f36 [.int .i64 5] (hp []) K = (
True ∧ True ∧ K (Value.string { data := #[OfNat.ofNat 0, OfNat.ofNat 255] : ByteArray }) (hp [])) := by kernel_rfl

theorem w136_6 (K : Value → Heap → Prop) :
  funK Try.prog S40 noLoop F136 body136 Try.f36 [.int .i64 6] (hp []) K = (
True ∧
  True ∧
    K
      (Value.string
        {
          data :=
            #[OfNat.ofNat 97, OfNat.ofNat 98, OfNat.ofNat 97, OfNat.ofNat 98, OfNat.ofNat 97, OfNat.ofNat 98,
              OfNat.ofNat 97, OfNat.ofNat 98, OfNat.ofNat 97, OfNat.ofNat 98, OfNat.ofNat 97, OfNat.ofNat 98,
              OfNat.ofNat 97, OfNat.ofNat 98, OfNat.ofNat 97, OfNat.ofNat 98, OfNat.ofNat 97, OfNat.ofNat 98,
              OfNat.ofNat 97, OfNat.ofNat 98, OfNat.ofNat 97, OfNat.ofNat 98, OfNat.ofNat 97, OfNat.ofNat 98] :
          ByteArray })
      (hp [])) := by kernel_rfl

def nameS (n : Int) : ByteArray := match n with
  | 0 => ⟨#[115, 101, 118]⟩
  | 1 => ⟨#[106, 111, 98]⟩
  | 2 => ⟨#[104, 111, 115, 116]⟩
  | 3 => ⟨#[95, 120]⟩
  | _ => ⟨#[90, 111, 110, 101, 57]⟩
def valS (n : Int) : ByteArray := match n with
  | 0 => ⟨#[97]⟩
  | 1 => ⟨#[98]⟩
  | 2 => ⟨#[99, 114, 105, 116]⟩
  | 3 => ⟨#[119, 97, 114, 110]⟩
  | 4 => ⟨#[97, 98]⟩
  | 5 => ⟨#[0, 255]⟩
  | _ => ⟨#[97, 98, 97, 98, 97, 98, 97, 98, 97, 98, 97, 98, 97, 98, 97, 98, 97, 98, 97, 98, 97, 98, 97, 98]⟩
noncomputable def fewC (m : Int) (g : Int → ByteArray) : Ctr where
  pre := fun args blks => match args, blks with
    | [.int .i64 n], [] => Need (leI 0 n) (Need (leI n m) True)
    | _, _ => False
  val := fun args blks => match args with
    | [.int .i64 n] => .string (g n)
    | _ => .bool false
  new := fun _ _ => []
noncomputable def knameC : Ctr := fewC 4 nameS
noncomputable def kvalC : Ctr := fewC 6 valS
theorem kname_says (hmix : Try.prog.follows .mixedOrders = true) : knameC.Holds Try.prog 34 := by
  intro args blks hf hp
  refine ⟨trivial, ?_⟩
  simp only [knameC, fewC] at hp ⊢
  split at hp
  · rename_i n
    simp only [Alt_iff, Need_iff, ltI_eq, leI_eq, eqI_eq, leN_eq, eqN_eq, decide_eq_true_eq, decide_eq_false_iff_not, decide_true, decide_false, true_and, and_true, Bool.true_eq_false, Bool.false_eq_true, false_implies, true_implies, implies_true, not_true_eq_false, not_false_eq_true, Bool.not_eq_true', Bool.not_eq_false'] at hp
    refine (sure40 hmix).fun F134 body134 Try.func34 rfl noLoops ?_
    have : n = 0 ∨ n = 1 ∨ n = 2 ∨ n = 3 ∨ n = 4 := by omega
    rcases this with rfl | rfl | rfl | rfl | rfl
    · rw [w134_0]; exact ⟨trivial, trivial, rfl, FlatH.empty, rfl, rfl⟩
    · rw [w134_1]; exact ⟨trivial, trivial, rfl, FlatH.empty, rfl, rfl⟩
    · rw [w134_2]; exact ⟨trivial, trivial, rfl, FlatH.empty, rfl, rfl⟩
    · rw [w134_3]; exact ⟨trivial, trivial, rfl, FlatH.empty, rfl, rfl⟩
    · rw [w134_4]; exact ⟨trivial, trivial, rfl, FlatH.empty, rfl, rfl⟩
  · exact hp.elim
theorem kval_says (hmix : Try.prog.follows .mixedOrders = true) : kvalC.Holds Try.prog 36 := by
  intro args blks hf hp
  refine ⟨trivial, ?_⟩
  simp only [kvalC, fewC] at hp ⊢
  split at hp
  · rename_i n
    simp only [Alt_iff, Need_iff, ltI_eq, leI_eq, eqI_eq, leN_eq, eqN_eq, decide_eq_true_eq, decide_eq_false_iff_not, decide_true, decide_false, true_and, and_true, Bool.true_eq_false, Bool.false_eq_true, false_implies, true_implies, implies_true, not_true_eq_false, not_false_eq_true, Bool.not_eq_true', Bool.not_eq_false'] at hp
    refine (sure40 hmix).fun F136 body136 Try.func36 rfl noLoops ?_
    have : n = 0 ∨ n = 1 ∨ n = 2 ∨ n = 3 ∨ n = 4 ∨ n = 5 ∨ n = 6 := by omega
    rcases this with rfl | rfl | rfl | rfl | rfl | rfl | rfl
    · rw [w136_0]; exact ⟨trivial, trivial, rfl, FlatH.empty, rfl, rfl⟩
    · rw [w136_1]; exact ⟨trivial, trivial, rfl, FlatH.empty, rfl, rfl⟩
    · rw [w136_2]; exact ⟨trivial, trivial, rfl, FlatH.empty, rfl, rfl⟩
    · rw [w136_3]; exact ⟨trivial, trivial, rfl, FlatH.empty, rfl, rfl⟩
    · rw [w136_4]; exact ⟨trivial, trivial, rfl, FlatH.empty, rfl, rfl⟩
    · rw [w136_5]; exact ⟨trivial, trivial, rfl, FlatH.empty, rfl, rfl⟩
    · rw [w136_6]; exact ⟨trivial, trivial, rfl, FlatH.empty, rfl, rfl⟩
  · exact hp.elim
theorem few_facts (n : Int) : (nameS n).size ≤ 5 ∧ nameB (nameS n) = true ∧ (valS n).size ≤ 24 ∧ valueB (valS n) = true := by
  unfold nameS valS
  refine ⟨?_, ?_, ?_, ?_⟩ <;> split <;> decide +kernel
end Go.Proofs.Ytdpfmaimhimfcaa

namespace Go.Proofs.Ytdpfmaimhimfcaa
open Go.RowKit Go.Proofs.Ytdpfmaimhimfcaa.AM
set_option maxRecDepth 100000
set_option maxHeartbeats 4000000
noncomputable def S41 : Book := bookOf [(18, isSetC)]
theorem sure41 (hmix : Try.prog.follows .mixedOrders = true) : Sure Try.prog S41 := ⟨hmix, plain, bookOf_ok ⟨isset_says hmix, trivial⟩⟩
noncomputable def T128 (a : Value) (m i : Nat) : List Value := tmps 51 [(0, a), (4, .slice (some ⟨1,0,some 1⟩) m m), (5, .int .i64 i)]
noncomputable def T128i (a : Value) (m i n : Nat) : List Value := tmps 51 [(0, a), (4, .slice (some ⟨1,0,some 1⟩) m m), (5, .int .i64 i), (6, .int .i64 n)]

theorem r128i (cs c2 : List Value) (own : Bool) (o : Nat) (sp : Option Nat) (len cap m i n : Nat) (K : Post) :
  roundX Try.prog S41 noLoop F128 body128 1 [] [] [] [] [0,4,5,6] [0,0,0,1,0,0,1,0,0,1,0,1,1] (T128i (.slice (some ⟨0,o,sp⟩) len cap) m i n) (hp [.cells cs 2 own, .cells c2 2 true]) K = (
Alt (ltI 0 (↑n : Int))
  (Need (ltI (↑i : Int) (↑len : Int))
    (Need (isStr ((getO cs (o + (↑i : Int).toNat * 2 + 0)).getD undef))
      (Need (leI 0 (wr IntKind.i64 ((↑n : Int) - 1)))
        (Need (ltI (wr IntKind.i64 ((↑n : Int) - 1)) (↑m : Int))
          (Need (isStr ((getO c2 (0 + (wr IntKind.i64 ((↑n : Int) - 1)).toNat * 2 + 0)).getD undef))
            (Alt
              (ltS (strV ((getO cs (o + (↑i : Int).toNat * 2 + 0)).getD undef))
                (strV ((getO c2 (0 + (wr IntKind.i64 ((↑n : Int) - 1)).toNat * 2 + 0)).getD undef)))
              (K AE.normal
                (tmps 51
                  [(0, Value.slice (some { block := 0, off := o, spot := sp : Addr }) len cap),
                    (4, Value.slice (some { block := 1, off := 0, spot := some 1 : Addr }) m m),
                    (5, Value.int IntKind.i64 (↑i : Int)),
                    (6, Value.int IntKind.i64 (wr IntKind.i64 ((↑n : Int) - 1)))])
                (hp [Blk.cells cs 2 own, Blk.cells c2 2 true]))
              (K (AE.exit 2)
                (tmps 51
                  [(0, Value.slice (some { block := 0, off := o, spot := sp : Addr }) len cap),
                    (4, Value.slice (some { block := 1, off := 0, spot := some 1 : Addr }) m m),
                    (5, Value.int IntKind.i64 (↑i : Int)), (6, Value.int IntKind.i64 (↑n : Int))])
                (hp [Blk.cells cs 2 own, Blk.cells c2 2 true]))))))))
  (K (AE.exit 2)
    (tmps 51
      [(0, Value.slice (some { block := 0, off := o, spot := sp : Addr }) len cap),
        (4, Value.slice (some { block := 1, off := 0, spot := some 1 : Addr }) m m),
        (5, Value.int IntKind.i64 (↑i : Int)), (6, Value.int IntKind.i64 (↑n : Int))])
    (hp [Blk.cells cs 2 own, Blk.cells c2 2 true]))) := by kernel_rfl

noncomputable def c128i (cs c2 : List Value) (own : Bool) (o : Nat) (sp : Option Nat) (len cap m i n : Nat) : Cut := ⟨[0,0,1,0,0,1,0,0,1,0,1,1], T128i (.slice (some ⟨0,o,sp⟩) len cap) m i m, hp [.cells cs 2 own, .cells c2 2 true], fun K => K (.exit 2) (T128i (.slice (some ⟨0,o,sp⟩) len cap) m i n) (hp [.cells cs 2 own, .cells c2 2 true])⟩

theorem r128 (cs c2 : List Value) (own : Bool) (o : Nat) (sp : Option Nat) (len cap m i n : Nat) (K : Post) :
  roundX Try.prog S41 (gcLKX (at0 []) (at0 []) 1 (cutLK [c128i cs c2 own o sp len cap m i n])) F128 body128 1 [] [] [] [] [0,4,5] [0,0,1,0,1,1] (T128 (.slice (some ⟨0,o,sp⟩) len cap) m i) (hp [.cells cs 2 own, .cells c2 2 true]) K = (
Alt (ltI (↑i : Int) (↑len : Int))
  (FlatD [] (hp [Blk.cells cs 2 own, Blk.cells c2 2 true]) ∧
    tmps 51
          [(0, Value.slice (some { block := 0, off := o, spot := sp : Addr }) len cap),
            (4, Value.slice (some { block := 1, off := 0, spot := some 1 : Addr }) m m),
            (5, Value.int IntKind.i64 (↑i : Int)), (6, Value.int IntKind.i64 (↑m : Int))] =
        tmps 51
          [(0, Value.slice (some { block := 0, off := o, spot := sp : Addr }) len cap),
            (4, Value.slice (some { block := 1, off := 0, spot := some 1 : Addr }) m m),
            (5, Value.int IntKind.i64 (↑i : Int)), (6, Value.int IntKind.i64 (↑m : Int))] ∧
      hp [Blk.cells cs 2 own, Blk.cells c2 2 true] = hp [Blk.cells cs 2 own, Blk.cells c2 2 true] ∧
        Need (leI (↑n : Int) (↑m : Int))
          (Need (leN (0 + ((↑n : Int).toNat - 0) * 2) c2.length)
            (Need (leN (((↑n : Int).toNat - 0) * 32) 1099511627776)
              (Need (leN ((↑n : Int).toNat - 0) 1099511627776)
                (Need (ltI (↑i : Int) (↑len : Int))
                  (Need (isStr ((getO cs (o + (↑i : Int).toNat * 2)).getD undef))
                    (Need (isStr ((getO cs (o + (↑i : Int).toNat * 2 + 1)).getD undef))
                      (Need
                        (leN (0 + ((↑n : Int).toNat - 0) * 2)
                          (List.take (((↑n : Int).toNat - 0) * 2) (List.drop 0 c2)).length)
                        (Need (leN (((↑n : Int).toNat - 0 + 1) * 32) 1099511627776)
                          (Need (leN ((↑n : Int).toNat - 0 + 1) 1099511627776)
                            (Need (leI (↑n : Int) (↑m : Int))
                              (Need (leN (0 + (↑n : Int).toNat * 2 + (m - (↑n : Int).toNat) * 2) c2.length)
                                (Need
                                  (leN (0 + ((↑n : Int).toNat - 0 + 1) * 2)
                                    (List.take (((↑n : Int).toNat - 0) * 2)
                                          (List.drop 0 (List.take (((↑n : Int).toNat - 0) * 2) (List.drop 0 c2))) ++
                                        [Value.string (strV ((getO cs (o + (↑i : Int).toNat * 2)).getD undef)),
                                          Value.string
                                            (strV ((getO cs (o + (↑i : Int).toNat * 2 + 1)).getD undef))]).length)
                                  (Need (leN (((↑n : Int).toNat - 0 + 1 + (m - (↑n : Int).toNat)) * 32) 1099511627776)
                                    (Need (leN ((↑n : Int).toNat - 0 + 1 + (m - (↑n : Int).toNat)) 1099511627776)
                                      (Need
                                        ((List.take ((m - (↑n : Int).toNat) * 2)
                                              (List.drop (0 + (↑n : Int).toNat * 2) c2)).all
                                          oneV)
                                        (Need (leI (↑n : Int) (↑m : Int))
                                          (Need
                                            (beqV 64
                                              (Value.slice
                                                (some
                                                  { block := 1, off := 0 + (↑n : Int).toNat * 2, spot := some 3 :
                                                    Addr })
                                                (m - (↑n : Int).toNat) (m - (↑n : Int).toNat))
                                              (Value.slice
                                                (some
                                                  { block := 1, off := 0 + (↑n : Int).toNat * 2, spot := some 3 :
                                                    Addr })
                                                (m - (↑n : Int).toNat) (m - (↑n : Int).toNat)))
                                            (Need (leI (↑n : Int) (↑m : Int))
                                              (Need
                                                (beqV 64
                                                  (Value.slice
                                                    (some
                                                      { block := 1, off := 0 + (↑n : Int).toNat * 2, spot := some 3 :
                                                        Addr })
                                                    (m - (↑n : Int).toNat) (m - (↑n : Int).toNat))
                                                  (Value.slice
                                                    (some
                                                      { block := 1, off := 0 + (↑n : Int).toNat * 2, spot := some 3 :
                                                        Addr })
                                                    (m - (↑n : Int).toNat) (m - (↑n : Int).toNat)))
                                                (Need
                                                  (beqV 64 (Value.int IntKind.i64 (↑n : Int))
                                                    (Value.int IntKind.i64 (↑n : Int)))
                                                  (Need
                                                    (beqV 64 (Value.int IntKind.i64 (↑n : Int))
                                                      (Value.int IntKind.i64 (↑n : Int)))
                                                    (Need
                                                      (beqV 64
                                                        (Value.slice
                                                          (some { block := 1, off := 0, spot := some 1 : Addr }) m m)
                                                        (Value.slice
                                                          (some { block := 1, off := 0, spot := some 1 : Addr }) m m))
                                                      (Need
                                                        (beqV 64
                                                          (Value.slice
                                                            (some { block := 1, off := 0, spot := some 1 : Addr }) m m)
                                                          (Value.slice
                                                            (some { block := 1, off := 0, spot := some 1 : Addr }) m m))
                                                        (Need (isStr ((getO cs (o + (↑i : Int).toNat * 2)).getD undef))
                                                          (Need
                                                            (isStr
                                                              ((getO cs (o + (↑i : Int).toNat * 2 + 1)).getD undef))
                                                            (Need
                                                              (beqV 64
                                                                (Value.agg
                                                                  #[Value.string
                                                                      (strV
                                                                        ((getO cs (o + (↑i : Int).toNat * 2)).getD
                                                                          undef)),
                                                                    Value.string
                                                                      (strV
                                                                        ((getO cs (o + (↑i : Int).toNat * 2 + 1)).getD
                                                                          undef))])
                                                                (Value.agg
                                                                  #[Value.string
                                                                      (strV
                                                                        ((getO cs (o + (↑i : Int).toNat * 2)).getD
                                                                          undef)),
                                                                    Value.string
                                                                      (strV
                                                                        ((getO cs (o + (↑i : Int).toNat * 2 + 1)).getD
                                                                          undef))]))
                                                              (Need (ltI (↑i : Int) (↑len : Int))
                                                                (Need
                                                                  (beqV 64
                                                                    (Value.pointer
                                                                      (some
                                                                        { block := 0, off := o + (↑i : Int).toNat * 2 :
                                                                          Addr }))
                                                                    (Value.pointer
                                                                      (some
                                                                        { block := 0, off := o + (↑i : Int).toNat * 2 :
                                                                          Addr })))
                                                                  (Need
                                                                    (beqV 64 (Value.int IntKind.i64 (↑i : Int))
                                                                      (Value.int IntKind.i64 (↑i : Int)))
                                                                    (Need
                                                                      (beqV 64
                                                                        (Value.slice
                                                                          (some
                                                                            { block := 0, off := o, spot := sp : Addr })
                                                                          len cap)
                                                                        (Value.slice
                                                                          (some
                                                                            { block := 0, off := o, spot := sp : Addr })
                                                                          len cap))
                                                                      (K AE.normal
                                                                        (tmps 51
                                                                          [(0,
                                                                              Value.slice
                                                                                (some
                                                                                  { block := 0, off := o, spot := sp :
                                                                                    Addr })
                                                                                len cap),
                                                                            (4,
                                                                              Value.slice
                                                                                (some
                                                                                  { block := 1, off := 0,
                                                                                    spot := some 1 : Addr })
                                                                                ((↑n : Int).toNat - 0 + 1 +
                                                                                  (m - (↑n : Int).toNat))
                                                                                ((↑n : Int).toNat - 0 + 1 +
                                                                                  (m - (↑n : Int).toNat))),
                                                                            (5,
                                                                              Value.int IntKind.i64
                                                                                (wr IntKind.i64 ((↑i : Int) + 1)))])
                                                                        (hp
                                                                          [Blk.cells cs 2 own,
                                                                            Blk.cells
                                                                              (List.take
                                                                                  (((↑n : Int).toNat - 0 + 1) * 2)
                                                                                  (List.drop 0
                                                                                    (List.take
                                                                                        (((↑n : Int).toNat - 0) * 2)
                                                                                        (List.drop 0
                                                                                          (List.take
                                                                                            (((↑n : Int).toNat - 0) * 2)
                                                                                            (List.drop 0 c2))) ++
                                                                                      [Value.string
                                                                                          (strV
                                                                                            ((getO cs
                                                                                                  (o +
                                                                                                    (↑i : Int).toNat *
                                                                                                      2)).getD
                                                                                              undef)),
                                                                                        Value.string
                                                                                          (strV
                                                                                            ((getO cs
                                                                                                  (o +
                                                                                                      (↑i : Int).toNat *
                                                                                                        2 +
                                                                                                    1)).getD
                                                                                              undef))])) ++
                                                                                List.take ((m - (↑n : Int).toNat) * 2)
                                                                                  (List.drop (0 + (↑n : Int).toNat * 2)
                                                                                    c2))
                                                                              2 true])))))))))))))))))))))))))))))))))
  (K (AE.exit 0) (tmps 51 [(4, Value.slice (some { block := 1, off := 0, spot := some 1 : Addr }) m m)])
    (hp [Blk.cells cs 2 own, Blk.cells c2 2 true]))) := by kernel_rfl

theorem r128e (cs c2 : List Value) (own : Bool) (o : Nat) (sp : Option Nat) (len cap m i : Nat) (K : Post) :
  roundX Try.prog S41 noLoop F128 body128 1 [] [] [] [] [0,4,5] [0,0,1,0,1,1] (T128 (.slice (some ⟨0,o,sp⟩) len cap) m i) (hp [.cells cs 2 own, .cells c2 2 true]) K = (
Alt (ltI (↑i : Int) (↑len : Int)) False
  (K (AE.exit 0) (tmps 51 [(4, Value.slice (some { block := 1, off := 0, spot := some 1 : Addr }) m m)])
    (hp [Blk.cells cs 2 own, Blk.cells c2 2 true]))) := by kernel_rfl

theorem w128 (cs : List Value) (own : Bool) (o : Nat) (sp : Option Nat) (len cap : Nat) (c2 : List Value) (m : Nat) (K : Value → Heap → Prop) :
  funX Try.prog S41 (gcLKX (at0 []) (at0 [.tmp 4 2]) 1 (cutLK [⟨[0,1,0,1,1], T128 (.slice (some ⟨0,o,sp⟩) len cap) 0 0, hp [.cells cs 2 own, .cells [] 2 true], fun K => K (.exit 0) (tmps 51 [(4, .slice (some ⟨1,0,some 1⟩) m m)]) (hp [.cells cs 2 own, .cells c2 2 true])⟩])) F128 body128 Try.f28 [] [.tup 0 0 2] [.slice (some ⟨0,o,sp⟩) len cap] (hp [.cells cs 2 own]) K = (
FlatD [] (hp [Blk.cells cs 2 own, Blk.cells [] 2 true]) ∧
  tmps 51
        [(0, Value.slice (some { block := 0, off := o, spot := sp : Addr }) len cap),
          (4, Value.slice (some { block := 1, off := 0, spot := some 1 : Addr }) 0 0), (5, Value.int IntKind.i64 0)] =
      tmps 51
        [(0, Value.slice (some { block := 0, off := o, spot := sp : Addr }) len cap),
          (4, Value.slice (some { block := 1, off := 0, spot := some 1 : Addr }) 0 0), (5, Value.int IntKind.i64 0)] ∧
    hp [Blk.cells cs 2 own, Blk.cells [] 2 true] = hp [Blk.cells cs 2 own, Blk.cells [] 2 true] ∧
      (FlatL c2 ∧ True) ∧
        (IsLs c2 0 m m ∧ True) ∧
          Alt (!isSetB (labsAt c2 0 m))
            (K (Value.tuple #[Value.slice (some { block := 1, off := 0, spot := some 1 : Addr }) 0 0, Value.bool false])
              (hp [Blk.cells cs 2 own, Blk.cells [] 2 true]))
            (K (Value.tuple #[Value.slice (some { block := 1, off := 0, spot := some 1 : Addr }) m m, Value.bool true])
              (hp [Blk.cells cs 2 own, Blk.cells c2 2 true]))) := by kernel_rfl

/-- labels as cells -/
def labC (l : List Lb) : List Value := l.flatMap fun x => [.string x.1, .string x.2]
theorem labC_len (l : List Lb) : (labC l).length = l.length * 2 := by
  induction l with
  | nil => rfl
  | cons x l ih => simp only [labC, List.flatMap_cons, List.length_append, List.length_cons, List.length_nil] at ih ⊢; rw [ih]; omega
theorem labC_cons (x : Lb) (l : List Lb) : labC (x :: l) = .string x.1 :: .string x.2 :: labC l := rfl
theorem labC_append (a b : List Lb) : labC (a ++ b) = labC a ++ labC b := by simp [labC]
theorem labC_take (l : List Lb) : ∀ n, (labC l).take (n * 2) = labC (l.take n) := by
  induction l with
  | nil => intro n; simp [labC]
  | cons x l ih =>
    intro n
    cases n with
    | zero => rfl
    | succ n => rw [labC_cons, show (n + 1) * 2 = n * 2 + 1 + 1 by omega, List.take_succ_cons, List.take_succ_cons, ih, List.take_succ_cons, labC_cons]
theorem labC_drop (l : List Lb) : ∀ n, (labC l).drop (n * 2) = labC (l.drop n) := by
  induction l with
  | nil => intro n; simp [labC]
  | cons x l ih =>
    intro n
    cases n with
    | zero => rfl
    | succ n => rw [labC_cons, show (n + 1) * 2 = n * 2 + 1 + 1 by omega, List.drop_succ_cons, List.drop_succ_cons, ih, List.drop_succ_cons]
theorem labC_flat (l : List Lb) : FlatL (labC l) := ⟨fun x hx => by
  obtain ⟨a, _, ha⟩ := List.mem_flatMap.1 hx
  simp at ha
  rcases ha with rfl | rfl <;> rfl⟩
theorem labC_one (l : List Lb) : (labC l).all oneV = true := by
  rw [List.all_eq_true]
  intro x hx
  obtain ⟨a, _, ha⟩ := List.mem_flatMap.1 hx
  simp at ha
  rcases ha with rfl | rfl <;> rfl
theorem labC_get (l : List Lb) : ∀ (j : Nat) x, l[j]? = some x → getO (labC l) (j * 2) = some (.string x.1) ∧ getO (labC l) (j * 2 + 1) = some (.string x.2) := by
  induction l with
  | nil => intro j x h; simp at h
  | cons y l ih =>
    intro j x h
    simp only [getO_eq] at ih ⊢
    cases j with
    | zero => simp at h; subst h; exact ⟨rfl, rfl⟩
    | succ j =>
      simp at h
      rw [labC_cons, show (j + 1) * 2 = j * 2 + 1 + 1 by omega, show j * 2 + 1 + 1 + 1 = (j * 2 + 1) + 1 + 1 by omega]
      simpa using ih j x h
def Small (l : List Lb) : Prop := ∀ x ∈ l, x.1.size ≤ 9223372036854775807 ∧ x.2.size ≤ 9223372036854775807
theorem labC_ls (l : List Lb) (hs : Small l) (hl : l.length ≤ 1000000000) : LSl (labC l) 0 l :=
  ⟨fun j x h => by rw [Nat.zero_add]; exact (labC_get l j x h).1, fun j x h => by rw [Nat.zero_add]; exact (labC_get l j x h).2, hs, by omega, labC_flat l⟩
/-- the place of a name, looked for from the end on -/
def posB (s : ByteArray) (L : List Lb) : Nat → Nat
  | 0 => 0
  | n + 1 => if ltS s (((L[n]?).getD (s, s)).1) = true then posB s L n else n + 1
theorem posB_le (s : ByteArray) (L : List Lb) : ∀ n, posB s L n ≤ n := by
  intro n
  induction n with
  | zero => exact Nat.le_refl _
  | succ n ih => unfold posB; split <;> omega
def insL (L : List Lb) (x : Lb) : List Lb := L.take (posB x.1 L L.length) ++ x :: L.drop (posB x.1 L L.length)
def mkS (l : List Lb) : List Lb := l.foldl insL []
theorem insL_len (L : List Lb) (x : Lb) : (insL L x).length = L.length + 1 := by
  unfold insL
  have := posB_le x.1 L L.length
  simp; omega
theorem insL_mem (L : List Lb) (x y : Lb) : y ∈ insL L x ↔ y = x ∨ y ∈ L := by
  unfold insL
  simp only [List.mem_append, List.mem_cons]
  have : y ∈ L ↔ y ∈ L.take (posB x.1 L L.length) ∨ y ∈ L.drop (posB x.1 L L.length) := by rw [← List.mem_append, List.take_append_drop]
  rw [this]
  constructor
  · rintro (h | h | h) <;> simp [h]
  · rintro (h | h | h) <;> simp [h]
theorem mk_inner (hmix : Try.prog.follows .mixedOrders = true) (l L : List Lb) (cs : List Value) (own : Bool) (o : Nat) (sp : Option Nat) (cap i : Nat) (x : Lb) (hx : l[i]? = some x) (hB : LSl cs o l) (hL : L.length ≤ 1000000) (K : Post) : ∀ n : Nat, n ≤ L.length →
    K (.exit 2) (T128i (.slice (some ⟨0,o,sp⟩) l.length cap) L.length i (posB x.1 L n)) (hp [.cells cs 2 own, .cells (labC L) 2 true]) →
    LSays Try.prog 1 (sub body128 [0,0,0,1,0,0,1,0,0,1,0,1,1]) (T128i (.slice (some ⟨0,o,sp⟩) l.length cap) L.length i n) (hp [.cells cs 2 own, .cells (labC L) 2 true]) K := by
  have hF : FlatD [] (hp [.cells cs 2 own, .cells (labC L) 2 true]) := FlatD.hp ⟨hB.flat, labC_flat L, trivial⟩
  have hg1 := hB.name i x hx
  have hlt : (i : Int) < (l.length : Int) := by have := (List.getElem?_eq_some_iff.1 hx).1; omega
  intro n
  induction n with
  | zero =>
    intro hn hK
    refine (sure41 hmix).roundX F128 noLoops [] [] [] [] [0,4,5,6] ?_
    rw [r128i]
    simp only [show ¬ ((0 : Int) < ((0 : Nat) : Int)) by omega, Alt_iff, Need_iff, ltI_eq, leI_eq, eqI_eq, leN_eq, eqN_eq, decide_eq_true_eq, decide_eq_false_iff_not, decide_true, decide_false, true_and, and_true, Bool.true_eq_false, Bool.false_eq_true, false_implies, true_implies, implies_true, not_true_eq_false, not_false_eq_true, Bool.not_eq_true', Bool.not_eq_false']
    exact ⟨hF, hK⟩
  | succ n ih =>
    intro hn hK
    have hy : L[n]? = some L[n] := List.getElem?_eq_getElem (by omega)
    obtain ⟨h1, h2⟩ := labC_get L n _ hy
    refine (sure41 hmix).roundX F128 noLoops [] [] [] [] [0,4,5,6] ?_
    rw [r128i]
    have e1 : wr .i64 (((n + 1 : Nat) : Int) - 1) = (n : Int) := by rw [wr_eq]; simp [IntKind.wrap, IntKind.bits, IntKind.signed]; omega
    rw [e1]
    unfold posB at hK
    rw [hy] at hK
    simp only [Option.getD_some] at hK
    simp only [show (0 : Int) < ((n + 1 : Nat) : Int) by omega, hlt, show (0 : Int) ≤ (n : Int) by omega, show (n : Int) < (L.length : Int) by omega, hg1, h1, hF, Alt_iff, Need_iff, ltI_eq, leI_eq, eqI_eq, leN_eq, eqN_eq, decide_eq_true_eq, decide_eq_false_iff_not, decide_true, decide_false, true_and, and_true, Bool.true_eq_false, Bool.false_eq_true, false_implies, true_implies, implies_true, not_true_eq_false, not_false_eq_true, Bool.not_eq_true', Bool.not_eq_false', Nat.zero_add, Nat.add_zero, Nat.sub_zero, Nat.zero_mul, Nat.mul_one, Int.toNat_natCast, List.drop_zero, beqV_int, beqV_sl, beqV_str, beqV_bool, beqV_ptr, beqV_flt, beqV_agg, beqV_tuple, List.all_cons, List.all_nil, Bool.and_self, Bool.and_true, Bool.true_and, Nat.le_refl, Int.le_refl, Nat.zero_le, Option.getD_some, isStr, strV, isInt, intV, isBool, boolV, kindEq, at0, isJunk, Option.isSome_some, Option.isSome_none, if_true, if_false, Nat.add_sub_cancel_left, Nat.add_sub_cancel]
    refine ⟨fun h => ?_, fun h => ?_⟩
    · rw [if_pos h] at hK
      exact ih (by omega) hK
    · rw [if_neg (by rw [h]; simp)] at hK
      exact hK
theorem insL_cells (L : List Lb) (x : Lb) (n : Nat) (hn : n = posB x.1 L L.length) : List.take ((n + 1) * 2) (List.take (n * 2) (List.take (n * 2) (labC L)) ++ [Value.string x.1, Value.string x.2]) ++ List.take ((L.length - n) * 2) (List.drop (n * 2) (labC L)) = labC (insL L x) := by
  have hle := posB_le x.1 L L.length
  rw [← hn] at hle
  have hlen := labC_len L
  rw [List.take_of_length_le (l := List.take (n * 2) (List.take (n * 2) (labC L)) ++ _) (by simp; omega)]
  unfold insL
  rw [← hn, labC_append, labC_cons, labC_drop, labC_take, labC_take, labC_take, List.take_take, Nat.min_self, show L.length - n = (L.drop n).length by simp, List.take_length]
  simp
theorem mk_outer (hmix : Try.prog.follows .mixedOrders = true) (l : List Lb) (cs : List Value) (own : Bool) (o : Nat) (sp : Option Nat) (cap : Nat) (hB : LSl cs o l) (hl : l.length ≤ 1000000) (K : Post) : ∀ (t : List Lb) (i : Nat) (L : List Lb), l.drop i = t → i ≤ l.length → L.length + t.length ≤ 1000000 →
    K (.exit 0) (tmps 51 [(4, .slice (some ⟨1,0,some 1⟩) (t.foldl insL L).length (t.foldl insL L).length)]) (hp [.cells cs 2 own, .cells (labC (t.foldl insL L)) 2 true]) →
    LSays Try.prog 1 (sub body128 [0,0,1,0,1,1]) (T128 (.slice (some ⟨0,o,sp⟩) l.length cap) L.length i) (hp [.cells cs 2 own, .cells (labC L) 2 true]) K := by
  intro t
  induction t with
  | nil =>
    intro i L ht hi hL hK
    have hF : FlatD [] (hp [.cells cs 2 own, .cells (labC L) 2 true]) := FlatD.hp ⟨hB.flat, labC_flat L, trivial⟩
    have hge : ¬ ((i : Int) < (l.length : Int)) := by have := List.drop_eq_nil_iff.1 ht; omega
    refine (sure41 hmix).roundX F128 noLoops [] [] [] [] [0,4,5] ?_
    rw [r128e]
    simp only [hge, hF, Alt_iff, Need_iff, ltI_eq, leI_eq, eqI_eq, leN_eq, eqN_eq, decide_eq_true_eq, decide_eq_false_iff_not, decide_true, decide_false, true_and, and_true, Bool.true_eq_false, Bool.false_eq_true, false_implies, true_implies, implies_true, not_true_eq_false, not_false_eq_true, Bool.not_eq_true', Bool.not_eq_false', Nat.zero_add, Nat.add_zero, Nat.sub_zero, Nat.zero_mul, Nat.mul_one, Int.toNat_natCast, List.drop_zero, beqV_int, beqV_sl, beqV_str, beqV_bool, beqV_ptr, beqV_flt, beqV_agg, beqV_tuple, List.all_cons, List.all_nil, Bool.and_self, Bool.and_true, Bool.true_and, Nat.le_refl, Int.le_refl, Nat.zero_le, Option.getD_some, isStr, strV, isInt, intV, isBool, boolV, kindEq, at0, isJunk, Option.isSome_some, Option.isSome_none, if_true, if_false, Nat.add_sub_cancel_left, Nat.add_sub_cancel]
    exact hK
  | cons x t ih =>
    intro i L ht hi hL hK
    obtain ⟨hlt, hx, hd⟩ := drop_cons ht
    have hl2 : (i : Int) < (l.length : Int) := by omega
    have hg1 := hB.name i x hx
    have hg2 := hB.value i x hx
    have hF : FlatD [] (hp [.cells cs 2 own, .cells (labC L) 2 true]) := FlatD.hp ⟨hB.flat, labC_flat L, trivial⟩
    have hF2 : FlatD [] (hp [.cells cs 2 own, .cells (labC (insL L x)) 2 true]) := FlatD.hp ⟨hB.flat, labC_flat _, trivial⟩
    have hle := posB_le x.1 L L.length
    have hlen := labC_len L
    simp only [List.length_cons] at hL
    have hLi : Loops Try.prog body128 1 (cutLK [c128i cs (labC L) own o sp l.length cap L.length i (posB x.1 L L.length)]) := Loops.none.more _ fun K hK => mk_inner hmix l L cs own o sp cap i x hx hB (by omega) K L.length (Nat.le_refl _) hK
    refine (sure41 hmix).roundX F128 (hLi.gcX (at0 []) (at0 [])) [] [] [] [] [0,4,5] ?_
    rw [r128]
    have next := ih (i + 1) (insL L x) hd (by omega) (by rw [insL_len]; omega) hK
    have ec := insL_cells L x _ rfl
    generalize posB x.1 L L.length = n at *
    have ho : (List.take ((L.length - n) * 2) (List.drop (n * 2) (labC L))).all oneV = true := by rw [labC_drop, labC_take]; exact labC_one _
    rw [insL_len] at next
    simp only [hl2, hF, show ((n : Nat) : Int) ≤ (L.length : Int) by omega, hg1, hg2, ho, next_i i (by omega), Alt_iff, Need_iff, ltI_eq, leI_eq, eqI_eq, leN_eq, eqN_eq, decide_eq_true_eq, decide_eq_false_iff_not, decide_true, decide_false, true_and, and_true, Bool.true_eq_false, Bool.false_eq_true, false_implies, true_implies, implies_true, not_true_eq_false, not_false_eq_true, Bool.not_eq_true', Bool.not_eq_false', Nat.zero_add, Nat.add_zero, Nat.sub_zero, Nat.zero_mul, Nat.mul_one, Int.toNat_natCast, List.drop_zero, beqV_int, beqV_sl, beqV_str, beqV_bool, beqV_ptr, beqV_flt, beqV_agg, beqV_tuple, List.all_cons, List.all_nil, Bool.and_self, Bool.and_true, Bool.true_and, Nat.le_refl, Int.le_refl, Nat.zero_le, Option.getD_some, isStr, strV, isInt, intV, isBool, boolV, kindEq, at0, isJunk, Option.isSome_some, Option.isSome_none, if_true, if_false, Nat.add_sub_cancel_left, Nat.add_sub_cancel]
    simp only [ec, hF2, show n + 1 + (L.length - n) = L.length + 1 by omega, next, Alt_iff, Need_iff, ltI_eq, leI_eq, eqI_eq, leN_eq, eqN_eq, decide_eq_true_eq, decide_eq_false_iff_not, decide_true, decide_false, true_and, and_true, Bool.true_eq_false, Bool.false_eq_true, false_implies, true_implies, implies_true, not_true_eq_false, not_false_eq_true, Bool.not_eq_true', Bool.not_eq_false', Nat.zero_add, Nat.add_zero, Nat.sub_zero, Nat.zero_mul, Nat.mul_one, Int.toNat_natCast, List.drop_zero, beqV_int, beqV_sl, beqV_str, beqV_bool, beqV_ptr, beqV_flt, beqV_agg, beqV_tuple, List.all_cons, List.all_nil, Bool.and_self, Bool.and_true, Bool.true_and, Nat.le_refl, Int.le_refl, Nat.zero_le, Option.getD_some, isStr, strV, isInt, intV, isBool, boolV, kindEq, at0, isJunk, Option.isSome_some, Option.isSome_none, if_true, if_false, Nat.add_sub_cancel_left, Nat.add_sub_cancel]
    and_intros
    all_goals try simp only [List.length_take, List.length_append, List.length_cons, List.length_nil]
    all_goals first | omega | exact next
theorem LSl.small {cs : List Value} {o : Nat} {l : List Lb} (h : LSl cs o l) : Small l := h.size
theorem small_nil : Small [] := fun x hx => by simp at hx
theorem mkS_mem (l : List Lb) : ∀ (L : List Lb) (y : Lb), y ∈ l.foldl insL L ↔ y ∈ L ∨ y ∈ l := by
  induction l with
  | nil => intro L y; simp
  | cons x l ih =>
    intro L y
    rw [List.foldl_cons, ih, insL_mem, List.mem_cons]
    constructor
    · rintro ((h | h) | h) <;> simp [h]
    · rintro (h | h | h) <;> simp [h]
theorem mkS_len (l : List Lb) : ∀ L : List Lb, (l.foldl insL L).length = L.length + l.length := by
  induction l with
  | nil => intro L; rfl
  | cons x l ih => intro L; rw [List.foldl_cons, ih, insL_len]; simp; omega
theorem mkS_small {l : List Lb} (h : Small l) : Small (mkS l) := fun x hx => by
  have := (mkS_mem l [] x).1 hx
  rcases this with hh | hh
  · simp at hh
  · exact h x hh
/-- the set of labels, or none -/
def mkR (l : List Lb) : List Lb := if isSetB (mkS l) then mkS l else []
noncomputable def mksetC : Ctr where
  pre := fun args blks => match args, blks with
    | [.slice (some ⟨0, o, _⟩) len cap], [.cells cs 2 _] => IsLs cs o len cap ∧ Need (leN len 1000000) True
    | _, _ => False
  val := fun args blks => match args, blks with
    | [.slice (some ⟨0, o, _⟩) len _], [.cells cs 2 _] => .tuple #[.slice (some ⟨1,0,some 1⟩) (mkR (labsAt cs o len)).length (mkR (labsAt cs o len)).length, .bool (isSetB (mkS (labsAt cs o len)))]
    | _, _ => .bool false
  new := fun args blks => match args, blks with
    | [.slice (some ⟨0, o, _⟩) len _], [.cells cs 2 _] => [.cells (labC (mkR (labsAt cs o len))) 2 true]
    | _, _ => []
theorem mkset_says (hmix : Try.prog.follows .mixedOrders = true) : mksetC.Holds Try.prog 28 := by
  intro args blks hf hp
  simp only [mksetC] at hp ⊢
  split at hp
  · rename_i o sp len cap cs own
    obtain ⟨⟨l, rfl, hc, hB⟩, hl⟩ := hp
    simp only [Alt_iff, Need_iff, ltI_eq, leI_eq, eqI_eq, leN_eq, eqN_eq, decide_eq_true_eq, decide_eq_false_iff_not, decide_true, decide_false, true_and, and_true, Bool.true_eq_false, Bool.false_eq_true, false_implies, true_implies, implies_true, not_true_eq_false, not_false_eq_true, Bool.not_eq_true', Bool.not_eq_false'] at hl
    simp only [hB.labsAt]
    refine ⟨⟨labC_flat _, trivial⟩, ?_⟩
    have hF : ∀ L, FlatD [] (AM.hp [.cells cs 2 own, .cells (labC L) 2 true]) := fun L => FlatD.hp ⟨hB.flat, labC_flat L, trivial⟩
    have hL : Loops Try.prog body128 1 (cutLK [⟨[0,1,0,1,1], T128 (.slice (some ⟨0,o,sp⟩) l.length cap) 0 0, AM.hp [.cells cs 2 own, .cells [] 2 true], fun K => K (.exit 0) (tmps 51 [(4, .slice (some ⟨1,0,some 1⟩) (mkS l).length (mkS l).length)]) (AM.hp [.cells cs 2 own, .cells (labC (mkS l)) 2 true])⟩]) := Loops.none.more _ fun K hK => by
      show LSays Try.prog _ (sub body128 [0,0,1,0,1,1]) _ _ _
      exact mk_outer hmix l cs own o sp cap hB hl K l 0 [] rfl (by omega) (by simpa using hl) hK
    have hs : LSl (labC (mkS l)) 0 (mkS l) := labC_ls _ (mkS_small hB.small) (by have := mkS_len l []; simp at this; unfold mkS; omega)
    refine (sure41 hmix).funX F128 body128 [] [.tup 0 0 2] Try.func28 rfl (hL.gcX (at0 []) (at0 [.tmp 4 2])) ?_
    rw [w128, hs.labsAt]
    refine ⟨hF [], rfl, rfl, ⟨labC_flat _, trivial⟩, ⟨⟨mkS l, rfl, Nat.le_refl _, hs⟩, trivial⟩, ?_⟩
    unfold mkR
    cases hq : isSetB (mkS l) with
    | true => exact ⟨hF _, rfl, rfl, rfl⟩
    | false => exact ⟨hF [], rfl, rfl, rfl⟩
  · exact hp.elim
end Go.Proofs.Ytdpfmaimhimfcaa
