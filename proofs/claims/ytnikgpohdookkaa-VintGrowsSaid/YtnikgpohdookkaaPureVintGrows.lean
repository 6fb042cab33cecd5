/- Proved: for every two 64-bit numbers sordinelaw1.VintGrows returns true (a greater number has no fewer bytes, unlike ones have unlike bytes, below 128 it is the number itself). Conditions: none. -/
import Derived.Test.YtnikgpohdookkaaPVintGrowsx1
import Derived.Laws.BitsLemmas
namespace Go.Proofs.Ytnikgpohdookkaa.Pure
open Go.RowKit Go.Proofs.Ytnikgpohdookkaa.PVintGrows Go.Proofs.YtnikgpohdookkaaW.PrintWords Go.Proofs.YtnikgpohdookkaaW.PrintLast Go.Proofs.YtnikgpohdookkaaW.PrintMore

/-! ### numbers: bits, shifts, wraps (no program in sight) -/
theorem u8_of {x : Int} (h : (Lit.int .u8 x).wf = true) : 0 ≤ x ∧ x < 256 := by
  simp [Lit.wf, IntKind.min, IntKind.max, IntKind.bits, IntKind.signed] at h; omega
theorem u64_of {x : Int} (h : (Lit.int .u64 x).wf = true) : 0 ≤ x ∧ x < 18446744073709551616 := by
  simp [Lit.wf, IntKind.min, IntKind.max, IntKind.bits, IntKind.signed] at h; omega
theorem i64_of {x : Int} (h : (Lit.int .i64 x).wf = true) : -9223372036854775808 ≤ x ∧ x < 9223372036854775808 := by
  simp [Lit.wf, IntKind.min, IntKind.max, IntKind.bits, IntKind.signed] at h; omega
theorem wrap_u64' (n : Int) : IntKind.u64.wrap n = n % 18446744073709551616 := by simp [IntKind.wrap, IntKind.bits, IntKind.signed]
theorem wraps_u64' (n : Int) (h₀ : 0 ≤ n) (h₁ : n < 2 ^ 64) : IntKind.u64.wrap n = n := by rw [wrap_u64']; omega
theorem or_u8_128 (a : Int) (h0 : 0 ≤ a) (h1 : a < 256) : Go.bits .or .u8 a 128 = a % 128 + 128 := by
  obtain ⟨n, rfl⟩ := Int.eq_ofNat_of_zero_le h0
  have : ∀ m : Fin 256, Go.bits .or .u8 ((m.val : Nat) : Int) 128 = ((m.val : Nat) : Int) % 128 + 128 := by decide +kernel
  exact this ⟨n, by omega⟩
theorem and_u8_127 (a : Int) (h0 : 0 ≤ a) (h1 : a < 256) : Go.bits .and .u8 a 127 = a % 128 := by
  obtain ⟨n, rfl⟩ := Int.eq_ofNat_of_zero_le h0
  have : ∀ m : Fin 256, Go.bits .and .u8 ((m.val : Nat) : Int) 127 = ((m.val : Nat) : Int) % 128 := by decide +kernel
  exact this ⟨n, by omega⟩
theorem or_u64_join (i : Nat) (x y : Int) (hx₀ : 0 ≤ x) (hx : x % 2 ^ i = 0) (hx₁ : x < 18446744073709551616) (hy₀ : 0 ≤ y) (hy : y < 2 ^ i) (hy₁ : y < 18446744073709551616) :
    Go.bits .or .u64 x y = x + y :=
  bits_join .u64 64 (by decide) wraps_u64' i x y hx₀ hx (by simpa using hx₁) hy₀ hy (by simpa using hy₁)
theorem or_u64_comm (x y : Int) : Go.bits .or .u64 x y = Go.bits .or .u64 y x := by
  unfold Go.bits; simp only [BitVec.or_comm]
theorem p7 (i : Nat) (h : i ≤ 9) : i = 0 ∨ i = 1 ∨ i = 2 ∨ i = 3 ∨ i = 4 ∨ i = 5 ∨ i = 6 ∨ i = 7 ∨ i = 8 ∨ i = 9 := by omega
theorem shl7 (c : Int) (i : Nat) (hi : i ≤ 9) (hc : 0 ≤ c) (hc1 : c < 128) (h9 : i = 9 → c ≤ 1) :
    shl .u64 c (7 * (i : Int)) = c * 128 ^ i ∧ c * 128 ^ i < 18446744073709551616 := by
  unfold shl
  rw [wrap_u64']
  rcases p7 i hi with rfl | rfl | rfl | rfl | rfl | rfl | rfl | rfl | rfl | rfl
  all_goals
    simp [IntKind.bits] at h9 ⊢
    omega
/-- what one byte of a number adds: `i` bytes were read, `c` is the next one. -/
theorem put7 (acc c : Int) (i : Nat) (hi : i ≤ 9) (ha : 0 ≤ acc) (hb : acc < 128 ^ i) (hc : 0 ≤ c) (hc1 : c < 128) (h9 : i = 9 → c ≤ 1) :
    Go.bits .or .u64 acc (shl .u64 c (7 * (i : Int))) = acc + c * 128 ^ i ∧ 0 ≤ acc + c * 128 ^ i ∧ acc + c * 128 ^ i < 128 ^ (i + 1) ∧ acc + c * 128 ^ i < 18446744073709551616 := by
  obtain ⟨e, hl⟩ := shl7 c i hi hc hc1 h9
  have hp : (0 : Int) < 128 ^ i := Int.pow_pos (by decide)
  have h0 : 0 ≤ c * 128 ^ i := Int.mul_nonneg hc (Int.le_of_lt hp)
  have hm : c * (128 : Int) ^ i ≤ 127 * 128 ^ i := Int.mul_le_mul_of_nonneg_right (by omega) (Int.le_of_lt hp)
  have h2 : (2 : Int) ^ (7 * i) = 128 ^ i := by rw [Int.pow_mul]; rfl
  have hs : acc + c * 128 ^ i < 128 ^ (i + 1) := by rw [Int.pow_succ]; omega
  have h64 : acc + c * 128 ^ i < 18446744073709551616 := by
    rcases Nat.lt_or_ge i 9 with h | h
    · have : (128 : Int) ^ (i + 1) ≤ 128 ^ 9 := by exact_mod_cast Nat.pow_le_pow_right (n := 128) (by decide) (show i + 1 ≤ 9 by omega)
      have e9 : (128 : Int) ^ 9 = 9223372036854775808 := by decide
      omega
    · obtain rfl : i = 9 := by omega
      have := h9 rfl
      have e9 : (128 : Int) ^ 9 = 9223372036854775808 := by decide
      rw [e9] at hb ⊢
      omega
  refine ⟨?_, by omega, hs, h64⟩
  rw [e, or_u64_comm, or_u64_join (7 * i) (c * 128 ^ i) acc h0 (by rw [h2]; exact Int.mul_emod_left _ _) hl ha (by rw [h2]; exact hb) (by omega)]
  omega

/-! ### numbers as bytes: plain lists -/
def Bytes (l : List Int) : Prop := ∀ x ∈ l, 0 ≤ x ∧ x < 256
def encN : Nat → Int → List Int
  | 0, n => [n]
  | f + 1, n => if n ≥ 128 then (n % 128 + 128) :: encN f (n / 128) else [n]
/-- a number's bytes -/
def enc (n : Int) : List Int := encN 9 n
def decL : Nat → List Int → Option (Int × Nat)
  | _, [] => none
  | i, c :: t => if (i = 9 ∧ c > 1) ∨ (i > 0 ∧ c = 0) then none else if c < 128 then some (c, 1) else (decL (i + 1) t).map fun r => (c % 128 + 128 * r.1, r.2 + 1)
/-- the number that bytes begin with -/
def dec (l : List Int) : Option (Int × Nat) := decL 0 l
theorem encN_len (f : Nat) : ∀ n, 1 ≤ (encN f n).length ∧ (encN f n).length ≤ f + 1 := by
  induction f with
  | zero => intro n; simp [encN]
  | succ f ih => intro n; rw [encN]; split <;> simp; have := ih (n / 128); omega
theorem enc_len (n : Int) : 1 ≤ (enc n).length ∧ (enc n).length ≤ 10 := encN_len 9 n
theorem encN_bytes (f : Nat) : ∀ n, 0 ≤ n → n < 128 ^ (f + 1) → Bytes (encN f n) := by
  induction f with
  | zero => intro n h0 h1; simp [Bytes, encN]; simp at h1; omega
  | succ f ih =>
    intro n h0 h1; rw [encN]; split
    · intro x hx
      rcases List.mem_cons.1 hx with rfl | hx
      · omega
      · exact ih (n / 128) (by omega) (by rw [Int.pow_succ] at h1; omega) x hx
    · intro x hx; simp at hx; omega
theorem enc_bytes (n : Int) (h0 : 0 ≤ n) (h1 : n < 18446744073709551616) : Bytes (enc n) := encN_bytes 9 n h0 (by simp; omega)
theorem decL_facts : ∀ (l : List Int) (i : Nat) (v : Int) (m : Nat), Bytes l → i ≤ 9 → decL i l = some (v, m) →
    0 ≤ v ∧ v * 128 ^ i < 18446744073709551616 ∧ 1 ≤ m ∧ m ≤ l.length ∧ i + m ≤ 10 ∧ (0 < i → 0 < v) ∧ ∀ f, 9 ≤ f + i → encN f v = l.take m := by
  intro l
  induction l with
  | nil => intro i v m _ _ h; simp [decL] at h
  | cons c t ih =>
    intro i v m hb hi h
    have hc := hb c (by simp)
    rw [decL] at h
    split at h
    · cases h
    · rename_i hn
      split at h
      · rename_i hlt
        simp only [Option.some.injEq, Prod.mk.injEq] at h
        obtain ⟨rfl, rfl⟩ := h
        have h9 : i = 9 → c ≤ 1 := fun e => by
          rcases Int.lt_or_le 1 c with h1 | h1
          · exact absurd (Or.inl ⟨e, h1⟩) hn
          · exact h1
        refine ⟨hc.1, (shl7 c i hi hc.1 hlt h9).2, by omega, by simp, by omega, fun h0 => ?_, fun f hf => ?_⟩
        · rcases Int.lt_or_le 0 c with h1 | h1
          · exact h1
          · exact absurd (Or.inr ⟨h0, by omega⟩) hn
        · cases f with
          | zero => simp [encN]
          | succ f => rw [encN, if_neg (by omega)]; simp
      · rename_i hge
        have hi8 : i ≤ 8 := by
          rcases Nat.lt_or_ge i 9 with h1 | h1
          · omega
          · exact absurd (Or.inl ⟨by omega, by omega⟩) hn
        cases hd : decL (i + 1) t with
        | none => rw [hd] at h; cases h
        | some r =>
          obtain ⟨v', m'⟩ := r
          rw [hd] at h
          simp only [Option.map_some, Option.some.injEq, Prod.mk.injEq] at h
          obtain ⟨rfl, rfl⟩ := h
          obtain ⟨q0, q1, q2, q3, q4, q5, q6⟩ := ih (i + 1) v' m' (fun x hx => hb x (by simp [hx])) (by omega) hd
          have hv := q5 (by omega)
          refine ⟨by omega, ?_, by omega, by simp; omega, by omega, fun _ => by omega, fun f hf => ?_⟩
          · have hp : (0 : Int) < 128 ^ i := Int.pow_pos (by decide)
            have e1 : v' * (128 : Int) ^ (i + 1) = (v' * 128 ^ i) * 128 := by rw [Int.pow_succ, Int.mul_assoc]
            rw [e1] at q1
            have e2 : (c % 128 + 128 * v') * (128 : Int) ^ i = (c % 128) * 128 ^ i + (v' * 128 ^ i) * 128 := by
              rw [Int.add_mul, Int.mul_comm 128 v', Int.mul_assoc, Int.mul_assoc, Int.mul_comm 128]
            have hd8 : (128 : Int) ^ i ∣ 18446744073709551616 := by
              rcases p7 i (by omega) with rfl | rfl | rfl | rfl | rfl | rfl | rfl | rfl | rfl | rfl <;> decide
            obtain ⟨z, hz⟩ := hd8
            have hx : (c % 128 + 128 * v') * (128 : Int) ^ i = 128 ^ i * (c % 128 + 128 * v') := Int.mul_comm _ _
            have hlt' : (128 : Int) ^ i * (128 * v') < 128 ^ i * z := by
              rw [← hz, ← Int.mul_assoc, Int.mul_comm _ v', ← Int.mul_assoc]; exact q1
            have hv' : 128 * v' < z := Int.lt_of_mul_lt_mul_left hlt' (Int.le_of_lt hp)
            have hzm : z % 128 = 0 := by
              rcases p7 i (by omega) with rfl | rfl | rfl | rfl | rfl | rfl | rfl | rfl | rfl | rfl <;> simp at hz <;> omega
            rw [hx, hz]
            exact Int.mul_lt_mul_of_pos_left (by omega) hp
          · cases f with
            | zero => omega
            | succ f =>
              rw [encN, if_pos (by omega), List.take_succ_cons]
              congr 1
              · omega
              · rw [show (c % 128 + 128 * v') / 128 = v' by omega]; exact q6 f (by omega)
theorem dec_facts {l : List Int} {v : Int} {m : Nat} (hb : Bytes l) (h : dec l = some (v, m)) :
    0 ≤ v ∧ v < 18446744073709551616 ∧ 1 ≤ m ∧ m ≤ l.length ∧ m ≤ 10 ∧ enc v = l.take m := by
  obtain ⟨q0, q1, q2, q3, q4, _, q6⟩ := decL_facts l 0 v m hb (by omega) h
  exact ⟨q0, by simpa using q1, q2, q3, by omega, q6 9 (by omega)⟩
theorem decL_enc : ∀ (f : Nat) (i : Nat) (v : Int) (t : List Int), 0 ≤ v → i + f = 9 → v * 128 ^ i < 18446744073709551616 → (0 < i → 0 < v) →
    decL i (encN f v ++ t) = some (v, (encN f v).length) := by
  intro f
  induction f with
  | zero =>
    intro i v t h0 hi hlt hp
    obtain rfl : i = 9 := by omega
    have := hp (by omega)
    have e9 : (128 : Int) ^ 9 = 9223372036854775808 := by decide
    rw [e9] at hlt
    simp only [encN, List.cons_append, List.nil_append, decL]
    rw [if_neg (by omega), if_pos (by omega)]; rfl
  | succ f ih =>
    intro i v t h0 hi hlt hp
    rw [encN]
    split
    · rename_i hge
      simp only [List.cons_append, decL]
      rw [if_neg (by omega), if_neg (by omega)]
      have e1 : v / 128 * (128 : Int) ^ (i + 1) ≤ v * 128 ^ i := by
        have hpw : (0 : Int) < 128 ^ i := Int.pow_pos (by decide)
        have : v / 128 * (128 : Int) ^ (i + 1) = (128 * (v / 128)) * 128 ^ i := by
          rw [Int.pow_succ, Int.mul_comm 128 (v / 128), Int.mul_assoc, Int.mul_comm (128 ^ i)]
        rw [this]
        exact Int.mul_le_mul_of_nonneg_right (by omega) (Int.le_of_lt hpw)
      rw [ih (i + 1) (v / 128) t (by omega) (by omega) (by omega) (fun _ => by omega)]
      simp only [Option.map_some, List.length_cons, Option.some.injEq, Prod.mk.injEq, and_true]
      omega
    · have hp' := hp
      simp only [List.cons_append, List.nil_append, decL]
      rw [if_neg (by omega), if_pos (by omega)]; rfl
theorem dec_enc (v : Int) (t : List Int) (h0 : 0 ≤ v) (h1 : v < 18446744073709551616) : dec (enc v ++ t) = some (v, (enc v).length) :=
  decL_enc 9 0 v t h0 (by omega) (by simpa using h1) (by omega)
/-- no beginning of a number is one -/
theorem decL_cut : ∀ (f : Nat) (i : Nat) (v : Int) (j : Nat), j < (encN f v).length → decL i ((encN f v).take j) = none := by
  intro f
  induction f with
  | zero => intro i v j hj; simp [encN] at hj; subst hj; rfl
  | succ f ih =>
    intro i v j hj
    rw [encN] at hj ⊢
    split at hj
    · rename_i hge
      rw [if_pos hge]
      cases j with
      | zero => rfl
      | succ j =>
        rw [List.take_succ_cons, decL]
        split
        · rfl
        · rw [if_neg (by omega), ih (i + 1) (v / 128) j (by simpa using hj)]; rfl
    · rename_i hge
      rw [if_neg hge]
      simp at hj; subst hj; rfl
theorem dec_cut (v : Int) (j : Nat) (hj : j < (enc v).length) : dec ((enc v).take j) = none := decL_cut 9 0 v j hj
theorem enc_inj (a b : Int) (ha : 0 ≤ a) (ha1 : a < 18446744073709551616) (hb : 0 ≤ b) (hb1 : b < 18446744073709551616) (h : enc a = enc b) : a = b := by
  have h1 := dec_enc a [] ha ha1
  have h2 := dec_enc b [] hb hb1
  rw [h, h2] at h1
  simpa using h1.symm
theorem encN_mono (f : Nat) : ∀ a b : Int, 0 ≤ a → a ≤ b → (encN f a).length ≤ (encN f b).length := by
  induction f with
  | zero => intro a b _ _; simp [encN]
  | succ f ih =>
    intro a b h0 h
    rw [encN, encN]
    split
    · rw [if_pos (by omega)]; simp; exact ih _ _ (by omega) (by omega)
    · split <;> simp
theorem enc_mono (a b : Int) (h0 : 0 ≤ a) (h : a ≤ b) : (enc a).length ≤ (enc b).length := encN_mono 9 a b h0 h
theorem enc_small (n : Int) (h : n < 128) : enc n = [n] := by rw [enc, encN, if_neg (by omega)]
theorem strOfNums_inj {a b : List Int} (ha : Bytes a) (hb : Bytes b) : ((strOfNums a).toList = (strOfNums b).toList) ↔ a = b := by
  constructor
  · intro h
    have h' : (strOfNums a).data.toList = (strOfNums b).data.toList := by
      have e : ∀ s : ByteArray, s.toList = s.data.toList := fun s => ByteArray.toList_eq s
      rw [← e, ← e]; exact h
    rw [strOfNums_data, strOfNums_data] at h'
    clear h
    induction a generalizing b with
    | nil => cases b <;> simp_all
    | cons x a ih =>
      cases b with
      | nil => simp at h'
      | cons y b =>
        simp only [List.map_cons, List.cons.injEq] at h'
        have hx := ha x (by simp); have hy := hb y (by simp)
        have h1 := congrArg UInt8.toNat h'.1
        simp at h1
        rw [ih (fun z hz => ha z (by simp [hz])) (fun z hz => hb z (by simp [hz])) h'.2]
        congr 1
        omega
  · rintro rfl; rfl

/-! ### what the printed vint.Put, vint.Get come to -/
theorem wrap64_id {n : Int} (h0 : -9223372036854775808 ≤ n) (h1 : n < 9223372036854775808) : wrap64 n = n := by unfold wrap64; omega
theorem Put_l0 : ∀ (f : Nat) (n : Int) (acc : List Int) (k : Nat), 0 ≤ n → n < 128 ^ (f + 1) → acc.length + f < 140737488355327 → f < k →
    vint_Put.l0 k n acc = some (acc ++ encN f n) := by
  intro f
  induction f with
  | zero =>
    intro n acc k h0 h1 ha hk
    obtain ⟨k, rfl⟩ : ∃ m, k = m + 1 := ⟨k - 1, by omega⟩
    simp at h1
    simp only [vint_Put.l0]
    rw [if_neg (by omega), if_pos (by omega), encN, show n % 256 = n by omega]
  | succ f ih =>
    intro n acc k h0 h1 ha hk
    obtain ⟨k, rfl⟩ : ∃ m, k = m + 1 := ⟨k - 1, by omega⟩
    simp only [vint_Put.l0]
    rw [encN]
    by_cases hge : n ≥ 128
    · rw [if_pos hge, if_pos (by omega), or_u8_128 (n % 256) (by omega) (by omega), ih (n / 128) _ k (by omega) (by rw [Int.pow_succ] at h1; omega) (by simp; omega) (by omega), if_pos hge]
      simp
    · rw [if_neg hge, if_neg hge, if_pos (by omega), show n % 256 = n by omega]
theorem Put_f (n : Int) (k : Nat) (h0 : 0 ≤ n) (h1 : n < 18446744073709551616) (hk : 9 < k) : vint_Put.f k n = some (enc n) := by
  unfold vint_Put.f
  rw [Put_l0 9 n [] k h0 (by simp; omega) (by simp) hk]; rfl
theorem rd_drop {l : List Int} {i : Nat} {c : Int} {t : List Int} (h : l.drop i = c :: t) : i < l.length ∧ rd l (i : Int) = c ∧ l.drop (i + 1) = t ∧ c ∈ l := by
  have hi : i < l.length := by
    rcases Nat.lt_or_ge i l.length with h1 | h1
    · exact h1
    · rw [List.drop_eq_nil_of_le h1] at h; cases h
  have e := List.drop_eq_getElem_cons hi
  rw [e] at h
  injection h with h1 h2
  refine ⟨hi, ?_, h2, ?_⟩
  · unfold rd; rw [Int.toNat_natCast, List.getD_eq_getElem?_getD, List.getElem?_eq_getElem hi]; exact h1
  · rw [← h1]; exact List.getElem_mem hi
def getR (r : Option (Int × Nat)) : Int × Int × Bool := match r with | some r => (r.1, (r.2 : Int), true) | none => (0, 0, false)
theorem Get_l0 (l : List Int) (hb : Bytes l) : ∀ (t : List Int) (i : Nat) (acc : Int) (k : Nat), l.drop i = t → i ≤ 9 → i ≤ l.length → 0 ≤ acc → acc < 128 ^ i → 2 * t.length < k →
    vint_Get.l0 k acc l (l.length : Int) (i : Int) = some (getR ((decL i t).map fun r => (acc + r.1 * 128 ^ i, i + r.2))) := by
  intro t
  induction t with
  | nil =>
    intro i acc k ht hi hil h0 h1 hk
    have : ¬ ((i : Int) < (l.length : Int)) := by have := List.drop_eq_nil_iff.1 ht; omega
    obtain ⟨k, rfl⟩ : ∃ m, k = m + 1 := ⟨k - 1, by omega⟩
    simp only [vint_Get.l0]
    rw [if_neg this]; rfl
  | cons c t ih =>
    intro i acc k ht hi hil h0 h1 hk
    obtain ⟨hlt, hrd, hd, hmem⟩ := rd_drop ht
    have hc := hb c hmem
    obtain ⟨k, rfl⟩ : ∃ m, k = m + 2 := ⟨k - 2, by simp at hk; omega⟩
    have hl1 : (i : Int) < (l.length : Int) := by omega
    have hw1 : wrap64 ((i : Int) + 1) = ((i + 1 : Nat) : Int) := by unfold wrap64; omega
    have hw7 : wrap64 (7 * (i : Int)) = 7 * (i : Int) := by unfold wrap64; omega
    have hj : ∀ b : Bool, (b = true ↔ ((i = 9 ∧ c > 1) ∨ (i > 0 ∧ c = 0))) → vint_Get.j1 (k + 1) acc (i : Int) c l (l.length : Int) (i : Int) b = some (getR ((decL i (c :: t)).map fun r => (acc + r.1 * 128 ^ i, i + r.2))) := by
      intro b hbb
      simp only [vint_Get.j1]
      by_cases h : b = true
      · rw [if_pos h, decL, if_pos (hbb.1 h)]; rfl
      · have hn := fun q => h (hbb.2 q)
        rw [if_neg h, hw7, if_pos (by omega), and_u8_127 c hc.1 hc.2, wraps_u64' (c % 128) (by omega) (by omega)]
        obtain ⟨p1, p2, p3, p4⟩ := put7 acc (c % 128) i hi h0 h1 (by omega) (by omega) (fun e => by
          rcases Int.lt_or_le 1 c with h1 | h1
          · exact absurd (Or.inl ⟨e, h1⟩) hn
          · omega)
        rw [p1, decL, if_neg hn]
        by_cases hc8 : c < 128
        · rw [if_pos hc8, if_pos hc8, hw1, show c % 128 = c by omega]; rfl
        · have hi8 : i ≤ 8 := by
            rcases Nat.lt_or_ge i 9 with h1 | h1
            · omega
            · exact absurd (Or.inl ⟨by omega, by omega⟩) hn
          rw [if_neg hc8, if_neg hc8, hw1, ih (i + 1) _ k hd (by omega) (by omega) p2 p3 (by simp at hk; omega)]
          cases decL (i + 1) t with
          | none => rfl
          | some r =>
            simp only [Option.map_some, getR]
            congr 2
            · rw [Int.add_mul, Int.pow_succ, ← Int.mul_assoc, Int.mul_comm 128 r.1, Int.mul_assoc r.1 128, Int.mul_comm 128 (128 ^ i), ← Int.mul_assoc, Int.add_assoc]
            · congr 1; omega
    simp only [vint_Get.l0]
    rw [if_pos hl1, if_pos (by omega), if_pos hl1, hrd]
    by_cases e9 : (i : Int) = 9
    · rw [if_pos e9]
      by_cases hc1 : c > 1
      · rw [if_pos hc1]; exact hj _ (by simp; omega)
      · rw [if_neg hc1, if_pos (by omega)]; exact hj _ (by simp; omega)
    · rw [if_neg e9]
      by_cases hi0 : (i : Int) > 0
      · rw [if_pos hi0]; exact hj _ (by simp; omega)
      · rw [if_neg hi0]; exact hj _ (by simp; omega)
theorem Get_f (l : List Int) (k : Nat) (hb : Bytes l) (hk : 2 * l.length < k) : vint_Get.f k l = some (getR (dec l)) := by
  unfold vint_Get.f
  have := Get_l0 l hb l 0 0 k rfl (by omega) (by omega) (by omega) (by simp) hk
  rw [show ((0 : Nat) : Int) = 0 from rfl] at this
  rw [this, dec]
  cases decL 0 l with
  | none => rfl
  | some r => simp [getR]

theorem VR (k : Nat) (hk : 20 ≤ k) : sordinelaw1_VintRuns.f k = some true := at_rounds (sordinelaw1_VintRuns.mono) hk (by decide +kernel)

theorem VintGrows : sordinelaw1_VintGrows.Pure := by
  intro a b ha hb
  have ha' := u64_of ha
  have hb' := u64_of hb
  refine ⟨20, ?_⟩
  unfold sordinelaw1_VintGrows.f
  rw [Put_f a 20 ha'.1 ha'.2 (by omega), Put_f b 20 hb'.1 hb'.2 (by omega)]
  simp only [Option.bind_some]
  have la := enc_len a
  have hstr : ((strOfNums (enc a)).toList == (strOfNums (enc b)).toList) = (a == b) := by
    rw [Bool.eq_iff_iff]
    simp only [beq_iff_eq]
    rw [strOfNums_inj (enc_bytes a ha'.1 ha'.2) (enc_bytes b hb'.1 hb'.2)]
    exact ⟨enc_inj a b ha'.1 ha'.2 hb'.1 hb'.2, fun h => by rw [h]⟩
  rw [if_neg (by omega), hstr, VR 20 (by omega)]
  simp only [Option.bind_some, beq_self_eq_true, if_true]
  have hfin : (if a ≤ b then (if (((enc a).length : Nat) : Int) > (((enc b).length : Nat) : Int) then some false else some true) else some true) = some true := by
    by_cases h : a ≤ b
    · rw [if_pos h, if_neg]
      have := enc_mono a b ha'.1 h
      omega
    · rw [if_neg h]
  by_cases h : a < 128
  · rw [if_pos h, if_pos (by rw [enc_small a h]; rfl), if_pos (by omega), if_pos, hfin]
    rw [enc_small a h]
    exact wraps_u64' a ha'.1 ha'.2
  · rw [if_neg h, hfin]

end Go.Proofs.Ytnikgpohdookkaa.Pure
