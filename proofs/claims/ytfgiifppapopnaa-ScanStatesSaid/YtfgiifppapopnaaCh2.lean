/- Proved: what functions of the program come to, by their conditions over the abstract machine. Conditions: those that each theorem states. -/
import Derived.Test.YtfgiifppapopnaaCh1
set_option linter.unusedVariables false
set_option linter.unusedSimpArgs false
namespace Go.Proofs.Ytfgiifppapopnaa
open Go.RowKit Go.Proofs.Ytfgiifppapopnaa.AM
set_option maxRecDepth 100000
set_option maxHeartbeats 4000000
theorem seF_iff {s : ByteArray} {p : PS} {c : Nat} : seF s p (c : Int) = true ↔ p.b = false ∧ p.a < s.size ∧ bt s p.a = c := by
  simp only [seF, ovF, Bool.and_eq_true, Bool.not_eq_true', Bool.or_eq_false_iff, decide_eq_false_iff_not, eqI_eq, decide_eq_true_eq]
  constructor
  · rintro ⟨⟨h1, h2⟩, h3⟩; exact ⟨h1, by omega, by omega⟩
  · rintro ⟨h1, h2, h3⟩; exact ⟨⟨h1, by omega⟩, by omega⟩
theorem nxF_t {s : ByteArray} {p : PS} {c : Int} (h : seF s p c = true) : nxF s p c = ⟨p.a + 1, p.b⟩ := by unfold nxF; rw [h]; rfl
theorem nxF_f {s : ByteArray} {p : PS} {c : Int} (h : seF s p c = false) : nxF s p c = p := by unfold nxF; rw [h]; rfl
theorem rdQ_le (s : ByteArray) (p : PS) (h : p.a ≤ s.size) : (mbP s p).a ≤ (rdQ s p).a ∧ (rdQ s p).a ≤ s.size := by
  obtain ⟨h1, h2⟩ := mbP_le s p h
  unfold rdQ
  split
  · rename_i hs
    obtain ⟨h3, h4⟩ := mbP_le s (nxF s (mbP s p) 45) (by rw [nxF_t hs]; exact (lt_nx hs).1)
    rw [nxF_t hs] at h3 h4 ⊢
    simp only at h3
    exact ⟨by omega, h4⟩
  · exact ⟨Nat.le_refl _, h2⟩
theorem byF_ov {s : ByteArray} {p : PS} (h : ovF s p = true) : (byF s p).b = true ∧ byV s p = 0 := by
  unfold byF byV; rw [h]; exact ⟨rfl, rfl⟩
theorem byF_no {s : ByteArray} {p : PS} (h : ovF s p = false) : byF s p = ⟨p.a + 1, p.b⟩ ∧ byV s p = bt s p.a := by
  unfold byF byV; rw [h]; exact ⟨rfl, rfl⟩
theorem mbP_bad {s : ByteArray} {p : PS} (h : p.b = true) : (mbP s p).b = true := by
  have ho : ovF s p = true := by unfold ovF; rw [h]; rfl
  obtain ⟨h1, h2⟩ := byF_ov ho
  unfold mbP
  rw [h2, if_neg (by decide)]
  simp only [h1, Bool.true_or]
theorem mbP_ov {s : ByteArray} {p : PS} (h : ovF s p = true) : (mbP s p).b = true := by
  obtain ⟨h1, h2⟩ := byF_ov h
  unfold mbP
  rw [h2, if_neg (by decide)]
  simp only [h1, Bool.true_or]
theorem mbP_more {s : ByteArray} {p : PS} (h : ovF s p = false) (hp : p.a ≤ s.size) : p.a + 1 ≤ (mbP s p).a := by
  obtain ⟨h1, h2⟩ := byF_no h
  unfold mbP
  have hlt : p.a < s.size := by simp [ovF] at h; omega
  split
  · have := (sgF_le s (byF s p) (by rw [h1]; exact hlt)).1
    rw [h1] at this ⊢
    exact this
  · rw [h1]; exact Nat.le_refl _
theorem rdP_ov {s : ByteArray} {p : PS} (h : ovF s p = true) : ovF s (rdP s p) = true := by
  have h1 := mbP_ov h
  have h2 : (rdQ s p).b = true := by
    unfold rdQ
    split
    · rename_i hs; rw [(lt_nx hs).2] at h1; cases h1
    · exact h1
  simp only [ovF, rdP, h2, Bool.true_or]
theorem rdP_le (s : ByteArray) (p : PS) (h : p.a ≤ s.size) : (mbP s p).a ≤ (rdP s p).a ∧ (rdP s p).a ≤ s.size := rdQ_le s p h
def clsF (s : ByteArray) (m : Nat) (p : PS) (S : S4) : PS × S4 := if ovF s p || seF s p 93 then (p, S) else clsR s m p S
theorem clsR_succ (s : ByteArray) (m : Nat) (p : PS) (S : S4) : clsR s (m + 1) p S = clsF s m (rdP s p) (rngA S (rdA s p) (rdB' s p)) := rfl
theorem rdA_lt (s : ByteArray) (p : PS) : rdA s p < 256 := mbV_lt _ _
theorem rdB_lt (s : ByteArray) (p : PS) : rdB' s p < 256 := by
  unfold rdB'
  split
  · exact mbV_lt _ _
  · exact mbV_lt _ _
section
variable (hm : Try.prog.follows .mixedOrders = true)
include hm
theorem round1 (s : ByteArray) (hs : s.size ≤ 140737488351232) (n : Bool) (a : Nat) (b : Bool) (ha : a ≤ s.size) (S : S4) (hS : S.ok) (K : Post)
    (hK : LSays Try.prog 1 (sub body557 [0, 0, 1, 0, 1, 1, 1]) (T557o n false) (H557 s (rdP s ⟨a, b⟩) (rngA S (rdA s ⟨a, b⟩) (rdB' s ⟨a, b⟩))) K) :
    LSays Try.prog 1 (sub body557 [0, 0, 1, 0, 1, 1, 1]) (T557o n true) (H557 s ⟨a, b⟩ S) K := by
  refine (sure557 hm).roundX F557 ((innerL hm s n).gcX (at0 []) (at0 [])) [] [] [] [] [0,2,3,4,5] ?_
  rw [r557t]
  refine ⟨⟨pB_flat _ _ _, trivial⟩, ⟨⟨by omega, by simp only; omega, hs⟩, ⟨⟩⟩, ?_⟩
  rintro x hx
  try simp only [Int.toNat_natCast] at hx
  subst hx
  obtain ⟨q1, q2⟩ := mbP_le s ⟨a, b⟩ ha
  have hv := mbV_lt s ⟨a, b⟩
  have hA : rdA s ⟨a, b⟩ = mbV s ⟨a, b⟩ := rfl
  have hQ : rdQ s ⟨a, b⟩ = if seF s (mbP s ⟨a, b⟩) 45 then mbP s (nxF s (mbP s ⟨a, b⟩) 45) else mbP s ⟨a, b⟩ := rfl
  have hB : rdB' s ⟨a, b⟩ = if seF s (mbP s ⟨a, b⟩) 45 then mbV s (nxF s (mbP s ⟨a, b⟩) 45) else mbV s ⟨a, b⟩ := rfl
  have hP : rdP s ⟨a, b⟩ = ⟨(rdQ s ⟨a, b⟩).a, (rdQ s ⟨a, b⟩).b || decide (rdB' s ⟨a, b⟩ < rdA s ⟨a, b⟩)⟩ := rfl
  generalize mbP s ⟨a, b⟩ = q at *
  generalize mbV s ⟨a, b⟩ = v at *
  obtain ⟨qa, qb⟩ := q
  simp only at q1 q2
  refine ⟨⟨pB_flat _ _ _, trivial⟩, ⟨⟨by simp only; omega, by simp only; omega, hs⟩, ⟨45⟩⟩, ?_⟩
  try simp only [Int.toNat_natCast, boolV, intV]
  cases h45 : seF s ⟨qa, qb⟩ 45 with
  | false =>
    rw [h45, if_neg (by decide)] at hQ hB
    rw [hA, hB, hQ] at hP
    rw [hP, hA, hB] at hK
    cases qb with
    | true => exact ⟨H557_D _ _ _ _, (⟨qa, true⟩, S, v, v), by rw [i64_u8 _ (by omega)], rfl, hS, Nat.lt_succ_of_lt hv, hv, H557_D _ _ _ _, hK⟩
    | false =>
      rw [show ltI (v : Int) (v : Int) = decide (v < v) by rw [ltI_eq]; exact decide_eq_decide.2 (by omega)]
      exact ⟨H557_D _ _ _ _, (⟨qa, decide (v < v)⟩, S, v, v), by rw [i64_u8 _ (by omega)], rfl, hS, Nat.lt_succ_of_lt hv, hv, H557_D _ _ _ _, hK⟩
  | true =>
    rw [h45, if_pos rfl, nxF_t h45] at hQ hB
    have hlt := (lt_nx h45).1
    simp only at hlt
    rw [nx qa (by omega)]
    refine ⟨⟨pB_flat _ _ _, trivial⟩, ⟨⟨by omega, by omega, hs⟩, ⟨⟩⟩, ?_⟩
    rintro x hx
    try simp only [Int.toNat_natCast] at hx
    subst hx
    have hv2 := mbV_lt s ⟨qa + 1, qb⟩
    generalize mbP s ⟨qa + 1, qb⟩ = q3 at *
    generalize mbV s ⟨qa + 1, qb⟩ = v3 at *
    obtain ⟨ra, rb⟩ := q3
    rw [hA, hB, hQ] at hP
    rw [hP, hA, hB] at hK
    simp only
    cases rb with
    | true => exact ⟨H557_D _ _ _ _, (⟨ra, true⟩, S, v, v3), by rw [i64_u8 _ (by omega)], rfl, hS, Nat.lt_succ_of_lt hv, hv2, H557_D _ _ _ _, hK⟩
    | false =>
      rw [show ltI (v3 : Int) (v : Int) = decide (v3 < v) by rw [ltI_eq]; exact decide_eq_decide.2 (by omega)]
      exact ⟨H557_D _ _ _ _, (⟨ra, decide (v3 < v)⟩, S, v, v3), by rw [i64_u8 _ (by omega)], rfl, hS, Nat.lt_succ_of_lt hv, hv2, H557_D _ _ _ _, hK⟩
theorem round2 (s : ByteArray) (hs : s.size ≤ 140737488351232) (n : Bool) (a : Nat) (b : Bool) (ha : a ≤ s.size) (S : S4) (hS : S.ok) (K : Post)
    (hE : (ovF s ⟨a, b⟩ || seF s ⟨a, b⟩ 93) = true → K (.exit 0) (T557e n) (H557 s ⟨a, b⟩ S))
    (hK : (ovF s ⟨a, b⟩ || seF s ⟨a, b⟩ 93) = false → LSays Try.prog 1 (sub body557 [0, 0, 1, 0, 1, 1, 1]) (T557o n false) (H557 s (rdP s ⟨a, b⟩) (rngA S (rdA s ⟨a, b⟩) (rdB' s ⟨a, b⟩))) K) :
    LSays Try.prog 1 (sub body557 [0, 0, 1, 0, 1, 1, 1]) (T557o n false) (H557 s ⟨a, b⟩ S) K := by
  refine (sure557 hm).roundX F557 ((innerL hm s n).gcX (at0 []) (at0 [])) [] [] [] [] [0,2,3,4,5] ?_
  rw [r557f]
  simp only [Int.toNat_natCast, strV, intV, boolV]
  cases b with
  | true => exact ⟨H557_D _ _ _ _, hE (by simp [ovF])⟩
  | false =>
    by_cases hlt : a < s.size
    · have e1 : leI (s.size : Int) (a : Int) = false := by rw [leI_eq, decide_eq_false]; omega
      have e2 : ovF s ⟨a, false⟩ = false := by simp [ovF]; omega
      rw [e1]
      rw [e2, Bool.false_or] at hE hK
      refine ⟨⟨pB_flat _ _ _, trivial⟩, ⟨⟨by omega, by omega, hs⟩, ⟨93⟩⟩, ?_⟩
      cases h93 : seF s ⟨a, false⟩ 93 with
      | true => exact ⟨H557_D _ _ _ _, hE h93⟩
      | false =>
        replace hK := hK h93
        refine ⟨⟨pB_flat _ _ _, trivial⟩, ⟨⟨by omega, by omega, hs⟩, ⟨⟩⟩, ?_⟩
        rintro x hx
        try simp only [Int.toNat_natCast] at hx
        subst hx
        obtain ⟨q1, q2⟩ := mbP_le s ⟨a, false⟩ ha
        have hv := mbV_lt s ⟨a, false⟩
        have hA : rdA s ⟨a, false⟩ = mbV s ⟨a, false⟩ := rfl
        have hQ : rdQ s ⟨a, false⟩ = if seF s (mbP s ⟨a, false⟩) 45 then mbP s (nxF s (mbP s ⟨a, false⟩) 45) else mbP s ⟨a, false⟩ := rfl
        have hB : rdB' s ⟨a, false⟩ = if seF s (mbP s ⟨a, false⟩) 45 then mbV s (nxF s (mbP s ⟨a, false⟩) 45) else mbV s ⟨a, false⟩ := rfl
        have hP : rdP s ⟨a, false⟩ = ⟨(rdQ s ⟨a, false⟩).a, (rdQ s ⟨a, false⟩).b || decide (rdB' s ⟨a, false⟩ < rdA s ⟨a, false⟩)⟩ := rfl
        generalize mbP s ⟨a, false⟩ = q at *
        generalize mbV s ⟨a, false⟩ = v at *
        obtain ⟨qa, qb⟩ := q
        simp only at q1 q2
        refine ⟨⟨pB_flat _ _ _, trivial⟩, ⟨⟨by simp only; omega, by simp only; omega, hs⟩, ⟨45⟩⟩, ?_⟩
        try simp only [Int.toNat_natCast, boolV, intV]
        cases h45 : seF s ⟨qa, qb⟩ 45 with
        | false =>
          rw [h45, if_neg (by decide)] at hQ hB
          rw [hA, hB, hQ] at hP
          rw [hP, hA, hB] at hK
          cases qb with
          | true => exact ⟨H557_D _ _ _ _, (⟨qa, true⟩, S, v, v), by rw [i64_u8 _ (by omega)], rfl, hS, Nat.lt_succ_of_lt hv, hv, H557_D _ _ _ _, hK⟩
          | false =>
            rw [show ltI (v : Int) (v : Int) = decide (v < v) by rw [ltI_eq]; exact decide_eq_decide.2 (by omega)]
            exact ⟨H557_D _ _ _ _, (⟨qa, decide (v < v)⟩, S, v, v), by rw [i64_u8 _ (by omega)], rfl, hS, Nat.lt_succ_of_lt hv, hv, H557_D _ _ _ _, hK⟩
        | true =>
          rw [h45, if_pos rfl, nxF_t h45] at hQ hB
          have hlt := (lt_nx h45).1
          simp only at hlt
          rw [nx qa (by omega)]
          refine ⟨⟨pB_flat _ _ _, trivial⟩, ⟨⟨by omega, by omega, hs⟩, ⟨⟩⟩, ?_⟩
          rintro x hx
          try simp only [Int.toNat_natCast] at hx
          subst hx
          have hv2 := mbV_lt s ⟨qa + 1, qb⟩
          generalize mbP s ⟨qa + 1, qb⟩ = q3 at *
          generalize mbV s ⟨qa + 1, qb⟩ = v3 at *
          obtain ⟨ra, rb⟩ := q3
          rw [hA, hB, hQ] at hP
          rw [hP, hA, hB] at hK
          simp only
          cases rb with
          | true => exact ⟨H557_D _ _ _ _, (⟨ra, true⟩, S, v, v3), by rw [i64_u8 _ (by omega)], rfl, hS, Nat.lt_succ_of_lt hv, hv2, H557_D _ _ _ _, hK⟩
          | false =>
            rw [show ltI (v3 : Int) (v : Int) = decide (v3 < v) by rw [ltI_eq]; exact decide_eq_decide.2 (by omega)]
            exact ⟨H557_D _ _ _ _, (⟨ra, decide (v3 < v)⟩, S, v, v3), by rw [i64_u8 _ (by omega)], rfl, hS, Nat.lt_succ_of_lt hv, hv2, H557_D _ _ _ _, hK⟩
    · have e1 : leI (s.size : Int) (a : Int) = true := by rw [leI_iff]; omega
      rw [e1]
      exact ⟨H557_D _ _ _ _, hE (by simp [ovF]; omega)⟩
end
/-- what the bytes in brackets leave behind -/
def clsE (s : ByteArray) (p : PS) : PS × S4 := clsR s (s.size + 1) (nxF s p 94) nilS
def clsP (s : ByteArray) (p : PS) : PS := ⟨(nxF s (clsE s p).1 93).a, !seF s (clsE s p).1 93 || (nxF s (clsE s p).1 93).b⟩
def clsS (s : ByteArray) (p : PS) : S4 := bif seF s p 94 then turnS (clsE s p).2 else (clsE s p).2
noncomputable def cut557o (s : ByteArray) : CutE where
  β := PS × Bool
  p := [0, 1, 0, 1, 1, 1]
  t := fun x => T557o x.2 true
  h := fun x => H557 s x.1 nilS
  Q := fun x K => x.1.a ≤ s.size ∧ K (.exit 0) (T557e x.2) (H557 s (clsR s (s.size + 1) x.1 nilS).1 (clsR s (s.size + 1) x.1 nilS).2)

theorem w557 (hm : Try.prog.follows .mixedOrders = true) (s : ByteArray) (a : Nat) (b : Bool) (K : Value → Heap → Prop) :
  funX Try.prog (S557 hm) (gcLKX (at0 []) (at0 []) 1 (cutE [cut557o s])) F557 body557 Try.f92 [] [] [pA] (pB s a b) K = (
(FlatL [Value.string s, Value.int IntKind.i64 (↑a : Int), Value.bool b] ∧ True) ∧ (POk s (↑a : Int) ∧ RC [Value.int IntKind.u8 94]) ∧ Alt (!seF s { a := (↑a : Int).toNat, b := b : PS } 94) (FlatD [] (hp [Blk.cells
[Value.string s, Value.int IntKind.i64 (↑{ a := (↑a : Int).toNat, b := b : PS }.a : Int), Value.bool { a := (↑a : Int).toNat, b := b : PS }.b] 3 true, Blk.cells [Value.int IntKind.u64 0, Value.int IntKind.u64 0,
Value.int IntKind.u64 0, Value.int IntKind.u64 0] 4 true, Blk.cells [Value.int IntKind.u64 0, Value.int IntKind.u64 0, Value.int IntKind.u64 0, Value.int IntKind.u64 0] 4 true]) ∧ ∃ (b_1 : PS × Bool), tmps 68 [(0,
Value.pointer (some { block := 0, off := 0 : Addr })), (2, Value.pointer (some { block := 1, off := 0 : Addr })), (3, Value.pointer (some { block := 2, off := 0 : Addr })), (4, Value.bool false), (5, Value.bool true)] =
tmps 68 [(0, Value.pointer (some { block := 0, off := 0 : Addr })), (2, Value.pointer (some { block := 1, off := 0 : Addr })), (3, Value.pointer (some { block := 2, off := 0 : Addr })), (4, Value.bool b_1.snd), (5,
Value.bool true)] ∧ hp [Blk.cells [Value.string s, Value.int IntKind.i64 (↑{ a := (↑a : Int).toNat, b := b : PS }.a : Int), Value.bool { a := (↑a : Int).toNat, b := b : PS }.b] 3 true, Blk.cells [Value.int IntKind.u64 0,
Value.int IntKind.u64 0, Value.int IntKind.u64 0, Value.int IntKind.u64 0] 4 true, Blk.cells [Value.int IntKind.u64 0, Value.int IntKind.u64 0, Value.int IntKind.u64 0, Value.int IntKind.u64 0] 4 true] = hp [Blk.cells
[Value.string s, Value.int IntKind.i64 (↑b_1.fst.a : Int), Value.bool b_1.fst.b] 3 true, Blk.cells [Value.int IntKind.u64 0, Value.int IntKind.u64 0, Value.int IntKind.u64 0, Value.int IntKind.u64 0] 4 true, Blk.cells
[Value.int IntKind.u64 0, Value.int IntKind.u64 0, Value.int IntKind.u64 0, Value.int IntKind.u64 0] 4 true] ∧ b_1.fst.a.le s.size ∧ (FlatL [Value.string s, Value.int IntKind.i64 (↑(clsR s (s.size + 1) b_1.fst
nilS).fst.a : Int), Value.bool (clsR s (s.size + 1) b_1.fst nilS).fst.b] ∧ True) ∧ (POk s (↑(clsR s (s.size + 1) b_1.fst nilS).fst.a : Int) ∧ RC [Value.int IntKind.u8 93]) ∧ Alt (!seF s
{ a := (↑(clsR s (s.size + 1) b_1.fst nilS).fst.a : Int).toNat, b := (clsR s (s.size + 1) b_1.fst nilS).fst.b : PS } 93) (Alt b_1.snd (True ∧ (∃ (S : S4), S.ok ∧ #[Value.int IntKind.u64 (intV (Value.int IntKind.u64
(↑(clsR s (s.size + 1) b_1.fst nilS).snd.x0 : Int))), Value.int IntKind.u64 (intV (Value.int IntKind.u64 (↑(clsR s (s.size + 1) b_1.fst nilS).snd.x1 : Int))), Value.int IntKind.u64 (intV (Value.int IntKind.u64 (↑(clsR s
(s.size + 1) b_1.fst nilS).snd.x2 : Int))), Value.int IntKind.u64 (intV (Value.int IntKind.u64 (↑(clsR s (s.size + 1) b_1.fst nilS).snd.x3 : Int)))] = #[Value.int IntKind.u64 (↑S.x0 : Int), Value.int IntKind.u64 (↑S.x1 :
Int), Value.int IntKind.u64 (↑S.x2 : Int), Value.int IntKind.u64 (↑S.x3 : Int)]) ∧ K (Value.agg #[Value.int IntKind.u64 (↑(turnS
{ x0 := (intV (Value.int IntKind.u64 (↑(clsR s (s.size + 1) b_1.fst nilS).snd.x0 : Int))).toNat, x1 := (intV (Value.int IntKind.u64 (↑(clsR s (s.size + 1) b_1.fst nilS).snd.x1 : Int))).toNat, x2 := (intV (Value.int IntKind.u64 (↑(clsR s (s.size + 1) b_1.fst nilS).snd.x2 : Int))).toNat, x3 := (intV (Value.int IntKind.u64 (↑(clsR s (s.size + 1) b_1.fst nilS).snd.x3 : Int))).toNat : S4 }).x0
: Int), Value.int IntKind.u64 (↑(turnS
{ x0 := (intV (Value.int IntKind.u64 (↑(clsR s (s.size + 1) b_1.fst nilS).snd.x0 : Int))).toNat, x1 := (intV (Value.int IntKind.u64 (↑(clsR s (s.size + 1) b_1.fst nilS).snd.x1 : Int))).toNat, x2 := (intV (Value.int IntKind.u64 (↑(clsR s (s.size + 1) b_1.fst nilS).snd.x2 : Int))).toNat, x3 := (intV (Value.int IntKind.u64 (↑(clsR s (s.size + 1) b_1.fst nilS).snd.x3 : Int))).toNat : S4 }).x1
: Int), Value.int IntKind.u64 (↑(turnS
{ x0 := (intV (Value.int IntKind.u64 (↑(clsR s (s.size + 1) b_1.fst nilS).snd.x0 : Int))).toNat, x1 := (intV (Value.int IntKind.u64 (↑(clsR s (s.size + 1) b_1.fst nilS).snd.x1 : Int))).toNat, x2 := (intV (Value.int IntKind.u64 (↑(clsR s (s.size + 1) b_1.fst nilS).snd.x2 : Int))).toNat, x3 := (intV (Value.int IntKind.u64 (↑(clsR s (s.size + 1) b_1.fst nilS).snd.x3 : Int))).toNat : S4 }).x2
: Int), Value.int IntKind.u64 (↑(turnS
{ x0 := (intV (Value.int IntKind.u64 (↑(clsR s (s.size + 1) b_1.fst nilS).snd.x0 : Int))).toNat, x1 := (intV (Value.int IntKind.u64 (↑(clsR s (s.size + 1) b_1.fst nilS).snd.x1 : Int))).toNat, x2 := (intV (Value.int IntKind.u64 (↑(clsR s (s.size + 1) b_1.fst nilS).snd.x2 : Int))).toNat, x3 := (intV (Value.int IntKind.u64 (↑(clsR s (s.size + 1) b_1.fst nilS).snd.x3 : Int))).toNat : S4 }).x3
: Int)]) (hp [Blk.cells [Value.string s, Value.int IntKind.i64 (↑{ a := (↑(clsR s (s.size + 1) b_1.fst nilS).fst.a : Int).toNat, b := (clsR s (s.size + 1) b_1.fst nilS).fst.b : PS }.a : Int), Value.bool true] 3 true]))
(K (Value.agg #[Value.int IntKind.u64 (intV (Value.int IntKind.u64 (↑(clsR s (s.size + 1) b_1.fst nilS).snd.x0 : Int))), Value.int IntKind.u64 (intV (Value.int IntKind.u64 (↑(clsR s (s.size + 1) b_1.fst nilS).snd.x1 :
Int))), Value.int IntKind.u64 (intV (Value.int IntKind.u64 (↑(clsR s (s.size + 1) b_1.fst nilS).snd.x2 : Int))), Value.int IntKind.u64 (intV (Value.int IntKind.u64 (↑(clsR s (s.size + 1) b_1.fst nilS).snd.x3 : Int)))])
(hp [Blk.cells [Value.string s, Value.int IntKind.i64 (↑{ a := (↑(clsR s (s.size + 1) b_1.fst nilS).fst.a : Int).toNat, b := (clsR s (s.size + 1) b_1.fst nilS).fst.b : PS }.a : Int), Value.bool true] 3 true]))) (Alt
b_1.snd (True ∧ (∃ (S : S4), S.ok ∧ #[Value.int IntKind.u64 (intV (Value.int IntKind.u64 (↑(clsR s (s.size + 1) b_1.fst nilS).snd.x0 : Int))), Value.int IntKind.u64 (intV (Value.int IntKind.u64 (↑(clsR s (s.size + 1)
b_1.fst nilS).snd.x1 : Int))), Value.int IntKind.u64 (intV (Value.int IntKind.u64 (↑(clsR s (s.size + 1) b_1.fst nilS).snd.x2 : Int))), Value.int IntKind.u64 (intV (Value.int IntKind.u64 (↑(clsR s (s.size + 1) b_1.fst
nilS).snd.x3 : Int)))] = #[Value.int IntKind.u64 (↑S.x0 : Int), Value.int IntKind.u64 (↑S.x1 : Int), Value.int IntKind.u64 (↑S.x2 : Int), Value.int IntKind.u64 (↑S.x3 : Int)]) ∧ K (Value.agg #[Value.int IntKind.u64
(↑(turnS
{ x0 := (intV (Value.int IntKind.u64 (↑(clsR s (s.size + 1) b_1.fst nilS).snd.x0 : Int))).toNat, x1 := (intV (Value.int IntKind.u64 (↑(clsR s (s.size + 1) b_1.fst nilS).snd.x1 : Int))).toNat, x2 := (intV (Value.int IntKind.u64 (↑(clsR s (s.size + 1) b_1.fst nilS).snd.x2 : Int))).toNat, x3 := (intV (Value.int IntKind.u64 (↑(clsR s (s.size + 1) b_1.fst nilS).snd.x3 : Int))).toNat : S4 }).x0
: Int), Value.int IntKind.u64 (↑(turnS
{ x0 := (intV (Value.int IntKind.u64 (↑(clsR s (s.size + 1) b_1.fst nilS).snd.x0 : Int))).toNat, x1 := (intV (Value.int IntKind.u64 (↑(clsR s (s.size + 1) b_1.fst nilS).snd.x1 : Int))).toNat, x2 := (intV (Value.int IntKind.u64 (↑(clsR s (s.size + 1) b_1.fst nilS).snd.x2 : Int))).toNat, x3 := (intV (Value.int IntKind.u64 (↑(clsR s (s.size + 1) b_1.fst nilS).snd.x3 : Int))).toNat : S4 }).x1
: Int), Value.int IntKind.u64 (↑(turnS
{ x0 := (intV (Value.int IntKind.u64 (↑(clsR s (s.size + 1) b_1.fst nilS).snd.x0 : Int))).toNat, x1 := (intV (Value.int IntKind.u64 (↑(clsR s (s.size + 1) b_1.fst nilS).snd.x1 : Int))).toNat, x2 := (intV (Value.int IntKind.u64 (↑(clsR s (s.size + 1) b_1.fst nilS).snd.x2 : Int))).toNat, x3 := (intV (Value.int IntKind.u64 (↑(clsR s (s.size + 1) b_1.fst nilS).snd.x3 : Int))).toNat : S4 }).x2
: Int), Value.int IntKind.u64 (↑(turnS
{ x0 := (intV (Value.int IntKind.u64 (↑(clsR s (s.size + 1) b_1.fst nilS).snd.x0 : Int))).toNat, x1 := (intV (Value.int IntKind.u64 (↑(clsR s (s.size + 1) b_1.fst nilS).snd.x1 : Int))).toNat, x2 := (intV (Value.int IntKind.u64 (↑(clsR s (s.size + 1) b_1.fst nilS).snd.x2 : Int))).toNat, x3 := (intV (Value.int IntKind.u64 (↑(clsR s (s.size + 1) b_1.fst nilS).snd.x3 : Int))).toNat : S4 }).x3
: Int)]) (hp [Blk.cells [Value.string s, Value.int IntKind.i64 (wr IntKind.i64 (intV (Value.int IntKind.i64
(↑{ a := (↑(clsR s (s.size + 1) b_1.fst nilS).fst.a : Int).toNat, b := (clsR s (s.size + 1) b_1.fst nilS).fst.b : PS }.a : Int)) + 1)), Value.bool (boolV (Value.bool
{ a := (↑(clsR s (s.size + 1) b_1.fst nilS).fst.a : Int).toNat, b := (clsR s (s.size + 1) b_1.fst nilS).fst.b : PS }.b))] 3 true])) (K (Value.agg #[Value.int IntKind.u64 (intV (Value.int IntKind.u64 (↑(clsR s (s.size +
1) b_1.fst nilS).snd.x0 : Int))), Value.int IntKind.u64 (intV (Value.int IntKind.u64 (↑(clsR s (s.size + 1) b_1.fst nilS).snd.x1 : Int))), Value.int IntKind.u64 (intV (Value.int IntKind.u64 (↑(clsR s (s.size + 1) b_1.fst
nilS).snd.x2 : Int))), Value.int IntKind.u64 (intV (Value.int IntKind.u64 (↑(clsR s (s.size + 1) b_1.fst nilS).snd.x3 : Int)))]) (hp [Blk.cells [Value.string s, Value.int IntKind.i64 (wr IntKind.i64 (intV (Value.int
IntKind.i64 (↑{ a := (↑(clsR s (s.size + 1) b_1.fst nilS).fst.a : Int).toNat, b := (clsR s (s.size + 1) b_1.fst nilS).fst.b : PS }.a : Int)) + 1)), Value.bool (boolV (Value.bool
{ a := (↑(clsR s (s.size + 1) b_1.fst nilS).fst.a : Int).toNat, b := (clsR s (s.size + 1) b_1.fst nilS).fst.b : PS }.b))] 3 true])))) (FlatD [] (hp [Blk.cells [Value.string s, Value.int IntKind.i64 (wr IntKind.i64 (intV
(Value.int IntKind.i64 (↑{ a := (↑a : Int).toNat, b := b : PS }.a : Int)) + 1)), Value.bool { a := (↑a : Int).toNat, b := b : PS }.b] 3 true, Blk.cells [Value.int IntKind.u64 0, Value.int IntKind.u64 0, Value.int
IntKind.u64 0, Value.int IntKind.u64 0] 4 true, Blk.cells [Value.int IntKind.u64 0, Value.int IntKind.u64 0, Value.int IntKind.u64 0, Value.int IntKind.u64 0] 4 true]) ∧ ∃ (b_1 : PS × Bool), tmps 68 [(0, Value.pointer
(some { block := 0, off := 0 : Addr })), (2, Value.pointer (some { block := 1, off := 0 : Addr })), (3, Value.pointer (some { block := 2, off := 0 : Addr })), (4, Value.bool true), (5, Value.bool true)] = tmps 68 [(0,
Value.pointer (some { block := 0, off := 0 : Addr })), (2, Value.pointer (some { block := 1, off := 0 : Addr })), (3, Value.pointer (some { block := 2, off := 0 : Addr })), (4, Value.bool b_1.snd), (5, Value.bool true)]
∧ hp [Blk.cells [Value.string s, Value.int IntKind.i64 (wr IntKind.i64 (intV (Value.int IntKind.i64 (↑{ a := (↑a : Int).toNat, b := b : PS }.a : Int)) + 1)), Value.bool { a := (↑a : Int).toNat, b := b : PS }.b] 3 true,
Blk.cells [Value.int IntKind.u64 0, Value.int IntKind.u64 0, Value.int IntKind.u64 0, Value.int IntKind.u64 0] 4 true, Blk.cells [Value.int IntKind.u64 0, Value.int IntKind.u64 0, Value.int IntKind.u64 0, Value.int
IntKind.u64 0] 4 true] = hp [Blk.cells [Value.string s, Value.int IntKind.i64 (↑b_1.fst.a : Int), Value.bool b_1.fst.b] 3 true, Blk.cells [Value.int IntKind.u64 0, Value.int IntKind.u64 0, Value.int IntKind.u64 0,
Value.int IntKind.u64 0] 4 true, Blk.cells [Value.int IntKind.u64 0, Value.int IntKind.u64 0, Value.int IntKind.u64 0, Value.int IntKind.u64 0] 4 true] ∧ b_1.fst.a.le s.size ∧ (FlatL [Value.string s, Value.int
IntKind.i64 (↑(clsR s (s.size + 1) b_1.fst nilS).fst.a : Int), Value.bool (clsR s (s.size + 1) b_1.fst nilS).fst.b] ∧ True) ∧ (POk s (↑(clsR s (s.size + 1) b_1.fst nilS).fst.a : Int) ∧ RC [Value.int IntKind.u8 93]) ∧ Alt
(!seF s { a := (↑(clsR s (s.size + 1) b_1.fst nilS).fst.a : Int).toNat, b := (clsR s (s.size + 1) b_1.fst nilS).fst.b : PS } 93) (Alt b_1.snd (True ∧ (∃ (S : S4), S.ok ∧ #[Value.int IntKind.u64 (intV (Value.int
IntKind.u64 (↑(clsR s (s.size + 1) b_1.fst nilS).snd.x0 : Int))), Value.int IntKind.u64 (intV (Value.int IntKind.u64 (↑(clsR s (s.size + 1) b_1.fst nilS).snd.x1 : Int))), Value.int IntKind.u64 (intV (Value.int
IntKind.u64 (↑(clsR s (s.size + 1) b_1.fst nilS).snd.x2 : Int))), Value.int IntKind.u64 (intV (Value.int IntKind.u64 (↑(clsR s (s.size + 1) b_1.fst nilS).snd.x3 : Int)))] = #[Value.int IntKind.u64 (↑S.x0 : Int),
Value.int IntKind.u64 (↑S.x1 : Int), Value.int IntKind.u64 (↑S.x2 : Int), Value.int IntKind.u64 (↑S.x3 : Int)]) ∧ K (Value.agg #[Value.int IntKind.u64 (↑(turnS
{ x0 := (intV (Value.int IntKind.u64 (↑(clsR s (s.size + 1) b_1.fst nilS).snd.x0 : Int))).toNat, x1 := (intV (Value.int IntKind.u64 (↑(clsR s (s.size + 1) b_1.fst nilS).snd.x1 : Int))).toNat, x2 := (intV (Value.int IntKind.u64 (↑(clsR s (s.size + 1) b_1.fst nilS).snd.x2 : Int))).toNat, x3 := (intV (Value.int IntKind.u64 (↑(clsR s (s.size + 1) b_1.fst nilS).snd.x3 : Int))).toNat : S4 }).x0
: Int), Value.int IntKind.u64 (↑(turnS
{ x0 := (intV (Value.int IntKind.u64 (↑(clsR s (s.size + 1) b_1.fst nilS).snd.x0 : Int))).toNat, x1 := (intV (Value.int IntKind.u64 (↑(clsR s (s.size + 1) b_1.fst nilS).snd.x1 : Int))).toNat, x2 := (intV (Value.int IntKind.u64 (↑(clsR s (s.size + 1) b_1.fst nilS).snd.x2 : Int))).toNat, x3 := (intV (Value.int IntKind.u64 (↑(clsR s (s.size + 1) b_1.fst nilS).snd.x3 : Int))).toNat : S4 }).x1
: Int), Value.int IntKind.u64 (↑(turnS
{ x0 := (intV (Value.int IntKind.u64 (↑(clsR s (s.size + 1) b_1.fst nilS).snd.x0 : Int))).toNat, x1 := (intV (Value.int IntKind.u64 (↑(clsR s (s.size + 1) b_1.fst nilS).snd.x1 : Int))).toNat, x2 := (intV (Value.int IntKind.u64 (↑(clsR s (s.size + 1) b_1.fst nilS).snd.x2 : Int))).toNat, x3 := (intV (Value.int IntKind.u64 (↑(clsR s (s.size + 1) b_1.fst nilS).snd.x3 : Int))).toNat : S4 }).x2
: Int), Value.int IntKind.u64 (↑(turnS
{ x0 := (intV (Value.int IntKind.u64 (↑(clsR s (s.size + 1) b_1.fst nilS).snd.x0 : Int))).toNat, x1 := (intV (Value.int IntKind.u64 (↑(clsR s (s.size + 1) b_1.fst nilS).snd.x1 : Int))).toNat, x2 := (intV (Value.int IntKind.u64 (↑(clsR s (s.size + 1) b_1.fst nilS).snd.x2 : Int))).toNat, x3 := (intV (Value.int IntKind.u64 (↑(clsR s (s.size + 1) b_1.fst nilS).snd.x3 : Int))).toNat : S4 }).x3
: Int)]) (hp [Blk.cells [Value.string s, Value.int IntKind.i64 (↑{ a := (↑(clsR s (s.size + 1) b_1.fst nilS).fst.a : Int).toNat, b := (clsR s (s.size + 1) b_1.fst nilS).fst.b : PS }.a : Int), Value.bool true] 3 true]))
(K (Value.agg #[Value.int IntKind.u64 (intV (Value.int IntKind.u64 (↑(clsR s (s.size + 1) b_1.fst nilS).snd.x0 : Int))), Value.int IntKind.u64 (intV (Value.int IntKind.u64 (↑(clsR s (s.size + 1) b_1.fst nilS).snd.x1 :
Int))), Value.int IntKind.u64 (intV (Value.int IntKind.u64 (↑(clsR s (s.size + 1) b_1.fst nilS).snd.x2 : Int))), Value.int IntKind.u64 (intV (Value.int IntKind.u64 (↑(clsR s (s.size + 1) b_1.fst nilS).snd.x3 : Int)))])
(hp [Blk.cells [Value.string s, Value.int IntKind.i64 (↑{ a := (↑(clsR s (s.size + 1) b_1.fst nilS).fst.a : Int).toNat, b := (clsR s (s.size + 1) b_1.fst nilS).fst.b : PS }.a : Int), Value.bool true] 3 true]))) (Alt
b_1.snd (True ∧ (∃ (S : S4), S.ok ∧ #[Value.int IntKind.u64 (intV (Value.int IntKind.u64 (↑(clsR s (s.size + 1) b_1.fst nilS).snd.x0 : Int))), Value.int IntKind.u64 (intV (Value.int IntKind.u64 (↑(clsR s (s.size + 1)
b_1.fst nilS).snd.x1 : Int))), Value.int IntKind.u64 (intV (Value.int IntKind.u64 (↑(clsR s (s.size + 1) b_1.fst nilS).snd.x2 : Int))), Value.int IntKind.u64 (intV (Value.int IntKind.u64 (↑(clsR s (s.size + 1) b_1.fst
nilS).snd.x3 : Int)))] = #[Value.int IntKind.u64 (↑S.x0 : Int), Value.int IntKind.u64 (↑S.x1 : Int), Value.int IntKind.u64 (↑S.x2 : Int), Value.int IntKind.u64 (↑S.x3 : Int)]) ∧ K (Value.agg #[Value.int IntKind.u64
(↑(turnS
{ x0 := (intV (Value.int IntKind.u64 (↑(clsR s (s.size + 1) b_1.fst nilS).snd.x0 : Int))).toNat, x1 := (intV (Value.int IntKind.u64 (↑(clsR s (s.size + 1) b_1.fst nilS).snd.x1 : Int))).toNat, x2 := (intV (Value.int IntKind.u64 (↑(clsR s (s.size + 1) b_1.fst nilS).snd.x2 : Int))).toNat, x3 := (intV (Value.int IntKind.u64 (↑(clsR s (s.size + 1) b_1.fst nilS).snd.x3 : Int))).toNat : S4 }).x0
: Int), Value.int IntKind.u64 (↑(turnS
{ x0 := (intV (Value.int IntKind.u64 (↑(clsR s (s.size + 1) b_1.fst nilS).snd.x0 : Int))).toNat, x1 := (intV (Value.int IntKind.u64 (↑(clsR s (s.size + 1) b_1.fst nilS).snd.x1 : Int))).toNat, x2 := (intV (Value.int IntKind.u64 (↑(clsR s (s.size + 1) b_1.fst nilS).snd.x2 : Int))).toNat, x3 := (intV (Value.int IntKind.u64 (↑(clsR s (s.size + 1) b_1.fst nilS).snd.x3 : Int))).toNat : S4 }).x1
: Int), Value.int IntKind.u64 (↑(turnS
{ x0 := (intV (Value.int IntKind.u64 (↑(clsR s (s.size + 1) b_1.fst nilS).snd.x0 : Int))).toNat, x1 := (intV (Value.int IntKind.u64 (↑(clsR s (s.size + 1) b_1.fst nilS).snd.x1 : Int))).toNat, x2 := (intV (Value.int IntKind.u64 (↑(clsR s (s.size + 1) b_1.fst nilS).snd.x2 : Int))).toNat, x3 := (intV (Value.int IntKind.u64 (↑(clsR s (s.size + 1) b_1.fst nilS).snd.x3 : Int))).toNat : S4 }).x2
: Int), Value.int IntKind.u64 (↑(turnS
{ x0 := (intV (Value.int IntKind.u64 (↑(clsR s (s.size + 1) b_1.fst nilS).snd.x0 : Int))).toNat, x1 := (intV (Value.int IntKind.u64 (↑(clsR s (s.size + 1) b_1.fst nilS).snd.x1 : Int))).toNat, x2 := (intV (Value.int IntKind.u64 (↑(clsR s (s.size + 1) b_1.fst nilS).snd.x2 : Int))).toNat, x3 := (intV (Value.int IntKind.u64 (↑(clsR s (s.size + 1) b_1.fst nilS).snd.x3 : Int))).toNat : S4 }).x3
: Int)]) (hp [Blk.cells [Value.string s, Value.int IntKind.i64 (wr IntKind.i64 (intV (Value.int IntKind.i64
(↑{ a := (↑(clsR s (s.size + 1) b_1.fst nilS).fst.a : Int).toNat, b := (clsR s (s.size + 1) b_1.fst nilS).fst.b : PS }.a : Int)) + 1)), Value.bool (boolV (Value.bool
{ a := (↑(clsR s (s.size + 1) b_1.fst nilS).fst.a : Int).toNat, b := (clsR s (s.size + 1) b_1.fst nilS).fst.b : PS }.b))] 3 true])) (K (Value.agg #[Value.int IntKind.u64 (intV (Value.int IntKind.u64 (↑(clsR s (s.size +
1) b_1.fst nilS).snd.x0 : Int))), Value.int IntKind.u64 (intV (Value.int IntKind.u64 (↑(clsR s (s.size + 1) b_1.fst nilS).snd.x1 : Int))), Value.int IntKind.u64 (intV (Value.int IntKind.u64 (↑(clsR s (s.size + 1) b_1.fst
nilS).snd.x2 : Int))), Value.int IntKind.u64 (intV (Value.int IntKind.u64 (↑(clsR s (s.size + 1) b_1.fst nilS).snd.x3 : Int)))]) (hp [Blk.cells [Value.string s, Value.int IntKind.i64 (wr IntKind.i64 (intV (Value.int
IntKind.i64 (↑{ a := (↑(clsR s (s.size + 1) b_1.fst nilS).fst.a : Int).toNat, b := (clsR s (s.size + 1) b_1.fst nilS).fst.b : PS }.a : Int)) + 1)), Value.bool (boolV (Value.bool
{ a := (↑(clsR s (s.size + 1) b_1.fst nilS).fst.a : Int).toNat, b := (clsR s (s.size + 1) b_1.fst nilS).fst.b : PS }.b))] 3 true]))))) := by kernel_rfl

end Go.Proofs.Ytfgiifppapopnaa

namespace Go.Proofs.Ytfgiifppapopnaa
open Go.RowKit Go.Proofs.Ytfgiifppapopnaa.AM
set_option maxRecDepth 100000
set_option maxHeartbeats 4000000
theorem clsR_le (s : ByteArray) : ∀ (m : Nat) (p : PS) (S : S4), p.a ≤ s.size → S.ok → p.a ≤ (clsR s m p S).1.a ∧ (clsR s m p S).1.a ≤ s.size ∧ (clsR s m p S).2.ok := by
  intro m
  induction m with
  | zero => intro p S h hS; exact ⟨Nat.le_refl _, h, hS⟩
  | succ m ih =>
    intro p S h hS
    have h1 := mbP_le s p h
    have h2 := rdP_le s p h
    have h3 := rngA_ok hS (rdA s p) (rdB' s p)
    rw [clsR_succ]
    unfold clsF
    split
    · exact ⟨by simp only; omega, h2.2, h3⟩
    · obtain ⟨a, b, c⟩ := ih (rdP s p) _ h2.2 h3
      exact ⟨by omega, b, c⟩
theorem nxF_le {s : ByteArray} {p : PS} {c : Int} (h : p.a ≤ s.size) : p.a ≤ (nxF s p c).a ∧ (nxF s p c).a ≤ s.size := by
  cases hc : seF s p c with
  | true => rw [nxF_t hc]; exact ⟨Nat.le_succ _, (lt_nx hc).1⟩
  | false => rw [nxF_f hc]; exact ⟨Nat.le_refl _, h⟩
theorem clsE_le {s : ByteArray} {p : PS} (h : p.a ≤ s.size) : p.a ≤ (clsE s p).1.a ∧ (clsE s p).1.a ≤ s.size ∧ (clsE s p).2.ok := by
  have h1 := nxF_le (c := 94) h
  obtain ⟨a, b, c⟩ := clsR_le s (s.size + 1) _ nilS h1.2 nilS_ok
  exact ⟨Nat.le_trans h1.1 a, b, c⟩
theorem clsP_le {s : ByteArray} {p : PS} (h : p.a ≤ s.size) : p.a ≤ (clsP s p).a ∧ (clsP s p).a ≤ s.size := by
  obtain ⟨a, b, c⟩ := clsE_le h
  have h1 := nxF_le (c := 93) b
  exact ⟨Nat.le_trans a h1.1, h1.2⟩
theorem clsS_ok {s : ByteArray} {p : PS} (h : p.a ≤ s.size) : (clsS s p).ok := by
  obtain ⟨a, b, c⟩ := clsE_le h
  unfold clsS
  cases seF s p 94 with
  | true => exact turnS_ok c
  | false => exact c
noncomputable abbrev s4E : S4 → Value := fun S => .agg #[.int .u64 (S.x0 : Int), .int .u64 (S.x1 : Int), .int .u64 (S.x2 : Int), .int .u64 (S.x3 : Int)]
noncomputable def clsX : CtrX (PS × S4) := pX (fun _ _ r => RN r) (fun s p _ => (clsP s p, clsS s p)) s4E
section
variable (hm : Try.prog.follows .mixedOrders = true)
include hm
theorem outerF (s : ByteArray) (hs : s.size ≤ 140737488351232) (n : Bool) (K : Post) : ∀ (m a : Nat) (b : Bool) (S : S4), a ≤ s.size → S.ok → (ovF s ⟨a, b⟩ = false → s.size - a + 1 ≤ m) →
    K (.exit 0) (T557e n) (H557 s (clsF s m ⟨a, b⟩ S).1 (clsF s m ⟨a, b⟩ S).2) → LSays Try.prog 1 (sub body557 [0, 0, 1, 0, 1, 1, 1]) (T557o n false) (H557 s ⟨a, b⟩ S) K := by
  intro m
  induction m with
  | zero =>
    intro a b S ha hS hf hK
    have ho : ovF s ⟨a, b⟩ = true := by
      cases h : ovF s ⟨a, b⟩ with
      | true => rfl
      | false => have := hf h; omega
    refine round2 hm s hs n a b ha S hS K (fun _ => ?_) fun h => ?_
    · unfold clsF at hK; rw [if_pos (by rw [ho]; rfl)] at hK; exact hK
    · rw [ho] at h; cases h
  | succ m ih =>
    intro a b S ha hS hf hK
    refine round2 hm s hs n a b ha S hS K (fun h => ?_) fun h => ?_
    · unfold clsF at hK; rw [if_pos h] at hK; exact hK
    · have ho : ovF s ⟨a, b⟩ = false := by
        cases h1 : ovF s ⟨a, b⟩ with
        | false => rfl
        | true => rw [h1] at h; cases h
      have hfm := hf ho
      have h1 := mbP_more ho ha
      have h2 := rdP_le s ⟨a, b⟩ ha
      unfold clsF at hK
      rw [if_neg (by rw [h]; decide), clsR_succ] at hK
      simp only at h1
      exact ih (rdP s ⟨a, b⟩).a (rdP s ⟨a, b⟩).b _ h2.2 (rngA_ok hS _ _) (fun _ => by omega) hK
theorem outerL (s : ByteArray) (hs : s.size ≤ 140737488351232) : Loops Try.prog body557 1 (cutE [cut557o s]) := Loops.noneE.moreE _ fun x K hq => by
  obtain ⟨⟨a, b⟩, n⟩ := x
  obtain ⟨q1, q2⟩ := hq
  have h2 := rdP_le s ⟨a, b⟩ q1
  refine round1 hm s hs n a b q1 nilS nilS_ok K ?_
  rw [clsR_succ] at q2
  refine outerF hm s hs n K s.size (rdP s ⟨a, b⟩).a (rdP s ⟨a, b⟩).b _ h2.2 (rngA_ok nilS_ok _ _) (fun ho => ?_) q2
  have h3 : ovF s ⟨a, b⟩ = false := by
    cases h1 : ovF s ⟨a, b⟩ with
    | false => rfl
    | true => have := rdP_ov h1; rw [show rdP s ⟨a, b⟩ = ⟨(rdP s ⟨a, b⟩).a, (rdP s ⟨a, b⟩).b⟩ from rfl, ho] at this; cases this
  have h1 := mbP_more h3 q1
  simp only at h1
  have : a < s.size := by simp [ovF] at h3; omega
  omega
theorem clsX_says : clsX.Holds Try.prog 92 := by
  refine pX_holds ?_
  rintro s a b r ha hs ⟨⟩
  refine (sure557 hm).funX F557 body557 [] [] Try.func92 rfl ((outerL hm s hs).gcX (at0 []) (at0 [])) ?_
  rw [w557]
  refine ⟨⟨pB_flat _ _ _, trivial⟩, ⟨⟨by omega, by omega, hs⟩, ⟨94⟩⟩, ?_⟩
  have hE : clsE s ⟨a, b⟩ = clsR s (s.size + 1) (nxF s ⟨a, b⟩ 94) nilS := rfl
  have hP : clsP s ⟨a, b⟩ = ⟨(nxF s (clsE s ⟨a, b⟩).1 93).a, !seF s (clsE s ⟨a, b⟩).1 93 || (nxF s (clsE s ⟨a, b⟩).1 93).b⟩ := rfl
  have hS : clsS s ⟨a, b⟩ = bif seF s ⟨a, b⟩ 94 then turnS (clsE s ⟨a, b⟩).2 else (clsE s ⟨a, b⟩).2 := rfl
  obtain ⟨l1, l2, l3⟩ := clsE_le (p := ⟨a, b⟩) ha
  simp only [Int.toNat_natCast]
  have fin : ∀ (n : Bool), seF s ⟨a, b⟩ 94 = n → ∀ (q : PS) (S : S4), clsE s ⟨a, b⟩ = (q, S) → True := fun _ _ _ _ _ => trivial
  cases h94 : seF s ⟨a, b⟩ 94 with
  | false =>
    rw [h94] at hS
    rw [nxF_f h94] at hE
    refine ⟨H557_D s a b nilS, (⟨a, b⟩, false), rfl, rfl, ha, ?_⟩
    simp only [← hE]
    generalize clsE s ⟨a, b⟩ = e at *
    obtain ⟨⟨qa, qb⟩, S⟩ := e
    simp only at l1 l2 l3
    refine ⟨⟨pB_flat _ _ _, trivial⟩, ⟨⟨by simp only; omega, by simp only; omega, hs⟩, ⟨93⟩⟩, ?_⟩
    simp only [intV]
    rw [hS, hP]
    cases h93 : seF s ⟨qa, qb⟩ 93 with
    | false =>
      simp only [nxF_f h93]
      exact ⟨pB_D _ _ _, rfl, rfl, rfl⟩
    | true =>
      obtain ⟨hlt, hqb⟩ := lt_nx h93
      simp only at hlt hqb
      subst hqb
      simp only [nxF_t h93, nx qa (by omega)]
      exact ⟨pB_D _ _ _, rfl, rfl, rfl⟩
  | true =>
    have h94l := (lt_nx h94).1
    simp only at h94l
    rw [h94] at hS
    rw [nxF_t h94] at hE
    simp only [intV, nx a (by omega)]
    refine ⟨H557_D s (a + 1 : Nat) b nilS, (⟨a + 1, b⟩, true), rfl, rfl, h94l, ?_⟩
    simp only [← hE]
    generalize clsE s ⟨a, b⟩ = e at *
    obtain ⟨⟨qa, qb⟩, S⟩ := e
    simp only at l1 l2 l3
    refine ⟨⟨pB_flat _ _ _, trivial⟩, ⟨⟨by simp only; omega, by simp only; omega, hs⟩, ⟨93⟩⟩, ?_⟩
    rw [hS, hP]
    cases h93 : seF s ⟨qa, qb⟩ 93 with
    | false =>
      simp only [nxF_f h93, Int.toNat_natCast]
      exact ⟨trivial, ⟨S, l3, rfl⟩, pB_D _ _ _, rfl, rfl, rfl⟩
    | true =>
      obtain ⟨hlt, hqb⟩ := lt_nx h93
      simp only at hlt hqb
      subst hqb
      simp only [nxF_t h93, nx qa (by omega), Int.toNat_natCast]
      exact ⟨trivial, ⟨S, l3, rfl⟩, pB_D _ _ _, rfl, rfl, rfl⟩
end
end Go.Proofs.Ytfgiifppapopnaa

namespace Go.Proofs.Ytfgiifppapopnaa
open Go.RowKit Go.Proofs.Ytfgiifppapopnaa.AM
set_option maxRecDepth 100000
set_option maxHeartbeats 4000000
noncomputable abbrev nilK : Value := .slice none 0 0

theorem r559b (o : Int) (S : S4) (c : Nat) (K : Value → Heap → Prop) :
  funX Try.prog S540 noLoop F559 body559 Try.f94 [] [] [.pointer (some ⟨0,1,none⟩), .int .u8 (c : Int)] (hp [.cells [.int .i64 o, .int .u64 (S.x0 : Int), .int .u64 (S.x1 : Int), .int .u64 (S.x2 : Int), .int .u64 (S.x3 : Int), nilK] 6 true]) K = (
Need (ltI (wr IntKind.u8 ((↑c : Int).tdiv 64)) 4) (Need (isInt IntKind.u64 ((getO [Value.int IntKind.i64 o, Value.int IntKind.u64 (↑S.x0 : Int), Value.int IntKind.u64 (↑S.x1 : Int), Value.int IntKind.u64 (↑S.x2 : Int),
Value.int IntKind.u64 (↑S.x3 : Int), Value.slice none 0 0] (1 + (wr IntKind.u8 ((↑c : Int).tdiv 64)).toNat * 1)).getD undef)) (Need (ltI (wr IntKind.u8 ((↑c : Int).tdiv 64)) 4) (Need (leN (1 + (wr IntKind.u8 ((↑c :
Int).tdiv 64)).toNat * 1 + 1) 6) (K undef (hp [Blk.cells (setAll [Value.int IntKind.i64 o, Value.int IntKind.u64 (↑S.x0 : Int), Value.int IntKind.u64 (↑S.x1 : Int), Value.int IntKind.u64 (↑S.x2 : Int), Value.int
IntKind.u64 (↑S.x3 : Int), Value.slice none 0 0] (1 + (wr IntKind.u8 ((↑c : Int).tdiv 64)).toNat * 1) [Value.int IntKind.u64 (bitsW BinOp.or IntKind.u64 (intV ((getO [Value.int IntKind.i64 o, Value.int IntKind.u64 (↑S.x0
: Int), Value.int IntKind.u64 (↑S.x1 : Int), Value.int IntKind.u64 (↑S.x2 : Int), Value.int IntKind.u64 (↑S.x3 : Int), Value.slice none 0 0] (1 + (wr IntKind.u8 ((↑c : Int).tdiv 64)).toNat * 1)).getD undef)) (wr
IntKind.u64 (1 * 2 ^ min ((↑c : Int).tmod 64).toNat 64)))]) 6 true])))))) := by kernel_rfl

noncomputable def add6C : CtrW where
  D := []
  W := [0]
  E := []
  pre := fun args blks => match args, blks with
    | [.pointer (some ⟨0,1,none⟩), .int .u8 c], [.cells [.int .i64 o, .int .u64 a, .int .u64 b, .int .u64 d, .int .u64 e, .slice none 0 0] 6 true] => AddOk a b d e c
    | _, _ => False
  val := fun _ _ => undef
  out := fun args blks => match args, blks with
    | [.pointer (some ⟨0,1,none⟩), .int .u8 c], [.cells [.int .i64 o, .int .u64 a, .int .u64 b, .int .u64 d, .int .u64 e, .slice none 0 0] 6 true] => [.cells (.int .i64 o :: s4C (addS ⟨a.toNat, b.toNat, d.toNat, e.toNat⟩ c.toNat) ++ [.slice none 0 0]) 6 true]
    | _, _ => []
theorem s46_flat (o : Int) (S : S4) : FlatL (Value.int .i64 o :: s4C S ++ [.slice none 0 0]) := ⟨fun v hv => by
  simp only [s4C, List.cons_append, List.nil_append, List.mem_cons, List.not_mem_nil, or_false] at hv
  rcases hv with rfl | rfl | rfl | rfl | rfl | rfl <;> rfl⟩
theorem add6_says (hm : Try.prog.follows .mixedOrders = true) : add6C.Holds Try.prog 94 := by
  intro args blks hf hpre
  simp only [add6C] at hpre ⊢
  split at hpre
  · rename_i c o a b d e
    obtain ⟨⟨h0, h0'⟩, ⟨h1, h1'⟩, ⟨h2, h2'⟩, ⟨h3, h3'⟩, ⟨hc, hc'⟩⟩ := hpre
    obtain ⟨a, rfl⟩ := Int.eq_ofNat_of_zero_le h0
    obtain ⟨b, rfl⟩ := Int.eq_ofNat_of_zero_le h1
    obtain ⟨d, rfl⟩ := Int.eq_ofNat_of_zero_le h2
    obtain ⟨e, rfl⟩ := Int.eq_ofNat_of_zero_le h3
    obtain ⟨c, rfl⟩ := Int.eq_ofNat_of_zero_le hc
    simp only [Int.toNat_natCast]
    refine ⟨⟨trivial, trivial⟩, ⟨s46_flat _ _, trivial⟩, ?_⟩
    refine (sure540 hm).funX F559 body559 [] [] Try.func94 rfl noLoops ?_
    rw [show ([Value.int .i64 o, Value.int .u64 (a : Int), .int .u64 (b : Int), .int .u64 (d : Int), .int .u64 (e : Int), .slice none 0 0] : List Value) = [.int .i64 o, .int .u64 ((⟨a, b, d, e⟩ : S4).x0 : Int), .int .u64 ((⟨a, b, d, e⟩ : S4).x1 : Int), .int .u64 ((⟨a, b, d, e⟩ : S4).x2 : Int), .int .u64 ((⟨a, b, d, e⟩ : S4).x3 : Int), nilK] from rfl, r559b]
    have hc4 : c / 64 = 0 ∨ c / 64 = 1 ∨ c / 64 = 2 ∨ c / 64 = 3 := by omega
    have hm : c % 64 < 64 := Nat.mod_lt _ (by decide)
    have p1 : leI 0 ((c % 64 : Nat) : Int) = true := leI_iff.2 (by omega)
    have oa := or64 a (c % 64) (by omega) hm
    have ob := or64 b (c % 64) (by omega) hm
    have od := or64 d (c % 64) (by omega) hm
    have oe := or64 e (c % 64) (by omega) hm
    simp only [c_div64 c (by omega), c_mod64, p1, Int.toNat_natCast]
    rcases hc4 with h | h | h | h
    · have hadd : addS ⟨a, b, d, e⟩ c = ⟨a ||| 2 ^ (c % 64), b, d, e⟩ := by unfold addS; rw [if_pos h]
      have e0 : setAll [Value.int .i64 o, .int .u64 (a : Int), .int .u64 (b : Int), .int .u64 (d : Int), .int .u64 (e : Int), nilK] (1 + 0 * 1) [.int .u64 (bitsW .or .u64 (intV ((getO [Value.int .i64 o, .int .u64 (a : Int), .int .u64 (b : Int), .int .u64 (d : Int), .int .u64 (e : Int), nilK] (1 + 0 * 1)).getD undef)) (wr .u64 (1 * 2 ^ min (c % 64) 64)))] = .int .i64 o :: s4C (addS ⟨a, b, d, e⟩ c) ++ [.slice none 0 0] := by rw [hadd]; show _ = [_, _, _, _, _, _]; simp only [← oa, ← ob, ← od, ← oe]; rfl
      rw [h, e0]
      exact ⟨FlatD.hp ⟨s46_flat _ _, trivial⟩, rfl, by first | exact trivial | exact rfl, by first | exact trivial | exact rfl⟩
    · have hadd : addS ⟨a, b, d, e⟩ c = ⟨a, b ||| 2 ^ (c % 64), d, e⟩ := by unfold addS; rw [if_neg (by omega), if_pos h]
      have e0 : setAll [Value.int .i64 o, .int .u64 (a : Int), .int .u64 (b : Int), .int .u64 (d : Int), .int .u64 (e : Int), nilK] (1 + 1 * 1) [.int .u64 (bitsW .or .u64 (intV ((getO [Value.int .i64 o, .int .u64 (a : Int), .int .u64 (b : Int), .int .u64 (d : Int), .int .u64 (e : Int), nilK] (1 + 1 * 1)).getD undef)) (wr .u64 (1 * 2 ^ min (c % 64) 64)))] = .int .i64 o :: s4C (addS ⟨a, b, d, e⟩ c) ++ [.slice none 0 0] := by rw [hadd]; show _ = [_, _, _, _, _, _]; simp only [← oa, ← ob, ← od, ← oe]; rfl
      rw [h, e0]
      exact ⟨FlatD.hp ⟨s46_flat _ _, trivial⟩, rfl, by first | exact trivial | exact rfl, by first | exact trivial | exact rfl⟩
    · have hadd : addS ⟨a, b, d, e⟩ c = ⟨a, b, d ||| 2 ^ (c % 64), e⟩ := by unfold addS; rw [if_neg (by omega), if_neg (by omega), if_pos h]
      have e0 : setAll [Value.int .i64 o, .int .u64 (a : Int), .int .u64 (b : Int), .int .u64 (d : Int), .int .u64 (e : Int), nilK] (1 + 2 * 1) [.int .u64 (bitsW .or .u64 (intV ((getO [Value.int .i64 o, .int .u64 (a : Int), .int .u64 (b : Int), .int .u64 (d : Int), .int .u64 (e : Int), nilK] (1 + 2 * 1)).getD undef)) (wr .u64 (1 * 2 ^ min (c % 64) 64)))] = .int .i64 o :: s4C (addS ⟨a, b, d, e⟩ c) ++ [.slice none 0 0] := by rw [hadd]; show _ = [_, _, _, _, _, _]; simp only [← oa, ← ob, ← od, ← oe]; rfl
      rw [h, e0]
      exact ⟨FlatD.hp ⟨s46_flat _ _, trivial⟩, rfl, by first | exact trivial | exact rfl, by first | exact trivial | exact rfl⟩
    · have hadd : addS ⟨a, b, d, e⟩ c = ⟨a, b, d, e ||| 2 ^ (c % 64)⟩ := by unfold addS; rw [if_neg (by omega), if_neg (by omega), if_neg (by omega)]
      have e0 : setAll [Value.int .i64 o, .int .u64 (a : Int), .int .u64 (b : Int), .int .u64 (d : Int), .int .u64 (e : Int), nilK] (1 + 3 * 1) [.int .u64 (bitsW .or .u64 (intV ((getO [Value.int .i64 o, .int .u64 (a : Int), .int .u64 (b : Int), .int .u64 (d : Int), .int .u64 (e : Int), nilK] (1 + 3 * 1)).getD undef)) (wr .u64 (1 * 2 ^ min (c % 64) 64)))] = .int .i64 o :: s4C (addS ⟨a, b, d, e⟩ c) ++ [.slice none 0 0] := by rw [hadd]; show _ = [_, _, _, _, _, _]; simp only [← oa, ← ob, ← od, ← oe]; rfl
      rw [h, e0]
      exact ⟨FlatD.hp ⟨s46_flat _ _, trivial⟩, rfl, by first | exact trivial | exact rfl, by first | exact trivial | exact rfl⟩
  · exact hpre.elim
end Go.Proofs.Ytfgiifppapopnaa

namespace Go.Proofs.Ytfgiifppapopnaa
open Go.RowKit Go.Proofs.Ytfgiifppapopnaa.AM
set_option maxRecDepth 100000
set_option maxHeartbeats 4000000
/-! ### what the parser reads -/
def leafT (S : S4) : Rx := .mk 1 S []
def atmP (W : Nat → PS → PS × Rx) (s : ByteArray) (d : Nat) (q : PS) : PS × Rx := if (q.b || d == 8) = true then (⟨q.a, true⟩, leafT nilS) else W (d + 1) ⟨q.a, false⟩
def atmR (W : Nat → PS → PS × Rx) (s : ByteArray) (d : Nat) (p : PS) : PS × Rx :=
  if byV s p = 40 then (⟨(nxF s (atmP W s d (byF s p)).1 41).a, !seF s (atmP W s d (byF s p)).1 41 || (nxF s (atmP W s d (byF s p)).1 41).b⟩, (atmP W s d (byF s p)).2) else
  if byV s p = 91 then (clsP s (byF s p), leafT (clsS s (byF s p))) else
  if byV s p = 46 then (byF s p, leafT (turnS nilS)) else
  if byV s p = 92 then (sgF s (byF s p), leafT (addS nilS (byV s (byF s p)))) else
  (⟨(byF s p).a, (byF s p).b || isRp (byV s p)⟩, leafT (addS nilS (byV s p)))
def facR (A : PS → PS × Rx) (s : ByteArray) (p : PS) : PS × Rx :=
  if seF s (A p).1 42 then (nxF s (A p).1 42, .mk 4 nilS [(A p).2]) else
  if seF s (A p).1 43 then (nxF s (A p).1 43, .mk 5 nilS [(A p).2]) else
  if seF s (A p).1 63 then (nxF s (A p).1 63, .mk 6 nilS [(A p).2]) else A p
def seqT (ks : List Rx) : Rx := match ks with | [x] => x | _ => .mk 2 nilS ks
def altT (ks : List Rx) : Rx := match ks with | [x] => x | _ => .mk 3 nilS ks
def wayL (A : PS → PS × Rx) (s : ByteArray) : Nat → PS → List Rx → PS × List Rx
  | 0, p, ks => (p, ks)
  | m + 1, p, ks => if ovF s p || (seF s p 124 || seF s p 41) then (p, ks) else wayL A s m (A p).1 (ks ++ [(A p).2])
def wayR (A : PS → PS × Rx) (s : ByteArray) (p : PS) : PS × Rx := ((wayL A s (s.size + 1) p []).1, seqT (wayL A s (s.size + 1) p []).2)
def wysL (B : PS → PS × Rx) (s : ByteArray) : Nat → PS → List Rx → PS × List Rx
  | 0, p, ks => (p, ks)
  | m + 1, p, ks => if seF s p 124 then wysL B s m (B ⟨p.a + 1, p.b⟩).1 (ks ++ [(B ⟨p.a + 1, p.b⟩).2]) else (p, ks)
def wysR (B : PS → PS × Rx) (s : ByteArray) (p : PS) : PS × Rx := ((wysL B s (s.size + 1) (B p).1 [(B p).2]).1, altT (wysL B s (s.size + 1) (B p).1 [(B p).2]).2)
def wysN (s : ByteArray) : Nat → Nat → PS → PS × Rx
  | 0, _, p => (p, leafT nilS)
  | n + 1, d, p => wysR (wayR (facR (atmR (wysN s n) s d) s) s) s p
/-- a step of the parser: it goes on, stays bad -/
structure Stp (s : ByteArray) (p q : PS) : Prop where
  le : p.a ≤ q.a
  sz : q.a ≤ s.size
  bad : p.b = true → q.b = true
theorem Stp.refl {s : ByteArray} {p : PS} (h : p.a ≤ s.size) : Stp s p p := ⟨Nat.le_refl _, h, id⟩
theorem Stp.trans {s : ByteArray} {p q r : PS} (h : Stp s p q) (k : Stp s q r) : Stp s p r := ⟨Nat.le_trans h.le k.le, k.sz, fun b => k.bad (h.bad b)⟩
theorem byF_stp {s : ByteArray} {p : PS} (h : p.a ≤ s.size) : Stp s p (byF s p) := ⟨(byF_le s p h).1, (byF_le s p h).2, fun b => by
  unfold byF; cases ovF s p with
  | true => rfl
  | false => exact b⟩
theorem nxF_stp {s : ByteArray} {p : PS} {c : Int} (h : p.a ≤ s.size) : Stp s p (nxF s p c) := ⟨(nxF_le h).1, (nxF_le h).2, fun b => by
  cases hc : seF s p c with
  | true => rw [(lt_nx hc).2] at b; cases b
  | false => rw [nxF_f hc]; exact b⟩
theorem sgF_stp {s : ByteArray} {p : PS} (h : p.a ≤ s.size) : Stp s p (sgF s p) := ⟨(sgF_le s p h).1, (sgF_le s p h).2, fun b => by
  unfold sgF; simp only [(byF_stp h).bad b, Bool.true_or]⟩
theorem rdP_bad {s : ByteArray} {p : PS} (b : p.b = true) : (rdP s p).b = true := by
  have h1 := mbP_bad (s := s) b
  unfold rdP rdQ
  rw [if_neg (by intro hs; rw [(lt_nx hs).2] at h1; cases h1)]
  simp only [h1, Bool.true_or]
theorem clsR_bad {s : ByteArray} : ∀ (m : Nat) {p : PS} {S : S4}, p.b = true → (clsR s m p S).1.b = true := by
  intro m
  induction m with
  | zero => intro p S b; exact b
  | succ m ih =>
    intro p S b
    rw [clsR_succ]
    unfold clsF
    split
    · exact rdP_bad b
    · exact ih (rdP_bad b)
theorem clsP_stp {s : ByteArray} {p : PS} (h : p.a ≤ s.size) : Stp s p (clsP s p) := ⟨(clsP_le h).1, (clsP_le h).2, fun b => by
  have h1 := (nxF_stp (c := 94) h).bad b
  have h2 : (clsE s p).1.b = true := clsR_bad _ h1
  have h3 := (nxF_stp (c := 93) (clsE_le h).2.1).bad h2
  unfold clsP
  simp only [h3, Bool.or_true]⟩
/-- a part of the parser goes on -/
def Goes (s : ByteArray) (A : PS → PS × Rx) : Prop := ∀ p, p.a ≤ s.size → Stp s p (A p).1
/-- .. and passes a byte, where there is one -/
def Eats (s : ByteArray) (A : PS → PS × Rx) : Prop := ∀ p, p.a ≤ s.size → ovF s p = false → p.a + 1 ≤ (A p).1.a
theorem atmP_stp {W : Nat → PS → PS × Rx} {s : ByteArray} {d : Nat} (hW : Goes s (W (d + 1))) {q : PS} (h : q.a ≤ s.size) : Stp s q (atmP W s d q).1 := by
  unfold atmP
  split
  · exact ⟨Nat.le_refl _, h, fun _ => rfl⟩
  · rename_i hb
    have hq : q.b = false := by cases hqb : q.b with
      | false => rfl
      | true => rw [hqb] at hb; exact absurd rfl hb
    have := hW ⟨q.a, false⟩ h
    exact ⟨this.le, this.sz, fun b => by rw [hq] at b; cases b⟩
theorem atm_stp {W : Nat → PS → PS × Rx} {s : ByteArray} {d : Nat} (hW : Goes s (W (d + 1))) : ∀ p, p.a ≤ s.size → Stp s (byF s p) (atmR W s d p).1 := by
  intro p h
  have hb := byF_stp h
  unfold atmR
  split
  · have h1 := atmP_stp hW hb.sz
    have h2 := nxF_stp (c := 41) h1.sz
    have h3 := h1.trans h2
    exact ⟨h3.le, h3.sz, fun b => by simp only [h3.bad b, Bool.or_true]⟩
  split
  · exact clsP_stp hb.sz
  split
  · exact Stp.refl hb.sz
  split
  · exact sgF_stp hb.sz
  · exact ⟨Nat.le_refl _, hb.sz, fun b => by simp only [b, Bool.true_or]⟩
theorem atm_goes {W : Nat → PS → PS × Rx} {s : ByteArray} {d : Nat} (hW : Goes s (W (d + 1))) : Goes s (atmR W s d) := fun p h => (byF_stp h).trans (atm_stp hW p h)
theorem atm_eats {W : Nat → PS → PS × Rx} {s : ByteArray} {d : Nat} (hW : Goes s (W (d + 1))) : Eats s (atmR W s d) := fun p h ho => by
  have := (atm_stp hW p h).le
  rw [(byF_no ho).1] at this
  exact this
theorem fac_stp {A : PS → PS × Rx} {s : ByteArray} (hA : Goes s A) : ∀ p, p.a ≤ s.size → Stp s (A p).1 (facR A s p).1 := fun p h => by
  have h1 := hA p h
  unfold facR
  split
  · exact nxF_stp h1.sz
  split
  · exact nxF_stp h1.sz
  split
  · exact nxF_stp h1.sz
  · exact Stp.refl h1.sz
theorem fac_goes {A : PS → PS × Rx} {s : ByteArray} (hA : Goes s A) : Goes s (facR A s) := fun p h => (hA p h).trans (fac_stp hA p h)
theorem fac_eats {A : PS → PS × Rx} {s : ByteArray} (hA : Goes s A) (hE : Eats s A) : Eats s (facR A s) := fun p h ho => Nat.le_trans (hE p h ho) (fac_stp hA p h).le
theorem wayL_stp {A : PS → PS × Rx} {s : ByteArray} (hA : Goes s A) : ∀ (m : Nat) (p : PS) (ks : List Rx), p.a ≤ s.size → Stp s p (wayL A s m p ks).1 := by
  intro m
  induction m with
  | zero => intro p ks h; exact Stp.refl h
  | succ m ih =>
    intro p ks h
    unfold wayL
    split
    · exact Stp.refl h
    · exact (hA p h).trans (ih _ _ (hA p h).sz)
theorem way_goes {A : PS → PS × Rx} {s : ByteArray} (hA : Goes s A) : Goes s (wayR A s) := fun p h => wayL_stp hA _ p [] h
theorem wysL_stp {B : PS → PS × Rx} {s : ByteArray} (hB : Goes s B) : ∀ (m : Nat) (p : PS) (ks : List Rx), p.a ≤ s.size → Stp s p (wysL B s m p ks).1 := by
  intro m
  induction m with
  | zero => intro p ks h; exact Stp.refl h
  | succ m ih =>
    intro p ks h
    unfold wysL
    split
    · rename_i hs
      have h0 : Stp s p ⟨p.a + 1, p.b⟩ := ⟨Nat.le_succ _, (lt_nx hs).1, id⟩
      have h1 := hB ⟨p.a + 1, p.b⟩ h0.sz
      exact (h0.trans h1).trans (ih _ _ h1.sz)
    · exact Stp.refl h
theorem wys_goes {B : PS → PS × Rx} {s : ByteArray} (hB : Goes s B) : Goes s (wysR B s) := fun p h => (hB p h).trans (wysL_stp hB _ _ _ (hB p h).sz)
theorem wysN_goes (s : ByteArray) : ∀ n d, Goes s (wysN s n d) := by
  intro n
  induction n with
  | zero => intro d p h; exact Stp.refl h
  | succ n ih => intro d; exact wys_goes (way_goes (fac_goes (atm_goes (ih (d + 1)))))
/-- rows of one tree, or not -/
theorem seqT_one (x : Rx) : seqT [x] = x := rfl
theorem altT_one (x : Rx) : altT [x] = x := rfl
theorem seqT_more {ks : List Rx} (h : ks.length ≠ 1) : seqT ks = .mk 2 nilS ks := by
  match ks, h with
  | [], _ => rfl
  | [x], h => exact absurd rfl h
  | x :: y :: l, _ => rfl
theorem altT_more {ks : List Rx} (h : ks.length ≠ 1) : altT ks = .mk 3 nilS ks := by
  match ks, h with
  | [], _ => rfl
  | [x], h => exact absurd rfl h
  | x :: y :: l, _ => rfl
end Go.Proofs.Ytfgiifppapopnaa

namespace Go.Proofs.Ytfgiifppapopnaa
open Go.RowKit Go.Proofs.Ytfgiifppapopnaa.AM
set_option maxRecDepth 100000
set_option maxHeartbeats 4000000
noncomputable def body546 : Code := (Try.f77.body).getD .skip
def F546 : List Nat → Option (List Nat) := fun p => match p with
  | [1] => some [0, 1, 4]
  | [1, 1] => some [0, 1, 4, 5]
  | [1, 0, 1, 1] => some [0, 1, 4, 5, 6]
  | [1, 1, 0, 1, 1] => some [0, 1, 4, 5, 6, 10]
  | [1, 0, 1, 1, 0, 1, 1] => some [0, 1, 4, 5, 6, 10, 26]
  | [1, 0, 1, 0, 1, 1, 0, 1, 1] => some [0, 1, 4, 5]
  | [1, 0, 1, 0, 1, 0, 1, 1, 0, 1, 1] => some [0, 1, 4, 5, 43]
  | [1, 1, 0, 1, 0, 1, 1, 0, 1, 1] => some [0, 4, 5]
  | [1, 1, 1, 0, 1, 1, 0, 1, 1] => some [0, 4, 5, 6, 10, 60]
  | [1, 1, 1, 1, 1, 0, 1, 1, 0, 1, 1] => some [0, 4, 5, 6, 10, 65]
  | [1, 1, 1, 1, 1, 1, 1, 0, 1, 1, 0, 1, 1] => some [0, 4, 5, 6, 71]
  | [1, 1, 1, 1, 1, 1, 1, 1, 1, 0, 1, 1, 0, 1, 1] => some [4, 5, 6]
  | [1, 1, 1] => some [1000000, 4, 5]
  | [1, 1, 1, 1] => some [4]
  | _ => none
noncomputable def body541 : Code := (Try.f67.body).getD .skip
def F541 : List Nat → Option (List Nat) := fun p => match p with
  | [1] => some [0, 1, 4]
  | [1, 1] => some [0, 4, 5]
  | [1, 0, 0, 1, 1] => some [0, 4, 5, 9]
  | [1, 0, 1, 0, 0, 1, 1] => some [4]
  | [1, 1, 1, 0, 0, 1, 1] => some [0, 4, 5, 15]
  | [1, 0, 1, 1, 1, 0, 0, 1, 1] => some [4]
  | [1, 1, 1, 1, 1, 0, 0, 1, 1] => some [4, 5, 21]
  | [1, 0, 1, 1, 1, 1, 1, 0, 0, 1, 1] => some [4]
  | [1, 1, 1] => some [4, 5]
  | [1, 1, 1, 1] => some [4]
  | _ => none
noncomputable def body530 : Code := (Try.f54.body).getD .skip
def F530 : List Nat → Option (List Nat) := fun p => match p with
  | [1] => some [0, 1, 4]
  | [1, 1] => some [0, 1, 4, 5]
  | [1, 0, 0, 0, 0, 1, 1] => some [0, 1, 4, 5, 18]
  | [1, 1, 0, 0, 0, 0, 1, 1] => some [4, 5]
  | [1, 0, 0, 0, 1, 1] => some [0, 1, 4, 5]
  | [1, 1, 1] => some [1000000, 4, 5]
  | [1, 0, 1, 1, 1] => some [4, 5, 27]
  | [1, 0, 1, 0, 1, 1, 1] => some [4]
  | [1, 1, 1, 1] => some [4, 5]
  | [1, 1, 1, 1, 1] => some [4]
  | _ => none
noncomputable def body522 : Code := (Try.f41.body).getD .skip
def F522 : List Nat → Option (List Nat) := fun p => match p with
  | [1] => some [0, 1, 4]
  | [1, 1] => some [0, 1, 4, 5]
  | [1, 0, 0, 0, 0, 1, 1] => some [0, 1, 4, 5, 11]
  | [1, 1, 0, 0, 0, 0, 1, 1] => some [4, 5]
  | [1, 0, 0, 0, 1, 1] => some [0, 1, 4, 5]
  | [1, 1, 1] => some [1000000, 4, 5]
  | [1, 0, 1, 1, 1] => some [4, 5, 20]
  | [1, 0, 1, 0, 1, 1, 1] => some [4]
  | [1, 1, 1, 1] => some [4, 5]
  | [1, 1, 1, 1, 1] => some [4]
  | _ => none
inductive RD : List Value → Prop
  | mk (d : Nat) (h : d ≤ 8) : RD [.int .i64 (d : Int)]
structure WOk (s : ByteArray) (p : PS) (r : List Value) (n : Nat) : Prop where
  d : RD r
  f : s.size - p.a < n
  b : p.b = false → s.size ≤ 40
def dep (r : List Value) : Nat := match r with | [.int .i64 d] => d.toNat | _ => 0
noncomputable def waysX (n : Nat) : CtrX (PS × Rx) := pX (fun s p r => WOk s p r n) (fun s p r => wysN s n (dep r) p) rxV
noncomputable def atomX (n : Nat) : CtrX (PS × Rx) := pX (fun s p r => WOk s p r (n + 1)) (fun s p r => atmR (wysN s n) s (dep r) p) rxV
noncomputable def facX (n : Nat) : CtrX (PS × Rx) := pX (fun s p r => WOk s p r (n + 1)) (fun s p r => facR (atmR (wysN s n) s (dep r)) s p) rxV
noncomputable def wayX (n : Nat) : CtrX (PS × Rx) := pX (fun s p r => WOk s p r (n + 1)) (fun s p r => wayR (facR (atmR (wysN s n) s (dep r)) s) s p) rxV
noncomputable def S546 (hm : Try.prog.follows .mixedOrders = true) (n : Nat) (hn : (waysX n).Holds Try.prog 41) : Book := addI Try.prog [(55, Try.f55, body531), (96, Try.f96, body561), (111, Try.f111, body586)]
  (bookS [(41, (waysX n).summ hn), (92, clsX.summ (clsX_says hm)), (95, signX.summ (signX_says hm)), (91, byteX.summ (byteX_says hm)), (117, ixbS)] (bookW [(66, seesC), (94, add6C)] (bookOf [(93, turnedC)])))

noncomputable abbrev rxB (x : Rx) : List Value := [.int .i64 (x.op : Int), .int .u64 (x.set.x0 : Int), .int .u64 (x.set.x1 : Int), .int .u64 (x.set.x2 : Int), .int .u64 (x.set.x3 : Int), kvV x]
noncomputable abbrev psB (s : ByteArray) (p : PS) : Blk := .cells [.string s, .int .i64 (p.a : Int), .bool p.b] 3 true
noncomputable def cut546 (s : ByteArray) : CutE where
  β := PS × Rx
  p := [1, 1, 1]
  t := fun _ => tmps 78 [(4, p1), (5, p2)]
  h := fun x => hp [psB s x.1, .cells [.int .i64 0, .int .u64 0, .int .u64 0, .int .u64 0, .int .u64 0, .slice none 0 0] 6 true, .cells (rxB x.2) 6 true]
  Q := fun x K => K .ret (tmps 78 [(4, p1)]) (hp [psB s x.1, .cells (rxB x.2) 6 true])

theorem r546e (hm : Try.prog.follows .mixedOrders = true) (n : Nat) (hn : (waysX n).Holds Try.prog 41) (s : ByteArray) (p : PS) (x : Rx) (K : Post) :
  roundX Try.prog (S546 hm n hn) noLoop F546 body546 1 [] [] [] [] [] [1, 1, 1] (tmps 78 [(4, p1), (5, p2)]) (hp [psB s p, .cells [.int .i64 0, .int .u64 0, .int .u64 0, .int .u64 0, .int .u64 0, .slice none 0 0] 6 true, .cells (rxB x) 6 true]) K = (
K AE.ret (tmps 78 [(4, Value.pointer (some { block := 1, off := 0 : Addr }))]) (hp [Blk.cells [Value.string s, Value.int IntKind.i64 (↑p.a : Int), Value.bool p.b] 3 true, Blk.cells [Value.int IntKind.i64 (intV (Value.int
IntKind.i64 (↑x.op : Int))), Value.int IntKind.u64 (intV (Value.int IntKind.u64 (↑x.set.x0 : Int))), Value.int IntKind.u64 (intV (Value.int IntKind.u64 (↑x.set.x1 : Int))), Value.int IntKind.u64 (intV (Value.int
IntKind.u64 (↑x.set.x2 : Int))), Value.int IntKind.u64 (intV (Value.int IntKind.u64 (↑x.set.x3 : Int))), Value.iface 0 (Value.agg #[Value.int IntKind.i64 6, Value.int IntKind.i64 (↑x.kids.length : Int), Value.agg (rxL
x.kids).toArray])] 6 true])) := by kernel_rfl

theorem r546 (hm : Try.prog.follows .mixedOrders = true) (n : Nat) (hn : (waysX n).Holds Try.prog 41) (s : ByteArray) (a d : Nat) (b : Bool) (K : Value → Heap → Prop) :
  funX Try.prog (S546 hm n hn) (gcLKX (at0 []) (at0 [.fz (.cell 5 5 []) (.sl 6)]) 1 (cutE [cut546 s])) F546 body546 Try.f77 [] [] [pA, .int .i64 (d : Int)] (pB s a b) K = (
(FlatL [Value.string s, Value.int IntKind.i64 (↑a : Int), Value.bool b] ∧ True) ∧ (POk s (↑a : Int) ∧ RN []) ∧ ∀ (x : PS × Nat), x = (byF s { a := (↑a : Int).toNat, b := b : PS }, byV s
{ a := (↑a : Int).toNat, b := b : PS }) → Alt (eqI (↑x.snd : Int) 40) (Alt (boolV (Value.bool x.fst.b)) ((FlatL [Value.string s, Value.int IntKind.i64 (↑x.fst.a : Int), Value.bool true] ∧ True) ∧ (POk s (↑x.fst.a : Int)
∧ RC [Value.int IntKind.u8 41]) ∧ FlatD [] (hp [Blk.cells [Value.string s, Value.int IntKind.i64 (↑{ a := (↑x.fst.a : Int).toNat, b := true : PS }.a : Int), Value.bool true] 3 true, Blk.cells [Value.int IntKind.i64 0,
Value.int IntKind.u64 0, Value.int IntKind.u64 0, Value.int IntKind.u64 0, Value.int IntKind.u64 0, Value.slice none 0 0] 6 true, Blk.cells [Value.int IntKind.i64 1, Value.int IntKind.u64 0, Value.int IntKind.u64 0,
Value.int IntKind.u64 0, Value.int IntKind.u64 0, Value.iface 0 (Value.agg #[Value.int IntKind.i64 6, Value.int IntKind.i64 0, Value.agg #[]])] 6 true]) ∧ ∃ (b : PS × Rx), tmps 78 [(4, Value.pointer (some
{ block := 1, off := 0 : Addr })), (5, Value.pointer (some { block := 2, off := 0 : Addr }))] = tmps 78 [(4, Value.pointer (some { block := 1, off := 0 : Addr })), (5, Value.pointer (some
{ block := 2, off := 0 : Addr }))] ∧ hp [Blk.cells [Value.string s, Value.int IntKind.i64 (↑{ a := (↑x.fst.a : Int).toNat, b := true : PS }.a : Int), Value.bool true] 3 true, Blk.cells [Value.int IntKind.i64 0, Value.int
IntKind.u64 0, Value.int IntKind.u64 0, Value.int IntKind.u64 0, Value.int IntKind.u64 0, Value.slice none 0 0] 6 true, Blk.cells [Value.int IntKind.i64 1, Value.int IntKind.u64 0, Value.int IntKind.u64 0, Value.int
IntKind.u64 0, Value.int IntKind.u64 0, Value.iface 0 (Value.agg #[Value.int IntKind.i64 6, Value.int IntKind.i64 0, Value.agg #[]])] 6 true] = hp [Blk.cells [Value.string s, Value.int IntKind.i64 (↑b.fst.a : Int),
Value.bool b.fst.b] 3 true, Blk.cells [Value.int IntKind.i64 0, Value.int IntKind.u64 0, Value.int IntKind.u64 0, Value.int IntKind.u64 0, Value.int IntKind.u64 0, Value.slice none 0 0] 6 true, Blk.cells [Value.int
IntKind.i64 (↑b.snd.op : Int), Value.int IntKind.u64 (↑b.snd.set.x0 : Int), Value.int IntKind.u64 (↑b.snd.set.x1 : Int), Value.int IntKind.u64 (↑b.snd.set.x2 : Int), Value.int IntKind.u64 (↑b.snd.set.x3 : Int),
Value.iface 0 (Value.agg #[Value.int IntKind.i64 6, Value.int IntKind.i64 (↑b.snd.kids.length : Int), Value.agg (rxL b.snd.kids).toArray])] 6 true] ∧ K (Value.agg #[Value.int IntKind.i64 (↑b.snd.op : Int), Value.int
IntKind.u64 (↑b.snd.set.x0 : Int), Value.int IntKind.u64 (↑b.snd.set.x1 : Int), Value.int IntKind.u64 (↑b.snd.set.x2 : Int), Value.int IntKind.u64 (↑b.snd.set.x3 : Int), Value.iface 0 (Value.agg #[Value.int IntKind.i64
6, Value.int IntKind.i64 (↑b.snd.kids.length : Int), Value.agg (rxL b.snd.kids).toArray])]) (hp [Blk.cells [Value.string s, Value.int IntKind.i64 (↑b.fst.a : Int), Value.bool b.fst.b] 3 true])) (Alt (!boolV (Value.bool
(eqI (↑d : Int) 8))) ((FlatL [Value.string s, Value.int IntKind.i64 (↑x.fst.a : Int), Value.bool (eqI (↑d : Int) 8)] ∧ True) ∧ (POk s (↑x.fst.a : Int) ∧ WOk s { a := (↑x.fst.a : Int).toNat, b := eqI (↑d : Int) 8 : PS }
[Value.int IntKind.i64 (wr IntKind.i64 ((↑d : Int) + 1))] n) ∧ ∀ (x_1 : PS × Rx), x_1 = wysN s n (dep [Value.int IntKind.i64 (wr IntKind.i64 ((↑d : Int) + 1))]) { a := (↑x.fst.a : Int).toNat, b := eqI (↑d : Int) 8 : PS }
→ (FlatL [Value.string s, Value.int IntKind.i64 (↑x_1.fst.a : Int), Value.bool x_1.fst.b] ∧ True) ∧ (POk s (↑x_1.fst.a : Int) ∧ RC [Value.int IntKind.u8 41]) ∧ Alt (!seF s
{ a := (↑x_1.fst.a : Int).toNat, b := x_1.fst.b : PS } 41) (FlatD [] (hp [Blk.cells [Value.string s, Value.int IntKind.i64 (↑{ a := (↑x_1.fst.a : Int).toNat, b := x_1.fst.b : PS }.a : Int), Value.bool true] 3 true,
Blk.cells [Value.int IntKind.i64 0, Value.int IntKind.u64 0, Value.int IntKind.u64 0, Value.int IntKind.u64 0, Value.int IntKind.u64 0, Value.slice none 0 0] 6 true, Blk.cells [Value.int IntKind.i64 (↑x_1.snd.op : Int),
Value.int IntKind.u64 (↑x_1.snd.set.x0 : Int), Value.int IntKind.u64 (↑x_1.snd.set.x1 : Int), Value.int IntKind.u64 (↑x_1.snd.set.x2 : Int), Value.int IntKind.u64 (↑x_1.snd.set.x3 : Int), Value.iface 0 (Value.agg
#[Value.int IntKind.i64 6, Value.int IntKind.i64 (↑x_1.snd.kids.length : Int), Value.agg (rxL x_1.snd.kids).toArray])] 6 true]) ∧ ∃ (b : PS × Rx), tmps 78 [(4, Value.pointer (some { block := 1, off := 0 : Addr })), (5,
Value.pointer (some { block := 2, off := 0 : Addr }))] = tmps 78 [(4, Value.pointer (some { block := 1, off := 0 : Addr })), (5, Value.pointer (some { block := 2, off := 0 : Addr }))] ∧ hp [Blk.cells [Value.string s,
Value.int IntKind.i64 (↑{ a := (↑x_1.fst.a : Int).toNat, b := x_1.fst.b : PS }.a : Int), Value.bool true] 3 true, Blk.cells [Value.int IntKind.i64 0, Value.int IntKind.u64 0, Value.int IntKind.u64 0, Value.int
IntKind.u64 0, Value.int IntKind.u64 0, Value.slice none 0 0] 6 true, Blk.cells [Value.int IntKind.i64 (↑x_1.snd.op : Int), Value.int IntKind.u64 (↑x_1.snd.set.x0 : Int), Value.int IntKind.u64 (↑x_1.snd.set.x1 : Int),
Value.int IntKind.u64 (↑x_1.snd.set.x2 : Int), Value.int IntKind.u64 (↑x_1.snd.set.x3 : Int), Value.iface 0 (Value.agg #[Value.int IntKind.i64 6, Value.int IntKind.i64 (↑x_1.snd.kids.length : Int), Value.agg (rxL
x_1.snd.kids).toArray])] 6 true] = hp [Blk.cells [Value.string s, Value.int IntKind.i64 (↑b.fst.a : Int), Value.bool b.fst.b] 3 true, Blk.cells [Value.int IntKind.i64 0, Value.int IntKind.u64 0, Value.int IntKind.u64 0,
Value.int IntKind.u64 0, Value.int IntKind.u64 0, Value.slice none 0 0] 6 true, Blk.cells [Value.int IntKind.i64 (↑b.snd.op : Int), Value.int IntKind.u64 (↑b.snd.set.x0 : Int), Value.int IntKind.u64 (↑b.snd.set.x1 :
Int), Value.int IntKind.u64 (↑b.snd.set.x2 : Int), Value.int IntKind.u64 (↑b.snd.set.x3 : Int), Value.iface 0 (Value.agg #[Value.int IntKind.i64 6, Value.int IntKind.i64 (↑b.snd.kids.length : Int), Value.agg (rxL
b.snd.kids).toArray])] 6 true] ∧ K (Value.agg #[Value.int IntKind.i64 (↑b.snd.op : Int), Value.int IntKind.u64 (↑b.snd.set.x0 : Int), Value.int IntKind.u64 (↑b.snd.set.x1 : Int), Value.int IntKind.u64 (↑b.snd.set.x2 :
Int), Value.int IntKind.u64 (↑b.snd.set.x3 : Int), Value.iface 0 (Value.agg #[Value.int IntKind.i64 6, Value.int IntKind.i64 (↑b.snd.kids.length : Int), Value.agg (rxL b.snd.kids).toArray])]) (hp [Blk.cells [Value.string
s, Value.int IntKind.i64 (↑b.fst.a : Int), Value.bool b.fst.b] 3 true])) (FlatD [] (hp [Blk.cells [Value.string s, Value.int IntKind.i64 (wr IntKind.i64 (intV (Value.int IntKind.i64
(↑{ a := (↑x_1.fst.a : Int).toNat, b := x_1.fst.b : PS }.a : Int)) + 1)), Value.bool (boolV (Value.bool { a := (↑x_1.fst.a : Int).toNat, b := x_1.fst.b : PS }.b))] 3 true, Blk.cells [Value.int IntKind.i64 0, Value.int
IntKind.u64 0, Value.int IntKind.u64 0, Value.int IntKind.u64 0, Value.int IntKind.u64 0, Value.slice none 0 0] 6 true, Blk.cells [Value.int IntKind.i64 (↑x_1.snd.op : Int), Value.int IntKind.u64 (↑x_1.snd.set.x0 : Int),
Value.int IntKind.u64 (↑x_1.snd.set.x1 : Int), Value.int IntKind.u64 (↑x_1.snd.set.x2 : Int), Value.int IntKind.u64 (↑x_1.snd.set.x3 : Int), Value.iface 0 (Value.agg #[Value.int IntKind.i64 6, Value.int IntKind.i64
(↑x_1.snd.kids.length : Int), Value.agg (rxL x_1.snd.kids).toArray])] 6 true]) ∧ ∃ (b : PS × Rx), tmps 78 [(4, Value.pointer (some { block := 1, off := 0 : Addr })), (5, Value.pointer (some
{ block := 2, off := 0 : Addr }))] = tmps 78 [(4, Value.pointer (some { block := 1, off := 0 : Addr })), (5, Value.pointer (some { block := 2, off := 0 : Addr }))] ∧ hp [Blk.cells [Value.string s, Value.int IntKind.i64
(wr IntKind.i64 (intV (Value.int IntKind.i64 (↑{ a := (↑x_1.fst.a : Int).toNat, b := x_1.fst.b : PS }.a : Int)) + 1)), Value.bool (boolV (Value.bool { a := (↑x_1.fst.a : Int).toNat, b := x_1.fst.b : PS }.b))] 3 true,
Blk.cells [Value.int IntKind.i64 0, Value.int IntKind.u64 0, Value.int IntKind.u64 0, Value.int IntKind.u64 0, Value.int IntKind.u64 0, Value.slice none 0 0] 6 true, Blk.cells [Value.int IntKind.i64 (↑x_1.snd.op : Int),
Value.int IntKind.u64 (↑x_1.snd.set.x0 : Int), Value.int IntKind.u64 (↑x_1.snd.set.x1 : Int), Value.int IntKind.u64 (↑x_1.snd.set.x2 : Int), Value.int IntKind.u64 (↑x_1.snd.set.x3 : Int), Value.iface 0 (Value.agg
#[Value.int IntKind.i64 6, Value.int IntKind.i64 (↑x_1.snd.kids.length : Int), Value.agg (rxL x_1.snd.kids).toArray])] 6 true] = hp [Blk.cells [Value.string s, Value.int IntKind.i64 (↑b.fst.a : Int), Value.bool b.fst.b]
3 true, Blk.cells [Value.int IntKind.i64 0, Value.int IntKind.u64 0, Value.int IntKind.u64 0, Value.int IntKind.u64 0, Value.int IntKind.u64 0, Value.slice none 0 0] 6 true, Blk.cells [Value.int IntKind.i64 (↑b.snd.op :
Int), Value.int IntKind.u64 (↑b.snd.set.x0 : Int), Value.int IntKind.u64 (↑b.snd.set.x1 : Int), Value.int IntKind.u64 (↑b.snd.set.x2 : Int), Value.int IntKind.u64 (↑b.snd.set.x3 : Int), Value.iface 0 (Value.agg
#[Value.int IntKind.i64 6, Value.int IntKind.i64 (↑b.snd.kids.length : Int), Value.agg (rxL b.snd.kids).toArray])] 6 true] ∧ K (Value.agg #[Value.int IntKind.i64 (↑b.snd.op : Int), Value.int IntKind.u64 (↑b.snd.set.x0 :
Int), Value.int IntKind.u64 (↑b.snd.set.x1 : Int), Value.int IntKind.u64 (↑b.snd.set.x2 : Int), Value.int IntKind.u64 (↑b.snd.set.x3 : Int), Value.iface 0 (Value.agg #[Value.int IntKind.i64 6, Value.int IntKind.i64
(↑b.snd.kids.length : Int), Value.agg (rxL b.snd.kids).toArray])]) (hp [Blk.cells [Value.string s, Value.int IntKind.i64 (↑b.fst.a : Int), Value.bool b.fst.b] 3 true]))) ((FlatL [Value.string s, Value.int IntKind.i64
(↑x.fst.a : Int), Value.bool (eqI (↑d : Int) 8)] ∧ True) ∧ (POk s (↑x.fst.a : Int) ∧ RC [Value.int IntKind.u8 41]) ∧ Alt (!seF s { a := (↑x.fst.a : Int).toNat, b := eqI (↑d : Int) 8 : PS } 41) (FlatD [] (hp [Blk.cells
[Value.string s, Value.int IntKind.i64 (↑{ a := (↑x.fst.a : Int).toNat, b := eqI (↑d : Int) 8 : PS }.a : Int), Value.bool true] 3 true, Blk.cells [Value.int IntKind.i64 0, Value.int IntKind.u64 0, Value.int IntKind.u64
0, Value.int IntKind.u64 0, Value.int IntKind.u64 0, Value.slice none 0 0] 6 true, Blk.cells [Value.int IntKind.i64 1, Value.int IntKind.u64 0, Value.int IntKind.u64 0, Value.int IntKind.u64 0, Value.int IntKind.u64 0,
Value.iface 0 (Value.agg #[Value.int IntKind.i64 6, Value.int IntKind.i64 0, Value.agg #[]])] 6 true]) ∧ ∃ (b : PS × Rx), tmps 78 [(4, Value.pointer (some { block := 1, off := 0 : Addr })), (5, Value.pointer (some
{ block := 2, off := 0 : Addr }))] = tmps 78 [(4, Value.pointer (some { block := 1, off := 0 : Addr })), (5, Value.pointer (some { block := 2, off := 0 : Addr }))] ∧ hp [Blk.cells [Value.string s, Value.int IntKind.i64
(↑{ a := (↑x.fst.a : Int).toNat, b := eqI (↑d : Int) 8 : PS }.a : Int), Value.bool true] 3 true, Blk.cells [Value.int IntKind.i64 0, Value.int IntKind.u64 0, Value.int IntKind.u64 0, Value.int IntKind.u64 0, Value.int
IntKind.u64 0, Value.slice none 0 0] 6 true, Blk.cells [Value.int IntKind.i64 1, Value.int IntKind.u64 0, Value.int IntKind.u64 0, Value.int IntKind.u64 0, Value.int IntKind.u64 0, Value.iface 0 (Value.agg #[Value.int
IntKind.i64 6, Value.int IntKind.i64 0, Value.agg #[]])] 6 true] = hp [Blk.cells [Value.string s, Value.int IntKind.i64 (↑b.fst.a : Int), Value.bool b.fst.b] 3 true, Blk.cells [Value.int IntKind.i64 0, Value.int
IntKind.u64 0, Value.int IntKind.u64 0, Value.int IntKind.u64 0, Value.int IntKind.u64 0, Value.slice none 0 0] 6 true, Blk.cells [Value.int IntKind.i64 (↑b.snd.op : Int), Value.int IntKind.u64 (↑b.snd.set.x0 : Int),
Value.int IntKind.u64 (↑b.snd.set.x1 : Int), Value.int IntKind.u64 (↑b.snd.set.x2 : Int), Value.int IntKind.u64 (↑b.snd.set.x3 : Int), Value.iface 0 (Value.agg #[Value.int IntKind.i64 6, Value.int IntKind.i64
(↑b.snd.kids.length : Int), Value.agg (rxL b.snd.kids).toArray])] 6 true] ∧ K (Value.agg #[Value.int IntKind.i64 (↑b.snd.op : Int), Value.int IntKind.u64 (↑b.snd.set.x0 : Int), Value.int IntKind.u64 (↑b.snd.set.x1 :
Int), Value.int IntKind.u64 (↑b.snd.set.x2 : Int), Value.int IntKind.u64 (↑b.snd.set.x3 : Int), Value.iface 0 (Value.agg #[Value.int IntKind.i64 6, Value.int IntKind.i64 (↑b.snd.kids.length : Int), Value.agg (rxL
b.snd.kids).toArray])]) (hp [Blk.cells [Value.string s, Value.int IntKind.i64 (↑b.fst.a : Int), Value.bool b.fst.b] 3 true])) (FlatD [] (hp [Blk.cells [Value.string s, Value.int IntKind.i64 (wr IntKind.i64 (intV
(Value.int IntKind.i64 (↑{ a := (↑x.fst.a : Int).toNat, b := eqI (↑d : Int) 8 : PS }.a : Int)) + 1)), Value.bool (boolV (Value.bool { a := (↑x.fst.a : Int).toNat, b := eqI (↑d : Int) 8 : PS }.b))] 3 true, Blk.cells
[Value.int IntKind.i64 0, Value.int IntKind.u64 0, Value.int IntKind.u64 0, Value.int IntKind.u64 0, Value.int IntKind.u64 0, Value.slice none 0 0] 6 true, Blk.cells [Value.int IntKind.i64 1, Value.int IntKind.u64 0,
Value.int IntKind.u64 0, Value.int IntKind.u64 0, Value.int IntKind.u64 0, Value.iface 0 (Value.agg #[Value.int IntKind.i64 6, Value.int IntKind.i64 0, Value.agg #[]])] 6 true]) ∧ ∃ (b : PS × Rx), tmps 78 [(4,
Value.pointer (some { block := 1, off := 0 : Addr })), (5, Value.pointer (some { block := 2, off := 0 : Addr }))] = tmps 78 [(4, Value.pointer (some { block := 1, off := 0 : Addr })), (5, Value.pointer (some
{ block := 2, off := 0 : Addr }))] ∧ hp [Blk.cells [Value.string s, Value.int IntKind.i64 (wr IntKind.i64 (intV (Value.int IntKind.i64 (↑{ a := (↑x.fst.a : Int).toNat, b := eqI (↑d : Int) 8 : PS }.a : Int)) + 1)),
Value.bool (boolV (Value.bool { a := (↑x.fst.a : Int).toNat, b := eqI (↑d : Int) 8 : PS }.b))] 3 true, Blk.cells [Value.int IntKind.i64 0, Value.int IntKind.u64 0, Value.int IntKind.u64 0, Value.int IntKind.u64 0,
Value.int IntKind.u64 0, Value.slice none 0 0] 6 true, Blk.cells [Value.int IntKind.i64 1, Value.int IntKind.u64 0, Value.int IntKind.u64 0, Value.int IntKind.u64 0, Value.int IntKind.u64 0, Value.iface 0 (Value.agg
#[Value.int IntKind.i64 6, Value.int IntKind.i64 0, Value.agg #[]])] 6 true] = hp [Blk.cells [Value.string s, Value.int IntKind.i64 (↑b.fst.a : Int), Value.bool b.fst.b] 3 true, Blk.cells [Value.int IntKind.i64 0,
Value.int IntKind.u64 0, Value.int IntKind.u64 0, Value.int IntKind.u64 0, Value.int IntKind.u64 0, Value.slice none 0 0] 6 true, Blk.cells [Value.int IntKind.i64 (↑b.snd.op : Int), Value.int IntKind.u64 (↑b.snd.set.x0 :
Int), Value.int IntKind.u64 (↑b.snd.set.x1 : Int), Value.int IntKind.u64 (↑b.snd.set.x2 : Int), Value.int IntKind.u64 (↑b.snd.set.x3 : Int), Value.iface 0 (Value.agg #[Value.int IntKind.i64 6, Value.int IntKind.i64
(↑b.snd.kids.length : Int), Value.agg (rxL b.snd.kids).toArray])] 6 true] ∧ K (Value.agg #[Value.int IntKind.i64 (↑b.snd.op : Int), Value.int IntKind.u64 (↑b.snd.set.x0 : Int), Value.int IntKind.u64 (↑b.snd.set.x1 :
Int), Value.int IntKind.u64 (↑b.snd.set.x2 : Int), Value.int IntKind.u64 (↑b.snd.set.x3 : Int), Value.iface 0 (Value.agg #[Value.int IntKind.i64 6, Value.int IntKind.i64 (↑b.snd.kids.length : Int), Value.agg (rxL
b.snd.kids).toArray])]) (hp [Blk.cells [Value.string s, Value.int IntKind.i64 (↑b.fst.a : Int), Value.bool b.fst.b] 3 true]))))) (Alt (eqI (↑x.snd : Int) 91) ((FlatL [Value.string s, Value.int IntKind.i64 (↑x.fst.a :
Int), Value.bool x.fst.b] ∧ True) ∧ (POk s (↑x.fst.a : Int) ∧ RN []) ∧ ∀ (x_1 : PS × S4), x_1 = (clsP s { a := (↑x.fst.a : Int).toNat, b := x.fst.b : PS }, clsS s { a := (↑x.fst.a : Int).toNat, b := x.fst.b : PS }) →
FlatD [] (hp [Blk.cells [Value.string s, Value.int IntKind.i64 (↑x_1.fst.a : Int), Value.bool x_1.fst.b] 3 true, Blk.cells [Value.int IntKind.i64 0, Value.int IntKind.u64 0, Value.int IntKind.u64 0, Value.int IntKind.u64
0, Value.int IntKind.u64 0, Value.slice none 0 0] 6 true, Blk.cells [Value.int IntKind.i64 1, Value.int IntKind.u64 (↑x_1.snd.x0 : Int), Value.int IntKind.u64 (↑x_1.snd.x1 : Int), Value.int IntKind.u64 (↑x_1.snd.x2 :
Int), Value.int IntKind.u64 (↑x_1.snd.x3 : Int), Value.iface 0 (Value.agg #[Value.int IntKind.i64 6, Value.int IntKind.i64 0, Value.agg #[]])] 6 true]) ∧ ∃ (b : PS × Rx), tmps 78 [(4, Value.pointer (some
{ block := 1, off := 0 : Addr })), (5, Value.pointer (some { block := 2, off := 0 : Addr }))] = tmps 78 [(4, Value.pointer (some { block := 1, off := 0 : Addr })), (5, Value.pointer (some
{ block := 2, off := 0 : Addr }))] ∧ hp [Blk.cells [Value.string s, Value.int IntKind.i64 (↑x_1.fst.a : Int), Value.bool x_1.fst.b] 3 true, Blk.cells [Value.int IntKind.i64 0, Value.int IntKind.u64 0, Value.int
IntKind.u64 0, Value.int IntKind.u64 0, Value.int IntKind.u64 0, Value.slice none 0 0] 6 true, Blk.cells [Value.int IntKind.i64 1, Value.int IntKind.u64 (↑x_1.snd.x0 : Int), Value.int IntKind.u64 (↑x_1.snd.x1 : Int),
Value.int IntKind.u64 (↑x_1.snd.x2 : Int), Value.int IntKind.u64 (↑x_1.snd.x3 : Int), Value.iface 0 (Value.agg #[Value.int IntKind.i64 6, Value.int IntKind.i64 0, Value.agg #[]])] 6 true] = hp [Blk.cells [Value.string s,
Value.int IntKind.i64 (↑b.fst.a : Int), Value.bool b.fst.b] 3 true, Blk.cells [Value.int IntKind.i64 0, Value.int IntKind.u64 0, Value.int IntKind.u64 0, Value.int IntKind.u64 0, Value.int IntKind.u64 0, Value.slice none
0 0] 6 true, Blk.cells [Value.int IntKind.i64 (↑b.snd.op : Int), Value.int IntKind.u64 (↑b.snd.set.x0 : Int), Value.int IntKind.u64 (↑b.snd.set.x1 : Int), Value.int IntKind.u64 (↑b.snd.set.x2 : Int), Value.int
IntKind.u64 (↑b.snd.set.x3 : Int), Value.iface 0 (Value.agg #[Value.int IntKind.i64 6, Value.int IntKind.i64 (↑b.snd.kids.length : Int), Value.agg (rxL b.snd.kids).toArray])] 6 true] ∧ K (Value.agg #[Value.int
IntKind.i64 (↑b.snd.op : Int), Value.int IntKind.u64 (↑b.snd.set.x0 : Int), Value.int IntKind.u64 (↑b.snd.set.x1 : Int), Value.int IntKind.u64 (↑b.snd.set.x2 : Int), Value.int IntKind.u64 (↑b.snd.set.x3 : Int),
Value.iface 0 (Value.agg #[Value.int IntKind.i64 6, Value.int IntKind.i64 (↑b.snd.kids.length : Int), Value.agg (rxL b.snd.kids).toArray])]) (hp [Blk.cells [Value.string s, Value.int IntKind.i64 (↑b.fst.a : Int),
Value.bool b.fst.b] 3 true])) (Alt (eqI (↑x.snd : Int) 46) (True ∧ (∃ (S : S4), S.ok ∧ #[Value.int IntKind.u64 (intV (Value.int IntKind.u64 0)), Value.int IntKind.u64 (intV (Value.int IntKind.u64 0)), Value.int
IntKind.u64 (intV (Value.int IntKind.u64 0)), Value.int IntKind.u64 (intV (Value.int IntKind.u64 0))] = #[Value.int IntKind.u64 (↑S.x0 : Int), Value.int IntKind.u64 (↑S.x1 : Int), Value.int IntKind.u64 (↑S.x2 : Int),
Value.int IntKind.u64 (↑S.x3 : Int)]) ∧ FlatD [] (hp [Blk.cells [Value.string s, Value.int IntKind.i64 (↑x.fst.a : Int), Value.bool x.fst.b] 3 true, Blk.cells [Value.int IntKind.i64 0, Value.int IntKind.u64 0, Value.int
IntKind.u64 0, Value.int IntKind.u64 0, Value.int IntKind.u64 0, Value.slice none 0 0] 6 true, Blk.cells [Value.int IntKind.i64 1, Value.int IntKind.u64 (↑18446744073709551615 : Int), Value.int IntKind.u64
(↑18446744073709551615 : Int), Value.int IntKind.u64 (↑18446744073709551615 : Int), Value.int IntKind.u64 (↑18446744073709551615 : Int), Value.iface 0 (Value.agg #[Value.int IntKind.i64 6, Value.int IntKind.i64 0,
Value.agg #[]])] 6 true]) ∧ ∃ (b : PS × Rx), tmps 78 [(4, Value.pointer (some { block := 1, off := 0 : Addr })), (5, Value.pointer (some { block := 2, off := 0 : Addr }))] = tmps 78 [(4, Value.pointer (some
{ block := 1, off := 0 : Addr })), (5, Value.pointer (some { block := 2, off := 0 : Addr }))] ∧ hp [Blk.cells [Value.string s, Value.int IntKind.i64 (↑x.fst.a : Int), Value.bool x.fst.b] 3 true, Blk.cells [Value.int
IntKind.i64 0, Value.int IntKind.u64 0, Value.int IntKind.u64 0, Value.int IntKind.u64 0, Value.int IntKind.u64 0, Value.slice none 0 0] 6 true, Blk.cells [Value.int IntKind.i64 1, Value.int IntKind.u64
(↑18446744073709551615 : Int), Value.int IntKind.u64 (↑18446744073709551615 : Int), Value.int IntKind.u64 (↑18446744073709551615 : Int), Value.int IntKind.u64 (↑18446744073709551615 : Int), Value.iface 0 (Value.agg
#[Value.int IntKind.i64 6, Value.int IntKind.i64 0, Value.agg #[]])] 6 true] = hp [Blk.cells [Value.string s, Value.int IntKind.i64 (↑b.fst.a : Int), Value.bool b.fst.b] 3 true, Blk.cells [Value.int IntKind.i64 0,
Value.int IntKind.u64 0, Value.int IntKind.u64 0, Value.int IntKind.u64 0, Value.int IntKind.u64 0, Value.slice none 0 0] 6 true, Blk.cells [Value.int IntKind.i64 (↑b.snd.op : Int), Value.int IntKind.u64 (↑b.snd.set.x0 :
Int), Value.int IntKind.u64 (↑b.snd.set.x1 : Int), Value.int IntKind.u64 (↑b.snd.set.x2 : Int), Value.int IntKind.u64 (↑b.snd.set.x3 : Int), Value.iface 0 (Value.agg #[Value.int IntKind.i64 6, Value.int IntKind.i64
(↑b.snd.kids.length : Int), Value.agg (rxL b.snd.kids).toArray])] 6 true] ∧ K (Value.agg #[Value.int IntKind.i64 (↑b.snd.op : Int), Value.int IntKind.u64 (↑b.snd.set.x0 : Int), Value.int IntKind.u64 (↑b.snd.set.x1 :
Int), Value.int IntKind.u64 (↑b.snd.set.x2 : Int), Value.int IntKind.u64 (↑b.snd.set.x3 : Int), Value.iface 0 (Value.agg #[Value.int IntKind.i64 6, Value.int IntKind.i64 (↑b.snd.kids.length : Int), Value.agg (rxL
b.snd.kids).toArray])]) (hp [Blk.cells [Value.string s, Value.int IntKind.i64 (↑b.fst.a : Int), Value.bool b.fst.b] 3 true])) (Alt (eqI (↑x.snd : Int) 92) ((FlatL [Value.string s, Value.int IntKind.i64 (↑x.fst.a : Int),
Value.bool x.fst.b] ∧ True) ∧ (POk s (↑x.fst.a : Int) ∧ RN []) ∧ ∀ (x_1 : PS × Nat), x_1 = (sgF s { a := (↑x.fst.a : Int).toNat, b := x.fst.b : PS }, byV s { a := (↑x.fst.a : Int).toNat, b := x.fst.b : PS }) → (FlatL
[Value.int IntKind.i64 1, Value.int IntKind.u64 0, Value.int IntKind.u64 0, Value.int IntKind.u64 0, Value.int IntKind.u64 0, Value.slice none 0 0] ∧ True) ∧ AddOk 0 0 0 0 (↑x_1.snd : Int) ∧ FlatD [] (hp [Blk.cells
[Value.string s, Value.int IntKind.i64 (↑x_1.fst.a : Int), Value.bool x_1.fst.b] 3 true, Blk.cells [Value.int IntKind.i64 0, Value.int IntKind.u64 0, Value.int IntKind.u64 0, Value.int IntKind.u64 0, Value.int
IntKind.u64 0, Value.slice none 0 0] 6 true, Blk.cells [Value.int IntKind.i64 1, Value.int IntKind.u64 (↑(addS { x0 := 0, x1 := 0, x2 := 0, x3 := 0 : S4 } (↑x_1.snd : Int).toNat).x0 : Int), Value.int IntKind.u64 (↑(addS
{ x0 := 0, x1 := 0, x2 := 0, x3 := 0 : S4 } (↑x_1.snd : Int).toNat).x1 : Int), Value.int IntKind.u64 (↑(addS { x0 := 0, x1 := 0, x2 := 0, x3 := 0 : S4 } (↑x_1.snd : Int).toNat).x2 : Int), Value.int IntKind.u64 (↑(addS
{ x0 := 0, x1 := 0, x2 := 0, x3 := 0 : S4 } (↑x_1.snd : Int).toNat).x3 : Int), Value.iface 0 (Value.agg #[Value.int IntKind.i64 6, Value.int IntKind.i64 0, Value.agg #[]])] 6 true]) ∧ ∃ (b : PS × Rx), tmps 78 [(4,
Value.pointer (some { block := 1, off := 0 : Addr })), (5, Value.pointer (some { block := 2, off := 0 : Addr }))] = tmps 78 [(4, Value.pointer (some { block := 1, off := 0 : Addr })), (5, Value.pointer (some
{ block := 2, off := 0 : Addr }))] ∧ hp [Blk.cells [Value.string s, Value.int IntKind.i64 (↑x_1.fst.a : Int), Value.bool x_1.fst.b] 3 true, Blk.cells [Value.int IntKind.i64 0, Value.int IntKind.u64 0, Value.int
IntKind.u64 0, Value.int IntKind.u64 0, Value.int IntKind.u64 0, Value.slice none 0 0] 6 true, Blk.cells [Value.int IntKind.i64 1, Value.int IntKind.u64 (↑(addS { x0 := 0, x1 := 0, x2 := 0, x3 := 0 : S4 } (↑x_1.snd :
Int).toNat).x0 : Int), Value.int IntKind.u64 (↑(addS { x0 := 0, x1 := 0, x2 := 0, x3 := 0 : S4 } (↑x_1.snd : Int).toNat).x1 : Int), Value.int IntKind.u64 (↑(addS { x0 := 0, x1 := 0, x2 := 0, x3 := 0 : S4 } (↑x_1.snd :
Int).toNat).x2 : Int), Value.int IntKind.u64 (↑(addS { x0 := 0, x1 := 0, x2 := 0, x3 := 0 : S4 } (↑x_1.snd : Int).toNat).x3 : Int), Value.iface 0 (Value.agg #[Value.int IntKind.i64 6, Value.int IntKind.i64 0, Value.agg
#[]])] 6 true] = hp [Blk.cells [Value.string s, Value.int IntKind.i64 (↑b.fst.a : Int), Value.bool b.fst.b] 3 true, Blk.cells [Value.int IntKind.i64 0, Value.int IntKind.u64 0, Value.int IntKind.u64 0, Value.int
IntKind.u64 0, Value.int IntKind.u64 0, Value.slice none 0 0] 6 true, Blk.cells [Value.int IntKind.i64 (↑b.snd.op : Int), Value.int IntKind.u64 (↑b.snd.set.x0 : Int), Value.int IntKind.u64 (↑b.snd.set.x1 : Int),
Value.int IntKind.u64 (↑b.snd.set.x2 : Int), Value.int IntKind.u64 (↑b.snd.set.x3 : Int), Value.iface 0 (Value.agg #[Value.int IntKind.i64 6, Value.int IntKind.i64 (↑b.snd.kids.length : Int), Value.agg (rxL
b.snd.kids).toArray])] 6 true] ∧ K (Value.agg #[Value.int IntKind.i64 (↑b.snd.op : Int), Value.int IntKind.u64 (↑b.snd.set.x0 : Int), Value.int IntKind.u64 (↑b.snd.set.x1 : Int), Value.int IntKind.u64 (↑b.snd.set.x2 :
Int), Value.int IntKind.u64 (↑b.snd.set.x3 : Int), Value.iface 0 (Value.agg #[Value.int IntKind.i64 6, Value.int IntKind.i64 (↑b.snd.kids.length : Int), Value.agg (rxL b.snd.kids).toArray])]) (hp [Blk.cells [Value.string
s, Value.int IntKind.i64 (↑b.fst.a : Int), Value.bool b.fst.b] 3 true])) (Alt (boolV (Value.bool x.fst.b)) ((FlatL [Value.int IntKind.i64 1, Value.int IntKind.u64 0, Value.int IntKind.u64 0, Value.int IntKind.u64 0,
Value.int IntKind.u64 0, Value.slice none 0 0] ∧ True) ∧ AddOk 0 0 0 0 (↑x.snd : Int) ∧ FlatD [] (hp [Blk.cells [Value.string s, Value.int IntKind.i64 (↑x.fst.a : Int), Value.bool true] 3 true, Blk.cells [Value.int
IntKind.i64 0, Value.int IntKind.u64 0, Value.int IntKind.u64 0, Value.int IntKind.u64 0, Value.int IntKind.u64 0, Value.slice none 0 0] 6 true, Blk.cells [Value.int IntKind.i64 1, Value.int IntKind.u64 (↑(addS
{ x0 := 0, x1 := 0, x2 := 0, x3 := 0 : S4 } (↑x.snd : Int).toNat).x0 : Int), Value.int IntKind.u64 (↑(addS { x0 := 0, x1 := 0, x2 := 0, x3 := 0 : S4 } (↑x.snd : Int).toNat).x1 : Int), Value.int IntKind.u64 (↑(addS
{ x0 := 0, x1 := 0, x2 := 0, x3 := 0 : S4 } (↑x.snd : Int).toNat).x2 : Int), Value.int IntKind.u64 (↑(addS { x0 := 0, x1 := 0, x2 := 0, x3 := 0 : S4 } (↑x.snd : Int).toNat).x3 : Int), Value.iface 0 (Value.agg #[Value.int
IntKind.i64 6, Value.int IntKind.i64 0, Value.agg #[]])] 6 true]) ∧ ∃ (b : PS × Rx), tmps 78 [(4, Value.pointer (some { block := 1, off := 0 : Addr })), (5, Value.pointer (some { block := 2, off := 0 : Addr }))] = tmps
78 [(4, Value.pointer (some { block := 1, off := 0 : Addr })), (5, Value.pointer (some { block := 2, off := 0 : Addr }))] ∧ hp [Blk.cells [Value.string s, Value.int IntKind.i64 (↑x.fst.a : Int), Value.bool true] 3 true,
Blk.cells [Value.int IntKind.i64 0, Value.int IntKind.u64 0, Value.int IntKind.u64 0, Value.int IntKind.u64 0, Value.int IntKind.u64 0, Value.slice none 0 0] 6 true, Blk.cells [Value.int IntKind.i64 1, Value.int
IntKind.u64 (↑(addS { x0 := 0, x1 := 0, x2 := 0, x3 := 0 : S4 } (↑x.snd : Int).toNat).x0 : Int), Value.int IntKind.u64 (↑(addS { x0 := 0, x1 := 0, x2 := 0, x3 := 0 : S4 } (↑x.snd : Int).toNat).x1 : Int), Value.int
IntKind.u64 (↑(addS { x0 := 0, x1 := 0, x2 := 0, x3 := 0 : S4 } (↑x.snd : Int).toNat).x2 : Int), Value.int IntKind.u64 (↑(addS { x0 := 0, x1 := 0, x2 := 0, x3 := 0 : S4 } (↑x.snd : Int).toNat).x3 : Int), Value.iface 0
(Value.agg #[Value.int IntKind.i64 6, Value.int IntKind.i64 0, Value.agg #[]])] 6 true] = hp [Blk.cells [Value.string s, Value.int IntKind.i64 (↑b.fst.a : Int), Value.bool b.fst.b] 3 true, Blk.cells [Value.int
IntKind.i64 0, Value.int IntKind.u64 0, Value.int IntKind.u64 0, Value.int IntKind.u64 0, Value.int IntKind.u64 0, Value.slice none 0 0] 6 true, Blk.cells [Value.int IntKind.i64 (↑b.snd.op : Int), Value.int IntKind.u64
(↑b.snd.set.x0 : Int), Value.int IntKind.u64 (↑b.snd.set.x1 : Int), Value.int IntKind.u64 (↑b.snd.set.x2 : Int), Value.int IntKind.u64 (↑b.snd.set.x3 : Int), Value.iface 0 (Value.agg #[Value.int IntKind.i64 6, Value.int
IntKind.i64 (↑b.snd.kids.length : Int), Value.agg (rxL b.snd.kids).toArray])] 6 true] ∧ K (Value.agg #[Value.int IntKind.i64 (↑b.snd.op : Int), Value.int IntKind.u64 (↑b.snd.set.x0 : Int), Value.int IntKind.u64
(↑b.snd.set.x1 : Int), Value.int IntKind.u64 (↑b.snd.set.x2 : Int), Value.int IntKind.u64 (↑b.snd.set.x3 : Int), Value.iface 0 (Value.agg #[Value.int IntKind.i64 6, Value.int IntKind.i64 (↑b.snd.kids.length : Int),
Value.agg (rxL b.snd.kids).toArray])]) (hp [Blk.cells [Value.string s, Value.int IntKind.i64 (↑b.fst.a : Int), Value.bool b.fst.b] 3 true])) ((FlatL [Value.int IntKind.i64 1, Value.int IntKind.u64 0, Value.int
IntKind.u64 0, Value.int IntKind.u64 0, Value.int IntKind.u64 0, Value.slice none 0 0] ∧ True) ∧ AddOk 0 0 0 0 (↑x.snd : Int) ∧ FlatD [] (hp [Blk.cells [Value.string s, Value.int IntKind.i64 (↑x.fst.a : Int), Value.bool
(leI 0 (idxF { data := #[OfNat.ofNat 42, OfNat.ofNat 43, OfNat.ofNat 63, OfNat.ofNat 93] : ByteArray } (↑x.snd : Int)))] 3 true, Blk.cells [Value.int IntKind.i64 0, Value.int IntKind.u64 0, Value.int IntKind.u64 0,
Value.int IntKind.u64 0, Value.int IntKind.u64 0, Value.slice none 0 0] 6 true, Blk.cells [Value.int IntKind.i64 1, Value.int IntKind.u64 (↑(addS { x0 := 0, x1 := 0, x2 := 0, x3 := 0 : S4 } (↑x.snd : Int).toNat).x0 :
Int), Value.int IntKind.u64 (↑(addS { x0 := 0, x1 := 0, x2 := 0, x3 := 0 : S4 } (↑x.snd : Int).toNat).x1 : Int), Value.int IntKind.u64 (↑(addS { x0 := 0, x1 := 0, x2 := 0, x3 := 0 : S4 } (↑x.snd : Int).toNat).x2 : Int),
Value.int IntKind.u64 (↑(addS { x0 := 0, x1 := 0, x2 := 0, x3 := 0 : S4 } (↑x.snd : Int).toNat).x3 : Int), Value.iface 0 (Value.agg #[Value.int IntKind.i64 6, Value.int IntKind.i64 0, Value.agg #[]])] 6 true]) ∧ ∃ (b :
PS × Rx), tmps 78 [(4, Value.pointer (some { block := 1, off := 0 : Addr })), (5, Value.pointer (some { block := 2, off := 0 : Addr }))] = tmps 78 [(4, Value.pointer (some { block := 1, off := 0 : Addr })), (5,
Value.pointer (some { block := 2, off := 0 : Addr }))] ∧ hp [Blk.cells [Value.string s, Value.int IntKind.i64 (↑x.fst.a : Int), Value.bool (leI 0 (idxF
{ data := #[OfNat.ofNat 42, OfNat.ofNat 43, OfNat.ofNat 63, OfNat.ofNat 93] : ByteArray } (↑x.snd : Int)))] 3 true, Blk.cells [Value.int IntKind.i64 0, Value.int IntKind.u64 0, Value.int IntKind.u64 0, Value.int
IntKind.u64 0, Value.int IntKind.u64 0, Value.slice none 0 0] 6 true, Blk.cells [Value.int IntKind.i64 1, Value.int IntKind.u64 (↑(addS { x0 := 0, x1 := 0, x2 := 0, x3 := 0 : S4 } (↑x.snd : Int).toNat).x0 : Int),
Value.int IntKind.u64 (↑(addS { x0 := 0, x1 := 0, x2 := 0, x3 := 0 : S4 } (↑x.snd : Int).toNat).x1 : Int), Value.int IntKind.u64 (↑(addS { x0 := 0, x1 := 0, x2 := 0, x3 := 0 : S4 } (↑x.snd : Int).toNat).x2 : Int),
Value.int IntKind.u64 (↑(addS { x0 := 0, x1 := 0, x2 := 0, x3 := 0 : S4 } (↑x.snd : Int).toNat).x3 : Int), Value.iface 0 (Value.agg #[Value.int IntKind.i64 6, Value.int IntKind.i64 0, Value.agg #[]])] 6 true] = hp
[Blk.cells [Value.string s, Value.int IntKind.i64 (↑b.fst.a : Int), Value.bool b.fst.b] 3 true, Blk.cells [Value.int IntKind.i64 0, Value.int IntKind.u64 0, Value.int IntKind.u64 0, Value.int IntKind.u64 0, Value.int
IntKind.u64 0, Value.slice none 0 0] 6 true, Blk.cells [Value.int IntKind.i64 (↑b.snd.op : Int), Value.int IntKind.u64 (↑b.snd.set.x0 : Int), Value.int IntKind.u64 (↑b.snd.set.x1 : Int), Value.int IntKind.u64
(↑b.snd.set.x2 : Int), Value.int IntKind.u64 (↑b.snd.set.x3 : Int), Value.iface 0 (Value.agg #[Value.int IntKind.i64 6, Value.int IntKind.i64 (↑b.snd.kids.length : Int), Value.agg (rxL b.snd.kids).toArray])] 6 true] ∧ K
(Value.agg #[Value.int IntKind.i64 (↑b.snd.op : Int), Value.int IntKind.u64 (↑b.snd.set.x0 : Int), Value.int IntKind.u64 (↑b.snd.set.x1 : Int), Value.int IntKind.u64 (↑b.snd.set.x2 : Int), Value.int IntKind.u64
(↑b.snd.set.x3 : Int), Value.iface 0 (Value.agg #[Value.int IntKind.i64 6, Value.int IntKind.i64 (↑b.snd.kids.length : Int), Value.agg (rxL b.snd.kids).toArray])]) (hp [Blk.cells [Value.string s, Value.int IntKind.i64
(↑b.fst.a : Int), Value.bool b.fst.b] 3 true]))))))) := by kernel_rfl

noncomputable def S541 (hm : Try.prog.follows .mixedOrders = true) (n : Nat) (hn : (atomX n).Holds Try.prog 77) : Book := addI Try.prog [(55, Try.f55, body531)] (bookS [(77, (atomX n).summ hn)] (bookW [(66, seesC)] S539))

theorem r541 (hm : Try.prog.follows .mixedOrders = true) (n : Nat) (hn : (atomX n).Holds Try.prog 77) (s : ByteArray) (a d : Nat) (b : Bool) (K : Value → Heap → Prop) :
  funX Try.prog (S541 hm n hn) noLoop F541 body541 Try.f67 [] [.fz (.tmp 0 [5]) (.sl 6)] [pA, .int .i64 (d : Int)] (pB s a b) K = (
(FlatL [Value.string s, Value.int IntKind.i64 (↑a : Int), Value.bool b] ∧ True) ∧ (POk s (↑a : Int) ∧ WOk s { a := (↑a : Int).toNat, b := b : PS } [Value.int IntKind.i64 (↑d : Int)] (n + 1)) ∧ ∀ (x : PS × Rx), x = atmR
(wysN s n) s (dep [Value.int IntKind.i64 (↑d : Int)]) { a := (↑a : Int).toNat, b := b : PS } → (FlatL [Value.string s, Value.int IntKind.i64 (↑x.fst.a : Int), Value.bool x.fst.b] ∧ True) ∧ (POk s (↑x.fst.a : Int) ∧ RC
[Value.int IntKind.u8 42]) ∧ Alt (!seF s { a := (↑x.fst.a : Int).toNat, b := x.fst.b : PS } 42) ((FlatL [Value.string s, Value.int IntKind.i64 (↑{ a := (↑x.fst.a : Int).toNat, b := x.fst.b : PS }.a : Int), Value.bool
{ a := (↑x.fst.a : Int).toNat, b := x.fst.b : PS }.b] ∧ True) ∧ (POk s (↑{ a := (↑x.fst.a : Int).toNat, b := x.fst.b : PS }.a : Int) ∧ RC [Value.int IntKind.u8 43]) ∧ Alt (!seF s
{ a := (↑{ a := (↑x.fst.a : Int).toNat, b := x.fst.b : PS }.a : Int).toNat, b := { a := (↑x.fst.a : Int).toNat, b := x.fst.b : PS }.b : PS } 43) ((FlatL [Value.string s, Value.int IntKind.i64
(↑{ a := (↑{ a := (↑x.fst.a : Int).toNat, b := x.fst.b : PS }.a : Int).toNat, b := { a := (↑x.fst.a : Int).toNat, b := x.fst.b : PS }.b : PS }.a : Int), Value.bool
{ a := (↑{ a := (↑x.fst.a : Int).toNat, b := x.fst.b : PS }.a : Int).toNat, b := { a := (↑x.fst.a : Int).toNat, b := x.fst.b : PS }.b : PS }.b] ∧ True) ∧ (POk s
(↑{ a := (↑{ a := (↑x.fst.a : Int).toNat, b := x.fst.b : PS }.a : Int).toNat, b := { a := (↑x.fst.a : Int).toNat, b := x.fst.b : PS }.b : PS }.a : Int) ∧ RC [Value.int IntKind.u8 63]) ∧ Alt (!seF s
{ a := (↑{ a := (↑{ a := (↑x.fst.a : Int).toNat, b := x.fst.b : PS }.a : Int).toNat, b := { a := (↑x.fst.a : Int).toNat, b := x.fst.b : PS }.b : PS }.a : Int).toNat, b := { a := (↑{ a := (↑x.fst.a : Int).toNat, b := x.fst.b : PS }.a : Int).toNat, b := { a := (↑x.fst.a : Int).toNat, b := x.fst.b : PS }.b : PS }.b : PS }
63) (K (Value.agg #[Value.int IntKind.i64 (intV (Value.int IntKind.i64 (↑x.snd.op : Int))), Value.int IntKind.u64 (intV (Value.int IntKind.u64 (↑x.snd.set.x0 : Int))), Value.int IntKind.u64 (intV (Value.int IntKind.u64
(↑x.snd.set.x1 : Int))), Value.int IntKind.u64 (intV (Value.int IntKind.u64 (↑x.snd.set.x2 : Int))), Value.int IntKind.u64 (intV (Value.int IntKind.u64 (↑x.snd.set.x3 : Int))), Value.iface 0 (Value.agg #[Value.int
IntKind.i64 6, Value.int IntKind.i64 (↑x.snd.kids.length : Int), Value.agg (rxL x.snd.kids).toArray])]) (hp [Blk.cells [Value.string s, Value.int IntKind.i64
(↑{ a := (↑{ a := (↑{ a := (↑x.fst.a : Int).toNat, b := x.fst.b : PS }.a : Int).toNat, b := { a := (↑x.fst.a : Int).toNat, b := x.fst.b : PS }.b : PS }.a : Int).toNat, b := { a := (↑{ a := (↑x.fst.a : Int).toNat, b := x.fst.b : PS }.a : Int).toNat, b := { a := (↑x.fst.a : Int).toNat, b := x.fst.b : PS }.b : PS }.b : PS }.a
: Int), Value.bool
{ a := (↑{ a := (↑{ a := (↑x.fst.a : Int).toNat, b := x.fst.b : PS }.a : Int).toNat, b := { a := (↑x.fst.a : Int).toNat, b := x.fst.b : PS }.b : PS }.a : Int).toNat, b := { a := (↑{ a := (↑x.fst.a : Int).toNat, b := x.fst.b : PS }.a : Int).toNat, b := { a := (↑x.fst.a : Int).toNat, b := x.fst.b : PS }.b : PS }.b : PS }.b]
3 true])) (FlatL [Value.int IntKind.i64 (intV (Value.int IntKind.i64 (↑x.snd.op : Int))), Value.int IntKind.u64 (intV (Value.int IntKind.u64 (↑x.snd.set.x0 : Int))), Value.int IntKind.u64 (intV (Value.int IntKind.u64
(↑x.snd.set.x1 : Int))), Value.int IntKind.u64 (intV (Value.int IntKind.u64 (↑x.snd.set.x2 : Int))), Value.int IntKind.u64 (intV (Value.int IntKind.u64 (↑x.snd.set.x3 : Int))), Value.iface 0 (Value.agg #[Value.int
IntKind.i64 6, Value.int IntKind.i64 (↑x.snd.kids.length : Int), Value.agg (rxL x.snd.kids).toArray])] ∧ K (Value.agg #[Value.int IntKind.i64 6, Value.int IntKind.u64 0, Value.int IntKind.u64 0, Value.int IntKind.u64 0,
Value.int IntKind.u64 0, Value.iface 0 (Value.agg #[Value.int IntKind.i64 6, Value.int IntKind.i64 1, Value.agg #[Value.int IntKind.i64 (intV (Value.int IntKind.i64 (↑x.snd.op : Int))), Value.int IntKind.u64 (intV
(Value.int IntKind.u64 (↑x.snd.set.x0 : Int))), Value.int IntKind.u64 (intV (Value.int IntKind.u64 (↑x.snd.set.x1 : Int))), Value.int IntKind.u64 (intV (Value.int IntKind.u64 (↑x.snd.set.x2 : Int))), Value.int
IntKind.u64 (intV (Value.int IntKind.u64 (↑x.snd.set.x3 : Int))), Value.iface 0 (Value.agg #[Value.int IntKind.i64 6, Value.int IntKind.i64 (↑x.snd.kids.length : Int), Value.agg (rxL x.snd.kids).toArray])]])]) (hp
[Blk.cells [Value.string s, Value.int IntKind.i64 (wr IntKind.i64 (intV (Value.int IntKind.i64
(↑{ a := (↑{ a := (↑{ a := (↑x.fst.a : Int).toNat, b := x.fst.b : PS }.a : Int).toNat, b := { a := (↑x.fst.a : Int).toNat, b := x.fst.b : PS }.b : PS }.a : Int).toNat, b := { a := (↑{ a := (↑x.fst.a : Int).toNat, b := x.fst.b : PS }.a : Int).toNat, b := { a := (↑x.fst.a : Int).toNat, b := x.fst.b : PS }.b : PS }.b : PS }.a
: Int)) + 1)), Value.bool
{ a := (↑{ a := (↑{ a := (↑x.fst.a : Int).toNat, b := x.fst.b : PS }.a : Int).toNat, b := { a := (↑x.fst.a : Int).toNat, b := x.fst.b : PS }.b : PS }.a : Int).toNat, b := { a := (↑{ a := (↑x.fst.a : Int).toNat, b := x.fst.b : PS }.a : Int).toNat, b := { a := (↑x.fst.a : Int).toNat, b := x.fst.b : PS }.b : PS }.b : PS }.b]
3 true]))) (FlatL [Value.int IntKind.i64 (intV (Value.int IntKind.i64 (↑x.snd.op : Int))), Value.int IntKind.u64 (intV (Value.int IntKind.u64 (↑x.snd.set.x0 : Int))), Value.int IntKind.u64 (intV (Value.int IntKind.u64
(↑x.snd.set.x1 : Int))), Value.int IntKind.u64 (intV (Value.int IntKind.u64 (↑x.snd.set.x2 : Int))), Value.int IntKind.u64 (intV (Value.int IntKind.u64 (↑x.snd.set.x3 : Int))), Value.iface 0 (Value.agg #[Value.int
IntKind.i64 6, Value.int IntKind.i64 (↑x.snd.kids.length : Int), Value.agg (rxL x.snd.kids).toArray])] ∧ K (Value.agg #[Value.int IntKind.i64 5, Value.int IntKind.u64 0, Value.int IntKind.u64 0, Value.int IntKind.u64 0,
Value.int IntKind.u64 0, Value.iface 0 (Value.agg #[Value.int IntKind.i64 6, Value.int IntKind.i64 1, Value.agg #[Value.int IntKind.i64 (intV (Value.int IntKind.i64 (↑x.snd.op : Int))), Value.int IntKind.u64 (intV
(Value.int IntKind.u64 (↑x.snd.set.x0 : Int))), Value.int IntKind.u64 (intV (Value.int IntKind.u64 (↑x.snd.set.x1 : Int))), Value.int IntKind.u64 (intV (Value.int IntKind.u64 (↑x.snd.set.x2 : Int))), Value.int
IntKind.u64 (intV (Value.int IntKind.u64 (↑x.snd.set.x3 : Int))), Value.iface 0 (Value.agg #[Value.int IntKind.i64 6, Value.int IntKind.i64 (↑x.snd.kids.length : Int), Value.agg (rxL x.snd.kids).toArray])]])]) (hp
[Blk.cells [Value.string s, Value.int IntKind.i64 (wr IntKind.i64 (intV (Value.int IntKind.i64
(↑{ a := (↑{ a := (↑x.fst.a : Int).toNat, b := x.fst.b : PS }.a : Int).toNat, b := { a := (↑x.fst.a : Int).toNat, b := x.fst.b : PS }.b : PS }.a : Int)) + 1)), Value.bool
{ a := (↑{ a := (↑x.fst.a : Int).toNat, b := x.fst.b : PS }.a : Int).toNat, b := { a := (↑x.fst.a : Int).toNat, b := x.fst.b : PS }.b : PS }.b] 3 true]))) (FlatL [Value.int IntKind.i64 (intV (Value.int IntKind.i64
(↑x.snd.op : Int))), Value.int IntKind.u64 (intV (Value.int IntKind.u64 (↑x.snd.set.x0 : Int))), Value.int IntKind.u64 (intV (Value.int IntKind.u64 (↑x.snd.set.x1 : Int))), Value.int IntKind.u64 (intV (Value.int
IntKind.u64 (↑x.snd.set.x2 : Int))), Value.int IntKind.u64 (intV (Value.int IntKind.u64 (↑x.snd.set.x3 : Int))), Value.iface 0 (Value.agg #[Value.int IntKind.i64 6, Value.int IntKind.i64 (↑x.snd.kids.length : Int),
Value.agg (rxL x.snd.kids).toArray])] ∧ K (Value.agg #[Value.int IntKind.i64 4, Value.int IntKind.u64 0, Value.int IntKind.u64 0, Value.int IntKind.u64 0, Value.int IntKind.u64 0, Value.iface 0 (Value.agg #[Value.int
IntKind.i64 6, Value.int IntKind.i64 1, Value.agg #[Value.int IntKind.i64 (intV (Value.int IntKind.i64 (↑x.snd.op : Int))), Value.int IntKind.u64 (intV (Value.int IntKind.u64 (↑x.snd.set.x0 : Int))), Value.int
IntKind.u64 (intV (Value.int IntKind.u64 (↑x.snd.set.x1 : Int))), Value.int IntKind.u64 (intV (Value.int IntKind.u64 (↑x.snd.set.x2 : Int))), Value.int IntKind.u64 (intV (Value.int IntKind.u64 (↑x.snd.set.x3 : Int))),
Value.iface 0 (Value.agg #[Value.int IntKind.i64 6, Value.int IntKind.i64 (↑x.snd.kids.length : Int), Value.agg (rxL x.snd.kids).toArray])]])]) (hp [Blk.cells [Value.string s, Value.int IntKind.i64 (wr IntKind.i64 (intV
(Value.int IntKind.i64 (↑{ a := (↑x.fst.a : Int).toNat, b := x.fst.b : PS }.a : Int)) + 1)), Value.bool { a := (↑x.fst.a : Int).toNat, b := x.fst.b : PS }.b] 3 true]))) := by kernel_rfl

end Go.Proofs.Ytfgiifppapopnaa

namespace Go.Proofs.Ytfgiifppapopnaa
open Go.RowKit Go.Proofs.Ytfgiifppapopnaa.AM
set_option maxRecDepth 100000
set_option maxHeartbeats 4000000
theorem rxB_flat (x : Rx) : FlatL (rxB x) := ⟨fun v hv => by
  simp only [rxB, List.mem_cons, List.not_mem_nil, or_false] at hv
  rcases hv with rfl | rfl | rfl | rfl | rfl | rfl <;> rfl⟩
theorem nilB_flat (o : Int) : FlatL [.int .i64 o, .int .u64 0, .int .u64 0, .int .u64 0, .int .u64 0, .slice none 0 0] := ⟨fun v hv => by
  simp only [List.mem_cons, List.not_mem_nil, or_false] at hv
  rcases hv with rfl | rfl | rfl | rfl | rfl | rfl <;> rfl⟩
theorem H546_D (s : ByteArray) (p : PS) (x : Rx) : FlatD [] (hp [psB s p, .cells [.int .i64 0, .int .u64 0, .int .u64 0, .int .u64 0, .int .u64 0, .slice none 0 0] 6 true, .cells (rxB x) 6 true]) := FlatD.hp ⟨pB_flat _ _ _, nilB_flat _, rxB_flat x, trivial⟩
theorem byF_nb {s : ByteArray} {p : PS} (h : (byF s p).b = false) : (byF s p).a = p.a + 1 ∧ p.a < s.size ∧ p.b = false := by
  cases ho : ovF s p with
  | true => unfold byF at h; rw [ho] at h; cases h
  | false =>
    rw [(byF_no ho).1] at h ⊢
    simp only [ovF, Bool.or_eq_false_iff, decide_eq_false_iff_not] at ho
    exact ⟨rfl, by omega, ho.1⟩
theorem wr_dep {d : Nat} (h : d ≤ 8) : wr .i64 ((d : Int) + 1) = ((d + 1 : Nat) : Int) := nx d (by omega)
section
variable (hm : Try.prog.follows .mixedOrders = true)
include hm
theorem sure546 (n : Nat) (hn : (waysX n).Holds Try.prog 41) : Sure Try.prog (S546 hm n hn) := Sure.addI (Sure.withS ⟨hm, plain, bookW_ok (bookOf_ok (l := [(93, turnedC)]) ⟨turned_says hm, trivial⟩) (l := [(66, seesC), (94, add6C)]) ⟨sees_says hm, add6_says hm, trivial⟩⟩ (l := [(41, (waysX n).summ hn), (92, clsX.summ (clsX_says hm)), (95, signX.summ (signX_says hm)), (91, byteX.summ (byteX_says hm)), (117, ixbS)]) ⟨(waysX n).sum_ok _, clsX.sum_ok _, signX.sum_ok _, byteX.sum_ok _, ixb_ok, trivial⟩) ⟨⟨Try.func55, rfl⟩, ⟨Try.func96, rfl⟩, ⟨Try.func111, rfl⟩, trivial⟩
theorem end546 (n : Nat) (hn : (waysX n).Holds Try.prog 41) (s : ByteArray) : Loops Try.prog body546 1 (cutE [cut546 s]) := Loops.noneE.moreE _ fun x K hq => by
  obtain ⟨p, x⟩ := x
  refine (sure546 hm n hn).cutN F546 noLoops [] [] [] [] [] ?_
  show roundX Try.prog (S546 hm n hn) noLoop F546 body546 1 [] [] [] [] [] [1, 1, 1] (tmps 78 [(4, p1), (5, p2)]) (hp [psB s p, .cells [.int .i64 0, .int .u64 0, .int .u64 0, .int .u64 0, .int .u64 0, .slice none 0 0] 6 true, .cells (rxB x) 6 true]) _
  rw [r546e]
  exact ⟨FlatD.hp ⟨pB_flat _ _ _, rxB_flat x, trivial⟩, hq⟩
theorem atomX_says (n : Nat) (hn : (waysX n).Holds Try.prog 41) : (atomX n).Holds Try.prog 77 := by
  refine pX_holds ?_
  rintro s a b r ha hs ⟨⟨d, hd⟩, hf, hb⟩
  refine (sure546 hm n hn).funX F546 body546 [] [] Try.func77 rfl ((end546 hm n hn s).gcX (at0 []) (at0 [.fz (.cell 5 5 []) (.sl 6)])) ?_
  rw [r546]
  refine ⟨⟨pB_flat _ _ _, trivial⟩, ⟨⟨by omega, by omega, hs⟩, ⟨⟩⟩, ?_⟩
  rintro x hx
  simp only [Int.toNat_natCast] at hx
  subst hx
  have hdd : dep [.int .i64 (d : Int)] = d := Int.toNat_natCast d
  simp only [hdd]
  simp only at hf hb
  have hv := byV_lt s ⟨a, b⟩
  have hq := byF_le s ⟨a, b⟩ ha
  have hnb := byF_nb (s := s) (p := ⟨a, b⟩)
  unfold atmR
  generalize byF s ⟨a, b⟩ = q at *
  generalize byV s ⟨a, b⟩ = v at *
  obtain ⟨qa, qb⟩ := q
  simp only at hq hnb
  have n0 : (nilS : S4) = ⟨0, 0, 0, 0⟩ := rfl
  have v8 : AddOk 0 0 0 0 (v : Int) := ⟨by decide, by decide, by decide, by decide, by omega⟩
  by_cases h40 : v = 40
  · subst h40
    rw [if_pos rfl]
    cases qb with
    | true =>
      have hW : atmP (wysN s n) s d ⟨qa, true⟩ = (⟨qa, true⟩, leafT nilS) := rfl
      rw [hW]
      have h41 : seF s ⟨qa, true⟩ 41 = false := rfl
      simp only [h41, nxF_f h41]
      refine ⟨⟨pB_flat _ _ _, trivial⟩, ⟨⟨by first | omega | (simp only; omega), by first | omega | (simp only; omega), hs⟩, ⟨41⟩⟩, ?_⟩
      exact ⟨H546_D s ⟨qa, true⟩ (leafT nilS), (⟨qa, true⟩, leafT nilS), by first | exact trivial | exact rfl, by first | exact trivial | exact rfl, pB_D _ _ _, by first | exact trivial | exact rfl, by first | exact trivial | exact rfl, by first | exact trivial | exact rfl⟩
    | false =>
      obtain ⟨e1, e2, e3⟩ := hnb rfl
      try simp only at e1 e2 e3
      by_cases h8 : d = 8
      · subst h8
        have hW : atmP (wysN s n) s 8 ⟨qa, false⟩ = (⟨qa, true⟩, leafT nilS) := rfl
        rw [hW]
        have h41 : seF s ⟨qa, true⟩ 41 = false := rfl
        have hx := nxF_f h41
        simp only [h41, hx]
        have h8 : eqI ((8 : Nat) : Int) 8 = true := rfl
        try simp only [h8]
        refine ⟨⟨pB_flat _ _ _, trivial⟩, ⟨⟨by first | omega | (simp only; omega), by first | omega | (simp only; omega), hs⟩, ⟨41⟩⟩, ?_⟩
        simp only [h41, Int.toNat_natCast]
        exact ⟨H546_D s ⟨qa, true⟩ (leafT nilS), (⟨qa, true⟩, leafT nilS), by first | exact trivial | exact rfl, by first | exact trivial | exact rfl, pB_D _ _ _, by first | exact trivial | exact rfl, by first | exact trivial | exact rfl, by first | exact trivial | exact rfl⟩
      · have h8' : eqI (d : Int) 8 = false := by rw [eqI_eq, decide_eq_false]; omega
        have hW : atmP (wysN s n) s d ⟨qa, false⟩ = wysN s n (d + 1) ⟨qa, false⟩ := by
          unfold atmP
          rw [if_neg]
          simp [h8]
        rw [hW]
        simp only [h8', wr_dep hd]
        have hsz := hb e3
        refine ⟨⟨pB_flat _ _ _, trivial⟩, ⟨⟨by first | omega | (simp only; omega), by first | omega | (simp only; omega), hs⟩, ⟨⟨d + 1, by omega⟩, by simp only [Int.toNat_natCast]; omega, fun _ => hsz⟩⟩, ?_⟩
        rintro x hx
        have hdd : dep [.int .i64 ((d + 1 : Nat) : Int)] = d + 1 := Int.toNat_natCast _
        simp only [Int.toNat_natCast, hdd] at hx
        subst hx
        have hgo := wysN_goes s n (d + 1) ⟨qa, false⟩ hq.2
        generalize wysN s n (d + 1) ⟨qa, false⟩ = y at *
        obtain ⟨⟨ya, yb⟩, y⟩ := y
        have g1 := hgo.le
        have g2 := hgo.sz
        simp only at g1 g2
        refine ⟨⟨pB_flat _ _ _, trivial⟩, ⟨⟨by first | omega | (simp only; omega), by first | omega | (simp only; omega), hs⟩, ⟨41⟩⟩, ?_⟩
        simp only [Int.toNat_natCast]
        cases h41 : seF s ⟨ya, yb⟩ 41 with
        | false =>
          simp only [nxF_f h41]
          exact ⟨H546_D s ⟨ya, true⟩ y, (⟨ya, true⟩, y), by first | exact trivial | exact rfl, by first | exact trivial | exact rfl, pB_D _ _ _, by first | exact trivial | exact rfl, by first | exact trivial | exact rfl, by first | exact trivial | exact rfl⟩
        | true =>
          have hl := lt_nx h41
          simp only at hl
          obtain ⟨hl, rfl⟩ := hl
          simp only [nxF_t h41, intV, nx ya (by omega)]
          exact ⟨H546_D s ⟨ya + 1, false⟩ y, (⟨ya + 1, false⟩, y), by first | exact trivial | exact rfl, by first | exact trivial | exact rfl, pB_D _ _ _, by first | exact trivial | exact rfl, by first | exact trivial | exact rfl, by first | exact trivial | exact rfl⟩
  have e40 : eqI (v : Int) 40 = false := by rw [eqI_eq, decide_eq_false]; omega
  rw [if_neg h40]
  simp only [e40]
  by_cases h91 : v = 91
  · subst h91
    rw [if_pos rfl]
    refine ⟨⟨pB_flat _ _ _, trivial⟩, ⟨⟨by first | omega | (simp only; omega), by first | omega | (simp only; omega), hs⟩, ⟨⟩⟩, ?_⟩
    rintro x hx
    simp only [Int.toNat_natCast] at hx
    subst hx
    exact ⟨H546_D s _ (leafT (clsS s ⟨qa, qb⟩)), (clsP s ⟨qa, qb⟩, leafT (clsS s ⟨qa, qb⟩)), by first | exact trivial | exact rfl, by first | exact trivial | exact rfl, pB_D _ _ _, by first | exact trivial | exact rfl, by first | exact trivial | exact rfl, by first | exact trivial | exact rfl⟩
  have e91 : eqI (v : Int) 91 = false := by rw [eqI_eq, decide_eq_false]; omega
  rw [if_neg h91]
  simp only [e91]
  by_cases h46 : v = 46
  · subst h46
    rw [if_pos rfl]
    refine ⟨trivial, ⟨nilS, nilS_ok, rfl⟩, ?_⟩
    exact ⟨H546_D s ⟨qa, qb⟩ (leafT (turnS nilS)), (⟨qa, qb⟩, leafT (turnS nilS)), by first | exact trivial | exact rfl, by first | exact trivial | exact rfl, pB_D _ _ _, by first | exact trivial | exact rfl, by first | exact trivial | exact rfl, by first | exact trivial | exact rfl⟩
  have e46 : eqI (v : Int) 46 = false := by rw [eqI_eq, decide_eq_false]; omega
  rw [if_neg h46]
  simp only [e46]
  by_cases h92 : v = 92
  · subst h92
    rw [if_pos rfl]
    refine ⟨⟨pB_flat _ _ _, trivial⟩, ⟨⟨by first | omega | (simp only; omega), by first | omega | (simp only; omega), hs⟩, ⟨⟩⟩, ?_⟩
    rintro x hx
    simp only [Int.toNat_natCast] at hx
    subst hx
    have hw := byV_lt s ⟨qa, qb⟩
    simp only [Int.toNat_natCast]
    generalize byV s ⟨qa, qb⟩ = w at *
    refine ⟨⟨nilB_flat 1, trivial⟩, ⟨by decide, by decide, by decide, by decide, by omega⟩, ?_⟩
    exact ⟨H546_D s _ (leafT (addS nilS w)), (sgF s ⟨qa, qb⟩, leafT (addS nilS w)), by first | exact trivial | exact rfl, by first | exact trivial | exact rfl, pB_D _ _ _, by first | exact trivial | exact rfl, by first | exact trivial | exact rfl, by first | exact trivial | exact rfl⟩
  have e92 : eqI (v : Int) 92 = false := by rw [eqI_eq, decide_eq_false]; omega
  rw [if_neg h92]
  simp only [e92, Int.toNat_natCast]
  have er := rp_idx hv
  cases qb with
  | true =>
    refine ⟨⟨nilB_flat 1, trivial⟩, v8, ?_⟩
    exact ⟨H546_D s ⟨qa, true⟩ (leafT (addS nilS v)), (⟨qa, true⟩, leafT (addS nilS v)), by first | exact trivial | exact rfl, by first | exact trivial | exact rfl, pB_D _ _ _, by first | exact trivial | exact rfl, by first | exact trivial | exact rfl, by first | exact trivial | exact rfl⟩
  | false =>
    refine ⟨⟨nilB_flat 1, trivial⟩, v8, ?_⟩
    have er' : leI 0 (idxF { data := #[OfNat.ofNat 42, OfNat.ofNat 43, OfNat.ofNat 63, OfNat.ofNat 93] : ByteArray } (v : Int)) = isRp v := er
    rw [er']
    exact ⟨H546_D s ⟨qa, isRp v⟩ (leafT (addS nilS v)), (⟨qa, isRp v⟩, leafT (addS nilS v)), by first | exact trivial | exact rfl, by first | exact trivial | exact rfl, pB_D _ _ _, by first | exact trivial | exact rfl, by first | exact trivial | exact rfl, by first | exact trivial | exact rfl⟩
theorem sure541 (n : Nat) (hn : (atomX n).Holds Try.prog 77) : Sure Try.prog (S541 hm n hn) := Sure.addI (Sure.withS ⟨hm, plain, bookW_ok (sure539 hm).sums (l := [(66, seesC)]) ⟨sees_says hm, trivial⟩⟩ (l := [(77, (atomX n).summ hn)]) ⟨(atomX n).sum_ok _, trivial⟩) ⟨⟨Try.func55, rfl⟩, trivial⟩
theorem facX_says (n : Nat) (hn : (atomX n).Holds Try.prog 77) : (facX n).Holds Try.prog 67 := by
  refine pX_holds ?_
  rintro s a b r ha hs ⟨⟨d, hd⟩, hf, hb⟩
  refine (sure541 hm n hn).funX F541 body541 [] [.fz (.tmp 0 [5]) (.sl 6)] Try.func67 rfl noLoops ?_
  rw [r541]
  simp only at hf hb
  refine ⟨⟨pB_flat _ _ _, trivial⟩, ⟨⟨by omega, by omega, hs⟩, ⟨⟨d, hd⟩, by simp only [Int.toNat_natCast]; omega, fun h => hb h⟩⟩, ?_⟩
  rintro x hx
  have hdd : dep [.int .i64 (d : Int)] = d := Int.toNat_natCast d
  simp only [Int.toNat_natCast, hdd] at hx
  subst hx
  simp only [hdd]
  have hgo := atm_goes (wysN_goes s n (d + 1)) ⟨a, b⟩ ha
  unfold facR
  generalize atmR (wysN s n) s d ⟨a, b⟩ = y at *
  obtain ⟨⟨ya, yb⟩, y⟩ := y
  have g1 := hgo.le
  have g2 := hgo.sz
  simp only at g1 g2
  have hok : POk s (ya : Int) := ⟨by omega, by omega, hs⟩
  have hk : ∀ o : Nat, rxV (.mk o nilS [y]) = .agg #[.int .i64 (o : Int), .int .u64 0, .int .u64 0, .int .u64 0, .int .u64 0, .iface 0 (.agg #[.int .i64 6, .int .i64 1, .agg #[.int .i64 (y.op : Int), .int .u64 (y.set.x0 : Int), .int .u64 (y.set.x1 : Int), .int .u64 (y.set.x2 : Int), .int .u64 (y.set.x3 : Int), kvV y]])] := fun o => by
    unfold rxV
    rw [show kvV (.mk o nilS [y]) = .iface 0 (.agg #[.int .i64 6, .int .i64 1, .agg (rxL [y]).toArray]) from rfl, rxL_one1, kv_eq]
    rfl
  simp only [Int.toNat_natCast]
  refine ⟨⟨pB_flat _ _ _, trivial⟩, ⟨hok, ⟨42⟩⟩, ?_⟩
  cases h42 : seF s ⟨ya, yb⟩ 42 with
  | true =>
    have hl := (lt_nx h42).1
    simp only at hl
    simp only [if_true, nxF_t h42, intV, nx ya (by omega), hk]
    exact ⟨rxB_flat y, pB_D _ _ _, by first | exact trivial | exact rfl, by first | exact trivial | exact rfl, by first | exact trivial | exact rfl⟩
  | false =>
  rw [if_neg (by decide)]
  refine ⟨⟨pB_flat _ _ _, trivial⟩, ⟨hok, ⟨43⟩⟩, ?_⟩
  cases h43 : seF s ⟨ya, yb⟩ 43 with
  | true =>
    have hl := (lt_nx h43).1
    simp only at hl
    simp only [if_true, nxF_t h43, intV, nx ya (by omega), hk]
    exact ⟨rxB_flat y, pB_D _ _ _, by first | exact trivial | exact rfl, by first | exact trivial | exact rfl, by first | exact trivial | exact rfl⟩
  | false =>
  rw [if_neg (by decide)]
  refine ⟨⟨pB_flat _ _ _, trivial⟩, ⟨hok, ⟨63⟩⟩, ?_⟩
  cases h63 : seF s ⟨ya, yb⟩ 63 with
  | true =>
    have hl := (lt_nx h63).1
    simp only at hl
    simp only [if_true, nxF_t h63, intV, nx ya (by omega), hk]
    exact ⟨rxB_flat y, pB_D _ _ _, by first | exact trivial | exact rfl, by first | exact trivial | exact rfl, by first | exact trivial | exact rfl⟩
  | false =>
    rw [if_neg (by decide)]
    exact ⟨pB_D _ _ _, by first | exact trivial | exact rfl, by first | exact trivial | exact rfl, by first | exact trivial | exact rfl⟩
end
end Go.Proofs.Ytfgiifppapopnaa

namespace Go.Proofs.Ytfgiifppapopnaa
open Go.RowKit Go.Proofs.Ytfgiifppapopnaa.AM
set_option maxRecDepth 100000
set_option maxHeartbeats 4000000
noncomputable abbrev nil6 : Blk := .cells [.int .i64 0, .int .u64 0, .int .u64 0, .int .u64 0, .int .u64 0, .slice none 0 0] 6 true
noncomputable abbrev slN (B n : Nat) : Value := .slice (some ⟨B,0,some 1⟩) n n
noncomputable abbrev frK (ks : List Rx) : Value := .iface 0 (.agg #[.int .i64 6, .int .i64 (ks.length : Int), .agg (rxL ks).toArray])
noncomputable abbrev frK1 (x : Rx) : Value := .iface 0 (.agg #[.int .i64 6, .int .i64 1, .agg #[.int .i64 (x.op : Int), .int .u64 (x.set.x0 : Int), .int .u64 (x.set.x1 : Int), .int .u64 (x.set.x2 : Int), .int .u64 (x.set.x3 : Int), kvV x]])
def facA (s : ByteArray) (n d : Nat) : PS → PS × Rx := facR (atmR (wysN s n) s d) s
def wayE (s : ByteArray) (n d : Nat) (p : PS) : PS × List Rx := wayL (facA s n d) s (s.size + 1) p []
noncomputable def S530 (hm : Try.prog.follows .mixedOrders = true) (n : Nat) (hn : (facX n).Holds Try.prog 67) : Book := addI Try.prog [(65, Try.f65, body539)] (bookS [(67, (facX n).summ hn)] (bookW [(66, seesC)] S539))
noncomputable abbrev T530 (d k : Nat) : List Value := tmps 33 [(0, pA), (1, .int .i64 (d : Int)), (4, p1), (5, slN 2 k)]
noncomputable abbrev H530 (s : ByteArray) (p : PS) (ks : List Rx) : Heap := hp [psB s p, nil6, .cells (rxL ks) 6 true]

theorem r530 (hm : Try.prog.follows .mixedOrders = true) (n : Nat) (hn : (facX n).Holds Try.prog 67) (s : ByteArray) (p : PS) (d : Nat) (ks : List Rx) (K : Post) :
  roundX Try.prog (S530 hm n hn) noLoop F530 body530 1 [] [.tmp 5 6] [] [.tmp 5 6] [0,1,4,5] [0,0,0,1,1] (T530 d ks.length) (H530 s p ks) K = (
Alt (boolV (Value.bool p.b)) (K (AE.exit 0) (tmps 33 [(4, Value.pointer (some { block := 1, off := 0 : Addr })), (5, Value.slice (some { block := 2, off := 0, spot := some 1 : Addr }) ks.length ks.length)]) (hp
[Blk.cells [Value.string s, Value.int IntKind.i64 (↑p.a : Int), Value.bool p.b] 3 true, Blk.cells [Value.int IntKind.i64 0, Value.int IntKind.u64 0, Value.int IntKind.u64 0, Value.int IntKind.u64 0, Value.int IntKind.u64
0, Value.slice none 0 0] 6 true, Blk.cells (rxL ks) 6 true])) (Alt (!leI (↑(strV (Value.string s)).size : Int) (intV (Value.int IntKind.i64 (↑p.a : Int)))) ((FlatL [Value.string s, Value.int IntKind.i64 (↑p.a : Int),
Value.bool p.b] ∧ True) ∧ (POk s (↑p.a : Int) ∧ RC [Value.int IntKind.u8 124]) ∧ Alt (!seF s { a := (↑p.a : Int).toNat, b := p.b : PS } 124) ((FlatL [Value.string s, Value.int IntKind.i64
(↑{ a := (↑p.a : Int).toNat, b := p.b : PS }.a : Int), Value.bool { a := (↑p.a : Int).toNat, b := p.b : PS }.b] ∧ True) ∧ (POk s (↑{ a := (↑p.a : Int).toNat, b := p.b : PS }.a : Int) ∧ RC [Value.int IntKind.u8 41]) ∧ Alt
(!seF s { a := (↑{ a := (↑p.a : Int).toNat, b := p.b : PS }.a : Int).toNat, b := { a := (↑p.a : Int).toNat, b := p.b : PS }.b : PS } 41) ((FlatL [Value.string s, Value.int IntKind.i64
(↑{ a := (↑{ a := (↑p.a : Int).toNat, b := p.b : PS }.a : Int).toNat, b := { a := (↑p.a : Int).toNat, b := p.b : PS }.b : PS }.a : Int), Value.bool
{ a := (↑{ a := (↑p.a : Int).toNat, b := p.b : PS }.a : Int).toNat, b := { a := (↑p.a : Int).toNat, b := p.b : PS }.b : PS }.b] ∧ True) ∧ (POk s
(↑{ a := (↑{ a := (↑p.a : Int).toNat, b := p.b : PS }.a : Int).toNat, b := { a := (↑p.a : Int).toNat, b := p.b : PS }.b : PS }.a : Int) ∧ WOk s
{ a := (↑{ a := (↑{ a := (↑p.a : Int).toNat, b := p.b : PS }.a : Int).toNat, b := { a := (↑p.a : Int).toNat, b := p.b : PS }.b : PS }.a : Int).toNat, b := { a := (↑{ a := (↑p.a : Int).toNat, b := p.b : PS }.a : Int).toNat, b := { a := (↑p.a : Int).toNat, b := p.b : PS }.b : PS }.b : PS }
[Value.int IntKind.i64 (↑d : Int)] (n + 1)) ∧ ∀ (x : PS × Rx), x = facR (atmR (wysN s n) s (dep [Value.int IntKind.i64 (↑d : Int)])) s
{ a := (↑{ a := (↑{ a := (↑p.a : Int).toNat, b := p.b : PS }.a : Int).toNat, b := { a := (↑p.a : Int).toNat, b := p.b : PS }.b : PS }.a : Int).toNat, b := { a := (↑{ a := (↑p.a : Int).toNat, b := p.b : PS }.a : Int).toNat, b := { a := (↑p.a : Int).toNat, b := p.b : PS }.b : PS }.b : PS }
→ Need (leN (0 + ks.length * 6) (rxL ks).length) (Need (leN ((ks.length + 1) * 64) 1099511627776) (Need (leN (ks.length + 1) 1099511627776) (K AE.normal (tmps 33 [(0, Value.pointer (some
{ block := 0, off := 0 : Addr })), (1, Value.int IntKind.i64 (↑d : Int)), (4, Value.pointer (some { block := 1, off := 0 : Addr })), (5, Value.slice (some { block := 2, off := 0, spot := some 1 : Addr }) (ks.length + 1)
(ks.length + 1))]) (hp [Blk.cells [Value.string s, Value.int IntKind.i64 (↑x.fst.a : Int), Value.bool x.fst.b] 3 true, Blk.cells [Value.int IntKind.i64 0, Value.int IntKind.u64 0, Value.int IntKind.u64 0, Value.int
IntKind.u64 0, Value.int IntKind.u64 0, Value.slice none 0 0] 6 true, Blk.cells (List.take (ks.length * 6) (List.drop 0 (rxL ks)) ++ [Value.int IntKind.i64 (↑x.snd.op : Int), Value.int IntKind.u64 (↑x.snd.set.x0 : Int),
Value.int IntKind.u64 (↑x.snd.set.x1 : Int), Value.int IntKind.u64 (↑x.snd.set.x2 : Int), Value.int IntKind.u64 (↑x.snd.set.x3 : Int), Value.iface 0 (Value.agg #[Value.int IntKind.i64 6, Value.int IntKind.i64
(↑x.snd.kids.length : Int), Value.agg (rxL x.snd.kids).toArray])]) 6 true]))))) (K (AE.exit 0) (tmps 33 [(4, Value.pointer (some { block := 1, off := 0 : Addr })), (5, Value.slice (some
{ block := 2, off := 0, spot := some 1 : Addr }) ks.length ks.length)]) (hp [Blk.cells [Value.string s, Value.int IntKind.i64
(↑{ a := (↑{ a := (↑p.a : Int).toNat, b := p.b : PS }.a : Int).toNat, b := { a := (↑p.a : Int).toNat, b := p.b : PS }.b : PS }.a : Int), Value.bool
{ a := (↑{ a := (↑p.a : Int).toNat, b := p.b : PS }.a : Int).toNat, b := { a := (↑p.a : Int).toNat, b := p.b : PS }.b : PS }.b] 3 true, Blk.cells [Value.int IntKind.i64 0, Value.int IntKind.u64 0, Value.int IntKind.u64
0, Value.int IntKind.u64 0, Value.int IntKind.u64 0, Value.slice none 0 0] 6 true, Blk.cells (rxL ks) 6 true]))) (K (AE.exit 0) (tmps 33 [(4, Value.pointer (some { block := 1, off := 0 : Addr })), (5, Value.slice (some
{ block := 2, off := 0, spot := some 1 : Addr }) ks.length ks.length)]) (hp [Blk.cells [Value.string s, Value.int IntKind.i64 (↑{ a := (↑p.a : Int).toNat, b := p.b : PS }.a : Int), Value.bool
{ a := (↑p.a : Int).toNat, b := p.b : PS }.b] 3 true, Blk.cells [Value.int IntKind.i64 0, Value.int IntKind.u64 0, Value.int IntKind.u64 0, Value.int IntKind.u64 0, Value.int IntKind.u64 0, Value.slice none 0 0] 6 true,
Blk.cells (rxL ks) 6 true]))) (K (AE.exit 0) (tmps 33 [(4, Value.pointer (some { block := 1, off := 0 : Addr })), (5, Value.slice (some { block := 2, off := 0, spot := some 1 : Addr }) ks.length ks.length)]) (hp
[Blk.cells [Value.string s, Value.int IntKind.i64 (↑p.a : Int), Value.bool p.b] 3 true, Blk.cells [Value.int IntKind.i64 0, Value.int IntKind.u64 0, Value.int IntKind.u64 0, Value.int IntKind.u64 0, Value.int IntKind.u64
0, Value.slice none 0 0] 6 true, Blk.cells (rxL ks) 6 true])))) := by kernel_rfl

theorem r530m (hm : Try.prog.follows .mixedOrders = true) (n : Nat) (hn : (facX n).Holds Try.prog 67) (s : ByteArray) (p : PS) (ks : List Rx) (K : Post) :
  roundX Try.prog (S530 hm n hn) noLoop F530 body530 1 [] [] [] [] [] [1,1,1] (tmps 33 [(4, p1), (5, frK ks)]) (hp [psB s p, nil6]) K = (
Alt (eqI (↑ks.length : Int) 1) (Need (ltI 0 (↑ks.length : Int)) (Need (isInt IntKind.i64 ((getO (List.drop 0 (rxL ks).toArray.toList).toArray.toList 0).getD undef)) (Need (isInt IntKind.u64 ((getO (List.drop 0 (rxL
ks).toArray.toList).toArray.toList 1).getD undef)) (Need (isInt IntKind.u64 ((getO (List.drop 0 (rxL ks).toArray.toList).toArray.toList 2).getD undef)) (Need (isInt IntKind.u64 ((getO (List.drop 0 (rxL
ks).toArray.toList).toArray.toList 3).getD undef)) (Need (isInt IntKind.u64 ((getO (List.drop 0 (rxL ks).toArray.toList).toArray.toList 4).getD undef)) (Need (isFr ((getO (List.drop 0 (rxL
ks).toArray.toList).toArray.toList 5).getD undef)) (K AE.ret (tmps 33 [(4, Value.pointer (some { block := 1, off := 0 : Addr }))]) (hp [Blk.cells [Value.string s, Value.int IntKind.i64 (↑p.a : Int), Value.bool p.b] 3
true, Blk.cells [Value.int IntKind.i64 (intV ((getO (List.drop 0 (rxL ks).toArray.toList).toArray.toList 0).getD undef)), Value.int IntKind.u64 (intV ((getO (List.drop 0 (rxL ks).toArray.toList).toArray.toList 1).getD
undef)), Value.int IntKind.u64 (intV ((getO (List.drop 0 (rxL ks).toArray.toList).toArray.toList 2).getD undef)), Value.int IntKind.u64 (intV ((getO (List.drop 0 (rxL ks).toArray.toList).toArray.toList 3).getD undef)),
Value.int IntKind.u64 (intV ((getO (List.drop 0 (rxL ks).toArray.toList).toArray.toList 4).getD undef)), Value.iface 0 (Value.agg #[Value.int IntKind.i64 (↑(frE ((getO (List.drop 0 (rxL ks).toArray.toList).toArray.toList
5).getD undef)) : Int), Value.int IntKind.i64 (↑(frN ((getO (List.drop 0 (rxL ks).toArray.toList).toArray.toList 5).getD undef)) : Int), Value.agg (frC ((getO (List.drop 0 (rxL ks).toArray.toList).toArray.toList 5).getD
undef)).toArray])] 6 true]))))))))) (K AE.ret (tmps 33 [(4, Value.pointer (some { block := 1, off := 0 : Addr }))]) (hp [Blk.cells [Value.string s, Value.int IntKind.i64 (↑p.a : Int), Value.bool p.b] 3 true, Blk.cells
[Value.int IntKind.i64 2, Value.int IntKind.u64 0, Value.int IntKind.u64 0, Value.int IntKind.u64 0, Value.int IntKind.u64 0, Value.iface 0 (Value.agg #[Value.int IntKind.i64 6, Value.int IntKind.i64 (↑ks.length : Int),
Value.agg (rxL ks).toArray])] 6 true]))) := by kernel_rfl

theorem r530o (hm : Try.prog.follows .mixedOrders = true) (n : Nat) (hn : (facX n).Holds Try.prog 67) (s : ByteArray) (p : PS) (x : Rx) (K : Post) :
  roundX Try.prog (S530 hm n hn) noLoop F530 body530 1 [] [] [] [] [] [1,1,1] (tmps 33 [(4, p1), (5, frK1 x)]) (hp [psB s p, nil6]) K = (
K AE.ret (tmps 33 [(4, Value.pointer (some { block := 1, off := 0 : Addr }))]) (hp [Blk.cells [Value.string s, Value.int IntKind.i64 (↑p.a : Int), Value.bool p.b] 3 true, Blk.cells [Value.int IntKind.i64 (intV (Value.int
IntKind.i64 (↑x.op : Int))), Value.int IntKind.u64 (intV (Value.int IntKind.u64 (↑x.set.x0 : Int))), Value.int IntKind.u64 (intV (Value.int IntKind.u64 (↑x.set.x1 : Int))), Value.int IntKind.u64 (intV (Value.int
IntKind.u64 (↑x.set.x2 : Int))), Value.int IntKind.u64 (intV (Value.int IntKind.u64 (↑x.set.x3 : Int))), Value.iface 0 (Value.agg #[Value.int IntKind.i64 (↑6 : Int), Value.int IntKind.i64 (↑(frN (Value.iface 0 (Value.agg
#[Value.int IntKind.i64 6, Value.int IntKind.i64 (↑x.kids.length : Int), Value.agg (rxL x.kids).toArray]))) : Int), Value.agg (frC (Value.iface 0 (Value.agg #[Value.int IntKind.i64 6, Value.int IntKind.i64
(↑x.kids.length : Int), Value.agg (rxL x.kids).toArray]))).toArray])] 6 true])) := by kernel_rfl

noncomputable def cut530l (s : ByteArray) (n d : Nat) : CutE where
  β := PS
  p := [0,0,1,1]
  t := fun _ => T530 d 0
  h := fun x => hp [psB s x, nil6, .cells [] 6 true]
  Q := fun x K => x.a ≤ s.size ∧ s.size - x.a < n + 1 ∧ (x.b = false → s.size ≤ 40) ∧ ∀ (q : PS) (ks : List Rx), wayE s n d x = (q, ks) → K (.exit 0) (tmps 33 [(4, p1), (5, slN 2 ks.length)]) (H530 s q ks)
noncomputable def cut530e (s : ByteArray) : CutE where
  β := PS × List Rx
  p := [1,1,1]
  t := fun x => tmps 33 [(4, p1), (5, frK x.2)]
  h := fun x => hp [psB s x.1, nil6]
  Q := fun x K => K .ret (tmps 33 [(4, p1)]) (hp [psB s x.1, .cells (rxB (seqT x.2)) 6 true])

theorem w530 (hm : Try.prog.follows .mixedOrders = true) (n : Nat) (hn : (facX n).Holds Try.prog 67) (s : ByteArray) (a d : Nat) (b : Bool) (K : Value → Heap → Prop) :
  funX Try.prog (S530 hm n hn) (gcLKX (at0 []) (fun p => cond (beqL p [1,1,1]) [.fz (.tmp 5 []) (.sl 6)] [.tmp 5 6]) 1 (cutE [cut530l s n d, cut530e s])) F530 body530 Try.f54 [] [] [pA, .int .i64 (d : Int)] (pB s a b) K = (
FlatD [] (hp [Blk.cells [Value.string s, Value.int IntKind.i64 (↑a : Int), Value.bool b] 3 true, Blk.cells [Value.int IntKind.i64 0, Value.int IntKind.u64 0, Value.int IntKind.u64 0, Value.int IntKind.u64 0, Value.int
IntKind.u64 0, Value.slice none 0 0] 6 true, Blk.cells [] 6 true]) ∧ ∃ (b_1 : PS), tmps 33 [(0, Value.pointer (some { block := 0, off := 0 : Addr })), (1, Value.int IntKind.i64 (↑d : Int)), (4, Value.pointer (some
{ block := 1, off := 0 : Addr })), (5, Value.slice (some { block := 2, off := 0, spot := some 1 : Addr }) 0 0)] = tmps 33 [(0, Value.pointer (some { block := 0, off := 0 : Addr })), (1, Value.int IntKind.i64 (↑d : Int)),
(4, Value.pointer (some { block := 1, off := 0 : Addr })), (5, Value.slice (some { block := 2, off := 0, spot := some 1 : Addr }) 0 0)] ∧ hp [Blk.cells [Value.string s, Value.int IntKind.i64 (↑a : Int), Value.bool b] 3
true, Blk.cells [Value.int IntKind.i64 0, Value.int IntKind.u64 0, Value.int IntKind.u64 0, Value.int IntKind.u64 0, Value.int IntKind.u64 0, Value.slice none 0 0] 6 true, Blk.cells [] 6 true] = hp [Blk.cells
[Value.string s, Value.int IntKind.i64 (↑b_1.a : Int), Value.bool b_1.b] 3 true, Blk.cells [Value.int IntKind.i64 0, Value.int IntKind.u64 0, Value.int IntKind.u64 0, Value.int IntKind.u64 0, Value.int IntKind.u64 0,
Value.slice none 0 0] 6 true, Blk.cells [] 6 true] ∧ b_1.a.le s.size ∧ (s.size - b_1.a).succ.le (n + 1) ∧ (b_1.b = false → s.size.le 40) ∧ ∀ (q : PS) (ks : List Rx), wayE s n d b_1 = (q, ks) → Need (leN (0 + ks.length *
6) (rxL ks).length) (FlatL (List.take (ks.length * 6) (List.drop 0 (rxL ks))) ∧ FlatD [] (hp [Blk.cells [Value.string s, Value.int IntKind.i64 (↑q.a : Int), Value.bool q.b] 3 true, Blk.cells [Value.int IntKind.i64 0,
Value.int IntKind.u64 0, Value.int IntKind.u64 0, Value.int IntKind.u64 0, Value.int IntKind.u64 0, Value.slice none 0 0] 6 true]) ∧ ∃ (b : PS × List Rx), tmps 33 [(4, Value.pointer (some
{ block := 1, off := 0 : Addr })), (5, Value.iface 0 (Value.agg #[Value.int IntKind.i64 6, Value.int IntKind.i64 (↑ks.length : Int), Value.agg (List.take (ks.length * 6) (List.drop 0 (rxL ks))).toArray]))] = tmps 33 [(4,
Value.pointer (some { block := 1, off := 0 : Addr })), (5, Value.iface 0 (Value.agg #[Value.int IntKind.i64 6, Value.int IntKind.i64 (↑b.snd.length : Int), Value.agg (rxL b.snd).toArray]))] ∧ hp [Blk.cells [Value.string
s, Value.int IntKind.i64 (↑q.a : Int), Value.bool q.b] 3 true, Blk.cells [Value.int IntKind.i64 0, Value.int IntKind.u64 0, Value.int IntKind.u64 0, Value.int IntKind.u64 0, Value.int IntKind.u64 0, Value.slice none 0 0]
6 true] = hp [Blk.cells [Value.string s, Value.int IntKind.i64 (↑b.fst.a : Int), Value.bool b.fst.b] 3 true, Blk.cells [Value.int IntKind.i64 0, Value.int IntKind.u64 0, Value.int IntKind.u64 0, Value.int IntKind.u64 0,
Value.int IntKind.u64 0, Value.slice none 0 0] 6 true] ∧ K (Value.agg #[Value.int IntKind.i64 (↑(seqT b.snd).op : Int), Value.int IntKind.u64 (↑(seqT b.snd).set.x0 : Int), Value.int IntKind.u64 (↑(seqT b.snd).set.x1 :
Int), Value.int IntKind.u64 (↑(seqT b.snd).set.x2 : Int), Value.int IntKind.u64 (↑(seqT b.snd).set.x3 : Int), Value.iface 0 (Value.agg #[Value.int IntKind.i64 6, Value.int IntKind.i64 (↑(seqT b.snd).kids.length : Int),
Value.agg (rxL (seqT b.snd).kids).toArray])]) (hp [Blk.cells [Value.string s, Value.int IntKind.i64 (↑b.fst.a : Int), Value.bool b.fst.b] 3 true]))) := by kernel_rfl

def wayA (s : ByteArray) (n d : Nat) : PS → PS × Rx := wayR (facA s n d) s
def wysE (s : ByteArray) (n d : Nat) (p : PS) (x : Rx) : PS × List Rx := wysL (wayA s n d) s (s.size + 1) p [x]
noncomputable def S522 (hm : Try.prog.follows .mixedOrders = true) (n : Nat) (hn : (wayX n).Holds Try.prog 54) : Book := addI Try.prog [(55, Try.f55, body531)] (bookS [(54, (wayX n).summ hn)] (bookW [(66, seesC)] S539))
noncomputable abbrev T522 (d k : Nat) : List Value := tmps 26 [(0, pA), (1, .int .i64 (d : Int)), (4, p1), (5, slN 2 k)]

theorem r522 (hm : Try.prog.follows .mixedOrders = true) (n : Nat) (hn : (wayX n).Holds Try.prog 54) (s : ByteArray) (p : PS) (d : Nat) (ks : List Rx) (K : Post) :
  roundX Try.prog (S522 hm n hn) noLoop F522 body522 1 [] [.tmp 5 6] [] [.tmp 5 6] [0,1,4,5] [0,0,0,1,1] (T522 d ks.length) (H530 s p ks) K = (
(FlatL [Value.string s, Value.int IntKind.i64 (↑p.a : Int), Value.bool p.b] ∧ True) ∧ (POk s (↑p.a : Int) ∧ RC [Value.int IntKind.u8 124]) ∧ Alt (!seF s { a := (↑p.a : Int).toNat, b := p.b : PS } 124) (K (AE.exit 0)
(tmps 26 [(4, Value.pointer (some { block := 1, off := 0 : Addr })), (5, Value.slice (some { block := 2, off := 0, spot := some 1 : Addr }) ks.length ks.length)]) (hp [Blk.cells [Value.string s, Value.int IntKind.i64
(↑{ a := (↑p.a : Int).toNat, b := p.b : PS }.a : Int), Value.bool { a := (↑p.a : Int).toNat, b := p.b : PS }.b] 3 true, Blk.cells [Value.int IntKind.i64 0, Value.int IntKind.u64 0, Value.int IntKind.u64 0, Value.int
IntKind.u64 0, Value.int IntKind.u64 0, Value.slice none 0 0] 6 true, Blk.cells (rxL ks) 6 true])) ((FlatL [Value.string s, Value.int IntKind.i64 (wr IntKind.i64 (intV (Value.int IntKind.i64
(↑{ a := (↑p.a : Int).toNat, b := p.b : PS }.a : Int)) + 1)), Value.bool { a := (↑p.a : Int).toNat, b := p.b : PS }.b] ∧ True) ∧ (POk s (wr IntKind.i64 (intV (Value.int IntKind.i64
(↑{ a := (↑p.a : Int).toNat, b := p.b : PS }.a : Int)) + 1)) ∧ WOk s
{ a := (wr IntKind.i64 (intV (Value.int IntKind.i64 (↑{ a := (↑p.a : Int).toNat, b := p.b : PS }.a : Int)) + 1)).toNat, b := { a := (↑p.a : Int).toNat, b := p.b : PS }.b : PS } [Value.int IntKind.i64 (↑d : Int)] (n + 1))
∧ ∀ (x : PS × Rx), x = wayR (facR (atmR (wysN s n) s (dep [Value.int IntKind.i64 (↑d : Int)])) s) s
{ a := (wr IntKind.i64 (intV (Value.int IntKind.i64 (↑{ a := (↑p.a : Int).toNat, b := p.b : PS }.a : Int)) + 1)).toNat, b := { a := (↑p.a : Int).toNat, b := p.b : PS }.b : PS } → Need (leN (0 + ks.length * 6) (rxL
ks).length) (Need (leN ((ks.length + 1) * 64) 1099511627776) (Need (leN (ks.length + 1) 1099511627776) (K AE.normal (tmps 26 [(0, Value.pointer (some { block := 0, off := 0 : Addr })), (1, Value.int IntKind.i64 (↑d :
Int)), (4, Value.pointer (some { block := 1, off := 0 : Addr })), (5, Value.slice (some { block := 2, off := 0, spot := some 1 : Addr }) (ks.length + 1) (ks.length + 1))]) (hp [Blk.cells [Value.string s, Value.int
IntKind.i64 (↑x.fst.a : Int), Value.bool x.fst.b] 3 true, Blk.cells [Value.int IntKind.i64 0, Value.int IntKind.u64 0, Value.int IntKind.u64 0, Value.int IntKind.u64 0, Value.int IntKind.u64 0, Value.slice none 0 0] 6
true, Blk.cells (List.take (ks.length * 6) (List.drop 0 (rxL ks)) ++ [Value.int IntKind.i64 (↑x.snd.op : Int), Value.int IntKind.u64 (↑x.snd.set.x0 : Int), Value.int IntKind.u64 (↑x.snd.set.x1 : Int), Value.int
IntKind.u64 (↑x.snd.set.x2 : Int), Value.int IntKind.u64 (↑x.snd.set.x3 : Int), Value.iface 0 (Value.agg #[Value.int IntKind.i64 6, Value.int IntKind.i64 (↑x.snd.kids.length : Int), Value.agg (rxL x.snd.kids).toArray])])
6 true])))))) := by kernel_rfl

theorem r522m (hm : Try.prog.follows .mixedOrders = true) (n : Nat) (hn : (wayX n).Holds Try.prog 54) (s : ByteArray) (p : PS) (ks : List Rx) (K : Post) :
  roundX Try.prog (S522 hm n hn) noLoop F522 body522 1 [] [] [] [] [] [1,1,1] (tmps 26 [(4, p1), (5, frK ks)]) (hp [psB s p, nil6]) K = (
Alt (eqI (↑ks.length : Int) 1) (Need (ltI 0 (↑ks.length : Int)) (Need (isInt IntKind.i64 ((getO (List.drop 0 (rxL ks).toArray.toList).toArray.toList 0).getD undef)) (Need (isInt IntKind.u64 ((getO (List.drop 0 (rxL
ks).toArray.toList).toArray.toList 1).getD undef)) (Need (isInt IntKind.u64 ((getO (List.drop 0 (rxL ks).toArray.toList).toArray.toList 2).getD undef)) (Need (isInt IntKind.u64 ((getO (List.drop 0 (rxL
ks).toArray.toList).toArray.toList 3).getD undef)) (Need (isInt IntKind.u64 ((getO (List.drop 0 (rxL ks).toArray.toList).toArray.toList 4).getD undef)) (Need (isFr ((getO (List.drop 0 (rxL
ks).toArray.toList).toArray.toList 5).getD undef)) (K AE.ret (tmps 26 [(4, Value.pointer (some { block := 1, off := 0 : Addr }))]) (hp [Blk.cells [Value.string s, Value.int IntKind.i64 (↑p.a : Int), Value.bool p.b] 3
true, Blk.cells [Value.int IntKind.i64 (intV ((getO (List.drop 0 (rxL ks).toArray.toList).toArray.toList 0).getD undef)), Value.int IntKind.u64 (intV ((getO (List.drop 0 (rxL ks).toArray.toList).toArray.toList 1).getD
undef)), Value.int IntKind.u64 (intV ((getO (List.drop 0 (rxL ks).toArray.toList).toArray.toList 2).getD undef)), Value.int IntKind.u64 (intV ((getO (List.drop 0 (rxL ks).toArray.toList).toArray.toList 3).getD undef)),
Value.int IntKind.u64 (intV ((getO (List.drop 0 (rxL ks).toArray.toList).toArray.toList 4).getD undef)), Value.iface 0 (Value.agg #[Value.int IntKind.i64 (↑(frE ((getO (List.drop 0 (rxL ks).toArray.toList).toArray.toList
5).getD undef)) : Int), Value.int IntKind.i64 (↑(frN ((getO (List.drop 0 (rxL ks).toArray.toList).toArray.toList 5).getD undef)) : Int), Value.agg (frC ((getO (List.drop 0 (rxL ks).toArray.toList).toArray.toList 5).getD
undef)).toArray])] 6 true]))))))))) (K AE.ret (tmps 26 [(4, Value.pointer (some { block := 1, off := 0 : Addr }))]) (hp [Blk.cells [Value.string s, Value.int IntKind.i64 (↑p.a : Int), Value.bool p.b] 3 true, Blk.cells
[Value.int IntKind.i64 3, Value.int IntKind.u64 0, Value.int IntKind.u64 0, Value.int IntKind.u64 0, Value.int IntKind.u64 0, Value.iface 0 (Value.agg #[Value.int IntKind.i64 6, Value.int IntKind.i64 (↑ks.length : Int),
Value.agg (rxL ks).toArray])] 6 true]))) := by kernel_rfl

theorem r522o (hm : Try.prog.follows .mixedOrders = true) (n : Nat) (hn : (wayX n).Holds Try.prog 54) (s : ByteArray) (p : PS) (x : Rx) (K : Post) :
  roundX Try.prog (S522 hm n hn) noLoop F522 body522 1 [] [] [] [] [] [1,1,1] (tmps 26 [(4, p1), (5, frK1 x)]) (hp [psB s p, nil6]) K = (
K AE.ret (tmps 26 [(4, Value.pointer (some { block := 1, off := 0 : Addr }))]) (hp [Blk.cells [Value.string s, Value.int IntKind.i64 (↑p.a : Int), Value.bool p.b] 3 true, Blk.cells [Value.int IntKind.i64 (intV (Value.int
IntKind.i64 (↑x.op : Int))), Value.int IntKind.u64 (intV (Value.int IntKind.u64 (↑x.set.x0 : Int))), Value.int IntKind.u64 (intV (Value.int IntKind.u64 (↑x.set.x1 : Int))), Value.int IntKind.u64 (intV (Value.int
IntKind.u64 (↑x.set.x2 : Int))), Value.int IntKind.u64 (intV (Value.int IntKind.u64 (↑x.set.x3 : Int))), Value.iface 0 (Value.agg #[Value.int IntKind.i64 (↑6 : Int), Value.int IntKind.i64 (↑(frN (Value.iface 0 (Value.agg
#[Value.int IntKind.i64 6, Value.int IntKind.i64 (↑x.kids.length : Int), Value.agg (rxL x.kids).toArray]))) : Int), Value.agg (frC (Value.iface 0 (Value.agg #[Value.int IntKind.i64 6, Value.int IntKind.i64
(↑x.kids.length : Int), Value.agg (rxL x.kids).toArray]))).toArray])] 6 true])) := by kernel_rfl

noncomputable abbrev T522z (d : Nat) : List Value := tmps 26 [(0, pA), (1, .int .i64 (d : Int)), (4, p1), (5, .slice (some ⟨2,0,some 0⟩) 1 1)]
noncomputable abbrev H522z (s : ByteArray) (p : PS) (x : Rx) : Heap := hp [psB s p, nil6, .cells (rxB x) 6 true]

theorem r522z (hm : Try.prog.follows .mixedOrders = true) (n : Nat) (hn : (wayX n).Holds Try.prog 54) (s : ByteArray) (p : PS) (d : Nat) (x : Rx) (K : Post) :
  roundX Try.prog (S522 hm n hn) noLoop F522 body522 1 [] [.tmp 5 6] [] [.tmp 5 6] [0,1,4,5] [0,0,0,1,1] (T522z d) (H522z s p x) K = (
(FlatL [Value.string s, Value.int IntKind.i64 (↑p.a : Int), Value.bool p.b] ∧ True) ∧ (POk s (↑p.a : Int) ∧ RC [Value.int IntKind.u8 124]) ∧ Alt (!seF s { a := (↑p.a : Int).toNat, b := p.b : PS } 124) (K (AE.exit 0)
(tmps 26 [(4, Value.pointer (some { block := 1, off := 0 : Addr })), (5, Value.slice (some { block := 2, off := 0, spot := some 0 : Addr }) 1 1)]) (hp [Blk.cells [Value.string s, Value.int IntKind.i64
(↑{ a := (↑p.a : Int).toNat, b := p.b : PS }.a : Int), Value.bool { a := (↑p.a : Int).toNat, b := p.b : PS }.b] 3 true, Blk.cells [Value.int IntKind.i64 0, Value.int IntKind.u64 0, Value.int IntKind.u64 0, Value.int
IntKind.u64 0, Value.int IntKind.u64 0, Value.slice none 0 0] 6 true, Blk.cells [Value.int IntKind.i64 (↑x.op : Int), Value.int IntKind.u64 (↑x.set.x0 : Int), Value.int IntKind.u64 (↑x.set.x1 : Int), Value.int
IntKind.u64 (↑x.set.x2 : Int), Value.int IntKind.u64 (↑x.set.x3 : Int), Value.iface 0 (Value.agg #[Value.int IntKind.i64 6, Value.int IntKind.i64 (↑x.kids.length : Int), Value.agg (rxL x.kids).toArray])] 6 true]))
((FlatL [Value.string s, Value.int IntKind.i64 (wr IntKind.i64 (intV (Value.int IntKind.i64 (↑{ a := (↑p.a : Int).toNat, b := p.b : PS }.a : Int)) + 1)), Value.bool { a := (↑p.a : Int).toNat, b := p.b : PS }.b] ∧ True) ∧
(POk s (wr IntKind.i64 (intV (Value.int IntKind.i64 (↑{ a := (↑p.a : Int).toNat, b := p.b : PS }.a : Int)) + 1)) ∧ WOk s
{ a := (wr IntKind.i64 (intV (Value.int IntKind.i64 (↑{ a := (↑p.a : Int).toNat, b := p.b : PS }.a : Int)) + 1)).toNat, b := { a := (↑p.a : Int).toNat, b := p.b : PS }.b : PS } [Value.int IntKind.i64 (↑d : Int)] (n + 1))
∧ ∀ (x_1 : PS × Rx), x_1 = wayR (facR (atmR (wysN s n) s (dep [Value.int IntKind.i64 (↑d : Int)])) s) s
{ a := (wr IntKind.i64 (intV (Value.int IntKind.i64 (↑{ a := (↑p.a : Int).toNat, b := p.b : PS }.a : Int)) + 1)).toNat, b := { a := (↑p.a : Int).toNat, b := p.b : PS }.b : PS } → K AE.normal (tmps 26 [(0, Value.pointer
(some { block := 0, off := 0 : Addr })), (1, Value.int IntKind.i64 (↑d : Int)), (4, Value.pointer (some { block := 1, off := 0 : Addr })), (5, Value.slice (some { block := 2, off := 0, spot := some 1 : Addr }) 2 2)]) (hp
[Blk.cells [Value.string s, Value.int IntKind.i64 (↑x_1.fst.a : Int), Value.bool x_1.fst.b] 3 true, Blk.cells [Value.int IntKind.i64 0, Value.int IntKind.u64 0, Value.int IntKind.u64 0, Value.int IntKind.u64 0, Value.int
IntKind.u64 0, Value.slice none 0 0] 6 true, Blk.cells [Value.int IntKind.i64 (↑x.op : Int), Value.int IntKind.u64 (↑x.set.x0 : Int), Value.int IntKind.u64 (↑x.set.x1 : Int), Value.int IntKind.u64 (↑x.set.x2 : Int),
Value.int IntKind.u64 (↑x.set.x3 : Int), Value.iface 0 (Value.agg #[Value.int IntKind.i64 6, Value.int IntKind.i64 (↑x.kids.length : Int), Value.agg (rxL x.kids).toArray]), Value.int IntKind.i64 (↑x_1.snd.op : Int),
Value.int IntKind.u64 (↑x_1.snd.set.x0 : Int), Value.int IntKind.u64 (↑x_1.snd.set.x1 : Int), Value.int IntKind.u64 (↑x_1.snd.set.x2 : Int), Value.int IntKind.u64 (↑x_1.snd.set.x3 : Int), Value.iface 0 (Value.agg
#[Value.int IntKind.i64 6, Value.int IntKind.i64 (↑x_1.snd.kids.length : Int), Value.agg (rxL x_1.snd.kids).toArray])] 6 true]))) := by kernel_rfl

noncomputable def cut522l (s : ByteArray) (n d : Nat) : CutE where
  β := PS × Rx
  p := [0,0,1,1]
  t := fun _ => T522z d
  h := fun x => H522z s x.1 x.2
  Q := fun x K => x.1.a ≤ s.size ∧ s.size - x.1.a < n + 1 ∧ (x.1.b = false → s.size ≤ 40) ∧ (seF s x.1 124 = false → K (.exit 0) (tmps 26 [(4, p1), (5, .slice (some ⟨2,0,some 0⟩) 1 1)]) (H522z s x.1 x.2)) ∧ ∀ (q : PS) (ks : List Rx), seF s x.1 124 = true → wysE s n d x.1 x.2 = (q, ks) → K (.exit 0) (tmps 26 [(4, p1), (5, slN 2 ks.length)]) (H530 s q ks)
noncomputable def cut522e (s : ByteArray) : CutE where
  β := PS × List Rx
  p := [1,1,1]
  t := fun x => tmps 26 [(4, p1), (5, frK x.2)]
  h := fun x => hp [psB s x.1, nil6]
  Q := fun x K => K .ret (tmps 26 [(4, p1)]) (hp [psB s x.1, .cells (rxB (altT x.2)) 6 true])

theorem w522 (hm : Try.prog.follows .mixedOrders = true) (n : Nat) (hn : (wayX n).Holds Try.prog 54) (s : ByteArray) (a d : Nat) (b : Bool) (K : Value → Heap → Prop) :
  funX Try.prog (S522 hm n hn) (gcLKX (at0 []) (fun p => cond (beqL p [1,1,1]) [.fz (.tmp 5 []) (.sl 6)] [.tmp 5 6]) 1 (cutE [cut522l s n d, cut522e s])) F522 body522 Try.f41 [] [] [pA, .int .i64 (d : Int)] (pB s a b) K = (
(FlatL [Value.string s, Value.int IntKind.i64 (↑a : Int), Value.bool b] ∧ True) ∧ (POk s (↑a : Int) ∧ WOk s { a := (↑a : Int).toNat, b := b : PS } [Value.int IntKind.i64 (↑d : Int)] (n + 1)) ∧ ∀ (x : PS × Rx), x = wayR
(facR (atmR (wysN s n) s (dep [Value.int IntKind.i64 (↑d : Int)])) s) s { a := (↑a : Int).toNat, b := b : PS } → FlatD [] (hp [Blk.cells [Value.string s, Value.int IntKind.i64 (↑x.fst.a : Int), Value.bool x.fst.b] 3
true, Blk.cells [Value.int IntKind.i64 0, Value.int IntKind.u64 0, Value.int IntKind.u64 0, Value.int IntKind.u64 0, Value.int IntKind.u64 0, Value.slice none 0 0] 6 true, Blk.cells [Value.int IntKind.i64 (↑x.snd.op :
Int), Value.int IntKind.u64 (↑x.snd.set.x0 : Int), Value.int IntKind.u64 (↑x.snd.set.x1 : Int), Value.int IntKind.u64 (↑x.snd.set.x2 : Int), Value.int IntKind.u64 (↑x.snd.set.x3 : Int), Value.iface 0 (Value.agg
#[Value.int IntKind.i64 6, Value.int IntKind.i64 (↑x.snd.kids.length : Int), Value.agg (rxL x.snd.kids).toArray])] 6 true]) ∧ ∃ (b : PS × Rx), tmps 26 [(0, Value.pointer (some { block := 0, off := 0 : Addr })), (1,
Value.int IntKind.i64 (↑d : Int)), (4, Value.pointer (some { block := 1, off := 0 : Addr })), (5, Value.slice (some { block := 2, off := 0, spot := some 0 : Addr }) 1 1)] = tmps 26 [(0, Value.pointer (some
{ block := 0, off := 0 : Addr })), (1, Value.int IntKind.i64 (↑d : Int)), (4, Value.pointer (some { block := 1, off := 0 : Addr })), (5, Value.slice (some { block := 2, off := 0, spot := some 0 : Addr }) 1 1)] ∧ hp
[Blk.cells [Value.string s, Value.int IntKind.i64 (↑x.fst.a : Int), Value.bool x.fst.b] 3 true, Blk.cells [Value.int IntKind.i64 0, Value.int IntKind.u64 0, Value.int IntKind.u64 0, Value.int IntKind.u64 0, Value.int
IntKind.u64 0, Value.slice none 0 0] 6 true, Blk.cells [Value.int IntKind.i64 (↑x.snd.op : Int), Value.int IntKind.u64 (↑x.snd.set.x0 : Int), Value.int IntKind.u64 (↑x.snd.set.x1 : Int), Value.int IntKind.u64
(↑x.snd.set.x2 : Int), Value.int IntKind.u64 (↑x.snd.set.x3 : Int), Value.iface 0 (Value.agg #[Value.int IntKind.i64 6, Value.int IntKind.i64 (↑x.snd.kids.length : Int), Value.agg (rxL x.snd.kids).toArray])] 6 true] = hp
[Blk.cells [Value.string s, Value.int IntKind.i64 (↑b.fst.a : Int), Value.bool b.fst.b] 3 true, Blk.cells [Value.int IntKind.i64 0, Value.int IntKind.u64 0, Value.int IntKind.u64 0, Value.int IntKind.u64 0, Value.int
IntKind.u64 0, Value.slice none 0 0] 6 true, Blk.cells [Value.int IntKind.i64 (↑b.snd.op : Int), Value.int IntKind.u64 (↑b.snd.set.x0 : Int), Value.int IntKind.u64 (↑b.snd.set.x1 : Int), Value.int IntKind.u64
(↑b.snd.set.x2 : Int), Value.int IntKind.u64 (↑b.snd.set.x3 : Int), Value.iface 0 (Value.agg #[Value.int IntKind.i64 6, Value.int IntKind.i64 (↑b.snd.kids.length : Int), Value.agg (rxL b.snd.kids).toArray])] 6 true] ∧
b.fst.a.le s.size ∧ (s.size - b.fst.a).succ.le (n + 1) ∧ (b.fst.b = false → s.size.le 40) ∧ (seF s b.fst 124 = false → FlatL [Value.int IntKind.i64 (↑b.snd.op : Int), Value.int IntKind.u64 (↑b.snd.set.x0 : Int),
Value.int IntKind.u64 (↑b.snd.set.x1 : Int), Value.int IntKind.u64 (↑b.snd.set.x2 : Int), Value.int IntKind.u64 (↑b.snd.set.x3 : Int), Value.iface 0 (Value.agg #[Value.int IntKind.i64 6, Value.int IntKind.i64
(↑b.snd.kids.length : Int), Value.agg (rxL b.snd.kids).toArray])] ∧ FlatD [] (hp [Blk.cells [Value.string s, Value.int IntKind.i64 (↑b.fst.a : Int), Value.bool b.fst.b] 3 true, Blk.cells [Value.int IntKind.i64 0,
Value.int IntKind.u64 0, Value.int IntKind.u64 0, Value.int IntKind.u64 0, Value.int IntKind.u64 0, Value.slice none 0 0] 6 true]) ∧ ∃ (b_1 : PS × List Rx), tmps 26 [(4, Value.pointer (some
{ block := 1, off := 0 : Addr })), (5, Value.iface 0 (Value.agg #[Value.int IntKind.i64 6, Value.int IntKind.i64 1, Value.agg #[Value.int IntKind.i64 (↑b.snd.op : Int), Value.int IntKind.u64 (↑b.snd.set.x0 : Int),
Value.int IntKind.u64 (↑b.snd.set.x1 : Int), Value.int IntKind.u64 (↑b.snd.set.x2 : Int), Value.int IntKind.u64 (↑b.snd.set.x3 : Int), Value.iface 0 (Value.agg #[Value.int IntKind.i64 6, Value.int IntKind.i64
(↑b.snd.kids.length : Int), Value.agg (rxL b.snd.kids).toArray])]]))] = tmps 26 [(4, Value.pointer (some { block := 1, off := 0 : Addr })), (5, Value.iface 0 (Value.agg #[Value.int IntKind.i64 6, Value.int IntKind.i64
(↑b_1.snd.length : Int), Value.agg (rxL b_1.snd).toArray]))] ∧ hp [Blk.cells [Value.string s, Value.int IntKind.i64 (↑b.fst.a : Int), Value.bool b.fst.b] 3 true, Blk.cells [Value.int IntKind.i64 0, Value.int IntKind.u64
0, Value.int IntKind.u64 0, Value.int IntKind.u64 0, Value.int IntKind.u64 0, Value.slice none 0 0] 6 true] = hp [Blk.cells [Value.string s, Value.int IntKind.i64 (↑b_1.fst.a : Int), Value.bool b_1.fst.b] 3 true,
Blk.cells [Value.int IntKind.i64 0, Value.int IntKind.u64 0, Value.int IntKind.u64 0, Value.int IntKind.u64 0, Value.int IntKind.u64 0, Value.slice none 0 0] 6 true] ∧ K (Value.agg #[Value.int IntKind.i64 (↑(altT
b_1.snd).op : Int), Value.int IntKind.u64 (↑(altT b_1.snd).set.x0 : Int), Value.int IntKind.u64 (↑(altT b_1.snd).set.x1 : Int), Value.int IntKind.u64 (↑(altT b_1.snd).set.x2 : Int), Value.int IntKind.u64 (↑(altT
b_1.snd).set.x3 : Int), Value.iface 0 (Value.agg #[Value.int IntKind.i64 6, Value.int IntKind.i64 (↑(altT b_1.snd).kids.length : Int), Value.agg (rxL (altT b_1.snd).kids).toArray])]) (hp [Blk.cells [Value.string s,
Value.int IntKind.i64 (↑b_1.fst.a : Int), Value.bool b_1.fst.b] 3 true])) ∧ ∀ (q : PS) (ks : List Rx), seF s b.fst 124 = true → wysE s n d b.fst b.snd = (q, ks) → Need (leN (0 + ks.length * 6) (rxL ks).length) (FlatL
(List.take (ks.length * 6) (List.drop 0 (rxL ks))) ∧ FlatD [] (hp [Blk.cells [Value.string s, Value.int IntKind.i64 (↑q.a : Int), Value.bool q.b] 3 true, Blk.cells [Value.int IntKind.i64 0, Value.int IntKind.u64 0,
Value.int IntKind.u64 0, Value.int IntKind.u64 0, Value.int IntKind.u64 0, Value.slice none 0 0] 6 true]) ∧ ∃ (b : PS × List Rx), tmps 26 [(4, Value.pointer (some { block := 1, off := 0 : Addr })), (5, Value.iface 0
(Value.agg #[Value.int IntKind.i64 6, Value.int IntKind.i64 (↑ks.length : Int), Value.agg (List.take (ks.length * 6) (List.drop 0 (rxL ks))).toArray]))] = tmps 26 [(4, Value.pointer (some
{ block := 1, off := 0 : Addr })), (5, Value.iface 0 (Value.agg #[Value.int IntKind.i64 6, Value.int IntKind.i64 (↑b.snd.length : Int), Value.agg (rxL b.snd).toArray]))] ∧ hp [Blk.cells [Value.string s, Value.int
IntKind.i64 (↑q.a : Int), Value.bool q.b] 3 true, Blk.cells [Value.int IntKind.i64 0, Value.int IntKind.u64 0, Value.int IntKind.u64 0, Value.int IntKind.u64 0, Value.int IntKind.u64 0, Value.slice none 0 0] 6 true] = hp
[Blk.cells [Value.string s, Value.int IntKind.i64 (↑b.fst.a : Int), Value.bool b.fst.b] 3 true, Blk.cells [Value.int IntKind.i64 0, Value.int IntKind.u64 0, Value.int IntKind.u64 0, Value.int IntKind.u64 0, Value.int
IntKind.u64 0, Value.slice none 0 0] 6 true] ∧ K (Value.agg #[Value.int IntKind.i64 (↑(altT b.snd).op : Int), Value.int IntKind.u64 (↑(altT b.snd).set.x0 : Int), Value.int IntKind.u64 (↑(altT b.snd).set.x1 : Int),
Value.int IntKind.u64 (↑(altT b.snd).set.x2 : Int), Value.int IntKind.u64 (↑(altT b.snd).set.x3 : Int), Value.iface 0 (Value.agg #[Value.int IntKind.i64 6, Value.int IntKind.i64 (↑(altT b.snd).kids.length : Int),
Value.agg (rxL (altT b.snd).kids).toArray])]) (hp [Blk.cells [Value.string s, Value.int IntKind.i64 (↑b.fst.a : Int), Value.bool b.fst.b] 3 true]))) := by kernel_rfl

end Go.Proofs.Ytfgiifppapopnaa

namespace Go.Proofs.Ytfgiifppapopnaa
open Go.RowKit Go.Proofs.Ytfgiifppapopnaa.AM
set_option maxRecDepth 100000
set_option maxHeartbeats 4000000
theorem nil6_flat : FlatL [.int .i64 0, .int .u64 0, .int .u64 0, .int .u64 0, .int .u64 0, .slice none 0 0] := nilB_flat 0
theorem H530_D (s : ByteArray) (p : PS) (ks : List Rx) : FlatD [] (H530 s p ks) := FlatD.hp ⟨pB_flat _ _ _, nil6_flat, rxL_flat ks, trivial⟩
theorem H522z_D (s : ByteArray) (p : PS) (x : Rx) : FlatD [] (H522z s p x) := FlatD.hp ⟨pB_flat _ _ _, nil6_flat, rxB_flat x, trivial⟩
theorem Hpn_D (s : ByteArray) (p : PS) : FlatD [] (hp [psB s p, nil6]) := FlatD.hp ⟨pB_flat _ _ _, nil6_flat, trivial⟩
theorem Hpx_D (s : ByteArray) (p : PS) (x : Rx) : FlatD [] (hp [psB s p, .cells (rxB x) 6 true]) := FlatD.hp ⟨pB_flat _ _ _, rxB_flat x, trivial⟩
theorem rxL_take (ks : List Rx) : List.take (ks.length * 6) (List.drop 0 (rxL ks)) = rxL ks := by rw [List.drop_zero, List.take_of_length_le (by rw [rxL_len]; omega)]
theorem rxL_more (ks : List Rx) (y : Rx) : List.take (ks.length * 6) (List.drop 0 (rxL ks)) ++ [.int .i64 (y.op : Int), .int .u64 (y.set.x0 : Int), .int .u64 (y.set.x1 : Int), .int .u64 (y.set.x2 : Int), .int .u64 (y.set.x3 : Int), frK y.kids] = rxL (ks ++ [y]) := by
  rw [rxL_take, rxL_append, rxL_one1, kv_eq]; rfl
theorem rxL_B (x : Rx) : rxL [x] = rxB x := by rw [rxL_one1, kv_eq]
theorem frK_one (x : Rx) : frK [x] = frK1 x := by
  show Value.iface 0 (.agg #[.int .i64 6, .int .i64 (([x] : List Rx).length : Int), .agg (rxL [x]).toArray]) = _
  rw [rxL_B]; rfl
theorem room40 {k : Nat} (h : k ≤ 41) : leN ((k + 1) * 64) 1099511627776 = true ∧ leN (k + 1) 1099511627776 = true := ⟨leN_iff.2 (by omega), leN_iff.2 (by omega)⟩
section
variable (hm : Try.prog.follows .mixedOrders = true)
include hm
theorem sure530 (n : Nat) (hn : (facX n).Holds Try.prog 67) : Sure Try.prog (S530 hm n hn) := Sure.addI (Sure.withS ⟨hm, plain, bookW_ok (sure539 hm).sums (l := [(66, seesC)]) ⟨sees_says hm, trivial⟩⟩ (l := [(67, (facX n).summ hn)]) ⟨(facX n).sum_ok _, trivial⟩) ⟨⟨Try.func65, rfl⟩, trivial⟩
theorem round530 (n : Nat) (hn : (facX n).Holds Try.prog 67) (s : ByteArray) (hs : s.size ≤ 140737488351232) (a : Nat) (b : Bool) (d : Nat) (hd : d ≤ 8) (ks : List Rx) (K : Post) (ha : a ≤ s.size) (hf : s.size - a < n + 1) (hb : b = false → s.size ≤ 40) (hk : ks.length ≤ a)
    (hE : (ovF s ⟨a, b⟩ || (seF s ⟨a, b⟩ 124 || seF s ⟨a, b⟩ 41)) = true → K (.exit 0) (tmps 33 [(4, p1), (5, slN 2 ks.length)]) (H530 s ⟨a, b⟩ ks))
    (hK : (ovF s ⟨a, b⟩ || (seF s ⟨a, b⟩ 124 || seF s ⟨a, b⟩ 41)) = false → LSays Try.prog 1 (sub body530 [0,0,0,1,1]) (T530 d (ks ++ [(facA s n d ⟨a, b⟩).2]).length) (H530 s (facA s n d ⟨a, b⟩).1 (ks ++ [(facA s n d ⟨a, b⟩).2])) K) :
    LSays Try.prog 1 (sub body530 [0,0,0,1,1]) (T530 d ks.length) (H530 s ⟨a, b⟩ ks) K := by
  refine (sure530 hm n hn).roundX F530 noLoops [] [.tmp 5 6] [] [.tmp 5 6] [0,1,4,5] ?_
  rw [r530]
  simp only [Int.toNat_natCast, strV, intV, boolV]
  cases b with
  | true => exact ⟨H530_D s ⟨a, true⟩ ks, hE (by simp [ovF])⟩
  | false =>
    by_cases hlt : a < s.size
    · have e1 : leI (s.size : Int) (a : Int) = false := by rw [leI_eq, decide_eq_false]; omega
      have e2 : ovF s ⟨a, false⟩ = false := by simp [ovF]; omega
      rw [e1]
      rw [e2, Bool.false_or] at hE hK
      have hok : POk s (a : Int) := ⟨by omega, by omega, hs⟩
      refine ⟨⟨pB_flat _ _ _, trivial⟩, ⟨hok, ⟨124⟩⟩, ?_⟩
      cases h1 : seF s ⟨a, false⟩ 124 with
      | true => exact ⟨H530_D s ⟨a, false⟩ ks, hE (by rw [h1]; rfl)⟩
      | false =>
      refine ⟨⟨pB_flat _ _ _, trivial⟩, ⟨hok, ⟨41⟩⟩, ?_⟩
      cases h2 : seF s ⟨a, false⟩ 41 with
      | true => exact ⟨H530_D s ⟨a, false⟩ ks, hE (by rw [h1, h2]; rfl)⟩
      | false =>
      refine ⟨⟨pB_flat _ _ _, trivial⟩, ⟨hok, ⟨⟨d, hd⟩, hf, hb⟩⟩, ?_⟩
      have hk' := hK (by rw [h1, h2]; rfl)
      rintro x hx
      have hdd : dep [.int .i64 (d : Int)] = d := Int.toNat_natCast d
      simp only [hdd] at hx
      change x = facA s n d ⟨a, false⟩ at hx
      rw [← hx] at hk'
      have hr := room40 (k := ks.length) (by have := hb rfl; omega)
      refine Need_iff.2 ⟨leN_iff.2 (by rw [rxL_len]; omega), Need_iff.2 ⟨hr.1, Need_iff.2 ⟨hr.2, ?_⟩⟩⟩
      rw [rxL_more, show ks.length + 1 = (ks ++ [x.2]).length by simp]
      exact ⟨H530_D s x.1 (ks ++ [x.2]), hk'⟩
    · have e1 : leI (s.size : Int) (a : Int) = true := leI_iff.2 (by omega)
      have e2 : ovF s ⟨a, false⟩ = true := by simp [ovF]; omega
      rw [e1]
      exact ⟨H530_D s ⟨a, false⟩ ks, hE (by rw [e2]; rfl)⟩
theorem wayF (n : Nat) (hn : (facX n).Holds Try.prog 67) (s : ByteArray) (hs : s.size ≤ 140737488351232) (d : Nat) (hd : d ≤ 8) (K : Post) : ∀ (m a : Nat) (b : Bool) (ks : List Rx), a ≤ s.size → s.size - a < n + 1 → (b = false → s.size ≤ 40) → ks.length ≤ a → (ovF s ⟨a, b⟩ = false → s.size - a < m) →
    K (.exit 0) (tmps 33 [(4, p1), (5, slN 2 (wayL (facA s n d) s m ⟨a, b⟩ ks).2.length)]) (H530 s (wayL (facA s n d) s m ⟨a, b⟩ ks).1 (wayL (facA s n d) s m ⟨a, b⟩ ks).2) →
    LSays Try.prog 1 (sub body530 [0,0,0,1,1]) (T530 d ks.length) (H530 s ⟨a, b⟩ ks) K := by
  intro m
  induction m with
  | zero =>
    intro a b ks ha hf hb hk hm0 hK
    have ho : ovF s ⟨a, b⟩ = true := by
      cases h : ovF s ⟨a, b⟩ with
      | true => rfl
      | false => have := hm0 h; omega
    exact round530 hm n hn s hs a b d hd ks K ha hf hb hk (fun _ => hK) (fun h => by rw [ho] at h; cases h)
  | succ m ih =>
    intro a b ks ha hf hb hk hm0 hK
    unfold wayL at hK
    refine round530 hm n hn s hs a b d hd ks K ha hf hb hk (fun h => by rw [if_pos h] at hK; exact hK) fun h => ?_
    rw [if_neg (by rw [h]; decide)] at hK
    have ho : ovF s ⟨a, b⟩ = false := by
      cases h1 : ovF s ⟨a, b⟩ with
      | false => rfl
      | true => rw [h1] at h; cases h
    have hA := atm_goes (wysN_goes s n (d + 1))
    have hE := atm_eats (wysN_goes s n (d + 1))
    have hg := fac_goes hA ⟨a, b⟩ ha
    have he := fac_eats hA hE ⟨a, b⟩ ha ho
    change Stp s ⟨a, b⟩ (facA s n d ⟨a, b⟩).1 at hg
    change a + 1 ≤ (facA s n d ⟨a, b⟩).1.a at he
    have hm1 := hm0 ho
    generalize facA s n d ⟨a, b⟩ = y at *
    obtain ⟨⟨ya, yb⟩, y⟩ := y
    have g2 := hg.sz
    have g3 := hg.bad
    simp only at g2 g3 he
    have h40 : b = false := by simp only [ovF, Bool.or_eq_false_iff] at ho; exact ho.1
    exact ih ya yb (ks ++ [y]) g2 (by omega) (fun _ => hb h40) (by simp; omega) (fun _ => by omega) hK
theorem loops530 (n : Nat) (hn : (facX n).Holds Try.prog 67) (s : ByteArray) (hs : s.size ≤ 140737488351232) (d : Nat) (hd : d ≤ 8) : Loops Try.prog body530 1 (cutE [cut530l s n d, cut530e s]) := (Loops.noneE.moreE (cut530e s) fun x K hq => by
    obtain ⟨p, ks⟩ := x
    refine (sure530 hm n hn).cutN F530 noLoops [] [] [] [] [] ?_
    match ks with
    | [x] =>
      show roundX Try.prog (S530 hm n hn) noLoop F530 body530 1 [] [] [] [] [] [1, 1, 1] (tmps 33 [(4, p1), (5, frK [x])]) (hp [psB s p, nil6]) _
      rw [frK_one, r530o]
      exact ⟨Hpx_D s p x, hq⟩
    | [] =>
      show roundX Try.prog (S530 hm n hn) noLoop F530 body530 1 [] [] [] [] [] [1, 1, 1] (tmps 33 [(4, p1), (5, frK [])]) (hp [psB s p, nil6]) _
      rw [r530m]
      exact ⟨Hpx_D s p (.mk 2 nilS []), hq⟩
    | x :: y :: l =>
      show roundX Try.prog (S530 hm n hn) noLoop F530 body530 1 [] [] [] [] [] [1, 1, 1] (tmps 33 [(4, p1), (5, frK (x :: y :: l))]) (hp [psB s p, nil6]) _
      rw [r530m, show eqI (((x :: y :: l).length : Nat) : Int) 1 = false by rw [eqI_eq, decide_eq_false]; simp only [List.length_cons]; omega]
      exact ⟨Hpx_D s p (.mk 2 nilS (x :: y :: l)), hq⟩).moreE (cut530l s n d) fun x K hq => by
  obtain ⟨a, b⟩ := x
  obtain ⟨q1, q2, q3, q4⟩ := hq
  have := wayF hm n hn s hs d hd K (s.size + 1) a b [] q1 q2 q3 (Nat.zero_le _) (fun _ => by omega) (q4 _ _ rfl)
  rw [show H530 s ⟨a, b⟩ [] = hp [psB s ⟨a, b⟩, nil6, .cells [] 6 true] by rw [← rxL_nil]] at this
  exact this
theorem wayX_says (n : Nat) (hn : (facX n).Holds Try.prog 67) : (wayX n).Holds Try.prog 54 := by
  refine pX_holds ?_
  rintro s a b r ha hs ⟨⟨d, hd⟩, hf, hb⟩
  refine (sure530 hm n hn).funX F530 body530 [] [] Try.func54 rfl ((loops530 hm n hn s hs d hd).gcX (at0 []) (fun p => cond (beqL p [1,1,1]) [.fz (.tmp 5 []) (.sl 6)] [.tmp 5 6])) ?_
  rw [w530]
  have hdd : dep [.int .i64 (d : Int)] = d := Int.toNat_natCast d
  refine ⟨FlatD.hp ⟨pB_flat _ _ _, nil6_flat, ⟨fun v hv => by simp at hv⟩, trivial⟩, ⟨a, b⟩, by first | exact trivial | exact rfl, by first | exact trivial | exact rfl, ha, hf, hb, ?_⟩
  intro q ks hw
  have hR : wayR (facR (atmR (wysN s n) s d) s) s ⟨a, b⟩ = (q, seqT ks) := by
    show ((wayE s n d ⟨a, b⟩).1, seqT (wayE s n d ⟨a, b⟩).2) = _
    rw [hw]
  refine Need_iff.2 ⟨leN_iff.2 (by rw [rxL_len]; omega), ?_⟩
  rw [rxL_take]
  simp only [hdd, hR]
  exact ⟨rxL_flat ks, Hpn_D s q, (q, ks), by first | exact trivial | exact rfl, by first | exact trivial | exact rfl, pB_D _ _ _, by first | exact trivial | exact rfl, by first | exact trivial | exact rfl, by first | exact trivial | exact rfl⟩
end
end Go.Proofs.Ytfgiifppapopnaa

namespace Go.Proofs.Ytfgiifppapopnaa
open Go.RowKit Go.Proofs.Ytfgiifppapopnaa.AM
set_option maxRecDepth 100000
set_option maxHeartbeats 4000000
section
variable (hm : Try.prog.follows .mixedOrders = true)
include hm
theorem sure522 (n : Nat) (hn : (wayX n).Holds Try.prog 54) : Sure Try.prog (S522 hm n hn) := Sure.addI (Sure.withS ⟨hm, plain, bookW_ok (sure539 hm).sums (l := [(66, seesC)]) ⟨sees_says hm, trivial⟩⟩ (l := [(54, (wayX n).summ hn)]) ⟨(wayX n).sum_ok _, trivial⟩) ⟨⟨Try.func55, rfl⟩, trivial⟩
theorem round522 (n : Nat) (hn : (wayX n).Holds Try.prog 54) (s : ByteArray) (hs : s.size ≤ 140737488351232) (a : Nat) (b : Bool) (d : Nat) (hd : d ≤ 8) (ks : List Rx) (K : Post) (ha : a ≤ s.size) (hf : s.size - a < n + 1) (hb : b = false → s.size ≤ 40) (hk : ks.length ≤ a + 1)
    (hE : seF s ⟨a, b⟩ 124 = false → K (.exit 0) (tmps 26 [(4, p1), (5, slN 2 ks.length)]) (H530 s ⟨a, b⟩ ks))
    (hK : seF s ⟨a, b⟩ 124 = true → LSays Try.prog 1 (sub body522 [0,0,0,1,1]) (T522 d (ks ++ [(wayA s n d ⟨a + 1, b⟩).2]).length) (H530 s (wayA s n d ⟨a + 1, b⟩).1 (ks ++ [(wayA s n d ⟨a + 1, b⟩).2])) K) :
    LSays Try.prog 1 (sub body522 [0,0,0,1,1]) (T522 d ks.length) (H530 s ⟨a, b⟩ ks) K := by
  refine (sure522 hm n hn).roundX F522 noLoops [] [.tmp 5 6] [] [.tmp 5 6] [0,1,4,5] ?_
  rw [r522]
  have hok : POk s (a : Int) := ⟨by omega, by omega, hs⟩
  refine ⟨⟨pB_flat _ _ _, trivial⟩, ⟨hok, ⟨124⟩⟩, ?_⟩
  simp only [Int.toNat_natCast, intV]
  cases h1 : seF s ⟨a, b⟩ 124 with
  | false => exact ⟨H530_D s ⟨a, b⟩ ks, hE h1⟩
  | true =>
    have hl := lt_nx h1
    simp only at hl
    obtain ⟨hlt, rfl⟩ := hl
    have hk' := hK h1
    simp only [nx a (by omega), Int.toNat_natCast]
    refine ⟨⟨pB_flat _ _ _, trivial⟩, ⟨⟨by omega, by omega, hs⟩, ⟨⟨d, hd⟩, by first | omega | (simp only; omega), hb⟩⟩, ?_⟩
    rintro x hx
    have hdd : dep [.int .i64 (d : Int)] = d := Int.toNat_natCast d
    simp only [hdd] at hx
    change x = wayA s n d ⟨a + 1, false⟩ at hx
    rw [← hx] at hk'
    have hr := room40 (k := ks.length) (by have := hb rfl; omega)
    refine Need_iff.2 ⟨leN_iff.2 (by rw [rxL_len]; omega), Need_iff.2 ⟨hr.1, Need_iff.2 ⟨hr.2, ?_⟩⟩⟩
    rw [rxL_more, show ks.length + 1 = (ks ++ [x.2]).length by simp]
    exact ⟨H530_D s x.1 (ks ++ [x.2]), hk'⟩
theorem round522z (n : Nat) (hn : (wayX n).Holds Try.prog 54) (s : ByteArray) (hs : s.size ≤ 140737488351232) (a : Nat) (b : Bool) (d : Nat) (hd : d ≤ 8) (y : Rx) (K : Post) (ha : a ≤ s.size) (hf : s.size - a < n + 1) (hb : b = false → s.size ≤ 40)
    (hE : seF s ⟨a, b⟩ 124 = false → K (.exit 0) (tmps 26 [(4, p1), (5, .slice (some ⟨2,0,some 0⟩) 1 1)]) (H522z s ⟨a, b⟩ y))
    (hK : seF s ⟨a, b⟩ 124 = true → LSays Try.prog 1 (sub body522 [0,0,0,1,1]) (T522 d 2) (H530 s (wayA s n d ⟨a + 1, b⟩).1 [y, (wayA s n d ⟨a + 1, b⟩).2]) K) :
    LSays Try.prog 1 (sub body522 [0,0,0,1,1]) (T522z d) (H522z s ⟨a, b⟩ y) K := by
  refine (sure522 hm n hn).roundX F522 noLoops [] [.tmp 5 6] [] [.tmp 5 6] [0,1,4,5] ?_
  rw [r522z]
  have hok : POk s (a : Int) := ⟨by omega, by omega, hs⟩
  refine ⟨⟨pB_flat _ _ _, trivial⟩, ⟨hok, ⟨124⟩⟩, ?_⟩
  simp only [Int.toNat_natCast, intV]
  cases h1 : seF s ⟨a, b⟩ 124 with
  | false => exact ⟨H522z_D s ⟨a, b⟩ y, hE h1⟩
  | true =>
    have hl := lt_nx h1
    simp only at hl
    obtain ⟨hlt, rfl⟩ := hl
    have hk' := hK h1
    simp only [nx a (by omega), Int.toNat_natCast]
    refine ⟨⟨pB_flat _ _ _, trivial⟩, ⟨⟨by omega, by omega, hs⟩, ⟨⟨d, hd⟩, by first | omega | (simp only; omega), hb⟩⟩, ?_⟩
    rintro x hx
    have hdd : dep [.int .i64 (d : Int)] = d := Int.toNat_natCast d
    simp only [hdd] at hx
    change x = wayA s n d ⟨a + 1, false⟩ at hx
    rw [← hx] at hk'
    have eC : rxL [y, x.2] = [.int .i64 (y.op : Int), .int .u64 (y.set.x0 : Int), .int .u64 (y.set.x1 : Int), .int .u64 (y.set.x2 : Int), .int .u64 (y.set.x3 : Int), frK y.kids, .int .i64 (x.2.op : Int), .int .u64 (x.2.set.x0 : Int), .int .u64 (x.2.set.x1 : Int), .int .u64 (x.2.set.x2 : Int), .int .u64 (x.2.set.x3 : Int), frK x.2.kids] := by
      rw [rxL_cons, rxL_one1, kv_eq, kv_eq]; rfl
    have hD := H530_D s x.1 [y, x.2]
    unfold H530 at hD hk'
    rw [eC] at hD hk'
    exact ⟨hD, hk'⟩
theorem waysF (n : Nat) (hn : (wayX n).Holds Try.prog 54) (s : ByteArray) (hs : s.size ≤ 140737488351232) (d : Nat) (hd : d ≤ 8) (K : Post) : ∀ (m a : Nat) (b : Bool) (ks : List Rx), a ≤ s.size → s.size - a < n + 1 → (b = false → s.size ≤ 40) → ks.length ≤ a + 1 → (ovF s ⟨a, b⟩ = false → s.size - a < m) →
    K (.exit 0) (tmps 26 [(4, p1), (5, slN 2 (wysL (wayA s n d) s m ⟨a, b⟩ ks).2.length)]) (H530 s (wysL (wayA s n d) s m ⟨a, b⟩ ks).1 (wysL (wayA s n d) s m ⟨a, b⟩ ks).2) →
    LSays Try.prog 1 (sub body522 [0,0,0,1,1]) (T522 d ks.length) (H530 s ⟨a, b⟩ ks) K := by
  intro m
  induction m with
  | zero =>
    intro a b ks ha hf hb hk hm0 hK
    have ho : seF s ⟨a, b⟩ 124 = false := by
      cases h : seF s ⟨a, b⟩ 124 with
      | false => rfl
      | true =>
        have hl := lt_nx h
        simp only at hl
        have := hm0 (by simp [ovF, hl.2]; omega)
        omega
    exact round522 hm n hn s hs a b d hd ks K ha hf hb hk (fun _ => hK) (fun h => by rw [ho] at h; cases h)
  | succ m ih =>
    intro a b ks ha hf hb hk hm0 hK
    unfold wysL at hK
    refine round522 hm n hn s hs a b d hd ks K ha hf hb hk (fun h => by rw [if_neg (by rw [h]; decide)] at hK; exact hK) fun h => ?_
    rw [if_pos h] at hK
    have hl := lt_nx h
    simp only at hl
    obtain ⟨hlt, rfl⟩ := hl
    have hg : Stp s ⟨a + 1, false⟩ (wayA s n d ⟨a + 1, false⟩).1 := way_goes (fac_goes (atm_goes (wysN_goes s n (d + 1)))) ⟨a + 1, false⟩ hlt
    have hm1 := hm0 (by simp [ovF]; omega)
    generalize wayA s n d ⟨a + 1, false⟩ = y at *
    obtain ⟨⟨ya, yb⟩, y⟩ := y
    have g1 := hg.le
    have g2 := hg.sz
    simp only at g1 g2
    exact ih ya yb (ks ++ [y]) g2 (by omega) (fun _ => hb rfl) (by simp; omega) (fun _ => by omega) hK
theorem loops522 (n : Nat) (hn : (wayX n).Holds Try.prog 54) (s : ByteArray) (hs : s.size ≤ 140737488351232) (d : Nat) (hd : d ≤ 8) : Loops Try.prog body522 1 (cutE [cut522l s n d, cut522e s]) := (Loops.noneE.moreE (cut522e s) fun x K hq => by
    obtain ⟨p, ks⟩ := x
    refine (sure522 hm n hn).cutN F522 noLoops [] [] [] [] [] ?_
    match ks with
    | [x] =>
      show roundX Try.prog (S522 hm n hn) noLoop F522 body522 1 [] [] [] [] [] [1, 1, 1] (tmps 26 [(4, p1), (5, frK [x])]) (hp [psB s p, nil6]) _
      rw [frK_one, r522o]
      exact ⟨Hpx_D s p x, hq⟩
    | [] =>
      show roundX Try.prog (S522 hm n hn) noLoop F522 body522 1 [] [] [] [] [] [1, 1, 1] (tmps 26 [(4, p1), (5, frK [])]) (hp [psB s p, nil6]) _
      rw [r522m]
      exact ⟨Hpx_D s p (.mk 3 nilS []), hq⟩
    | x :: y :: l =>
      show roundX Try.prog (S522 hm n hn) noLoop F522 body522 1 [] [] [] [] [] [1, 1, 1] (tmps 26 [(4, p1), (5, frK (x :: y :: l))]) (hp [psB s p, nil6]) _
      rw [r522m, show eqI (((x :: y :: l).length : Nat) : Int) 1 = false by rw [eqI_eq, decide_eq_false]; simp only [List.length_cons]; omega]
      exact ⟨Hpx_D s p (.mk 3 nilS (x :: y :: l)), hq⟩).moreE (cut522l s n d) fun x K hq => by
  obtain ⟨⟨a, b⟩, y⟩ := x
  obtain ⟨q1, q2, q3, q4, q5⟩ := hq
  refine round522z hm n hn s hs a b d hd y K q1 q2 q3 q4 fun h => ?_
  have hl := lt_nx h
  simp only at hl q1 q2 q3
  obtain ⟨hlt, rfl⟩ := hl
  have hE5 : wysE s n d ⟨a, false⟩ y = wysL (wayA s n d) s s.size (wayA s n d ⟨a + 1, false⟩).1 ([y] ++ [(wayA s n d ⟨a + 1, false⟩).2]) := by
    show wysL (wayA s n d) s (s.size + 1) ⟨a, false⟩ [y] = _
    rw [wysL, if_pos h]
  have q5 := q5 _ _ h hE5
  have hg : Stp s ⟨a + 1, false⟩ (wayA s n d ⟨a + 1, false⟩).1 := way_goes (fac_goes (atm_goes (wysN_goes s n (d + 1)))) ⟨a + 1, false⟩ hlt
  try simp only at q5
  generalize wayA s n d ⟨a + 1, false⟩ = z at *
  obtain ⟨⟨za, zb⟩, z⟩ := z
  have g1 := hg.le
  have g2 := hg.sz
  simp only at g1 g2
  exact waysF hm n hn s hs d hd K s.size za zb [y, z] g2 (by omega) (fun _ => q3 rfl) (by simp; omega) (fun _ => by omega) q5
theorem waysX_says (n : Nat) (hn : (wayX n).Holds Try.prog 54) : (waysX (n + 1)).Holds Try.prog 41 := by
  refine pX_holds ?_
  rintro s a b r ha hs ⟨⟨d, hd⟩, hf, hb⟩
  refine (sure522 hm n hn).funX F522 body522 [] [] Try.func41 rfl ((loops522 hm n hn s hs d hd).gcX (at0 []) (fun p => cond (beqL p [1,1,1]) [.fz (.tmp 5 []) (.sl 6)] [.tmp 5 6])) ?_
  rw [w522]
  have hdd : dep [.int .i64 (d : Int)] = d := Int.toNat_natCast d
  simp only at hf hb
  refine ⟨⟨pB_flat _ _ _, trivial⟩, ⟨⟨by omega, by omega, hs⟩, ⟨⟨d, hd⟩, by simp only [Int.toNat_natCast]; omega, fun h => hb h⟩⟩, ?_⟩
  rintro x hx
  simp only [Int.toNat_natCast, hdd] at hx
  change x = wayA s n d ⟨a, b⟩ at hx
  have hg : Stp s ⟨a, b⟩ (wayA s n d ⟨a, b⟩).1 := way_goes (fac_goes (atm_goes (wysN_goes s n (d + 1)))) ⟨a, b⟩ ha
  have hR0 : wysN s (n + 1) d ⟨a, b⟩ = ((wysE s n d (wayA s n d ⟨a, b⟩).1 (wayA s n d ⟨a, b⟩).2).1, altT (wysE s n d (wayA s n d ⟨a, b⟩).1 (wayA s n d ⟨a, b⟩).2).2) := rfl
  rw [← hx] at hg hR0
  obtain ⟨⟨xa, xb⟩, x⟩ := x
  have g1 := hg.le
  have g2 := hg.sz
  have g3 := hg.bad
  simp only at g1 g2 g3
  refine ⟨H522z_D s ⟨xa, xb⟩ x, (⟨xa, xb⟩, x), by first | exact trivial | exact rfl, by first | exact trivial | exact rfl, g2, by show s.size - xa < n + 1; omega, fun h => hb (by cases hbb : b with
    | false => rfl
    | true => rw [g3 hbb] at h; cases h), ?_, ?_⟩
  · intro h
    have hW : wysE s n d ⟨xa, xb⟩ x = (⟨xa, xb⟩, [x]) := by
      unfold wysE wysL
      rw [if_neg (by rw [h]; decide)]
    have hR : wysN s (n + 1) d ⟨a, b⟩ = (⟨xa, xb⟩, altT [x]) := by rw [hR0, hW]
    simp only [hdd, hR]
    have hX : tmps 26 [(4, p1), (5, frK1 x)] = tmps 26 [(4, p1), (5, frK [x])] := by rw [frK_one]
    exact ⟨rxB_flat x, Hpn_D s ⟨xa, xb⟩, (⟨xa, xb⟩, [x]), hX, by first | exact trivial | exact rfl, pB_D _ _ _, by first | exact trivial | exact rfl, by first | exact trivial | exact rfl, by first | exact trivial | exact rfl⟩
  · intro q ks h hw
    have hR : wysN s (n + 1) d ⟨a, b⟩ = (q, altT ks) := by rw [hR0, hw]
    refine Need_iff.2 ⟨leN_iff.2 (by rw [rxL_len]; omega), ?_⟩
    rw [rxL_take]
    simp only [hdd, hR]
    exact ⟨rxL_flat ks, Hpn_D s q, (q, ks), by first | exact trivial | exact rfl, by first | exact trivial | exact rfl, pB_D _ _ _, by first | exact trivial | exact rfl, by first | exact trivial | exact rfl, by first | exact trivial | exact rfl⟩
theorem ways_all : ∀ n, (waysX n).Holds Try.prog 41 := by
  intro n
  induction n with
  | zero =>
    refine pX_holds ?_
    rintro s a b r ha hs ⟨_, hf, _⟩
    exact absurd hf (Nat.not_lt_zero _)
  | succ n ih => exact waysX_says hm n (wayX_says hm n (facX_says hm n (atomX_says hm n ih)))
end
end Go.Proofs.Ytfgiifppapopnaa

namespace Go.Proofs.Ytfgiifppapopnaa
open Go.RowKit Go.Proofs.Ytfgiifppapopnaa.AM
set_option maxRecDepth 100000
set_option maxHeartbeats 4000000
noncomputable def body510 : Code := (Try.f24.body).getD .skip
def F510 : List Nat → Option (List Nat) := fun p => match p with
  | [1] => some [0, 2]
  | [1, 1] => some [0, 2, 4]
  | [1, 1, 1] => some [0, 2, 4, 5]
  | [1, 0, 1, 1, 1] => some [2, 5, 26]
  | [1, 0, 1, 0, 1, 1, 1] => some [2, 3]
  | [1, 1, 1, 1] => some [2, 5]
  | [1, 1, 1, 1, 1] => some [2, 3]
  | _ => none
noncomputable def S510 (hm : Try.prog.follows .mixedOrders = true) (n : Nat) : Book := bookS [(41, (waysX n).summ (ways_all hm n))] S0

theorem r510 (hm : Try.prog.follows .mixedOrders = true) (n : Nat) (s : ByteArray) (K : Value → Heap → Prop) :
  funX Try.prog (S510 hm n) noLoop F510 body510 Try.f24 [] [.fz (.tmp 0 [0,5]) (.sl 6)] [.string s] (hp []) K = (
(FlatL [Value.string s, Value.int IntKind.i64 0, Value.bool (ltI 40 (↑s.size : Int))] ∧ True) ∧ (POk s 0 ∧ WOk s { a := 0, b := ltI 40 (↑s.size : Int) : PS } [Value.int IntKind.i64 0] n) ∧ ∀ (x : PS × Rx), x = wysN s n 0
{ a := 0, b := ltI 40 (↑s.size : Int) : PS } → Alt (boolV (Value.bool x.fst.b)) (K (Value.tuple #[Value.agg #[Value.int IntKind.i64 0, Value.int IntKind.u64 0, Value.int IntKind.u64 0, Value.int IntKind.u64 0, Value.int
IntKind.u64 0, Value.iface 0 (Value.agg #[Value.int IntKind.i64 6, Value.int IntKind.i64 0, Value.agg #[]])], Value.bool false]) (hp [])) (Alt (ltI (intV (Value.int IntKind.i64 (↑x.fst.a : Int))) (↑s.size : Int)) (K
(Value.tuple #[Value.agg #[Value.int IntKind.i64 0, Value.int IntKind.u64 0, Value.int IntKind.u64 0, Value.int IntKind.u64 0, Value.int IntKind.u64 0, Value.iface 0 (Value.agg #[Value.int IntKind.i64 6, Value.int
IntKind.i64 0, Value.agg #[]])], Value.bool false]) (hp [])) (K (Value.tuple #[Value.agg #[Value.int IntKind.i64 (intV (Value.int IntKind.i64 (↑x.snd.op : Int))), Value.int IntKind.u64 (intV (Value.int IntKind.u64
(↑x.snd.set.x0 : Int))), Value.int IntKind.u64 (intV (Value.int IntKind.u64 (↑x.snd.set.x1 : Int))), Value.int IntKind.u64 (intV (Value.int IntKind.u64 (↑x.snd.set.x2 : Int))), Value.int IntKind.u64 (intV (Value.int
IntKind.u64 (↑x.snd.set.x3 : Int))), Value.iface 0 (Value.agg #[Value.int IntKind.i64 6, Value.int IntKind.i64 (↑x.snd.kids.length : Int), Value.agg (rxL x.snd.kids).toArray])], Value.bool true]) (hp [])))) := by kernel_rfl

/-- what Parse answers -/
def parsP (s : ByteArray) : PS × Rx := wysN s (s.size + 1) 0 ⟨0, decide (40 < s.size)⟩
def parsB (s : ByteArray) : Bool := !((parsP s).1.b || decide ((parsP s).1.a < s.size))
def rx0 : Rx := .mk 0 nilS []
def parsR (s : ByteArray) : Rx := bif parsB s then (parsP s).2 else rx0
noncomputable abbrev rbV : Rx × Bool → Value := fun x => .tuple #[rxV x.1, .bool x.2]
noncomputable def parsX : CtrX (Rx × Bool) where
  D := []
  W := []
  E := []
  pre := fun args blks => match args, blks with
    | [.string s], [] => s.size ≤ 140737488351232
    | _, _ => False
  rel := fun args blks x => match args, blks with
    | [.string s], [] => x = (parsR s, parsB s)
    | _, _ => False
  val := fun _ _ x => rbV x
  out := fun _ _ _ => []
theorem parsX_says (hm : Try.prog.follows .mixedOrders = true) : parsX.Holds Try.prog 24 := by
  intro args blks hf hpre
  simp only [parsX] at hpre ⊢
  split at hpre
  · rename_i s
    refine ⟨(parsR s, parsB s), rfl, trivial, trivial, ?_⟩
    have su : Sure Try.prog (S510 hm (s.size + 1)) := (sure0 hm).withS (l := [(41, (waysX (s.size + 1)).summ (ways_all hm (s.size + 1)))]) ⟨(waysX (s.size + 1)).sum_ok _, trivial⟩
    refine su.funX F510 body510 [] [.fz (.tmp 0 [0,5]) (.sl 6)] Try.func24 rfl noLoops ?_
    rw [r510]
    have e40 : ltI 40 (s.size : Int) = decide (40 < s.size) := by rw [ltI_eq]; exact decide_eq_decide.2 (by omega)
    simp only [strV, e40]
    refine ⟨⟨pB_flat _ _ _, trivial⟩, ⟨⟨by omega, by omega, hpre⟩, ⟨⟨0, by omega⟩, by first | omega | (simp only [Int.toNat_zero]; omega), fun h => by simp only [decide_eq_false_iff_not] at h; omega⟩⟩, ?_⟩
    rintro x hx
    change x = parsP s at hx
    have hB : parsB s = !(x.1.b || decide (x.1.a < s.size)) := by rw [hx]; rfl
    have hR : parsR s = bif parsB s then x.2 else rx0 := by rw [hx]; rfl
    obtain ⟨⟨xa, xb⟩, x⟩ := x
    have e1 : ltI (xa : Int) (s.size : Int) = decide (xa < s.size) := by rw [ltI_eq]; exact decide_eq_decide.2 (by omega)
    simp only [intV, e1]
    rw [hR, hB]
    cases xb with
    | true => exact ⟨FlatD.hp trivial, by first | exact trivial | exact rfl, by first | exact trivial | exact rfl, by first | exact trivial | exact rfl⟩
    | false =>
      cases hd : decide (xa < s.size) with
      | true => exact ⟨FlatD.hp trivial, by first | exact trivial | exact rfl, by first | exact trivial | exact rfl, by first | exact trivial | exact rfl⟩
      | false => exact ⟨FlatD.hp trivial, by first | exact trivial | exact rfl, by first | exact trivial | exact rfl, by first | exact trivial | exact rfl⟩
  · exact hpre.elim
end Go.Proofs.Ytfgiifppapopnaa

namespace Go.Proofs.Ytfgiifppapopnaa
open Go.RowKit Go.Proofs.Ytfgiifppapopnaa.AM
set_option maxRecDepth 100000
set_option maxHeartbeats 4000000
/-! ### trees: a value has one -/
theorem S4.eq {s t : S4} (h0 : s.x0 = t.x0) (h1 : s.x1 = t.x1) (h2 : s.x2 = t.x2) (h3 : s.x3 = t.x3) : s = t := by cases s; cases t; simp_all
mutual
theorem Rx.kv_inj : ∀ (x y : Rx), x.kv = y.kv → x.kids = y.kids
  | .mk o s k, .mk o' s' k', h => by
    rw [kv_mk, kv_mk] at h
    injection h with _ h
    injection h with h
    have h := congrArg Array.toList h
    simp only [List.cons.injEq, Value.agg.injEq, and_true] at h
    have h2 := congrArg Array.toList h.2.2
    simp only at h2
    exact rxL_inj k k' h2
theorem rxL_inj : ∀ (l m : List Rx), rxL l = rxL m → l = m
  | [], [], _ => rfl
  | [], y :: m, h => by rw [rxL_nil, rxL_cons] at h; cases h
  | x :: l, [], h => by rw [rxL_nil, rxL_cons] at h; cases h
  | x :: l, y :: m, h => by
    rw [rxL_cons, rxL_cons] at h
    simp only [List.cons.injEq, Value.int.injEq, true_and] at h
    obtain ⟨h1, h2, h3, h4, h5, h6, h7⟩ := h
    have hk := Rx.kv_inj x y h6
    have hl := rxL_inj l m h7
    have hs : x.set = y.set := S4.eq (by omega) (by omega) (by omega) (by omega)
    have ho : x.op = y.op := by omega
    rw [hl]
    congr 1
    cases x; cases y
    simp only [Rx.op, Rx.set, Rx.kids] at ho hs hk
    rw [ho, hs, hk]
end
theorem rxV_inj {x y : Rx} (h : rxV x = rxV y) : x = y := by
  have : rxL [x] = rxL [y] := by
    rw [rxL_one1, rxL_one1, kv_eq, kv_eq]
    unfold rxV at h
    injection h with h
    exact congrArg Array.toList h
  have := rxL_inj _ _ this
  simpa using this
open Classical in
noncomputable def decV (v : Value) : Rx := if h : ∃ x, rxV x = v then Classical.choose h else .mk 0 nilS []
theorem decV_rx (x : Rx) : decV (rxV x) = x := by
  have h : ∃ y, rxV y = rxV x := ⟨x, rfl⟩
  unfold decV
  rw [dif_pos h]
  exact rxV_inj (Classical.choose_spec h)
inductive IsRx (v : Value) : Prop
  | mk (x : Rx) (h : rxV x = v) : IsRx v
/-! how many nodes a tree has -/
mutual
def Rx.dp : Rx → Nat
  | .mk _ _ k => dpL k + 1
def dpL : List Rx → Nat
  | [] => 0
  | x :: l => x.dp + dpL l
end
theorem dp_kid {k : List Rx} {y : Rx} (h : y ∈ k) : y.dp ≤ dpL k := by
  induction k with
  | nil => cases h
  | cons x l ih =>
    rw [dpL]
    rcases List.mem_cons.1 h with rfl | h
    · exact Nat.le_add_right _ _
    · exact Nat.le_trans (ih h) (Nat.le_add_left _ _)
theorem dp_mk (x : Rx) : x.dp = dpL x.kids + 1 := by cases x; rw [Rx.dp]; rfl
theorem dp_len (k : List Rx) : k.length ≤ dpL k := by
  induction k with
  | nil => exact Nat.zero_le _
  | cons x l ih => rw [dpL, dp_mk]; simp only [List.length_cons]; omega
/-! how many steps it has -/
mutual
def Rx.sz : Rx → Nat
  | .mk o _ k => if o = 1 then 1 else if o = 3 then szL k + 2 * (k.length - 1) else if o = 4 then szL k + 2 else if o = 5 ∨ o = 6 then szL k + 1 else szL k
def szL : List Rx → Nat
  | [] => 0
  | x :: l => x.sz + szL l
end
/-! may it be? -/
mutual
def Rx.is : Rx → Bool
  | .mk o s k => if o = 1 then k.isEmpty else (if o = 2 then true else if o = 3 then !k.isEmpty else if o = 4 ∨ o = 5 ∨ o = 6 then k.length == 1 else false) && (decide (s = nilS) && isL k)
def isL : List Rx → Bool
  | [] => true
  | x :: l => x.is && isL l
end
theorem isL_all (k : List Rx) : isL k = k.all Rx.is := by
  induction k with
  | nil => rw [isL]; rfl
  | cons x l ih => rw [isL, List.all_cons, ih]
/-- a kid's cells -/
theorem rxL_drop : ∀ (i : Nat) (L : List Rx), (rxL L).drop (i * 6) = rxL (L.drop i) := by
  intro i
  induction i with
  | zero => intro L; simp
  | succ i ih =>
    intro L
    cases L with
    | nil => rw [rxL_nil]; simp [rxL_nil]
    | cons x L => rw [List.drop_succ_cons, ← ih L, show (i + 1) * 6 = 6 + i * 6 by omega, ← List.drop_drop, rxL_cons]; rfl
theorem kid_nth {L : List Rx} {i : Nat} {x : Rx} (h : L[i]? = some x) : (rxL L).drop (i * 6) = .int .i64 (x.op : Int) :: .int .u64 (x.set.x0 : Int) :: .int .u64 (x.set.x1 : Int) :: .int .u64 (x.set.x2 : Int) :: .int .u64 (x.set.x3 : Int) :: kvV x :: rxL (L.drop (i + 1)) := by
  rw [rxL_drop]
  obtain ⟨hi, rfl⟩ := List.getElem?_eq_some_iff.1 h
  rw [List.drop_eq_getElem_cons hi, rxL_cons, kv_eq]
end Go.Proofs.Ytfgiifppapopnaa

namespace Go.Proofs.Ytfgiifppapopnaa
open Go.RowKit Go.Proofs.Ytfgiifppapopnaa.AM
set_option maxRecDepth 100000
set_option maxHeartbeats 4000000
noncomputable def body528 : Code := (Try.f52.body).getD .skip
def F528 : List Nat → Option (List Nat) := fun p => match p with
  | [1] => some [1]
  | [1, 1] => some [2]
  | _ => none
noncomputable def body535 : Code := (Try.f61.body).getD .skip
def F535 : List Nat → Option (List Nat) := fun p => match p with
  | [1] => some [0, 1]
  | [1, 0, 1] => some [0, 1, 7, 8]
  | [1, 0, 0, 1, 0, 1] => some [0, 1, 7, 8, 9]
  | [1, 0, 1, 0, 0, 1, 0, 1] => some []
  | [1, 1, 0, 0, 1, 0, 1] => some [0, 1, 7, 8]
  | [1, 0, 0, 1, 1, 0, 0, 1, 0, 1] => some [0, 1, 5, 7, 8]
  | [1, 1, 0, 0, 1, 1, 0, 0, 1, 0, 1] => some [0, 1, 5, 7, 8, 16]
  | [1, 0, 1, 1, 0, 0, 1, 1, 0, 0, 1, 0, 1] => some [4]
  | [1, 1, 1, 0, 0, 1, 0, 1] => some [0, 1, 7, 8]
  | [1, 1] => some []
  | [1, 1, 1] => some [4]
  | _ => none
noncomputable def body527 : Code := (Try.f51.body).getD .skip
def F527 : List Nat → Option (List Nat) := fun p => match p with
  | [1] => some [0, 1]
  | [1, 1] => some [4]
  | _ => none
noncomputable def body514 : Code := (Try.f37.body).getD .skip
def F514 : List Nat → Option (List Nat) := fun p => match p with
  | [1] => some [1]
  | [1, 1] => some [1, 3]
  | [1, 0, 1, 1] => some [1, 3, 8]
  | [1, 0, 1, 0, 1, 1] => some [1, 3, 8, 9]
  | [1, 0, 1, 0, 1, 0, 1, 1] => some [2]
  | [1, 1, 1, 0, 1, 0, 1, 1] => some [1, 3, 8, 13]
  | [1, 1, 1, 1, 1, 0, 1, 0, 1, 1] => some [1, 3, 8, 15]
  | [1, 0, 1, 1, 1, 1, 1, 0, 1, 0, 1, 1] => some [1, 18]
  | [1, 0, 1, 0, 1, 1, 1, 1, 1, 0, 1, 0, 1, 1] => some [2]
  | [1, 0, 1, 1, 1, 1, 1, 1, 0, 1, 0, 1, 1] => some [1, 3, 8, 19]
  | [1, 1, 1, 0, 1, 1, 1, 1, 1, 1, 0, 1, 0, 1, 1] => some [1, 3, 8, 19]
  | [1, 1, 1, 1, 1, 1, 1, 0, 1, 0, 1, 1] => some [1, 3, 19]
  | [1, 0, 1, 1, 1, 1, 1, 1, 1, 0, 1, 0, 1, 1] => some [1, 24]
  | [1, 0, 1, 0, 1, 1, 1, 1, 1, 1, 1, 0, 1, 0, 1, 1] => some [2]
  | [1, 1, 1, 1, 1, 1, 1, 1, 1, 0, 1, 0, 1, 1] => some [2]
  | [1, 1, 1] => some [1]
  | [1, 1, 1, 1] => some [2]
  | _ => none
inductive RxD (v : Value) (n : Nat) : Prop
  | mk (x : Rx) (h : rxV x = v) (hd : x.dp < n) : RxD v n
noncomputable abbrev frV (ks : List Rx) : Value := .iface 0 (.agg #[.int .i64 6, .int .i64 (ks.length : Int), .agg (rxL ks).toArray])
noncomputable def decK (v : Value) : List Rx := (decV (.agg #[.int .i64 0, .int .u64 0, .int .u64 0, .int .u64 0, .int .u64 0, v])).kids
theorem decK_fr (ks : List Rx) : decK (frV ks) = ks := by
  unfold decK
  exact congrArg Rx.kids (decV_rx (.mk 0 nilS ks))
inductive KidsD (v : Value) (n : Nat) : Prop
  | mk (ks : List Rx) (h : frV ks = v) (hd : dpL ks < n) : KidsD v n
noncomputable def isC (n : Nat) : Ctr where
  pre := fun args blks => match args, blks with
    | [v], [] => RxD v n
    | _, _ => False
  val := fun args blks => match args, blks with
    | [v], [] => .bool (decV v).is
    | _, _ => undef
  new := fun _ _ => []
/-- the first kid that may not be -/
def idxN : List Rx → Int → Int
  | [], _ => -1
  | x :: t, i => bif x.is then idxN t (i + 1) else i
noncomputable abbrev fn5 : Value := .func (.func 52) #[] #[]
noncomputable def idxRC (n : Nat) : Ctr where
  pre := fun args blks => match args, blks with
    | [v, fn], [] => fn = fn5 ∧ KidsD v n
    | _, _ => False
  val := fun args blks => match args, blks with
    | [v, fn], [] => .int .i64 (idxN (decK v) 0)
    | _, _ => undef
  new := fun _ _ => []
noncomputable def S535 (n : Nat) : Book := addI Try.prog [(52, Try.f52, body528)] (bookOf [(37, isC n)])
noncomputable abbrev T535 (ks : List Rx) (i : Nat) : List Value := tmps 19 [(0, frV ks), (1, fn5), (7, .int .i64 (ks.length : Int)), (8, .int .i64 (i : Int))]

theorem r535 (n : Nat) (ks : List Rx) (i : Nat) (K : Post) :
  roundX Try.prog (S535 n) noLoop F535 body535 0 [] [] [] [] [0,1,7,8] [0,0,1,0,1] (T535 ks i) (hp []) K = (
Alt (ltI (↑i : Int) (↑ks.length : Int)) (Need (ltI (↑i : Int) (↑ks.length : Int)) (Need (isInt IntKind.i64 ((getO (List.drop ((↑i : Int).toNat * 6) (rxL ks).toArray.toList).toArray.toList 0).getD undef)) (Need (isInt
IntKind.u64 ((getO (List.drop ((↑i : Int).toNat * 6) (rxL ks).toArray.toList).toArray.toList 1).getD undef)) (Need (isInt IntKind.u64 ((getO (List.drop ((↑i : Int).toNat * 6) (rxL ks).toArray.toList).toArray.toList
2).getD undef)) (Need (isInt IntKind.u64 ((getO (List.drop ((↑i : Int).toNat * 6) (rxL ks).toArray.toList).toArray.toList 3).getD undef)) (Need (isInt IntKind.u64 ((getO (List.drop ((↑i : Int).toNat * 6) (rxL
ks).toArray.toList).toArray.toList 4).getD undef)) (Need (isFr ((getO (List.drop ((↑i : Int).toNat * 6) (rxL ks).toArray.toList).toArray.toList 5).getD undef)) (True ∧ RxD (Value.agg #[Value.int IntKind.i64 (intV
(Value.int IntKind.i64 (intV ((getO (List.drop ((↑i : Int).toNat * 6) (rxL ks).toArray.toList).toArray.toList 0).getD undef)))), Value.int IntKind.u64 (intV (Value.int IntKind.u64 (intV ((getO (List.drop ((↑i :
Int).toNat * 6) (rxL ks).toArray.toList).toArray.toList 1).getD undef)))), Value.int IntKind.u64 (intV (Value.int IntKind.u64 (intV ((getO (List.drop ((↑i : Int).toNat * 6) (rxL ks).toArray.toList).toArray.toList 2).getD
undef)))), Value.int IntKind.u64 (intV (Value.int IntKind.u64 (intV ((getO (List.drop ((↑i : Int).toNat * 6) (rxL ks).toArray.toList).toArray.toList 3).getD undef)))), Value.int IntKind.u64 (intV (Value.int IntKind.u64
(intV ((getO (List.drop ((↑i : Int).toNat * 6) (rxL ks).toArray.toList).toArray.toList 4).getD undef)))), Value.iface 0 (Value.agg #[Value.int IntKind.i64 (↑(frE ((getO (List.drop ((↑i : Int).toNat * 6) (rxL
ks).toArray.toList).toArray.toList 5).getD undef)) : Int), Value.int IntKind.i64 (↑(frN ((getO (List.drop ((↑i : Int).toNat * 6) (rxL ks).toArray.toList).toArray.toList 5).getD undef)) : Int), Value.agg (frC ((getO
(List.drop ((↑i : Int).toNat * 6) (rxL ks).toArray.toList).toArray.toList 5).getD undef)).toArray])]) n ∧ Alt (!(decV (Value.agg #[Value.int IntKind.i64 (intV (Value.int IntKind.i64 (intV ((getO (List.drop ((↑i :
Int).toNat * 6) (rxL ks).toArray.toList).toArray.toList 0).getD undef)))), Value.int IntKind.u64 (intV (Value.int IntKind.u64 (intV ((getO (List.drop ((↑i : Int).toNat * 6) (rxL ks).toArray.toList).toArray.toList 1).getD
undef)))), Value.int IntKind.u64 (intV (Value.int IntKind.u64 (intV ((getO (List.drop ((↑i : Int).toNat * 6) (rxL ks).toArray.toList).toArray.toList 2).getD undef)))), Value.int IntKind.u64 (intV (Value.int IntKind.u64
(intV ((getO (List.drop ((↑i : Int).toNat * 6) (rxL ks).toArray.toList).toArray.toList 3).getD undef)))), Value.int IntKind.u64 (intV (Value.int IntKind.u64 (intV ((getO (List.drop ((↑i : Int).toNat * 6) (rxL
ks).toArray.toList).toArray.toList 4).getD undef)))), Value.iface 0 (Value.agg #[Value.int IntKind.i64 (↑(frE ((getO (List.drop ((↑i : Int).toNat * 6) (rxL ks).toArray.toList).toArray.toList 5).getD undef)) : Int),
Value.int IntKind.i64 (↑(frN ((getO (List.drop ((↑i : Int).toNat * 6) (rxL ks).toArray.toList).toArray.toList 5).getD undef)) : Int), Value.agg (frC ((getO (List.drop ((↑i : Int).toNat * 6) (rxL
ks).toArray.toList).toArray.toList 5).getD undef)).toArray])])).is) (K AE.ret (tmps 19 [(4, Value.int IntKind.i64 (↑i : Int))]) (hp [])) (K AE.normal (tmps 19 [(0, Value.iface 0 (Value.agg #[Value.int IntKind.i64 6,
Value.int IntKind.i64 (↑ks.length : Int), Value.agg (rxL ks).toArray])), (1, Value.func (Fn.func 52) #[] #[]), (7, Value.int IntKind.i64 (↑ks.length : Int)), (8, Value.int IntKind.i64 (wr IntKind.i64 ((↑i : Int) + 1)))])
(hp [])))))))))) (K (AE.exit 0) (tmps 19 []) (hp []))) := by kernel_rfl

noncomputable def Q535 (r : Int) (K : Post) : Prop := (r = -1 → K (.exit 0) (tmps 19 []) (hp [])) ∧ (r ≠ -1 → K .ret (tmps 19 [(4, .int .i64 r)]) (hp []))
noncomputable def cut535 (ks : List Rx) (r : Int) : CutE where
  β := Nat
  p := [0,1,0,1]
  t := fun _ => T535 ks 0
  h := fun _ => hp []
  Q := fun _ K => Q535 r K

theorem w535 (n : Nat) (ks : List Rx) (r : Int) (K : Value → Heap → Prop) :
  funX Try.prog (S535 n) (gcLKX (at0 []) (at0 []) 0 (cutE [cut535 ks r])) F535 body535 Try.f61 [] [] [frV ks, fn5] (hp []) K = (
FlatD [] (hp []) ∧ ∃ (b : Nat), tmps 19 [(0, Value.iface 0 (Value.agg #[Value.int IntKind.i64 6, Value.int IntKind.i64 (↑ks.length : Int), Value.agg (rxL ks).toArray])), (1, Value.func (Fn.func 52) #[] #[]), (7,
Value.int IntKind.i64 (↑ks.length : Int)), (8, Value.int IntKind.i64 0)] = tmps 19 [(0, Value.iface 0 (Value.agg #[Value.int IntKind.i64 6, Value.int IntKind.i64 (↑ks.length : Int), Value.agg (rxL ks).toArray])), (1,
Value.func (Fn.func 52) #[] #[]), (7, Value.int IntKind.i64 (↑ks.length : Int)), (8, Value.int IntKind.i64 0)] ∧ hp [] = hp [] ∧ (r = -1 → K (Value.int IntKind.i64 (-1)) (hp [])) ∧ ((r = -1 → False) → K (Value.int
IntKind.i64 r) (hp []))) := by kernel_rfl

noncomputable def S514 (n : Nat) : Book := addI Try.prog [(51, Try.f51, body527)] (bookOf [(61, idxRC n)])

theorem w514 (n : Nat) (x : Rx) (K : Value → Heap → Prop) :
  funX Try.prog (S514 n) noLoop F514 body514 Try.f37 [] [] [.agg #[.int .i64 (x.op : Int), .int .u64 (x.set.x0 : Int), .int .u64 (x.set.x1 : Int), .int .u64 (x.set.x2 : Int), .int .u64 (x.set.x3 : Int), kvV x]] (hp []) K = (
Alt (eqI (intV (Value.int IntKind.i64 (↑x.op : Int))) 1) (K (Value.bool (eqI (↑x.kids.length : Int) 0)) (hp [])) (Alt (eqI (intV (Value.int IntKind.i64 (↑x.op : Int))) 2) (Alt (eqI (intV (Value.int IntKind.u64 (↑x.set.x0
: Int))) 0 && (eqI (intV (Value.int IntKind.u64 (↑x.set.x1 : Int))) 0 && (eqI (intV (Value.int IntKind.u64 (↑x.set.x2 : Int))) 0 && (eqI (intV (Value.int IntKind.u64 (↑x.set.x3 : Int))) 0 && true)))) (True ∧ (Value.func
(Fn.func 52) #[] #[] = Value.func (Fn.func 52) #[] #[] ∧ KidsD (Value.iface 0 (Value.agg #[Value.int IntKind.i64 6, Value.int IntKind.i64 (↑x.kids.length : Int), Value.agg (rxL x.kids).toArray])) n) ∧ K (Value.bool !leI
0 (idxN (decK (Value.iface 0 (Value.agg #[Value.int IntKind.i64 6, Value.int IntKind.i64 (↑x.kids.length : Int), Value.agg (rxL x.kids).toArray]))) 0)) (hp [])) (K (Value.bool false) (hp []))) (Alt (eqI (intV (Value.int
IntKind.i64 (↑x.op : Int))) 3) (Alt (eqI (↑x.kids.length : Int) 0) (K (Value.bool false) (hp [])) (Alt (eqI (intV (Value.int IntKind.u64 (↑x.set.x0 : Int))) 0 && (eqI (intV (Value.int IntKind.u64 (↑x.set.x1 : Int))) 0 &&
(eqI (intV (Value.int IntKind.u64 (↑x.set.x2 : Int))) 0 && (eqI (intV (Value.int IntKind.u64 (↑x.set.x3 : Int))) 0 && true)))) (True ∧ (Value.func (Fn.func 52) #[] #[] = Value.func (Fn.func 52) #[] #[] ∧ KidsD
(Value.iface 0 (Value.agg #[Value.int IntKind.i64 6, Value.int IntKind.i64 (↑x.kids.length : Int), Value.agg (rxL x.kids).toArray])) n) ∧ K (Value.bool !leI 0 (idxN (decK (Value.iface 0 (Value.agg #[Value.int IntKind.i64
6, Value.int IntKind.i64 (↑x.kids.length : Int), Value.agg (rxL x.kids).toArray]))) 0)) (hp [])) (K (Value.bool false) (hp [])))) (Alt (eqI (intV (Value.int IntKind.i64 (↑x.op : Int))) 4) (Alt (!eqI (↑x.kids.length :
Int) 1) (K (Value.bool false) (hp [])) (Alt (eqI (intV (Value.int IntKind.u64 (↑x.set.x0 : Int))) 0 && (eqI (intV (Value.int IntKind.u64 (↑x.set.x1 : Int))) 0 && (eqI (intV (Value.int IntKind.u64 (↑x.set.x2 : Int))) 0 &&
(eqI (intV (Value.int IntKind.u64 (↑x.set.x3 : Int))) 0 && true)))) (True ∧ (Value.func (Fn.func 52) #[] #[] = Value.func (Fn.func 52) #[] #[] ∧ KidsD (Value.iface 0 (Value.agg #[Value.int IntKind.i64 6, Value.int
IntKind.i64 (↑x.kids.length : Int), Value.agg (rxL x.kids).toArray])) n) ∧ K (Value.bool !leI 0 (idxN (decK (Value.iface 0 (Value.agg #[Value.int IntKind.i64 6, Value.int IntKind.i64 (↑x.kids.length : Int), Value.agg
(rxL x.kids).toArray]))) 0)) (hp [])) (K (Value.bool false) (hp [])))) (Alt (eqI (intV (Value.int IntKind.i64 (↑x.op : Int))) 5) (Alt (!eqI (↑x.kids.length : Int) 1) (K (Value.bool false) (hp [])) (Alt (eqI (intV
(Value.int IntKind.u64 (↑x.set.x0 : Int))) 0 && (eqI (intV (Value.int IntKind.u64 (↑x.set.x1 : Int))) 0 && (eqI (intV (Value.int IntKind.u64 (↑x.set.x2 : Int))) 0 && (eqI (intV (Value.int IntKind.u64 (↑x.set.x3 : Int)))
0 && true)))) (True ∧ (Value.func (Fn.func 52) #[] #[] = Value.func (Fn.func 52) #[] #[] ∧ KidsD (Value.iface 0 (Value.agg #[Value.int IntKind.i64 6, Value.int IntKind.i64 (↑x.kids.length : Int), Value.agg (rxL
x.kids).toArray])) n) ∧ K (Value.bool !leI 0 (idxN (decK (Value.iface 0 (Value.agg #[Value.int IntKind.i64 6, Value.int IntKind.i64 (↑x.kids.length : Int), Value.agg (rxL x.kids).toArray]))) 0)) (hp [])) (K (Value.bool
false) (hp [])))) (Alt (eqI (intV (Value.int IntKind.i64 (↑x.op : Int))) 6) (Alt (!eqI (↑x.kids.length : Int) 1) (K (Value.bool false) (hp [])) (Alt (eqI (intV (Value.int IntKind.u64 (↑x.set.x0 : Int))) 0 && (eqI (intV
(Value.int IntKind.u64 (↑x.set.x1 : Int))) 0 && (eqI (intV (Value.int IntKind.u64 (↑x.set.x2 : Int))) 0 && (eqI (intV (Value.int IntKind.u64 (↑x.set.x3 : Int))) 0 && true)))) (True ∧ (Value.func (Fn.func 52) #[] #[] =
Value.func (Fn.func 52) #[] #[] ∧ KidsD (Value.iface 0 (Value.agg #[Value.int IntKind.i64 6, Value.int IntKind.i64 (↑x.kids.length : Int), Value.agg (rxL x.kids).toArray])) n) ∧ K (Value.bool !leI 0 (idxN (decK
(Value.iface 0 (Value.agg #[Value.int IntKind.i64 6, Value.int IntKind.i64 (↑x.kids.length : Int), Value.agg (rxL x.kids).toArray]))) 0)) (hp [])) (K (Value.bool false) (hp [])))) (K (Value.bool false) (hp [])))))))) := by kernel_rfl

end Go.Proofs.Ytfgiifppapopnaa

namespace Go.Proofs.Ytfgiifppapopnaa
open Go.RowKit Go.Proofs.Ytfgiifppapopnaa.AM
set_option maxRecDepth 100000
set_option maxHeartbeats 4000000
theorem idxN_ge : ∀ (t : List Rx) (i : Int), 0 ≤ i → (idxN t i = -1 ∧ isL t = true) ∨ (i ≤ idxN t i ∧ isL t = false) := by
  intro t
  induction t with
  | nil => intro i _; exact .inl ⟨rfl, by rw [isL]⟩
  | cons x t ih =>
    intro i hi
    unfold idxN
    rw [isL]
    cases x.is with
    | false => exact .inr ⟨Int.le_refl _, rfl⟩
    | true =>
      rcases ih (i + 1) (by omega) with h | h
      · exact .inl ⟨h.1, h.2⟩
      · exact .inr ⟨by simp only [cond_true]; omega, h.2⟩
theorem idxN_all (ks : List Rx) : (!leI 0 (idxN ks 0)) = isL ks := by
  rcases idxN_ge ks 0 (by decide) with ⟨h1, h2⟩ | ⟨h1, h2⟩
  · rw [h1, h2]; rfl
  · rw [h2, show leI 0 (idxN ks 0) = true from leI_iff.2 h1]; rfl
theorem is_eq (x : Rx) : x.is = if x.op = 1 then x.kids.isEmpty else (if x.op = 2 then true else if x.op = 3 then !x.kids.isEmpty else if x.op = 4 ∨ x.op = 5 ∨ x.op = 6 then x.kids.length == 1 else false) && (decide (x.set = nilS) && isL x.kids) := by cases x; rw [Rx.is]; rfl
section
variable (hm : Try.prog.follows .mixedOrders = true)
include hm
theorem sure535 (n : Nat) (hn : (isC n).Holds Try.prog 37) : Sure Try.prog (S535 n) := Sure.addI (S := bookOf [(37, isC n)]) ⟨hm, plain, bookOf_ok (l := [(37, isC n)]) ⟨hn, trivial⟩⟩ (l := [(52, Try.f52, body528)]) ⟨⟨Try.func52, rfl⟩, trivial⟩
theorem loop535 (n : Nat) (hn : (isC n).Holds Try.prog 37) (ks : List Rx) (hd : dpL ks < n) (hN : n ≤ 4611686018427387904) (r : Int) (K : Post) (hK : Q535 r K) : ∀ (t : List Rx) (i : Nat), ks.drop i = t → idxN t i = r →
    LSays Try.prog 0 (sub body535 [0,0,1,0,1]) (T535 ks i) (hp []) K := by
  have hF : FlatD [] (hp []) := FlatD.hp trivial
  have hlen := dp_len ks
  intro t
  induction t with
  | nil =>
    intro i ht hr
    have hge : ltI (i : Int) (ks.length : Int) = false := by have := List.drop_eq_nil_iff.1 ht; rw [ltI_eq, decide_eq_false]; omega
    refine (sure535 hm n hn).roundX F535 noLoops [] [] [] [] [0,1,7,8] ?_
    rw [r535, hge]
    exact ⟨hF, hK.1 hr.symm⟩
  | cons x t ih =>
    intro i ht hr
    have hx : ks[i]? = some x := by
      have := congrArg List.head? ht
      rw [List.head?_drop] at this; exact this
    have hi : i < ks.length := (List.getElem?_eq_some_iff.1 hx).1
    have hxm : x ∈ ks := List.mem_of_getElem? hx
    have hlt : ltI (i : Int) (ks.length : Int) = true := ltI_iff.2 (by omega)
    refine (sure535 hm n hn).roundX F535 noLoops [] [] [] [] [0,1,7,8] ?_
    rw [r535, hlt]
    simp only [Int.toNat_natCast, List.toList_toArray, kid_nth hx]
    refine Need_iff.2 ⟨rfl, Need_iff.2 ⟨rfl, Need_iff.2 ⟨rfl, Need_iff.2 ⟨rfl, Need_iff.2 ⟨rfl, Need_iff.2 ⟨rfl, Need_iff.2 ⟨rfl, ?_⟩⟩⟩⟩⟩⟩⟩
    refine ⟨trivial, ⟨x, rfl, Nat.lt_of_le_of_lt (dp_kid hxm) hd⟩, ?_⟩
    show Alt (!(decV (rxV x)).is) _ _
    rw [decV_rx]
    unfold idxN at hr
    cases hb : x.is with
    | false =>
      rw [hb, cond_false] at hr
      subst hr
      exact ⟨hF, hK.2 (by omega)⟩
    | true =>
      rw [hb, cond_true] at hr
      have e : wr .i64 ((i : Int) + 1) = ((i + 1 : Nat) : Int) := nx i (by omega)
      have := ih (i + 1) (by rw [← List.drop_drop, ht]; rfl) hr
      rw [e]
      exact ⟨hF, this⟩
theorem idx5_says (n : Nat) (hn : (isC n).Holds Try.prog 37) (hN : n ≤ 4611686018427387904) : (idxRC n).Holds Try.prog 61 := by
  intro args blks hf hpre
  refine ⟨?_, ?_⟩
  · simp only [idxRC] at hpre ⊢
    split at hpre
    · trivial
    · exact hpre.elim
  · simp only [idxRC] at hpre ⊢
    split at hpre
    · rename_i v fn
      obtain ⟨rfl, ks, rfl, hd⟩ := hpre
      simp only [decK_fr]
      have hF : FlatD [] (hp []) := FlatD.hp trivial
      have hL : Loops Try.prog body535 0 (cutE [cut535 ks (idxN ks 0)]) := Loops.noneE.moreE _ fun x K hQ => loop535 hm n hn ks hd hN _ K hQ ks 0 rfl rfl
      refine (sure535 hm n hn).funX F535 body535 [] [] Try.func61 rfl (hL.gcX (at0 []) (at0 [])) ?_
      show funX Try.prog (S535 n) (gcLKX (at0 []) (at0 []) 0 (cutE [cut535 ks (idxN ks 0)])) F535 body535 Try.f61 [] [] [frV ks, fn5] (hp []) _
      rw [w535]
      refine ⟨hF, 0, rfl, rfl, fun h => ?_, fun h => ?_⟩
      · rw [h]; exact ⟨hF, by first | exact trivial | exact rfl, by first | exact trivial | exact rfl, by first | exact trivial | exact rfl⟩
      · exact ⟨hF, by first | exact trivial | exact rfl, by first | exact trivial | exact rfl, by first | exact trivial | exact rfl⟩
    · exact hpre.elim
theorem is_step (n : Nat) (hn : (isC n).Holds Try.prog 37) (hN : n ≤ 4611686018427387904) : (isC (n + 1)).Holds Try.prog 37 := by
  intro args blks hf hpre
  refine ⟨?_, ?_⟩
  · simp only [isC] at hpre ⊢
    split at hpre
    · trivial
    · exact hpre.elim
  · simp only [isC] at hpre ⊢
    split at hpre
    · rename_i v
      obtain ⟨x, rfl, hd⟩ := hpre
      rw [decV_rx]
      have hF : FlatD [] (hp []) := FlatD.hp trivial
      have su : Sure Try.prog (S514 n) := Sure.addI (S := bookOf [(61, idxRC n)]) ⟨hm, plain, bookOf_ok (l := [(61, idxRC n)]) ⟨idx5_says hm n hn hN, trivial⟩⟩ (l := [(51, Try.f51, body527)]) ⟨⟨Try.func51, rfl⟩, trivial⟩
      refine su.funX F514 body514 [] [] Try.func37 rfl noLoops ?_
      unfold rxV
      have q : ∀ c : Nat, eqI (x.op : Int) (c : Int) = decide (x.op = c) := fun c => by rw [eqI_eq]; exact decide_eq_decide.2 (by omega)
      have q1 : eqI (intV (.int .i64 (x.op : Int))) 1 = decide (x.op = 1) := q 1
      have q2 : eqI (intV (.int .i64 (x.op : Int))) 2 = decide (x.op = 2) := q 2
      have q3 : eqI (intV (.int .i64 (x.op : Int))) 3 = decide (x.op = 3) := q 3
      have q4 : eqI (intV (.int .i64 (x.op : Int))) 4 = decide (x.op = 4) := q 4
      have q5 : eqI (intV (.int .i64 (x.op : Int))) 5 = decide (x.op = 5) := q 5
      have q6 : eqI (intV (.int .i64 (x.op : Int))) 6 = decide (x.op = 6) := q 6
      have qs : (eqI (intV (.int .u64 (x.set.x0 : Int))) 0 && (eqI (intV (.int .u64 (x.set.x1 : Int))) 0 && (eqI (intV (.int .u64 (x.set.x2 : Int))) 0 && (eqI (intV (.int .u64 (x.set.x3 : Int))) 0 && true)))) = decide (x.set = nilS) := by
        rw [Bool.eq_iff_iff]
        simp only [intV, Bool.and_eq_true, eqI_iff, and_true, decide_eq_true_eq]
        constructor
        · rintro ⟨a, b, c, d⟩
          exact S4.eq (show x.set.x0 = 0 by omega) (show x.set.x1 = 0 by omega) (show x.set.x2 = 0 by omega) (show x.set.x3 = 0 by omega)
        · intro h; rw [h]; exact ⟨rfl, rfl, rfl, rfl⟩
      have k0 : eqI (x.kids.length : Int) 0 = x.kids.isEmpty := by
        cases x.kids with
        | nil => rfl
        | cons y l =>
          rw [eqI_eq, decide_eq_false]
          · rfl
          · simp only [List.length_cons]; omega
      have k1 : eqI (x.kids.length : Int) 1 = (x.kids.length == 1) := by rw [eqI_eq, Bool.eq_iff_iff]; simp only [decide_eq_true_eq, beq_iff_eq]; omega
      rw [dp_mk] at hd
      have hK : KidsD (frV x.kids) n := ⟨x.kids, rfl, by omega⟩
      have hA : (!leI 0 (idxN (decK (frV x.kids)) 0)) = isL x.kids := by rw [decK_fr, idxN_all]
      rw [w514, q1, q2, q3, q4, q5, q6, qs, k0, k1, hA]
      have fin : ∀ b : Bool, b = x.is → FlatD [] (hp []) ∧ isJunk (Value.bool b) = false ∧ Value.bool b = Value.bool x.is ∧ hp [] = hp ([] ++ []) := fun b h => ⟨hF, rfl, by rw [h], rfl⟩
      have kids : x.is = (decide (x.set = nilS) && isL x.kids) → (Alt (decide (x.set = nilS)) (True ∧ (fn5 = fn5 ∧ KidsD (frV x.kids) n) ∧ FlatD [] (hp []) ∧ isJunk (Value.bool (isL x.kids)) = false ∧ Value.bool (isL x.kids) = Value.bool x.is ∧ hp [] = hp ([] ++ [])) (FlatD [] (hp []) ∧ isJunk (Value.bool false) = false ∧ Value.bool false = Value.bool x.is ∧ hp [] = hp ([] ++ []))) := fun hx => by
        cases hs : decide (x.set = nilS) with
        | true => rw [hs] at hx; exact ⟨trivial, ⟨rfl, hK⟩, hF, rfl, by rw [hx]; rfl, rfl⟩
        | false => rw [hs] at hx; exact ⟨hF, rfl, by rw [hx]; rfl, rfl⟩
      cases h1 : decide (x.op = 1) with
      | true => exact fin _ (by rw [is_eq, if_pos (of_decide_eq_true h1)])
      | false =>
      have n1 := of_decide_eq_false h1
      cases h2 : decide (x.op = 2) with
      | true => exact kids (by rw [is_eq, if_neg n1, if_pos (of_decide_eq_true h2), Bool.true_and])
      | false =>
      have n2 := of_decide_eq_false h2
      cases h3 : decide (x.op = 3) with
      | true =>
        have hx : x.is = (!x.kids.isEmpty && (decide (x.set = nilS) && isL x.kids)) := by rw [is_eq, if_neg n1, if_neg n2, if_pos (of_decide_eq_true h3)]
        cases hk : x.kids.isEmpty with
        | true => exact fin false (by rw [hx, hk]; rfl)
        | false => exact kids (by rw [hx, hk]; rfl)
      | false =>
      have n3 := of_decide_eq_false h3
      have one : x.op = 4 ∨ x.op = 5 ∨ x.op = 6 → x.is = ((x.kids.length == 1) && (decide (x.set = nilS) && isL x.kids)) := fun h => by rw [is_eq, if_neg n1, if_neg n2, if_neg n3, if_pos h]
      cases h4 : decide (x.op = 4) with
      | true =>
        have hx := one (.inl (of_decide_eq_true h4))
        cases hk : (x.kids.length == 1) with
        | false => exact fin false (by rw [hx, hk]; rfl)
        | true => exact kids (by rw [hx, hk]; rfl)
      | false =>
      cases h5 : decide (x.op = 5) with
      | true =>
        have hx := one (.inr (.inl (of_decide_eq_true h5)))
        cases hk : (x.kids.length == 1) with
        | false => exact fin false (by rw [hx, hk]; rfl)
        | true => exact kids (by rw [hx, hk]; rfl)
      | false =>
      cases h6 : decide (x.op = 6) with
      | true =>
        have hx := one (.inr (.inr (of_decide_eq_true h6)))
        cases hk : (x.kids.length == 1) with
        | false => exact fin false (by rw [hx, hk]; rfl)
        | true => exact kids (by rw [hx, hk]; rfl)
      | false =>
      have n4 := of_decide_eq_false h4
      have n5 := of_decide_eq_false h5
      have n6 := of_decide_eq_false h6
      exact fin false (by rw [is_eq, if_neg n1, if_neg n2, if_neg n3, if_neg (by omega)]; rfl)
    · exact hpre.elim
theorem is_all : ∀ n, n ≤ 4611686018427387905 → (isC n).Holds Try.prog 37 := by
  intro n
  induction n with
  | zero =>
    intro _ args blks hf hpre
    simp only [isC] at hpre
    split at hpre
    · obtain ⟨x, _, hd⟩ := hpre; exact absurd hd (Nat.not_lt_zero _)
    · exact hpre.elim
  | succ n ih => exact fun h => is_step hm n (ih (by omega)) (by omega)
end
end Go.Proofs.Ytfgiifppapopnaa

namespace Go.Proofs.Ytfgiifppapopnaa
open Go.RowKit Go.Proofs.Ytfgiifppapopnaa.AM
set_option maxRecDepth 100000
set_option maxHeartbeats 4000000
noncomputable def body782 : Code := (Try.f49.body).getD .skip
def F782 : List Nat → Option (List Nat) := fun p => match p with
  | [1] => some [1]
  | [1, 1] => some [1, 3]
  | [1, 0, 1, 1] => some [1, 3, 7, 8, 9]
  | [1, 0, 0, 1, 0, 1, 1] => some [1, 3, 7, 8, 9, 10]
  | [1, 0, 1, 0, 0, 1, 0, 1, 1] => some [1, 3]
  | [1, 1, 0, 0, 1, 0, 1, 1] => some [1, 3, 7, 8, 9]
  | [1, 0, 0, 1, 1, 0, 0, 1, 0, 1, 1] => some [1, 3, 5, 7, 8, 9]
  | [1, 1, 1, 0, 0, 1, 0, 1, 1] => some [1, 3, 7, 8, 9]
  | [1, 1, 1] => some [1, 3]
  | [1, 0, 1, 1, 1] => some [1, 3, 19]
  | [1, 0, 1, 0, 1, 1, 1] => some [1, 3, 19, 20]
  | [1, 0, 1, 0, 1, 0, 1, 1, 1] => some [2]
  | [1, 1, 1, 0, 1, 0, 1, 1, 1] => some [1, 3, 19, 22]
  | [1, 0, 1, 1, 1, 0, 1, 0, 1, 1, 1] => some [2]
  | [1, 1, 1, 1, 1, 0, 1, 0, 1, 1, 1] => some [3, 19, 31]
  | [1, 0, 1, 1, 1, 1, 1, 0, 1, 0, 1, 1, 1] => some [2]
  | [1, 0, 1, 1, 1, 1, 1, 1, 0, 1, 0, 1, 1, 1] => some [3, 19, 35]
  | [1, 1, 1, 1, 1, 1, 1, 0, 1, 0, 1, 1, 1] => some [3, 35]
  | [1, 0, 1, 1, 1, 1, 1, 1, 1, 0, 1, 0, 1, 1, 1] => some [2]
  | [1, 1, 1, 1] => some [3]
  | [1, 1, 1, 1, 1] => some [2]
  | _ => none
noncomputable def body781 : Code := (Try.f35.body).getD .skip
def F781 : List Nat → Option (List Nat) := fun p => match p with
  | [1] => some [1]
  | [1, 0, 1] => some [1, 5]
  | [1, 0, 1, 0, 1] => some [2]
  | [1, 1] => some [1]
  | [1, 1, 1] => some [2]
  | _ => none
/-! ### how many steps a tree has -/
inductive RxI (v : Value) (n : Nat) : Prop
  | mk (x : Rx) (h : rxV x = v) (hd : x.dp < n) (hi : x.is = true) : RxI v n
noncomputable def sizC (n : Nat) : Ctr where
  pre := fun args blks => match args, blks with
    | [v], [] => RxI v n
    | _, _ => False
  val := fun args blks => match args, blks with
    | [v], [] => .int .i64 ((decV v).sz : Int)
    | _, _ => undef
  new := fun _ _ => []
noncomputable def S782 (n : Nat) : Book := bookOf [(49, sizC n)]
noncomputable abbrev rxC (x : Rx) : Blk := .cells [.int .i64 (x.op : Int), .int .u64 (x.set.x0 : Int), .int .u64 (x.set.x1 : Int), .int .u64 (x.set.x2 : Int), .int .u64 (x.set.x3 : Int), kvV x] 6 true
noncomputable abbrev T782 (ks : List Rx) (m i : Nat) : List Value := tmps 41 [(1, .pointer (some ⟨0,0,none⟩)), (3, .int .i64 (m : Int)), (7, frV ks), (8, .int .i64 (ks.length : Int)), (9, .int .i64 (i : Int))]

theorem r782 (n : Nat) (x : Rx) (ks : List Rx) (m i : Nat) (K : Post) :
  roundX Try.prog (S782 n) noLoop F782 body782 0 [] [] [] [] [1,3,7,8,9] [0,0,1,0,1,1] (T782 ks m i) (hp [rxC x]) K = (
Alt (ltI (↑i : Int) (↑ks.length : Int)) (Need (ltI (↑i : Int) (↑ks.length : Int)) (Need (isInt IntKind.i64 ((getO (List.drop ((↑i : Int).toNat * 6) (rxL ks).toArray.toList).toArray.toList 0).getD undef)) (Need (isInt
IntKind.u64 ((getO (List.drop ((↑i : Int).toNat * 6) (rxL ks).toArray.toList).toArray.toList 1).getD undef)) (Need (isInt IntKind.u64 ((getO (List.drop ((↑i : Int).toNat * 6) (rxL ks).toArray.toList).toArray.toList
2).getD undef)) (Need (isInt IntKind.u64 ((getO (List.drop ((↑i : Int).toNat * 6) (rxL ks).toArray.toList).toArray.toList 3).getD undef)) (Need (isInt IntKind.u64 ((getO (List.drop ((↑i : Int).toNat * 6) (rxL
ks).toArray.toList).toArray.toList 4).getD undef)) (Need (isFr ((getO (List.drop ((↑i : Int).toNat * 6) (rxL ks).toArray.toList).toArray.toList 5).getD undef)) (True ∧ RxI (Value.agg #[Value.int IntKind.i64 (intV
(Value.int IntKind.i64 (intV ((getO (List.drop ((↑i : Int).toNat * 6) (rxL ks).toArray.toList).toArray.toList 0).getD undef)))), Value.int IntKind.u64 (intV (Value.int IntKind.u64 (intV ((getO (List.drop ((↑i :
Int).toNat * 6) (rxL ks).toArray.toList).toArray.toList 1).getD undef)))), Value.int IntKind.u64 (intV (Value.int IntKind.u64 (intV ((getO (List.drop ((↑i : Int).toNat * 6) (rxL ks).toArray.toList).toArray.toList 2).getD
undef)))), Value.int IntKind.u64 (intV (Value.int IntKind.u64 (intV ((getO (List.drop ((↑i : Int).toNat * 6) (rxL ks).toArray.toList).toArray.toList 3).getD undef)))), Value.int IntKind.u64 (intV (Value.int IntKind.u64
(intV ((getO (List.drop ((↑i : Int).toNat * 6) (rxL ks).toArray.toList).toArray.toList 4).getD undef)))), Value.iface 0 (Value.agg #[Value.int IntKind.i64 (↑(frE ((getO (List.drop ((↑i : Int).toNat * 6) (rxL
ks).toArray.toList).toArray.toList 5).getD undef)) : Int), Value.int IntKind.i64 (↑(frN ((getO (List.drop ((↑i : Int).toNat * 6) (rxL ks).toArray.toList).toArray.toList 5).getD undef)) : Int), Value.agg (frC ((getO
(List.drop ((↑i : Int).toNat * 6) (rxL ks).toArray.toList).toArray.toList 5).getD undef)).toArray])]) n ∧ K AE.normal (tmps 41 [(1, Value.pointer (some { block := 0, off := 0 : Addr })), (3, Value.int IntKind.i64 (wr
IntKind.i64 ((↑m : Int) + (↑(decV (Value.agg #[Value.int IntKind.i64 (intV (Value.int IntKind.i64 (intV ((getO (List.drop ((↑i : Int).toNat * 6) (rxL ks).toArray.toList).toArray.toList 0).getD undef)))), Value.int
IntKind.u64 (intV (Value.int IntKind.u64 (intV ((getO (List.drop ((↑i : Int).toNat * 6) (rxL ks).toArray.toList).toArray.toList 1).getD undef)))), Value.int IntKind.u64 (intV (Value.int IntKind.u64 (intV ((getO
(List.drop ((↑i : Int).toNat * 6) (rxL ks).toArray.toList).toArray.toList 2).getD undef)))), Value.int IntKind.u64 (intV (Value.int IntKind.u64 (intV ((getO (List.drop ((↑i : Int).toNat * 6) (rxL
ks).toArray.toList).toArray.toList 3).getD undef)))), Value.int IntKind.u64 (intV (Value.int IntKind.u64 (intV ((getO (List.drop ((↑i : Int).toNat * 6) (rxL ks).toArray.toList).toArray.toList 4).getD undef)))),
Value.iface 0 (Value.agg #[Value.int IntKind.i64 (↑(frE ((getO (List.drop ((↑i : Int).toNat * 6) (rxL ks).toArray.toList).toArray.toList 5).getD undef)) : Int), Value.int IntKind.i64 (↑(frN ((getO (List.drop ((↑i :
Int).toNat * 6) (rxL ks).toArray.toList).toArray.toList 5).getD undef)) : Int), Value.agg (frC ((getO (List.drop ((↑i : Int).toNat * 6) (rxL ks).toArray.toList).toArray.toList 5).getD undef)).toArray])])).sz : Int)))),
(7, Value.iface 0 (Value.agg #[Value.int IntKind.i64 6, Value.int IntKind.i64 (↑ks.length : Int), Value.agg (rxL ks).toArray])), (8, Value.int IntKind.i64 (↑ks.length : Int)), (9, Value.int IntKind.i64 (wr IntKind.i64
((↑i : Int) + 1)))]) (hp [Blk.cells [Value.int IntKind.i64 (↑x.op : Int), Value.int IntKind.u64 (↑x.set.x0 : Int), Value.int IntKind.u64 (↑x.set.x1 : Int), Value.int IntKind.u64 (↑x.set.x2 : Int), Value.int IntKind.u64
(↑x.set.x3 : Int), Value.iface 0 (Value.agg #[Value.int IntKind.i64 6, Value.int IntKind.i64 (↑x.kids.length : Int), Value.agg (rxL x.kids).toArray])] 6 true]))))))))) (K (AE.exit 0) (tmps 41 [(1, Value.pointer (some
{ block := 0, off := 0 : Addr })), (3, Value.int IntKind.i64 (↑m : Int))]) (hp [Blk.cells [Value.int IntKind.i64 (↑x.op : Int), Value.int IntKind.u64 (↑x.set.x0 : Int), Value.int IntKind.u64 (↑x.set.x1 : Int), Value.int
IntKind.u64 (↑x.set.x2 : Int), Value.int IntKind.u64 (↑x.set.x3 : Int), Value.iface 0 (Value.agg #[Value.int IntKind.i64 6, Value.int IntKind.i64 (↑x.kids.length : Int), Value.agg (rxL x.kids).toArray])] 6 true]))) := by kernel_rfl

noncomputable def cut782 (x : Rx) : CutE where
  β := Nat
  p := [0,1,0,1,1]
  t := fun _ => T782 x.kids 0 0
  h := fun _ => hp [rxC x]
  Q := fun _ K => K (.exit 0) (tmps 41 [(1, .pointer (some ⟨0,0,none⟩)), (3, .int .i64 (szL x.kids : Int))]) (hp [rxC x])

theorem w782 (n : Nat) (x : Rx) (K : Value → Heap → Prop) :
  funX Try.prog (S782 n) (gcLKX (at0 []) (at0 []) 0 (cutE [cut782 x])) F782 body782 Try.f49 [] [] [.agg #[.int .i64 (x.op : Int), .int .u64 (x.set.x0 : Int), .int .u64 (x.set.x1 : Int), .int .u64 (x.set.x2 : Int), .int .u64 (x.set.x3 : Int), kvV x]] (hp []) K = (
FlatD [] (hp [Blk.cells [Value.int IntKind.i64 (↑x.op : Int), Value.int IntKind.u64 (↑x.set.x0 : Int), Value.int IntKind.u64 (↑x.set.x1 : Int), Value.int IntKind.u64 (↑x.set.x2 : Int), Value.int IntKind.u64 (↑x.set.x3 :
Int), Value.iface 0 (Value.agg #[Value.int IntKind.i64 6, Value.int IntKind.i64 (↑x.kids.length : Int), Value.agg (rxL x.kids).toArray])] 6 true]) ∧ ∃ (b : Nat), tmps 41 [(1, Value.pointer (some
{ block := 0, off := 0 : Addr })), (3, Value.int IntKind.i64 0), (7, Value.iface 0 (Value.agg #[Value.int IntKind.i64 6, Value.int IntKind.i64 (↑x.kids.length : Int), Value.agg (rxL x.kids).toArray])), (8, Value.int
IntKind.i64 (↑x.kids.length : Int)), (9, Value.int IntKind.i64 0)] = tmps 41 [(1, Value.pointer (some { block := 0, off := 0 : Addr })), (3, Value.int IntKind.i64 0), (7, Value.iface 0 (Value.agg #[Value.int IntKind.i64
6, Value.int IntKind.i64 (↑x.kids.length : Int), Value.agg (rxL x.kids).toArray])), (8, Value.int IntKind.i64 (↑x.kids.length : Int)), (9, Value.int IntKind.i64 0)] ∧ hp [Blk.cells [Value.int IntKind.i64 (↑x.op : Int),
Value.int IntKind.u64 (↑x.set.x0 : Int), Value.int IntKind.u64 (↑x.set.x1 : Int), Value.int IntKind.u64 (↑x.set.x2 : Int), Value.int IntKind.u64 (↑x.set.x3 : Int), Value.iface 0 (Value.agg #[Value.int IntKind.i64 6,
Value.int IntKind.i64 (↑x.kids.length : Int), Value.agg (rxL x.kids).toArray])] 6 true] = hp [Blk.cells [Value.int IntKind.i64 (↑x.op : Int), Value.int IntKind.u64 (↑x.set.x0 : Int), Value.int IntKind.u64 (↑x.set.x1 :
Int), Value.int IntKind.u64 (↑x.set.x2 : Int), Value.int IntKind.u64 (↑x.set.x3 : Int), Value.iface 0 (Value.agg #[Value.int IntKind.i64 6, Value.int IntKind.i64 (↑x.kids.length : Int), Value.agg (rxL x.kids).toArray])]
6 true] ∧ Alt (eqI (intV (Value.int IntKind.i64 (↑x.op : Int))) 1) (K (Value.int IntKind.i64 1) (hp [])) (Alt (eqI (intV (Value.int IntKind.i64 (↑x.op : Int))) 3) (K (Value.int IntKind.i64 (wr IntKind.i64 ((↑(szL x.kids)
: Int) + wr IntKind.i64 (2 * wr IntKind.i64 ((↑x.kids.length : Int) - 1))))) (hp [])) (Alt (eqI (intV (Value.int IntKind.i64 (↑x.op : Int))) 4) (K (Value.int IntKind.i64 (wr IntKind.i64 ((↑(szL x.kids) : Int) + 2))) (hp
[])) (Alt (eqI (intV (Value.int IntKind.i64 (↑x.op : Int))) 5) (K (Value.int IntKind.i64 (wr IntKind.i64 ((↑(szL x.kids) : Int) + 1))) (hp [])) (Alt (eqI (intV (Value.int IntKind.i64 (↑x.op : Int))) 6) (K (Value.int
IntKind.i64 (wr IntKind.i64 ((↑(szL x.kids) : Int) + 1))) (hp [])) (K (Value.int IntKind.i64 (↑(szL x.kids) : Int)) (hp []))))))) := by kernel_rfl

noncomputable def S781 (n : Nat) : Book := bookOf [(49, sizC n), (37, isC n)]

theorem w781 (n : Nat) (x : Rx) (K : Value → Heap → Prop) :
  funX Try.prog (S781 n) noLoop F781 body781 Try.f35 [] [] [.agg #[.int .i64 (x.op : Int), .int .u64 (x.set.x0 : Int), .int .u64 (x.set.x1 : Int), .int .u64 (x.set.x2 : Int), .int .u64 (x.set.x3 : Int), kvV x]] (hp []) K = (
True ∧ RxD (Value.agg #[Value.int IntKind.i64 (intV (Value.int IntKind.i64 (↑x.op : Int))), Value.int IntKind.u64 (intV (Value.int IntKind.u64 (↑x.set.x0 : Int))), Value.int IntKind.u64 (intV (Value.int IntKind.u64
(↑x.set.x1 : Int))), Value.int IntKind.u64 (intV (Value.int IntKind.u64 (↑x.set.x2 : Int))), Value.int IntKind.u64 (intV (Value.int IntKind.u64 (↑x.set.x3 : Int))), Value.iface 0 (Value.agg #[Value.int IntKind.i64 6,
Value.int IntKind.i64 (↑x.kids.length : Int), Value.agg (rxL x.kids).toArray])]) n ∧ Alt (!(decV (Value.agg #[Value.int IntKind.i64 (intV (Value.int IntKind.i64 (↑x.op : Int))), Value.int IntKind.u64 (intV (Value.int
IntKind.u64 (↑x.set.x0 : Int))), Value.int IntKind.u64 (intV (Value.int IntKind.u64 (↑x.set.x1 : Int))), Value.int IntKind.u64 (intV (Value.int IntKind.u64 (↑x.set.x2 : Int))), Value.int IntKind.u64 (intV (Value.int
IntKind.u64 (↑x.set.x3 : Int))), Value.iface 0 (Value.agg #[Value.int IntKind.i64 6, Value.int IntKind.i64 (↑x.kids.length : Int), Value.agg (rxL x.kids).toArray])])).is) (K (Value.int IntKind.i64 0) (hp [])) (True ∧ RxI
(Value.agg #[Value.int IntKind.i64 (intV (Value.int IntKind.i64 (↑x.op : Int))), Value.int IntKind.u64 (intV (Value.int IntKind.u64 (↑x.set.x0 : Int))), Value.int IntKind.u64 (intV (Value.int IntKind.u64 (↑x.set.x1 :
Int))), Value.int IntKind.u64 (intV (Value.int IntKind.u64 (↑x.set.x2 : Int))), Value.int IntKind.u64 (intV (Value.int IntKind.u64 (↑x.set.x3 : Int))), Value.iface 0 (Value.agg #[Value.int IntKind.i64 6, Value.int
IntKind.i64 (↑x.kids.length : Int), Value.agg (rxL x.kids).toArray])]) n ∧ K (Value.int IntKind.i64 (wr IntKind.i64 ((↑(decV (Value.agg #[Value.int IntKind.i64 (intV (Value.int IntKind.i64 (↑x.op : Int))), Value.int
IntKind.u64 (intV (Value.int IntKind.u64 (↑x.set.x0 : Int))), Value.int IntKind.u64 (intV (Value.int IntKind.u64 (↑x.set.x1 : Int))), Value.int IntKind.u64 (intV (Value.int IntKind.u64 (↑x.set.x2 : Int))), Value.int
IntKind.u64 (intV (Value.int IntKind.u64 (↑x.set.x3 : Int))), Value.iface 0 (Value.agg #[Value.int IntKind.i64 6, Value.int IntKind.i64 (↑x.kids.length : Int), Value.agg (rxL x.kids).toArray])])).sz : Int) + 1))) (hp
[]))) := by kernel_rfl

end Go.Proofs.Ytfgiifppapopnaa

namespace Go.Proofs.Ytfgiifppapopnaa
open Go.RowKit Go.Proofs.Ytfgiifppapopnaa.AM
set_option maxRecDepth 100000
set_option maxHeartbeats 4000000
theorem sz_eq (x : Rx) : x.sz = if x.op = 1 then 1 else if x.op = 3 then szL x.kids + 2 * (x.kids.length - 1) else if x.op = 4 then szL x.kids + 2 else if x.op = 5 ∨ x.op = 6 then szL x.kids + 1 else szL x.kids := by cases x; rw [Rx.sz]; rfl
mutual
theorem sz_le : ∀ x : Rx, x.sz + 2 ≤ 5 * x.dp
  | .mk o s k => by
    have h := szL_le k
    rw [Rx.sz, Rx.dp]
    split
    · omega
    split
    · omega
    split
    · omega
    split <;> omega
theorem szL_le : ∀ k : List Rx, szL k + 2 * k.length ≤ 5 * dpL k
  | [] => by rw [szL, dpL]; exact Nat.le_refl _
  | x :: l => by
    have h1 := sz_le x
    have h2 := szL_le l
    rw [szL, dpL, List.length_cons]
    omega
end
theorem szL_drop {k : List Rx} {i : Nat} {x : Rx} {t : List Rx} (h : k.drop i = x :: t) : szL (k.drop i) = x.sz + szL (k.drop (i + 1)) := by
  rw [← List.drop_drop, h, szL]; rfl
theorem szL_app (k l : List Rx) : szL (k ++ l) = szL k + szL l := by
  induction k with
  | nil => rw [List.nil_append, szL]; omega
  | cons x k ih => rw [List.cons_append, szL, szL, ih]; omega
theorem is_kids {x : Rx} (h : x.is = true) : isL x.kids = true := by
  rw [is_eq] at h
  split at h
  · rename_i h1
    rw [List.isEmpty_iff] at h
    rw [h, isL]
  · rw [Bool.and_eq_true, Bool.and_eq_true] at h
    exact h.2.2
theorem is_mem {k : List Rx} (h : isL k = true) {y : Rx} (hy : y ∈ k) : y.is = true := by
  rw [isL_all, List.all_eq_true] at h
  exact h y hy
theorem rxC_flat (x : Rx) : FlatL [.int .i64 (x.op : Int), .int .u64 (x.set.x0 : Int), .int .u64 (x.set.x1 : Int), .int .u64 (x.set.x2 : Int), .int .u64 (x.set.x3 : Int), kvV x] := ⟨fun v hv => by
  simp only [List.mem_cons, List.not_mem_nil, or_false] at hv
  rcases hv with rfl | rfl | rfl | rfl | rfl | rfl <;> rfl⟩
section
variable (hm : Try.prog.follows .mixedOrders = true)
include hm
theorem sure782 (n : Nat) (hn : (sizC n).Holds Try.prog 49) : Sure Try.prog (S782 n) := ⟨hm, plain, bookOf_ok (l := [(49, sizC n)]) ⟨hn, trivial⟩⟩
theorem loop782 (n : Nat) (hn : (sizC n).Holds Try.prog 49) (x : Rx) (ks : List Rx) (hd : dpL ks < n) (hi : isL ks = true) (hN : n ≤ 72057594037927936) (K : Post)
    (hK : K (.exit 0) (tmps 41 [(1, .pointer (some ⟨0,0,none⟩)), (3, .int .i64 (szL ks : Int))]) (hp [rxC x])) : ∀ (t : List Rx) (i m : Nat), ks.drop i = t → m + szL t = szL ks →
    LSays Try.prog 0 (sub body782 [0,0,1,0,1,1]) (T782 ks m i) (hp [rxC x]) K := by
  have hF : FlatD [] (hp [rxC x]) := FlatD.hp ⟨rxC_flat x, trivial⟩
  have hlen := dp_len ks
  have hszl := szL_le ks
  intro t
  induction t with
  | nil =>
    intro i m ht hr
    have hge : ltI (i : Int) (ks.length : Int) = false := by have := List.drop_eq_nil_iff.1 ht; rw [ltI_eq, decide_eq_false]; omega
    rw [szL] at hr
    obtain rfl : m = szL ks := by omega
    refine (sure782 hm n hn).roundX F782 noLoops [] [] [] [] [1,3,7,8,9] ?_
    rw [r782, hge]
    exact ⟨hF, hK⟩
  | cons y t ih =>
    intro i m ht hr
    have hx : ks[i]? = some y := by
      have := congrArg List.head? ht
      rw [List.head?_drop] at this; exact this
    have hil : i < ks.length := (List.getElem?_eq_some_iff.1 hx).1
    have hxm : y ∈ ks := List.mem_of_getElem? hx
    have hlt : ltI (i : Int) (ks.length : Int) = true := ltI_iff.2 (by omega)
    rw [szL] at hr
    refine (sure782 hm n hn).roundX F782 noLoops [] [] [] [] [1,3,7,8,9] ?_
    rw [r782, hlt]
    simp only [Int.toNat_natCast, List.toList_toArray, kid_nth hx]
    refine Need_iff.2 ⟨rfl, Need_iff.2 ⟨rfl, Need_iff.2 ⟨rfl, Need_iff.2 ⟨rfl, Need_iff.2 ⟨rfl, Need_iff.2 ⟨rfl, Need_iff.2 ⟨rfl, ?_⟩⟩⟩⟩⟩⟩⟩
    refine ⟨trivial, ⟨y, rfl, Nat.lt_of_le_of_lt (dp_kid hxm) hd, is_mem hi hxm⟩, ?_⟩
    have e : wr .i64 ((i : Int) + 1) = ((i + 1 : Nat) : Int) := nx i (by omega)
    have e2 : wr .i64 ((m : Int) + (y.sz : Int)) = ((m + y.sz : Nat) : Int) := by rw [wr_i64 _ (by omega) (by omega)]; omega
    have := ih (i + 1) (m + y.sz) (by rw [← List.drop_drop, ht]; rfl) (by omega)
    refine ⟨hF, ?_⟩
    show LSays _ _ _ (tmps 41 [(1, .pointer (some ⟨0,0,none⟩)), (3, .int .i64 (wr .i64 ((m : Int) + ((decV (rxV y)).sz : Int)))), (7, frV ks), (8, .int .i64 (ks.length : Int)), (9, .int .i64 (wr .i64 ((i : Int) + 1)))]) (hp [rxC x]) _
    rw [decV_rx, e, e2]
    exact this
theorem siz_step (n : Nat) (hn : (sizC n).Holds Try.prog 49) (hN : n ≤ 72057594037927936) : (sizC (n + 1)).Holds Try.prog 49 := by
  intro args blks hf hpre
  refine ⟨?_, ?_⟩
  · simp only [sizC] at hpre ⊢
    split at hpre
    · trivial
    · exact hpre.elim
  · simp only [sizC] at hpre ⊢
    split at hpre
    · rename_i v
      obtain ⟨x, rfl, hd, hi⟩ := hpre
      rw [decV_rx]
      rw [dp_mk] at hd
      have hF : FlatD [] (hp []) := FlatD.hp trivial
      have hL : Loops Try.prog body782 0 (cutE [cut782 x]) := Loops.noneE.moreE _ fun _ K hQ => loop782 hm n hn x x.kids (by omega) (is_kids hi) hN K hQ x.kids 0 0 rfl (by omega)
      refine (sure782 hm n hn).funX F782 body782 [] [] Try.func49 rfl (hL.gcX (at0 []) (at0 [])) ?_
      unfold rxV
      show funX Try.prog (S782 n) (gcLKX (at0 []) (at0 []) 0 (cutE [cut782 x])) F782 body782 Try.f49 [] [] [.agg #[.int .i64 (x.op : Int), .int .u64 (x.set.x0 : Int), .int .u64 (x.set.x1 : Int), .int .u64 (x.set.x2 : Int), .int .u64 (x.set.x3 : Int), kvV x]] (hp []) _
      have q : ∀ c : Nat, eqI (x.op : Int) (c : Int) = decide (x.op = c) := fun c => by rw [eqI_eq]; exact decide_eq_decide.2 (by omega)
      have q1 : eqI (intV (.int .i64 (x.op : Int))) 1 = decide (x.op = 1) := q 1
      have q3 : eqI (intV (.int .i64 (x.op : Int))) 3 = decide (x.op = 3) := q 3
      have q4 : eqI (intV (.int .i64 (x.op : Int))) 4 = decide (x.op = 4) := q 4
      have q5 : eqI (intV (.int .i64 (x.op : Int))) 5 = decide (x.op = 5) := q 5
      have q6 : eqI (intV (.int .i64 (x.op : Int))) 6 = decide (x.op = 6) := q 6
      have hz := szL_le x.kids
      have hlen := dp_len x.kids
      rw [w782, q1, q3, q4, q5, q6]
      refine ⟨FlatD.hp ⟨rxC_flat x, trivial⟩, 0, rfl, rfl, ?_⟩
      have fin : ∀ b : Int, b = (x.sz : Int) → FlatD [] (hp []) ∧ isJunk (Value.int .i64 b) = false ∧ Value.int .i64 b = Value.int .i64 (x.sz : Int) ∧ hp [] = hp ([] ++ []) := fun b h => ⟨hF, rfl, by rw [h], rfl⟩
      cases h1 : decide (x.op = 1) with
      | true => exact fin _ (by rw [sz_eq, if_pos (of_decide_eq_true h1)]; rfl)
      | false =>
      have n1 := of_decide_eq_false h1
      cases h3 : decide (x.op = 3) with
      | true =>
        refine fin _ ?_
        have he : x.kids.isEmpty = false := by
          rw [is_eq, if_neg n1, if_neg (by rw [of_decide_eq_true h3]; decide), if_pos (of_decide_eq_true h3)] at hi
          simp only [Bool.and_eq_true, Bool.not_eq_true'] at hi
          exact hi.1
        have hp1 : 1 ≤ x.kids.length := by
          cases hk : x.kids with
          | nil => rw [hk] at he; cases he
          | cons y l => simp only [List.length_cons]; omega
        rw [sz_eq, if_neg n1, if_pos (of_decide_eq_true h3)]
        have e1 : wr .i64 ((x.kids.length : Int) - 1) = ((x.kids.length - 1 : Nat) : Int) := by rw [wr_i64 _ (by omega) (by omega)]; omega
        have e2 : wr .i64 (2 * ((x.kids.length - 1 : Nat) : Int)) = ((2 * (x.kids.length - 1) : Nat) : Int) := by rw [wr_i64 _ (by omega) (by omega)]; omega
        rw [e1, e2, wr_i64 _ (by omega) (by omega)]
        omega
      | false =>
      have n3 := of_decide_eq_false h3
      cases h4 : decide (x.op = 4) with
      | true =>
        refine fin _ ?_
        rw [sz_eq, if_neg n1, if_neg n3, if_pos (of_decide_eq_true h4), wr_i64 _ (by omega) (by omega)]
        omega
      | false =>
      have n4 := of_decide_eq_false h4
      cases h5 : decide (x.op = 5) with
      | true =>
        refine fin _ ?_
        rw [sz_eq, if_neg n1, if_neg n3, if_neg n4, if_pos (.inl (of_decide_eq_true h5)), wr_i64 _ (by omega) (by omega)]
        omega
      | false =>
      cases h6 : decide (x.op = 6) with
      | true =>
        refine fin _ ?_
        rw [sz_eq, if_neg n1, if_neg n3, if_neg n4, if_pos (.inr (of_decide_eq_true h6)), wr_i64 _ (by omega) (by omega)]
        omega
      | false =>
        refine fin _ ?_
        have n5 := of_decide_eq_false h5
        have n6 := of_decide_eq_false h6
        rw [sz_eq, if_neg n1, if_neg n3, if_neg n4, if_neg (by omega)]
    · exact hpre.elim
theorem siz_all : ∀ n, n ≤ 72057594037927937 → (sizC n).Holds Try.prog 49 := by
  intro n
  induction n with
  | zero =>
    intro _ args blks hf hpre
    simp only [sizC] at hpre
    split at hpre
    · obtain ⟨x, _, hd, _⟩ := hpre; exact absurd hd (Nat.not_lt_zero _)
    · exact hpre.elim
  | succ n ih => exact fun h => siz_step hm n (ih (by omega)) (by omega)
noncomputable def szeC : Ctr where
  pre := fun args blks => match args, blks with
    | [v], [] => RxD v 72057594037927936
    | _, _ => False
  val := fun args blks => match args, blks with
    | [v], [] => .int .i64 (bif (decV v).is then ((decV v).sz + 1 : Nat) else (0 : Int))
    | _, _ => undef
  new := fun _ _ => []
theorem sze_says : szeC.Holds Try.prog 35 := by
  intro args blks hf hpre
  refine ⟨?_, ?_⟩
  · simp only [szeC] at hpre ⊢
    split at hpre
    · trivial
    · exact hpre.elim
  · simp only [szeC] at hpre ⊢
    split at hpre
    · rename_i v
      obtain ⟨x, rfl, hd⟩ := hpre
      rw [decV_rx]
      have hF : FlatD [] (hp []) := FlatD.hp trivial
      have su : Sure Try.prog (S781 72057594037927936) := ⟨hm, plain, bookOf_ok (l := [(49, sizC 72057594037927936), (37, isC 72057594037927936)]) ⟨siz_all hm _ (by decide), is_all hm _ (by decide), trivial⟩⟩
      refine su.funX F781 body781 [] [] Try.func35 rfl noLoops ?_
      have hw := w781 72057594037927936 x
      have hsz := sz_le x
      have hb : x.sz < 400000000000000000 := by omega
      generalize 72057594037927936 = N at *
      unfold rxV
      rw [hw]
      refine ⟨trivial, ⟨x, rfl, hd⟩, ?_⟩
      show Alt (!(decV (rxV x)).is) _ (True ∧ RxI (rxV x) N ∧ _ ∧ isJunk (Value.int .i64 (wr .i64 (((decV (rxV x)).sz : Int) + 1))) = false ∧ Value.int .i64 (wr .i64 (((decV (rxV x)).sz : Int) + 1)) = _ ∧ _)
      rw [decV_rx]
      cases hi : x.is with
      | false => exact ⟨hF, rfl, rfl, rfl⟩
      | true =>
        have e : wr .i64 ((x.sz : Int) + 1) = ((x.sz + 1 : Nat) : Int) := by rw [wr_i64 _ (by omega) (by omega)]; omega
        refine ⟨trivial, ⟨x, rfl, hd, hi⟩, hF, rfl, ?_, rfl⟩
        rw [e]; rfl
    · exact hpre.elim
end
end Go.Proofs.Ytfgiifppapopnaa

namespace Go.Proofs.Ytfgiifppapopnaa
open Go.RowKit Go.Proofs.Ytfgiifppapopnaa.AM
set_option maxRecDepth 100000
set_option maxHeartbeats 4000000
/-! ### a tree's steps -/
def stB (s : S4) : St := ⟨1, s.x0, s.x1, s.x2, s.x3, 0, 0⟩
def stP (a b : Nat) : St := ⟨2, 0, 0, 0, 0, a, b⟩
def stJ (a : Nat) : St := ⟨3, 0, 0, 0, 0, a, 0⟩
def stM : St := ⟨4, 0, 0, 0, 0, 0, 0⟩
mutual
def Rx.lay : Rx → Nat → List St
  | .mk o s k, a => if o = 1 then [stB s] else if o = 2 then layL k a else if o = 3 then altL k a (a + (szL k + 2 * (k.length - 1))) else
    if o = 4 then stP (a + 1) (a + szL k + 2) :: layL k (a + 1) ++ [stJ a] else if o = 5 then layL k a ++ [stP a (a + szL k + 1)] else if o = 6 then stP (a + 1) (a + szL k + 1) :: layL k (a + 1) else []
def layL : List Rx → Nat → List St
  | [], _ => []
  | x :: l, a => x.lay a ++ layL l (a + x.sz)
def altL : List Rx → Nat → Nat → List St
  | [], _, _ => []
  | x :: l, a, e => if l.isEmpty then x.lay a else stP (a + 1) (a + x.sz + 2) :: x.lay (a + 1) ++ stJ e :: altL l (a + x.sz + 2) e
end
theorem stC_app (L M : List St) : stC (L ++ M) = stC L ++ stC M := by unfold stC; rw [List.flatMap_append]
mutual
theorem lay_len : ∀ (x : Rx) (a : Nat), x.is = true → (x.lay a).length = x.sz
  | .mk o s k, a, h => by
    have hk := is_kids h
    rw [Rx.is] at h
    simp only [Rx.kids] at hk
    rw [Rx.lay, Rx.sz]
    by_cases h1 : o = 1
    · rw [if_pos h1, if_pos h1]; rfl
    rw [if_neg h1, if_neg h1]
    rw [if_neg h1] at h
    by_cases h2 : o = 2
    · rw [if_pos h2, if_neg (by omega), if_neg (by omega), if_neg (by omega)]
      exact layL_len k a hk
    rw [if_neg h2]
    rw [if_neg h2] at h
    by_cases h3 : o = 3
    · rw [if_pos h3, if_pos h3]
      exact altL_len k a _ hk
    rw [if_neg h3, if_neg h3]
    by_cases h4 : o = 4
    · rw [if_pos h4, if_pos h4]
      simp only [List.length_cons, List.length_append, List.length_nil, layL_len k _ hk]
    rw [if_neg h4, if_neg h4]
    by_cases h5 : o = 5
    · rw [if_pos h5, if_pos (.inl h5)]
      simp only [List.length_cons, List.length_append, List.length_nil, layL_len k _ hk]
    rw [if_neg h5]
    by_cases h6 : o = 6
    · rw [if_pos h6, if_pos (.inr h6)]
      simp only [List.length_cons, layL_len k _ hk]
    · rw [if_neg h3, if_neg (by omega), Bool.false_and] at h
      cases h
theorem layL_len : ∀ (k : List Rx) (a : Nat), isL k = true → (layL k a).length = szL k
  | [], a, _ => by rw [layL, szL]; rfl
  | x :: l, a, h => by
    rw [isL, Bool.and_eq_true] at h
    rw [layL, szL, List.length_append, lay_len x a h.1, layL_len l _ h.2]
theorem altL_len : ∀ (k : List Rx) (a e : Nat), isL k = true → (altL k a e).length = szL k + 2 * (k.length - 1)
  | [], a, e, _ => by rw [altL, szL]; rfl
  | x :: l, a, e, h => by
    rw [isL, Bool.and_eq_true] at h
    have h2 := altL_len l (a + x.sz + 2) e h.2
    have h1 := lay_len x a h.1
    have h1' := lay_len x (a + 1) h.1
    rw [altL, szL]
    cases l with
    | nil => simp only [List.isEmpty_nil, if_true, szL, List.length_cons, List.length_nil]; omega
    | cons y l => 
      rw [if_neg (by simp)]
      simp only [List.length_cons, List.length_append] at h2 ⊢
      omega
end
end Go.Proofs.Ytfgiifppapopnaa
