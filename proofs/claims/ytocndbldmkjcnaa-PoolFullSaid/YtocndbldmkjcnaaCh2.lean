/- Proved: what functions of the program come to, by their conditions over the abstract machine. Conditions: those that each theorem states. -/
import Derived.Test.YtocndbldmkjcnaaCh1
set_option linter.unusedVariables false
set_option linter.unusedSimpArgs false
namespace Go.Proofs.Ytocndbldmkjcnaa
open Go.RowKit Go.Proofs.Ytocndbldmkjcnaa.AM
set_option maxRecDepth 100000
set_option maxHeartbeats 4000000
theorem runs_501 : isTrueR (acall Try.prog (fun _ => none) 300 3 [] Heap.empty) = true := by decide +kernel
theorem sure502 (hm : Try.prog.follows .mixedOrders = true) : Sure Try.prog (S502 hm) := Sure.addI (Sure.withS ⟨hm, plain, bookOf_ok (l := [(3, trueC), (13, sameC), (17, isC), (16, hasC), (11, hasC), (20, cloneC)]) ⟨trueC_of (FunSays.of_run hm plain Try.func3 rfl runs_501), same_says hm, is_says hm, rhas_says hm, has_says hm, clone_says hm, trivial⟩⟩
  (l := [(21, findX.summ (find_says hm)), (18, cutX.summ (cut_x hm)), (12, rcutX.summ (rcut_x hm))]) ⟨findX.sum_ok (find_says hm), cutX.sum_ok (cut_x hm), rcutX.sum_ok (rcut_x hm), trivial⟩)
  (l := [(8, Try.f8, body506), (9, Try.f9, body507), (14, Try.f14, body509), (10, Try.f10, body508), (7, Try.f7, body505), (15, Try.f15, body510)]) ⟨⟨Try.func8, rfl⟩, ⟨Try.func9, rfl⟩, ⟨Try.func14, rfl⟩, ⟨Try.func10, rfl⟩, ⟨Try.func7, rfl⟩, ⟨Try.func15, rfl⟩, trivial⟩
/-- steps that are handed in: a truth and a number each -/
def Steps (ca : List Value) (len : Nat) : Prop := ∀ i, i < len → ∃ (g : Bool) (n : Int), getO ca (i * 2) = some (.bool g) ∧ getO ca (i * 2 + 1) = some (.int .i64 n) ∧ ZP .i64 n
theorem hF502 {ca cy cz : List Value} {mo la : Int} {m k : Nat} {w : Bool} (h1 : FlatL ca) (h2 : FlatL cy) (h3 : FlatL cz) : FlatD [1] (hp [.cells ca 2 w, .cells [.int .i64 mo, .int .i64 la, .slice (some ⟨3,0,some 1⟩) m k] 3 true, .cells cy 1 true, .cells cz 1 true]) := FlatD.hp ⟨h1, rfl, h2, h3, trivial⟩
theorem rise_same {R : List Int} (h : Up R) : riseL R = R := (up_iff_rise.1 h).symm
theorem cutF_rcutF (R : List Int) (n : Int) : rcutF R n = cutF R n := up_ext (up_bothL _ _ _) (up_notF _ _) fun y => by unfold cutF rcutF; rw [mem_notF, mem_bothL]; simp
theorem mem_cutF {R : List Int} {n y : Int} : y ∈ cutF R n ↔ y ∈ R ∧ y ≠ n := by unfold cutF; rw [mem_notF]; simp
theorem cutF_no {R : List Int} (h : Up R) {n : Int} (hn : ¬ n ∈ R) : cutF R n = R := up_ext (up_notF _ _) h fun y => by rw [mem_cutF]; exact ⟨fun h => h.1, fun h => ⟨h, fun hh => hn (hh ▸ h)⟩⟩
theorem len_cutF (R : List Int) (n : Int) : (cutF R n).length ≤ R.length := len_notF R [n]
theorem row_more {cs : List Value} {R : List Int} (h : ISl cs 0 R) {x : Int} (hx : ZP .i64 x) (hl : R.length ≤ 1000000) : List.take (R.length * 1) (List.drop 0 cs) ++ [Value.int .i64 x] = eC (iE .i64) (R ++ [x]) ∧ ISl (eC (iE .i64) (R ++ [x])) 0 (R ++ [x]) := by
  obtain ⟨t1, _⟩ := h.whole
  rw [List.drop_zero] at t1
  refine ⟨by rw [Nat.mul_one, List.drop_zero, t1, eC_append]; rfl, ?_⟩
  exact ESl.own flat_i (fun y hy => (List.mem_append.1 hy).elim (h.ok y) fun hh => by simp at hh; rw [hh]; exact hx) (by simp; omega)
theorem up_more {R : List Int} {x : Int} (h : Up R) (hx : ∀ y ∈ R, y < x) : Up (R ++ [x]) := List.pairwise_append.2 ⟨h, List.pairwise_singleton _ _, fun a ha b hb => by simp at hb; rw [hb]; exact hx a ha⟩
theorem row_size {cs : List Value} {R : List Int} (h : ISl cs 0 R) : R.length ≤ cs.length := by have := h.whole.2; omega
theorem plays_loop (hmix : Try.prog.follows .mixedOrders = true) (ca : List Value) (hca : FlatL ca) (len : Nat) (hlen : len ≤ 100) (hS : Steps ca len) (most mo id : Int) (hmo : mo = if 0 > most then 0 else most) (s1 : Option Nat) (k1 : Nat) (K : Post)
    (hK : ∀ y : St502, PoolIs y.R y.last len y.cy y.m y.k y.cz y.m2 y.k2 → K (.exit 0) (tmps 111 [(2, .int .i64 id), (7, .pointer (some ⟨1,0,none⟩)), (8, s1w 2 y.m y.k), (9, .int .i64 y.last)]) (H502 ca mo y.last y.cy y.m2 y.k2 y.cz)) :
    ∀ (t i : Nat) (R : List Int) (last : Int) (cy : List Value) (m k : Nat) (cz : List Value) (m2 k2 : Nat), i + t = len → PoolIs R last i cy m k cz m2 k2 →
    LSays Try.prog 1 (sub body502 [0,0,1,0,1,1,1,1,1,1]) (T502 most s1 len k1 id m k last i) (H502 ca mo last cy m2 k2 cz) K := by
  intro t
  induction t with
  | zero =>
    intro i R last cy m k cz m2 k2 hi P
    refine (sure502 hmix).roundX F502 noLoops [1] [.cell 7 2 1, .tmp 8 1] [1] [] [0,1,2,7,8,9,10] ?_
    rw [r502]
    have hF := hF502 (w := false) (mo := mo) (la := last) (m := m2) (k := k2) hca P.y.flat P.z.flat
    simp only [show ¬ ((i : Int) < (len : Int)) by omega, hF, Alt_iff, Need_iff, ltI_eq, leI_eq, eqI_eq, leN_eq, eqN_eq, decide_eq_true_eq, decide_eq_false_iff_not, decide_true, decide_false, true_and, and_true, Bool.true_eq_false, Bool.false_eq_true, false_implies, true_implies, implies_true, not_true_eq_false, not_false_eq_true, Bool.not_eq_true', Bool.not_eq_false', Nat.zero_add, Nat.add_zero, Nat.sub_zero, Nat.zero_mul, Nat.mul_one, Int.toNat_natCast, List.drop_zero, beqV_int, beqV_sl, beqV_str, beqV_bool, beqV_ptr, beqV_flt, beqV_agg, beqV_tuple, List.all_cons, List.all_nil, Bool.and_self, Bool.and_true, Bool.true_and, Nat.le_refl, Int.le_refl, Nat.zero_le, Option.getD_some, isStr, strV, isInt, intV, isBool, boolV, kindEq, at0, isJunk, Option.isSome_some, Option.isSome_none, if_true, if_false, Nat.add_sub_cancel_left, Nat.add_sub_cancel]
    exact hK ⟨R, last, cy, m, k, cz, m2, k2, i⟩ (by obtain rfl : i = len := by omega
                                                    exact P)
  | succ t ih =>
    intro i R last cy m k cz m2 k2 hi P
    obtain ⟨g, n, g1, g2, hn⟩ := hS i (by omega)
    refine (sure502 hmix).roundX F502 noLoops [1] [.cell 7 2 1, .tmp 8 1] [1] [] [0,1,2,7,8,9,10] ?_
    rw [r502]
    have hN : IsN [Value.int .i64 n] := ⟨n, hn⟩
    obtain ⟨Py, Pz, em, em2, hk, hk2, up, low, hl, hlen2⟩ := P
    subst em; subst em2
    have hI : IsI cy 0 R.length k := .mk R rfl hk Py
    have hJ : IsI cz 0 R.length k2 := .mk R rfl hk2 Pz
    have hU : IsUp R := ⟨up, by omega⟩
    have hF := hF502 (w := false) (mo := mo) (la := last) (m := R.length) (k := k2) hca Py.flat Pz.flat
    cases g with
    | true =>
      simp only [show ((i : Int) < (len : Int)) by omega, g1, g2, hN, hI, hJ, hU, Py.flat, Pz.flat, intsAt_eq Py, intsAt_eq Pz, nx i (by omega), show R.length ≤ 1000 by omega, Bool.false_beq, Bool.true_beq, Bool.not_not, hF, Alt_iff, Need_iff, ltI_eq, leI_eq, eqI_eq, leN_eq, eqN_eq, decide_eq_true_eq, decide_eq_false_iff_not, decide_true, decide_false, true_and, and_true, Bool.true_eq_false, Bool.false_eq_true, false_implies, true_implies, implies_true, not_true_eq_false, not_false_eq_true, Bool.not_eq_true', Bool.not_eq_false', Nat.zero_add, Nat.add_zero, Nat.sub_zero, Nat.zero_mul, Nat.mul_one, Int.toNat_natCast, List.drop_zero, beqV_int, beqV_sl, beqV_str, beqV_bool, beqV_ptr, beqV_flt, beqV_agg, beqV_tuple, List.all_cons, List.all_nil, Bool.and_self, Bool.and_true, Bool.true_and, Nat.le_refl, Int.le_refl, Nat.zero_le, Option.getD_some, isStr, strV, isInt, intV, isBool, boolV, kindEq, at0, isJunk, Option.isSome_some, Option.isSome_none, if_true, if_false, Nat.add_sub_cancel_left, Nat.add_sub_cancel]
      intro x hx
      obtain ⟨xp, xb⟩ := x
      obtain ⟨_, hb⟩ := hx
      simp only at hb
      subst hb
      refine ⟨fun h0 => ⟨fun h1 => (by simp only at h0; rw [h0] at h1; cases h1), fun _ x2 hx2 => ?_⟩, fun h0 x1 hx1 => ⟨fun h1 => (by simp only at h0; rw [h0] at h1; cases h1), fun _ x2 hx2 => ?_⟩⟩
      · rw [cutF_rcutF, cutF_no up (fun hh => by rw [hasL_iff.2 hh] at h0; cases h0)] at hx2
        refine ⟨hF502 hca hx2.flat Pz.flat, ?_⟩
        exact ih (i + 1) R last x2.2.1 x2.1.length x2.2.2 cz R.length k2 (by omega) ⟨hx2.eq ▸ hx2.row, Pz, hx2.len, rfl, hx2.le, hk2, up, low, by omega, by omega⟩
      · rw [cutF_rcutF] at hx2
        refine ⟨hF502 hca hx2.flat hx1.flat, ?_⟩
        exact ih (i + 1) (cutF R n) last x2.2.1 x2.1.length x2.2.2 x1.2.1 x1.1.length x1.2.2 (by omega) ⟨hx2.eq ▸ hx2.row, hx1.eq ▸ hx1.row, hx2.len, hx1.len, hx2.le, hx1.le, up_notF _ _, fun y hy => low y (mem_cutF.1 hy).1, by omega, by have := len_cutF R n; omega⟩
    | false =>
      have hz1 : ZP .i64 (last + 1) := ZP.i64.2 ⟨by omega, by omega⟩
      obtain ⟨q1, q2⟩ := row_more Py hz1 (by omega)
      obtain ⟨q3, q4⟩ := row_more Pz hz1 (by omega)
      rw [show intV (Value.int .i64 last) = last from rfl, show wr .i64 (last + 1) = last + 1 from wr_i64 _ (by omega) (by omega), q1, show intV (Value.int .i64 (last + 1)) = last + 1 from rfl, q3]
      simp only [show ((i : Int) < (len : Int)) by omega, g1, hI, hJ, Py.flat, Pz.flat, nx i (by omega), show R.length ≤ 1000 by omega, Bool.false_beq, Bool.true_beq, Bool.not_not, hF, show ¬ last = 2147483647 by omega, Alt_iff, Need_iff, ltI_eq, leI_eq, eqI_eq, leN_eq, eqN_eq, decide_eq_true_eq, decide_eq_false_iff_not, decide_true, decide_false, true_and, and_true, Bool.true_eq_false, Bool.false_eq_true, false_implies, true_implies, implies_true, not_true_eq_false, not_false_eq_true, Bool.not_eq_true', Bool.not_eq_false', Nat.zero_add, Nat.add_zero, Nat.sub_zero, Nat.zero_mul, Nat.mul_one, Int.toNat_natCast, List.drop_zero, beqV_int, beqV_sl, beqV_str, beqV_bool, beqV_ptr, beqV_flt, beqV_agg, beqV_tuple, List.all_cons, List.all_nil, Bool.and_self, Bool.and_true, Bool.true_and, Nat.le_refl, Int.le_refl, Nat.zero_le, Option.getD_some, isStr, strV, isInt, intV, isBool, boolV, kindEq, at0, isJunk, Option.isSome_some, Option.isSome_none, if_true, if_false, Nat.add_sub_cancel_left, Nat.add_sub_cancel]
      have s1 := row_size Py
      have s2 := row_size Pz
      have hlow : ∀ y ∈ R, y < last + 1 := fun y hy => by have := low y hy; omega
      refine ⟨fun h0 => ⟨fun h1 => ?_, fun h1 => ?_⟩, fun h0 => ⟨by omega, by omega, by omega, fun h1 => ?_, fun h1 => ⟨by omega, by omega, by omega, hF502 hca q2.flat q4.flat, ?_⟩⟩⟩
      · split at hmo <;> omega
      · exact ih (i + 1) R last cy R.length k cz R.length k2 (by omega) ⟨Py, Pz, rfl, rfl, hk, hk2, up, low, by omega, by omega⟩
      · split at hmo <;> omega
      · exact ih (i + 1) (R ++ [last + 1]) (last + 1) _ (R.length + 1) (R.length + 1) _ (R.length + 1) (R.length + 1) (by omega) ⟨q2, q4, by simp, by simp, Nat.le_refl _, Nat.le_refl _, up_more up hlow, fun y hy => by
          rcases List.mem_append.1 hy with hy | hy
          · have := low y hy; omega
          · simp at hy; omega, by omega, by simp; omega⟩
theorem law502 (hmix : Try.prog.follows .mixedOrders = true) (ca : List Value) (hca : FlatL ca) (len : Nat) (hS : Steps ca len) (most id : Int) (hid : ZP .i64 id) (s1 : Option Nat) (k1 : Nat) :
    FunSays Try.prog 4 [.int .i64 most, .slice (some ⟨0,0,s1⟩) len k1, .int .i64 id] (hp [.cells ca 2 false]) fun v _ => v = .bool true := by
  have hF : FlatD [] (hp [.cells ca 2 false]) := FlatD.hp ⟨hca, trivial⟩
  have hL : Loops Try.prog body502 1 (cutE [cut502 ca most (if 0 > most then 0 else most) id s1 len k1]) := Loops.noneE.moreE _ fun x K hQ => by
    obtain ⟨⟨h1, h2, hw⟩, h3⟩ := hQ
    have h2 : x.i ≤ len := h2
    have hw : len ≤ 100 := hw
    exact plays_loop hmix ca hca len hw hS most _ id rfl s1 k1 K h3 (len - x.i) x.i x.R x.last x.cy x.m x.k x.cz x.m2 x.k2 (by omega) h1
  refine (sure502 hmix).funX F502 body502 [] [] Try.func4 rfl (hL.gcX (at0 [1]) (at0 [.cell 7 2 1, .tmp 8 1])) ?_
  rw [w502]
  rw [Alt_iff]
  refine ⟨fun _ => ⟨trivial, trivial, hF, rfl, rfl⟩, fun h0 => ?_⟩
  have hw : len ≤ 100 := by have := ltI_no h0; omega
  have e0 : ISl [] 0 [] := ESl.own (l := []) flat_i (fun y hy => by simp at hy) (by simp)
  refine ⟨hF502 hca e0.flat e0.flat, ⟨[], 0, [], 0, 0, [], 0, 0, 0⟩, rfl, rfl, ⟨⟨e0, e0, rfl, rfl, Nat.le_refl _, Nat.le_refl _, List.Pairwise.nil, fun y hy => (by cases hy), ⟨Int.le_refl 0, Int.le_refl 0⟩, by simp⟩, Nat.zero_le _, hw⟩, fun y P => ?_⟩
  obtain ⟨R, last, cy, m, k, cz, m2, k2, i⟩ := y
  obtain ⟨Py, Pz, em, em2, hk, hk2, up, low, hl, hlen2⟩ := P
  simp only at Py Pz em em2 hk hk2 up low hl hlen2 ⊢
  subst em; subst em2
  have hI : IsI cy 0 R.length k := .mk R rfl hk Py
  have hJ : IsI cz 0 R.length k2 := .mk R rfl hk2 Pz
  have hU : IsUp R := ⟨up, by omega⟩
  obtain ⟨q1, q2⟩ := own_is (l := R) Py.ok (by omega)
  simp only [intsAt_eq Py, intsAt_eq Pz, intsAt_eq q1, hI, hJ, hU, q1.flat, q2, Py.flat, Pz.flat, show IsN [Value.int .i64 id] from ⟨id, hid⟩, show sameI R R = true from sameI_iff.2 rfl, show R.length ≤ 1000000000 by omega, hF, Alt_iff, Need_iff, ltI_eq, leI_eq, eqI_eq, leN_eq, eqN_eq, decide_eq_true_eq, decide_eq_false_iff_not, decide_true, decide_false, true_and, and_true, Bool.true_eq_false, Bool.false_eq_true, false_implies, true_implies, implies_true, not_true_eq_false, not_false_eq_true, Bool.not_eq_true', Bool.not_eq_false', Nat.zero_add, Nat.add_zero, Nat.sub_zero, Nat.zero_mul, Nat.mul_one, Int.toNat_natCast, List.drop_zero, beqV_int, beqV_sl, beqV_str, beqV_bool, beqV_ptr, beqV_flt, beqV_agg, beqV_tuple, List.all_cons, List.all_nil, Bool.and_self, Bool.and_true, Bool.true_and, Nat.le_refl, Int.le_refl, Nat.zero_le, Option.getD_some, isStr, strV, isInt, intV, isBool, boolV, kindEq, at0, isJunk, Option.isSome_some, Option.isSome_none, if_true, if_false, Nat.add_sub_cancel_left, Nat.add_sub_cancel]
  intro x hx
  simp [hx.has]
end Go.Proofs.Ytocndbldmkjcnaa

namespace Go.Proofs.Ytocndbldmkjcnaa
open Go.RowKit Go.Proofs.Ytocndbldmkjcnaa.AM
set_option maxRecDepth 100000
set_option maxHeartbeats 4000000
noncomputable def T504 (most : Int) (s1 : Option Nat) (len k1 : Nat) (last : Int) (i : Nat) : List Value := tmps 99 [(0, .int .i64 most), (1, .slice (some ⟨0,0,s1⟩) len k1), (5, .pointer (some ⟨1,0,none⟩)), (6, .int .i64 last), (7, .int .i64 i)]
noncomputable def H504 (ca : List Value) (mo la : Int) (m k : Nat) (cz : List Value) : Heap := hp [.cells ca 2 false, .cells [.int .i64 mo, .int .i64 la, s1w 2 m k] 3 true, .cells cz 1 true]
structure PoolOne (R : List Int) (last : Int) (n : Nat) (cz : List Value) (m k : Nat) : Prop where
  z : ISl cz 0 R
  em : m = R.length
  hk : m ≤ k
  up : Up R
  low : ∀ x ∈ R, 1 ≤ x ∧ x ≤ last
  last : 0 ≤ last ∧ last ≤ n
  len : R.length ≤ n

theorem r504 (hm : Try.prog.follows .mixedOrders = true) (ca : List Value) (most mo la last : Int) (s1 : Option Nat) (len k1 : Nat) (cz : List Value) (m k : Nat) (i : Nat) (K : Post) :
  roundX Try.prog (S502 hm) noLoop F504 body504 1 [1] [.cell 5 2 1] [1] [] [0,1,5,6,7] [0,0,1,0,1,1,1,1,1] (T504 most s1 len k1 last i) (H504 ca mo la m k cz) K = (
Alt (ltI (↑i : Int) (↑len : Int))
  (Need (ltI (↑i : Int) (↑len : Int))
    (Need (isBool ((getO ca (0 + (↑i : Int).toNat * 2 + 0)).getD undef))
      (Alt (boolV ((getO ca (0 + (↑i : Int).toNat * 2 + 0)).getD undef))
        ((FlatL cz ∧ True) ∧
          (IsE (iE IntKind.i64) (ZP IntKind.i64) cz 0 m k ∧ Need (leN m 1000000000) True) ∧
            Need (ltI (↑i : Int) (↑len : Int))
              (Need (isInt IntKind.i64 ((getO ca (0 + (↑i : Int).toNat * 2 + 1)).getD undef))
                ((FlatL (eC (iE IntKind.i64) (intsAt cz 0 m)) ∧ True) ∧
                  (IsE (iE IntKind.i64) (ZP IntKind.i64) (eC (iE IntKind.i64) (intsAt cz 0 m)) 0 m m ∧
                      IsN [Value.int IntKind.i64 (intV ((getO ca (0 + (↑i : Int).toNat * 2 + 1)).getD undef))]) ∧
                    Need (ltI (↑i : Int) (↑len : Int))
                      (Need (isInt IntKind.i64 ((getO ca (0 + (↑i : Int).toNat * 2 + 1)).getD undef))
                        ((FlatL cz ∧ True) ∧
                          (IsE (iE IntKind.i64) (ZP IntKind.i64) cz 0 m k ∧ IsUp (intsAt cz 0 m)) ∧
                            ∀ (x : Nat × Bool),
                              FindR (intsAt cz 0 m) (intV ((getO ca (0 + (↑i : Int).toNat * 2 + 1)).getD undef)) x →
                                Alt (!x.snd)
                                  (Alt
                                    (!false ==
                                        hasL (intV ((getO ca (0 + (↑i : Int).toNat * 2 + 1)).getD undef))
                                          (intsAt (eC (iE IntKind.i64) (intsAt cz 0 m)) 0 m))
                                    (K AE.ret (tmps 99 [(4, Value.bool false)]) (hp [Blk.cells ca 2 false]))
                                    (Need (ltI (↑i : Int) (↑len : Int))
                                      (Need (isInt IntKind.i64 ((getO ca (0 + (↑i : Int).toNat * 2 + 1)).getD undef))
                                        ((FlatL cz ∧ True) ∧
                                          (IsE (iE IntKind.i64) (ZP IntKind.i64) cz 0 m k ∧ IsUp (intsAt cz 0 m)) ∧
                                            ∀ (x : Nat × Bool),
                                              FindR (intsAt cz 0 m)
                                                  (intV ((getO ca (0 + (↑i : Int).toNat * 2 + 1)).getD undef)) x →
                                                Alt x.snd
                                                  (K AE.ret (tmps 99 [(4, Value.bool false)])
                                                    (hp [Blk.cells ca 2 false]))
                                                  ((FlatL cz ∧ True) ∧
                                                    (IsE (iE IntKind.i64) (ZP IntKind.i64) cz 0 m k ∧
                                                        Need (leN m 1000000000) True) ∧
                                                      Alt (ltI (if most > 0 then most else 0) (↑m : Int))
                                                        (K AE.ret (tmps 99 [(4, Value.bool false)])
                                                          (hp [Blk.cells ca 2 false]))
                                                        ((FlatL cz ∧ True) ∧
                                                          (IsE (iE IntKind.i64) (ZP IntKind.i64) cz 0 m k ∧
                                                              Need (leN m 1000000000) True) ∧
                                                            (FlatL (eC (iE IntKind.i64) (intsAt cz 0 m)) ∧ True) ∧
                                                              (IsE (iE IntKind.i64) (ZP IntKind.i64)
                                                                    (eC (iE IntKind.i64) (intsAt cz 0 m)) 0 m m ∧
                                                                  IsO []) ∧
                                                                Alt
                                                                  (!upI
                                                                      (intsAt (eC (iE IntKind.i64) (intsAt cz 0 m)) 0
                                                                        m))
                                                                  (K AE.ret (tmps 99 [(4, Value.bool false)])
                                                                    (hp [Blk.cells ca 2 false]))
                                                                  (Alt (!eqI (intV (Value.int IntKind.i64 la)) last)
                                                                    (K AE.ret (tmps 99 [(4, Value.bool false)])
                                                                      (hp [Blk.cells ca 2 false]))
                                                                    (K AE.normal
                                                                      (tmps 99
                                                                        [(0, Value.int IntKind.i64 most),
                                                                          (1,
                                                                            Value.slice
                                                                              (some
                                                                                { block := 0, off := 0, spot := s1 :
                                                                                  Addr })
                                                                              len k1),
                                                                          (5,
                                                                            Value.pointer
                                                                              (some { block := 1, off := 0 : Addr })),
                                                                          (6, Value.int IntKind.i64 last),
                                                                          (7,
                                                                            Value.int IntKind.i64
                                                                              (wr IntKind.i64 ((↑i : Int) + 1)))])
                                                                      (hp
                                                                        [Blk.cells ca 2 false,
                                                                          Blk.cells
                                                                            [Value.int IntKind.i64 mo,
                                                                              Value.int IntKind.i64 la,
                                                                              Value.slice
                                                                                (some
                                                                                  { block := 2, off := 0,
                                                                                    spot := some 1 : Addr })
                                                                                m k]
                                                                            3 true,
                                                                          Blk.cells cz 1 true])))))))))
                                  ((FlatL cz ∧ True) ∧
                                    (IsE (iE IntKind.i64) (ZP IntKind.i64) cz 0 m k ∧
                                        IsN
                                            [Value.int IntKind.i64
                                                (intV ((getO ca (0 + (↑i : Int).toNat * 2 + 1)).getD undef))] ∧
                                          Need (leN m 1000) True) ∧
                                      ∀ (x : Rw),
                                        RowR
                                            (cutF (intsAt cz 0 m)
                                              (intV ((getO ca (0 + (↑i : Int).toNat * 2 + 1)).getD undef)))
                                            x →
                                          Alt
                                            (!true ==
                                                hasL (intV ((getO ca (0 + (↑i : Int).toNat * 2 + 1)).getD undef))
                                                  (intsAt (eC (iE IntKind.i64) (intsAt cz 0 m)) 0 m))
                                            (K AE.ret (tmps 99 [(4, Value.bool false)]) (hp [Blk.cells ca 2 false]))
                                            (Need (ltI (↑i : Int) (↑len : Int))
                                              (Need
                                                (isInt IntKind.i64
                                                  ((getO ca (0 + (↑i : Int).toNat * 2 + 1)).getD undef))
                                                ((FlatL x.snd.fst ∧ True) ∧
                                                  (IsE (iE IntKind.i64) (ZP IntKind.i64) x.snd.fst 0 x.fst.length
                                                        x.snd.snd ∧
                                                      IsUp (intsAt x.snd.fst 0 x.fst.length)) ∧
                                                    ∀ (x_1 : Nat × Bool),
                                                      FindR (intsAt x.snd.fst 0 x.fst.length)
                                                          (intV ((getO ca (0 + (↑i : Int).toNat * 2 + 1)).getD undef))
                                                          x_1 →
                                                        Alt x_1.snd
                                                          (K AE.ret (tmps 99 [(4, Value.bool false)])
                                                            (hp [Blk.cells ca 2 false]))
                                                          ((FlatL x.snd.fst ∧ True) ∧
                                                            (IsE (iE IntKind.i64) (ZP IntKind.i64) x.snd.fst 0
                                                                  x.fst.length x.snd.snd ∧
                                                                Need (leN x.fst.length 1000000000) True) ∧
                                                              Alt
                                                                (ltI (if most > 0 then most else 0)
                                                                  (↑x.fst.length : Int))
                                                                (K AE.ret (tmps 99 [(4, Value.bool false)])
                                                                  (hp [Blk.cells ca 2 false]))
                                                                ((FlatL x.snd.fst ∧ True) ∧
                                                                  (IsE (iE IntKind.i64) (ZP IntKind.i64) x.snd.fst 0
                                                                        x.fst.length x.snd.snd ∧
                                                                      Need (leN x.fst.length 1000000000) True) ∧
                                                                    (FlatL
                                                                          (eC (iE IntKind.i64)
                                                                            (intsAt x.snd.fst 0 x.fst.length)) ∧
                                                                        True) ∧
                                                                      (IsE (iE IntKind.i64) (ZP IntKind.i64)
                                                                            (eC (iE IntKind.i64)
                                                                              (intsAt x.snd.fst 0 x.fst.length))
                                                                            0 x.fst.length x.fst.length ∧
                                                                          IsO []) ∧
                                                                        Alt
                                                                          (!upI
                                                                              (intsAt
                                                                                (eC (iE IntKind.i64)
                                                                                  (intsAt x.snd.fst 0 x.fst.length))
                                                                                0 x.fst.length))
                                                                          (K AE.ret (tmps 99 [(4, Value.bool false)])
                                                                            (hp [Blk.cells ca 2 false]))
                                                                          (Alt
                                                                            (!eqI (intV (Value.int IntKind.i64 la))
                                                                                last)
                                                                            (K AE.ret (tmps 99 [(4, Value.bool false)])
                                                                              (hp [Blk.cells ca 2 false]))
                                                                            (K AE.normal
                                                                              (tmps 99
                                                                                [(0, Value.int IntKind.i64 most),
                                                                                  (1,
                                                                                    Value.slice
                                                                                      (some
                                                                                        { block := 0, off := 0,
                                                                                          spot := s1 : Addr })
                                                                                      len k1),
                                                                                  (5,
                                                                                    Value.pointer
                                                                                      (some
                                                                                        { block := 1, off := 0 :
                                                                                          Addr })),
                                                                                  (6, Value.int IntKind.i64 last),
                                                                                  (7,
                                                                                    Value.int IntKind.i64
                                                                                      (wr IntKind.i64
                                                                                        ((↑i : Int) + 1)))])
                                                                              (hp
                                                                                [Blk.cells ca 2 false,
                                                                                  Blk.cells
                                                                                    [Value.int IntKind.i64 mo,
                                                                                      Value.int IntKind.i64 la,
                                                                                      Value.slice
                                                                                        (some
                                                                                          { block := 2, off := 0,
                                                                                            spot := some 1 : Addr })
                                                                                        x.fst.length x.snd.snd]
                                                                                    3 true,
                                                                                  Blk.cells x.snd.fst 1
                                                                                    true]))))))))))))))
        (Alt (leI (intV (Value.int IntKind.i64 mo)) (↑m : Int))
          ((FlatL cz ∧ True) ∧
            (IsE (iE IntKind.i64) (ZP IntKind.i64) cz 0 m k ∧ Need (leN m 1000000000) True) ∧
              Alt (ltI (if most > 0 then most else 0) (↑m : Int))
                (K AE.ret (tmps 99 [(4, Value.bool false)]) (hp [Blk.cells ca 2 false]))
                ((FlatL cz ∧ True) ∧
                  (IsE (iE IntKind.i64) (ZP IntKind.i64) cz 0 m k ∧ Need (leN m 1000000000) True) ∧
                    (FlatL (eC (iE IntKind.i64) (intsAt cz 0 m)) ∧ True) ∧
                      (IsE (iE IntKind.i64) (ZP IntKind.i64) (eC (iE IntKind.i64) (intsAt cz 0 m)) 0 m m ∧ IsO []) ∧
                        Alt (!upI (intsAt (eC (iE IntKind.i64) (intsAt cz 0 m)) 0 m))
                          (K AE.ret (tmps 99 [(4, Value.bool false)]) (hp [Blk.cells ca 2 false]))
                          (Alt (!eqI (intV (Value.int IntKind.i64 la)) last)
                            (K AE.ret (tmps 99 [(4, Value.bool false)]) (hp [Blk.cells ca 2 false]))
                            (K AE.normal
                              (tmps 99
                                [(0, Value.int IntKind.i64 most),
                                  (1, Value.slice (some { block := 0, off := 0, spot := s1 : Addr }) len k1),
                                  (5, Value.pointer (some { block := 1, off := 0 : Addr })),
                                  (6, Value.int IntKind.i64 last),
                                  (7, Value.int IntKind.i64 (wr IntKind.i64 ((↑i : Int) + 1)))])
                              (hp
                                [Blk.cells ca 2 false,
                                  Blk.cells
                                    [Value.int IntKind.i64 mo, Value.int IntKind.i64 la,
                                      Value.slice (some { block := 2, off := 0, spot := some 1 : Addr }) m k]
                                    3 true,
                                  Blk.cells cz 1 true])))))
          (Alt (eqI (intV (Value.int IntKind.i64 la)) 2147483647)
            ((FlatL cz ∧ True) ∧
              (IsE (iE IntKind.i64) (ZP IntKind.i64) cz 0 m k ∧ Need (leN m 1000000000) True) ∧
                Alt (ltI (if most > 0 then most else 0) (↑m : Int))
                  (K AE.ret (tmps 99 [(4, Value.bool false)]) (hp [Blk.cells ca 2 false]))
                  ((FlatL cz ∧ True) ∧
                    (IsE (iE IntKind.i64) (ZP IntKind.i64) cz 0 m k ∧ Need (leN m 1000000000) True) ∧
                      (FlatL (eC (iE IntKind.i64) (intsAt cz 0 m)) ∧ True) ∧
                        (IsE (iE IntKind.i64) (ZP IntKind.i64) (eC (iE IntKind.i64) (intsAt cz 0 m)) 0 m m ∧ IsO []) ∧
                          Alt (!upI (intsAt (eC (iE IntKind.i64) (intsAt cz 0 m)) 0 m))
                            (K AE.ret (tmps 99 [(4, Value.bool false)]) (hp [Blk.cells ca 2 false]))
                            (Alt (!eqI (intV (Value.int IntKind.i64 la)) last)
                              (K AE.ret (tmps 99 [(4, Value.bool false)]) (hp [Blk.cells ca 2 false]))
                              (K AE.normal
                                (tmps 99
                                  [(0, Value.int IntKind.i64 most),
                                    (1, Value.slice (some { block := 0, off := 0, spot := s1 : Addr }) len k1),
                                    (5, Value.pointer (some { block := 1, off := 0 : Addr })),
                                    (6, Value.int IntKind.i64 last),
                                    (7, Value.int IntKind.i64 (wr IntKind.i64 ((↑i : Int) + 1)))])
                                (hp
                                  [Blk.cells ca 2 false,
                                    Blk.cells
                                      [Value.int IntKind.i64 mo, Value.int IntKind.i64 la,
                                        Value.slice (some { block := 2, off := 0, spot := some 1 : Addr }) m k]
                                      3 true,
                                    Blk.cells cz 1 true])))))
            (Need (leN (0 + m * 1) cz.length)
              (Need (leN ((m + 1) * 8) 1099511627776)
                (Need (leN (m + 1) 1099511627776)
                  (Need
                    (beqV 64 (Value.slice (some { block := 2, off := 0, spot := some 1 : Addr }) m k)
                      (Value.slice (some { block := 2, off := 0, spot := some 1 : Addr }) m k))
                    (Alt
                      (leI (intV (Value.int IntKind.i64 (wr IntKind.i64 (intV (Value.int IntKind.i64 la) + 1)))) last)
                      (K AE.ret (tmps 99 [(4, Value.bool false)]) (hp [Blk.cells ca 2 false]))
                      ((FlatL
                            (List.take (m * 1) (List.drop 0 cz) ++
                              [Value.int IntKind.i64
                                  (intV
                                    (Value.int IntKind.i64 (wr IntKind.i64 (intV (Value.int IntKind.i64 la) + 1))))]) ∧
                          True) ∧
                        (IsE (iE IntKind.i64) (ZP IntKind.i64)
                              (List.take (m * 1) (List.drop 0 cz) ++
                                [Value.int IntKind.i64
                                    (intV
                                      (Value.int IntKind.i64 (wr IntKind.i64 (intV (Value.int IntKind.i64 la) + 1))))])
                              0 (m + 1) (m + 1) ∧
                            IsUp
                              (intsAt
                                (List.take (m * 1) (List.drop 0 cz) ++
                                  [Value.int IntKind.i64
                                      (intV
                                        (Value.int IntKind.i64
                                          (wr IntKind.i64 (intV (Value.int IntKind.i64 la) + 1))))])
                                0 (m + 1))) ∧
                          ∀ (x : Nat × Bool),
                            FindR
                                (intsAt
                                  (List.take (m * 1) (List.drop 0 cz) ++
                                    [Value.int IntKind.i64
                                        (intV
                                          (Value.int IntKind.i64
                                            (wr IntKind.i64 (intV (Value.int IntKind.i64 la) + 1))))])
                                  0 (m + 1))
                                (intV (Value.int IntKind.i64 (wr IntKind.i64 (intV (Value.int IntKind.i64 la) + 1))))
                                x →
                              Alt (!x.snd) (K AE.ret (tmps 99 [(4, Value.bool false)]) (hp [Blk.cells ca 2 false]))
                                (Alt
                                  (!eqI
                                      (intV
                                        (Value.int IntKind.i64 (wr IntKind.i64 (intV (Value.int IntKind.i64 la) + 1))))
                                      (intV
                                        (Value.int IntKind.i64 (wr IntKind.i64 (intV (Value.int IntKind.i64 la) + 1)))))
                                  (K AE.ret (tmps 99 [(4, Value.bool false)]) (hp [Blk.cells ca 2 false]))
                                  ((FlatL
                                        (List.take (m * 1) (List.drop 0 cz) ++
                                          [Value.int IntKind.i64
                                              (intV
                                                (Value.int IntKind.i64
                                                  (wr IntKind.i64 (intV (Value.int IntKind.i64 la) + 1))))]) ∧
                                      True) ∧
                                    (IsE (iE IntKind.i64) (ZP IntKind.i64)
                                          (List.take (m * 1) (List.drop 0 cz) ++
                                            [Value.int IntKind.i64
                                                (intV
                                                  (Value.int IntKind.i64
                                                    (wr IntKind.i64 (intV (Value.int IntKind.i64 la) + 1))))])
                                          0 (m + 1) (m + 1) ∧
                                        Need (leN (m + 1) 1000000000) True) ∧
                                      Alt (ltI (if most > 0 then most else 0) (↑(m + 1) : Int))
                                        (K AE.ret (tmps 99 [(4, Value.bool false)]) (hp [Blk.cells ca 2 false]))
                                        ((FlatL
                                              (List.take (m * 1) (List.drop 0 cz) ++
                                                [Value.int IntKind.i64
                                                    (intV
                                                      (Value.int IntKind.i64
                                                        (wr IntKind.i64 (intV (Value.int IntKind.i64 la) + 1))))]) ∧
                                            True) ∧
                                          (IsE (iE IntKind.i64) (ZP IntKind.i64)
                                                (List.take (m * 1) (List.drop 0 cz) ++
                                                  [Value.int IntKind.i64
                                                      (intV
                                                        (Value.int IntKind.i64
                                                          (wr IntKind.i64 (intV (Value.int IntKind.i64 la) + 1))))])
                                                0 (m + 1) (m + 1) ∧
                                              Need (leN (m + 1) 1000000000) True) ∧
                                            (FlatL
                                                  (eC (iE IntKind.i64)
                                                    (intsAt
                                                      (List.take (m * 1) (List.drop 0 cz) ++
                                                        [Value.int IntKind.i64
                                                            (intV
                                                              (Value.int IntKind.i64
                                                                (wr IntKind.i64
                                                                  (intV (Value.int IntKind.i64 la) + 1))))])
                                                      0 (m + 1))) ∧
                                                True) ∧
                                              (IsE (iE IntKind.i64) (ZP IntKind.i64)
                                                    (eC (iE IntKind.i64)
                                                      (intsAt
                                                        (List.take (m * 1) (List.drop 0 cz) ++
                                                          [Value.int IntKind.i64
                                                              (intV
                                                                (Value.int IntKind.i64
                                                                  (wr IntKind.i64
                                                                    (intV (Value.int IntKind.i64 la) + 1))))])
                                                        0 (m + 1)))
                                                    0 (m + 1) (m + 1) ∧
                                                  IsO []) ∧
                                                Alt
                                                  (!upI
                                                      (intsAt
                                                        (eC (iE IntKind.i64)
                                                          (intsAt
                                                            (List.take (m * 1) (List.drop 0 cz) ++
                                                              [Value.int IntKind.i64
                                                                  (intV
                                                                    (Value.int IntKind.i64
                                                                      (wr IntKind.i64
                                                                        (intV (Value.int IntKind.i64 la) + 1))))])
                                                            0 (m + 1)))
                                                        0 (m + 1)))
                                                  (K AE.ret (tmps 99 [(4, Value.bool false)])
                                                    (hp [Blk.cells ca 2 false]))
                                                  (Alt
                                                    (!eqI
                                                        (intV
                                                          (Value.int IntKind.i64
                                                            (wr IntKind.i64 (intV (Value.int IntKind.i64 la) + 1))))
                                                        (intV
                                                          (Value.int IntKind.i64
                                                            (wr IntKind.i64 (intV (Value.int IntKind.i64 la) + 1)))))
                                                    (K AE.ret (tmps 99 [(4, Value.bool false)])
                                                      (hp [Blk.cells ca 2 false]))
                                                    (K AE.normal
                                                      (tmps 99
                                                        [(0, Value.int IntKind.i64 most),
                                                          (1,
                                                            Value.slice
                                                              (some { block := 0, off := 0, spot := s1 : Addr }) len
                                                              k1),
                                                          (5, Value.pointer (some { block := 1, off := 0 : Addr })),
                                                          (6,
                                                            Value.int IntKind.i64
                                                              (intV
                                                                (Value.int IntKind.i64
                                                                  (wr IntKind.i64
                                                                    (intV (Value.int IntKind.i64 la) + 1))))),
                                                          (7, Value.int IntKind.i64 (wr IntKind.i64 ((↑i : Int) + 1)))])
                                                      (hp
                                                        [Blk.cells ca 2 false,
                                                          Blk.cells
                                                            [Value.int IntKind.i64 mo,
                                                              Value.int IntKind.i64
                                                                (wr IntKind.i64 (intV (Value.int IntKind.i64 la) + 1)),
                                                              Value.slice
                                                                (some { block := 2, off := 0, spot := some 1 : Addr })
                                                                (m + 1) (m + 1)]
                                                            3 true,
                                                          Blk.cells
                                                            (List.take (m * 1) (List.drop 0 cz) ++
                                                              [Value.int IntKind.i64
                                                                  (intV
                                                                    (Value.int IntKind.i64
                                                                      (wr IntKind.i64
                                                                        (intV (Value.int IntKind.i64 la) + 1))))])
                                                            1 true])))))))))))))))))
  (K (AE.exit 0) (tmps 99 []) (hp [Blk.cells ca 2 false]))) := by kernel_rfl

structure St504 where
  R : List Int
  last : Int
  cz : List Value
  m : Nat
  k : Nat
  i : Nat
noncomputable def cut504 (ca : List Value) (most mo : Int) (s1 : Option Nat) (len k1 : Nat) : CutE where
  β := St504
  p := [0,1,0,1,1,1,1,1]
  t := fun x => T504 most s1 len k1 x.last x.i
  h := fun x => H504 ca mo x.last x.m x.k x.cz
  Q := fun x K => (PoolOne x.R x.last x.i x.cz x.m x.k ∧ (x.R.length : Int) ≤ mo ∧ x.i ≤ len ∧ len ≤ 100) ∧ K (.exit 0) (tmps 99 []) (hp [.cells ca 2 false])

theorem w504 (hm : Try.prog.follows .mixedOrders = true) (ca : List Value) (most mo : Int) (s1 : Option Nat) (len k1 : Nat) (K : Value → Heap → Prop) :
  funX Try.prog (S502 hm) (gcLKX (at0 [1]) (at0 [.cell 5 2 1]) 1 (cutE [cut504 ca most mo s1 len k1])) F504 body504 Try.f6 [] [] [.int .i64 most, .slice (some ⟨0,0,s1⟩) len k1] (hp [.cells ca 2 false]) K = (
Alt (ltI 100 (↑len : Int)) (True ∧ True ∧ K (Value.bool true) (hp [Blk.cells ca 2 false]))
  (FlatD [1]
      (hp
        [Blk.cells ca 2 false,
          Blk.cells
            [Value.int IntKind.i64 (if 0 > most then 0 else most), Value.int IntKind.i64 0,
              Value.slice (some { block := 2, off := 0, spot := some 1 : Addr }) 0 0]
            3 true,
          Blk.cells [] 1 true]) ∧
    ∃ (b : St504),
      tmps 99
            [(0, Value.int IntKind.i64 most),
              (1, Value.slice (some { block := 0, off := 0, spot := s1 : Addr }) len k1),
              (5, Value.pointer (some { block := 1, off := 0 : Addr })), (6, Value.int IntKind.i64 0),
              (7, Value.int IntKind.i64 0)] =
          tmps 99
            [(0, Value.int IntKind.i64 most),
              (1, Value.slice (some { block := 0, off := 0, spot := s1 : Addr }) len k1),
              (5, Value.pointer (some { block := 1, off := 0 : Addr })), (6, Value.int IntKind.i64 b.last),
              (7, Value.int IntKind.i64 (↑b.i : Int))] ∧
        hp
              [Blk.cells ca 2 false,
                Blk.cells
                  [Value.int IntKind.i64 (if 0 > most then 0 else most), Value.int IntKind.i64 0,
                    Value.slice (some { block := 2, off := 0, spot := some 1 : Addr }) 0 0]
                  3 true,
                Blk.cells [] 1 true] =
            hp
              [Blk.cells ca 2 false,
                Blk.cells
                  [Value.int IntKind.i64 mo, Value.int IntKind.i64 b.last,
                    Value.slice (some { block := 2, off := 0, spot := some 1 : Addr }) b.m b.k]
                  3 true,
                Blk.cells b.cz 1 true] ∧
          (PoolOne b.R b.last b.i b.cz b.m b.k ∧ (mo - (↑b.R.length : Int)).NonNeg ∧ b.i.le len ∧ len.le 100) ∧
            True ∧ True ∧ K (Value.bool true) (hp [Blk.cells ca 2 false]))) := by kernel_rfl

end Go.Proofs.Ytocndbldmkjcnaa

namespace Go.Proofs.Ytocndbldmkjcnaa
open Go.RowKit Go.Proofs.Ytocndbldmkjcnaa.AM
set_option maxRecDepth 100000
set_option maxHeartbeats 4000000
theorem hF504 {ca cz : List Value} {mo la : Int} {m k : Nat} {w : Bool} (h1 : FlatL ca) (h3 : FlatL cz) : FlatD [1] (hp [.cells ca 2 w, .cells [.int .i64 mo, .int .i64 la, .slice (some ⟨2,0,some 1⟩) m k] 3 true, .cells cz 1 true]) := FlatD.hp ⟨h1, rfl, h3, trivial⟩
theorem never_loop (hmix : Try.prog.follows .mixedOrders = true) (ca : List Value) (hca : FlatL ca) (len : Nat) (hlen : len ≤ 100) (hS : Steps ca len) (most mo : Int) (hmo : mo = if most > 0 then most else 0) (s1 : Option Nat) (k1 : Nat) (K : Post)
    (hK : K (.exit 0) (tmps 99 []) (hp [.cells ca 2 false])) :
    ∀ (t i : Nat) (R : List Int) (last : Int) (cz : List Value) (m k : Nat), i + t = len → PoolOne R last i cz m k → (R.length : Int) ≤ mo →
    LSays Try.prog 1 (sub body504 [0,0,1,0,1,1,1,1,1]) (T504 most s1 len k1 last i) (H504 ca mo last m k cz) K := by
  have hF0 : FlatD [1] (hp [.cells ca 2 false]) := FlatD.hp ⟨hca, trivial⟩
  have hO : IsO [] := ⟨⟩
  intro t
  induction t with
  | zero =>
    intro i R last cz m k hi P hmr
    refine (sure502 hmix).roundX F504 noLoops [1] [.cell 5 2 1] [1] [] [0,1,5,6,7] ?_
    rw [r504]
    simp only [show ¬ ((i : Int) < (len : Int)) by omega, hF0, Alt_iff, Need_iff, ltI_eq, leI_eq, eqI_eq, leN_eq, eqN_eq, decide_eq_true_eq, decide_eq_false_iff_not, decide_true, decide_false, true_and, and_true, Bool.true_eq_false, Bool.false_eq_true, false_implies, true_implies, implies_true, not_true_eq_false, not_false_eq_true, Bool.not_eq_true', Bool.not_eq_false', Nat.zero_add, Nat.add_zero, Nat.sub_zero, Nat.zero_mul, Nat.mul_one, Int.toNat_natCast, List.drop_zero, beqV_int, beqV_sl, beqV_str, beqV_bool, beqV_ptr, beqV_flt, beqV_agg, beqV_tuple, List.all_cons, List.all_nil, Bool.and_self, Bool.and_true, Bool.true_and, Nat.le_refl, Int.le_refl, Nat.zero_le, Option.getD_some, isStr, strV, isInt, intV, isBool, boolV, kindEq, at0, isJunk, Option.isSome_some, Option.isSome_none, if_true, if_false, Nat.add_sub_cancel_left, Nat.add_sub_cancel]
    exact hK
  | succ t ih =>
    intro i R last cz m k hi P hmr
    obtain ⟨g, n, g1, g2, hn⟩ := hS i (by omega)
    refine (sure502 hmix).roundX F504 noLoops [1] [.cell 5 2 1] [1] [] [0,1,5,6,7] ?_
    rw [r504, ← hmo]
    have hN : IsN [Value.int .i64 n] := ⟨n, hn⟩
    obtain ⟨Pz, em, hk, up, low, hl, hlen2⟩ := P
    subst em
    have hJ : IsI cz 0 R.length k := .mk R rfl hk Pz
    have hU : IsUp R := ⟨up, by omega⟩
    have hF := hF504 (w := false) (mo := mo) (la := last) (m := R.length) (k := k) hca Pz.flat
    obtain ⟨q1, q2⟩ := own_is (l := R) Pz.ok (by omega)
    have hup : upI R = true := upI_iff.2 up
    cases g with
    | true =>
      simp only [show ((i : Int) < (len : Int)) by omega, g1, g2, hN, hJ, hU, hO, Pz.flat, intsAt_eq Pz, intsAt_eq q1, q1.flat, q2, hup, nx i (by omega), show R.length ≤ 1000 by omega, show R.length ≤ 1000000000 by omega, show ¬ mo < (R.length : Int) by omega, Bool.not_true, Bool.not_false, Bool.false_beq, Bool.true_beq, Bool.not_not, hF, hF0, Alt_iff, Need_iff, ltI_eq, leI_eq, eqI_eq, leN_eq, eqN_eq, decide_eq_true_eq, decide_eq_false_iff_not, decide_true, decide_false, true_and, and_true, Bool.true_eq_false, Bool.false_eq_true, false_implies, true_implies, implies_true, not_true_eq_false, not_false_eq_true, Bool.not_eq_true', Bool.not_eq_false', Nat.zero_add, Nat.add_zero, Nat.sub_zero, Nat.zero_mul, Nat.mul_one, Int.toNat_natCast, List.drop_zero, beqV_int, beqV_sl, beqV_str, beqV_bool, beqV_ptr, beqV_flt, beqV_agg, beqV_tuple, List.all_cons, List.all_nil, Bool.and_self, Bool.and_true, Bool.true_and, Nat.le_refl, Int.le_refl, Nat.zero_le, Option.getD_some, isStr, strV, isInt, intV, isBool, boolV, kindEq, at0, isJunk, Option.isSome_some, Option.isSome_none, if_true, if_false, Nat.add_sub_cancel_left, Nat.add_sub_cancel]
      intro x hx
      rw [hx.has]
      cases hb : hasL n R with
      | false =>
        simp only [Bool.not_false, Alt_iff, Need_iff, ltI_eq, leI_eq, eqI_eq, leN_eq, eqN_eq, decide_eq_true_eq, decide_eq_false_iff_not, decide_true, decide_false, true_and, and_true, Bool.true_eq_false, Bool.false_eq_true, false_implies, true_implies, implies_true, not_true_eq_false, not_false_eq_true, Bool.not_eq_true', Bool.not_eq_false', Nat.zero_add, Nat.add_zero, Nat.sub_zero, Nat.zero_mul, Nat.mul_one, Int.toNat_natCast, List.drop_zero, beqV_int, beqV_sl, beqV_str, beqV_bool, beqV_ptr, beqV_flt, beqV_agg, beqV_tuple, List.all_cons, List.all_nil, Bool.and_self, Bool.and_true, Bool.true_and, Nat.le_refl, Int.le_refl, Nat.zero_le, Option.getD_some, isStr, strV, isInt, intV, isBool, boolV, kindEq, at0, isJunk, Option.isSome_some, Option.isSome_none, if_true, if_false, Nat.add_sub_cancel_left, Nat.add_sub_cancel]
        refine fun x2 hx2 => ?_
        rw [hx2.has, hb]
        simp only [show intV (Value.int .i64 last) = last from rfl, Alt_iff, Need_iff, ltI_eq, leI_eq, eqI_eq, leN_eq, eqN_eq, decide_eq_true_eq, decide_eq_false_iff_not, decide_true, decide_false, true_and, and_true, Bool.true_eq_false, Bool.false_eq_true, false_implies, true_implies, implies_true, not_true_eq_false, not_false_eq_true, Bool.not_eq_true', Bool.not_eq_false', Nat.zero_add, Nat.add_zero, Nat.sub_zero, Nat.zero_mul, Nat.mul_one, Int.toNat_natCast, List.drop_zero, beqV_int, beqV_sl, beqV_str, beqV_bool, beqV_ptr, beqV_flt, beqV_agg, beqV_tuple, List.all_cons, List.all_nil, Bool.and_self, Bool.and_true, Bool.true_and, Nat.le_refl, Int.le_refl, Nat.zero_le, Option.getD_some, isStr, strV, isInt, intV, isBool, boolV, kindEq, at0, isJunk, Option.isSome_some, Option.isSome_none, if_true, if_false, Nat.add_sub_cancel_left, Nat.add_sub_cancel]
        exact ih (i + 1) R last cz R.length k (by omega) ⟨Pz, rfl, hk, up, low, by omega, by omega⟩ hmr
      | true =>
        simp only [Bool.not_true, Alt_iff, Need_iff, ltI_eq, leI_eq, eqI_eq, leN_eq, eqN_eq, decide_eq_true_eq, decide_eq_false_iff_not, decide_true, decide_false, true_and, and_true, Bool.true_eq_false, Bool.false_eq_true, false_implies, true_implies, implies_true, not_true_eq_false, not_false_eq_true, Bool.not_eq_true', Bool.not_eq_false', Nat.zero_add, Nat.add_zero, Nat.sub_zero, Nat.zero_mul, Nat.mul_one, Int.toNat_natCast, List.drop_zero, beqV_int, beqV_sl, beqV_str, beqV_bool, beqV_ptr, beqV_flt, beqV_agg, beqV_tuple, List.all_cons, List.all_nil, Bool.and_self, Bool.and_true, Bool.true_and, Nat.le_refl, Int.le_refl, Nat.zero_le, Option.getD_some, isStr, strV, isInt, intV, isBool, boolV, kindEq, at0, isJunk, Option.isSome_some, Option.isSome_none, if_true, if_false, Nat.add_sub_cancel_left, Nat.add_sub_cancel]
        refine fun x1 hx1 => ?_
        have hU1 : IsUp (cutF R n) := ⟨up_notF _ _, by have := len_cutF R n; omega⟩
        have hlc := len_cutF R n
        obtain ⟨p1, p2⟩ := own_is (l := cutF R n) hx1.ok (by omega)
        have hh : hasL n (cutF R n) = false := has_eq (by rw [mem_cutF]; simp)
        have hF1 := hF504 (w := false) (mo := mo) (la := last) (m := (cutF R n).length) (k := x1.2.2) hca hx1.flat
        simp only [hx1.flat, hx1.len, hx1.isL, hx1.atL, hU1, intsAt_eq p1, p1.flat, p2, show upI (cutF R n) = true from upI_iff.2 (up_notF _ _), show (cutF R n).length ≤ 1000000000 by omega, show ¬ mo < ((cutF R n).length : Int) by omega, hF1, Bool.not_true, Alt_iff, Need_iff, ltI_eq, leI_eq, eqI_eq, leN_eq, eqN_eq, decide_eq_true_eq, decide_eq_false_iff_not, decide_true, decide_false, true_and, and_true, Bool.true_eq_false, Bool.false_eq_true, false_implies, true_implies, implies_true, not_true_eq_false, not_false_eq_true, Bool.not_eq_true', Bool.not_eq_false', Nat.zero_add, Nat.add_zero, Nat.sub_zero, Nat.zero_mul, Nat.mul_one, Int.toNat_natCast, List.drop_zero, beqV_int, beqV_sl, beqV_str, beqV_bool, beqV_ptr, beqV_flt, beqV_agg, beqV_tuple, List.all_cons, List.all_nil, Bool.and_self, Bool.and_true, Bool.true_and, Nat.le_refl, Int.le_refl, Nat.zero_le, Option.getD_some, isStr, strV, isInt, intV, isBool, boolV, kindEq, at0, isJunk, Option.isSome_some, Option.isSome_none, if_true, if_false, Nat.add_sub_cancel_left, Nat.add_sub_cancel]
        refine fun x2 hx2 => ?_
        rw [hx2.has, hh]
        simp only [show intV (Value.int .i64 last) = last from rfl, Alt_iff, Need_iff, ltI_eq, leI_eq, eqI_eq, leN_eq, eqN_eq, decide_eq_true_eq, decide_eq_false_iff_not, decide_true, decide_false, true_and, and_true, Bool.true_eq_false, Bool.false_eq_true, false_implies, true_implies, implies_true, not_true_eq_false, not_false_eq_true, Bool.not_eq_true', Bool.not_eq_false', Nat.zero_add, Nat.add_zero, Nat.sub_zero, Nat.zero_mul, Nat.mul_one, Int.toNat_natCast, List.drop_zero, beqV_int, beqV_sl, beqV_str, beqV_bool, beqV_ptr, beqV_flt, beqV_agg, beqV_tuple, List.all_cons, List.all_nil, Bool.and_self, Bool.and_true, Bool.true_and, Nat.le_refl, Int.le_refl, Nat.zero_le, Option.getD_some, isStr, strV, isInt, intV, isBool, boolV, kindEq, at0, isJunk, Option.isSome_some, Option.isSome_none, if_true, if_false, Nat.add_sub_cancel_left, Nat.add_sub_cancel]
        have := ih (i + 1) (cutF R n) last x1.2.1 (cutF R n).length x1.2.2 (by omega) ⟨hx1.eq ▸ hx1.row, rfl, by have := hx1.le; rw [hx1.len] at this; exact this, up_notF _ _, fun y hy => low y (mem_cutF.1 hy).1, by omega, by omega⟩ (by omega)
        exact this
    | false =>
      have hz1 : ZP .i64 (last + 1) := ZP.i64.2 ⟨by omega, by omega⟩
      obtain ⟨q3, q4⟩ := row_more Pz hz1 (by omega)
      have hlow : ∀ y ∈ R, y < last + 1 := fun y hy => by have := low y hy; omega
      have hup2 := up_more up hlow
      have hlen3 : (R ++ [last + 1]).length = R.length + 1 := by simp
      have q5 := intsAt_eq q4
      rw [hlen3] at q5
      have q6 : IsI (eC (iE .i64) (R ++ [last + 1])) 0 (R.length + 1) (R.length + 1) := .mk _ hlen3 (Nat.le_refl _) q4
      have hU2 : IsUp (R ++ [last + 1]) := ⟨hup2, by rw [hlen3]; omega⟩
      have hh : hasL (last + 1) (R ++ [last + 1]) = true := has_eq (by simp)
      rw [show intV (Value.int .i64 last) = last from rfl, show wr .i64 (last + 1) = last + 1 from wr_i64 _ (by omega) (by omega), show intV (Value.int .i64 (last + 1)) = last + 1 from rfl, q3]
      have s2 := row_size Pz
      have hF2 := hF504 (w := false) (mo := mo) (la := last + 1) (m := R.length + 1) (k := R.length + 1) hca q4.flat
      simp only [show ((i : Int) < (len : Int)) by omega, g1, hJ, hU, hO, Pz.flat, intsAt_eq Pz, intsAt_eq q1, q1.flat, q2, hup, nx i (by omega), show R.length ≤ 1000 by omega, show R.length ≤ 1000000000 by omega, show ¬ mo < (R.length : Int) by omega, show ¬ last = 2147483647 by omega, show R.length ≤ cz.length from s2, show (R.length + 1) * 8 ≤ 1099511627776 by omega, show R.length + 1 ≤ 1099511627776 by omega, show R.length + 1 ≤ 1000000000 by omega, show ¬ last + 1 ≤ last by omega, q4.flat, q5, q6, hU2, show upI (R ++ [last + 1]) = true from upI_iff.2 hup2, Bool.not_true, Bool.not_false, Bool.false_beq, Bool.true_beq, Bool.not_not, hF, hF0, hF2, Alt_iff, Need_iff, ltI_eq, leI_eq, eqI_eq, leN_eq, eqN_eq, decide_eq_true_eq, decide_eq_false_iff_not, decide_true, decide_false, true_and, and_true, Bool.true_eq_false, Bool.false_eq_true, false_implies, true_implies, implies_true, not_true_eq_false, not_false_eq_true, Bool.not_eq_true', Bool.not_eq_false', Nat.zero_add, Nat.add_zero, Nat.sub_zero, Nat.zero_mul, Nat.mul_one, Int.toNat_natCast, List.drop_zero, beqV_int, beqV_sl, beqV_str, beqV_bool, beqV_ptr, beqV_flt, beqV_agg, beqV_tuple, List.all_cons, List.all_nil, Bool.and_self, Bool.and_true, Bool.true_and, Nat.le_refl, Int.le_refl, Nat.zero_le, Option.getD_some, isStr, strV, isInt, intV, isBool, boolV, kindEq, at0, isJunk, Option.isSome_some, Option.isSome_none, if_true, if_false, Nat.add_sub_cancel_left, Nat.add_sub_cancel]
      refine ⟨fun h0 => ?_, fun h0 x hx => ?_⟩
      · exact ih (i + 1) R last cz R.length k (by omega) ⟨Pz, rfl, hk, up, low, by omega, by omega⟩ hmr
      · rw [hx.has, hh]
        simp only [show ¬ mo < ((R.length + 1 : Nat) : Int) by omega, Bool.not_true, Alt_iff, Need_iff, ltI_eq, leI_eq, eqI_eq, leN_eq, eqN_eq, decide_eq_true_eq, decide_eq_false_iff_not, decide_true, decide_false, true_and, and_true, Bool.true_eq_false, Bool.false_eq_true, false_implies, true_implies, implies_true, not_true_eq_false, not_false_eq_true, Bool.not_eq_true', Bool.not_eq_false', Nat.zero_add, Nat.add_zero, Nat.sub_zero, Nat.zero_mul, Nat.mul_one, Int.toNat_natCast, List.drop_zero, beqV_int, beqV_sl, beqV_str, beqV_bool, beqV_ptr, beqV_flt, beqV_agg, beqV_tuple, List.all_cons, List.all_nil, Bool.and_self, Bool.and_true, Bool.true_and, Nat.le_refl, Int.le_refl, Nat.zero_le, Option.getD_some, isStr, strV, isInt, intV, isBool, boolV, kindEq, at0, isJunk, Option.isSome_some, Option.isSome_none, if_true, if_false, Nat.add_sub_cancel_left, Nat.add_sub_cancel]
        exact ih (i + 1) (R ++ [last + 1]) (last + 1) _ (R.length + 1) (R.length + 1) (by omega) ⟨q4, hlen3.symm, Nat.le_refl _, hup2, fun y hy => by
          rcases List.mem_append.1 hy with hy | hy
          · have := low y hy; omega
          · simp at hy; omega, by omega, by rw [hlen3]; omega⟩ (by rw [hlen3]; omega)
theorem law504 (hmix : Try.prog.follows .mixedOrders = true) (ca : List Value) (hca : FlatL ca) (len : Nat) (hS : Steps ca len) (most : Int) (s1 : Option Nat) (k1 : Nat) :
    FunSays Try.prog 6 [.int .i64 most, .slice (some ⟨0,0,s1⟩) len k1] (hp [.cells ca 2 false]) fun v _ => v = .bool true := by
  have hF : FlatD [] (hp [.cells ca 2 false]) := FlatD.hp ⟨hca, trivial⟩
  have hmo : (if 0 > most then 0 else most) = (if most > 0 then most else 0) := by split <;> split <;> omega
  have hL : Loops Try.prog body504 1 (cutE [cut504 ca most (if 0 > most then 0 else most) s1 len k1]) := Loops.noneE.moreE _ fun x K hQ => by
    obtain ⟨⟨h1, h2, h4, hw⟩, h3⟩ := hQ
    have h4 : x.i ≤ len := h4
    have hw : len ≤ 100 := hw
    exact never_loop hmix ca hca len hw hS most _ hmo s1 k1 K h3 (len - x.i) x.i x.R x.last x.cz x.m x.k (by omega) h1 h2
  refine (sure502 hmix).funX F504 body504 [] [] Try.func6 rfl (hL.gcX (at0 [1]) (at0 [.cell 5 2 1])) ?_
  rw [w504]
  rw [Alt_iff]
  refine ⟨fun _ => ⟨trivial, trivial, hF, rfl, rfl⟩, fun h0 => ?_⟩
  have hw : len ≤ 100 := by have := ltI_no h0; omega
  have e0 : ISl [] 0 [] := ESl.own (l := []) flat_i (fun y hy => by simp at hy) (by simp)
  refine ⟨hF504 hca e0.flat, ⟨[], 0, [], 0, 0, 0⟩, rfl, rfl, ⟨⟨e0, rfl, Nat.le_refl _, List.Pairwise.nil, fun y hy => (by cases hy), ⟨Int.le_refl 0, Int.le_refl 0⟩, by simp⟩, ?_, Nat.zero_le _, hw⟩, trivial, trivial, hF, rfl, rfl⟩
  show ((0 : Nat) : Int) ≤ _
  split <;> omega
end Go.Proofs.Ytocndbldmkjcnaa

namespace Go.Proofs.Ytocndbldmkjcnaa
open Go.RowKit Go.Proofs.Ytocndbldmkjcnaa.AM
set_option maxRecDepth 100000
set_option maxHeartbeats 4000000
noncomputable def H503 (mo la : Int) (m k : Nat) (cz : List Value) : Heap := hp [.cells [.int .i64 mo, .int .i64 la, s1w 1 m k] 3 true, .cells cz 1 true]
noncomputable def T503a (back n i : Int) : List Value := tmps 110 [(1, .int .u8 back), (5, .int .i64 n), (6, .pointer (some ⟨0,0,none⟩)), (7, .int .i64 i)]
noncomputable def T503b (back n : Int) (ok : Bool) (m i : Int) : List Value := tmps 110 [(1, .int .u8 back), (5, .int .i64 n), (6, .pointer (some ⟨0,0,none⟩)), (11, .bool ok), (12, .int .i64 m), (13, .int .i64 i)]
noncomputable def T503c (n : Int) (ok : Bool) (m i : Int) : List Value := tmps 110 [(5, .int .i64 n), (6, .pointer (some ⟨0,0,none⟩)), (11, .bool ok), (12, .int .i64 m), (14, .int .i64 i)]

theorem r503a (hm : Try.prog.follows .mixedOrders = true) (back n mo la i : Int) (m k : Nat) (cz : List Value) (K : Post) :
  roundX Try.prog (S502 hm) noLoop F503 body503 0 [0] [.cell 6 2 1] [0] [] [1,5,6,7] [0,0,1,0,1,1,1,1] (T503a back n i) (H503 mo la m k cz) K = (
Alt (leI i n)
  (Alt (leI (intV (Value.int IntKind.i64 mo)) (↑m : Int)) (K AE.ret (tmps 110 [(4, Value.bool false)]) (hp []))
    (Alt (eqI (intV (Value.int IntKind.i64 la)) 2147483647) (K AE.ret (tmps 110 [(4, Value.bool false)]) (hp []))
      (Need (leN (0 + m * 1) cz.length)
        (Need (leN ((m + 1) * 8) 1099511627776)
          (Need (leN (m + 1) 1099511627776)
            (Need
              (beqV 64 (Value.slice (some { block := 1, off := 0, spot := some 1 : Addr }) m k)
                (Value.slice (some { block := 1, off := 0, spot := some 1 : Addr }) m k))
              (Alt (!eqI (intV (Value.int IntKind.i64 (wr IntKind.i64 (intV (Value.int IntKind.i64 la) + 1)))) i)
                (K AE.ret (tmps 110 [(4, Value.bool false)]) (hp []))
                (K AE.normal
                  (tmps 110
                    [(1, Value.int IntKind.u8 back), (5, Value.int IntKind.i64 n),
                      (6, Value.pointer (some { block := 0, off := 0 : Addr })),
                      (7, Value.int IntKind.i64 (wr IntKind.i64 (i + 1)))])
                  (hp
                    [Blk.cells
                        [Value.int IntKind.i64 mo,
                          Value.int IntKind.i64 (wr IntKind.i64 (intV (Value.int IntKind.i64 la) + 1)),
                          Value.slice (some { block := 1, off := 0, spot := some 1 : Addr }) (m + 1) (m + 1)]
                        3 true,
                      Blk.cells
                        (List.take (m * 1) (List.drop 0 cz) ++
                          [Value.int IntKind.i64
                              (intV (Value.int IntKind.i64 (wr IntKind.i64 (intV (Value.int IntKind.i64 la) + 1))))])
                        1 true])))))))))
  (K (AE.exit 0)
    (tmps 110
      [(1, Value.int IntKind.u8 back), (5, Value.int IntKind.i64 n),
        (6, Value.pointer (some { block := 0, off := 0 : Addr }))])
    (hp
      [Blk.cells
          [Value.int IntKind.i64 mo, Value.int IntKind.i64 la,
            Value.slice (some { block := 1, off := 0, spot := some 1 : Addr }) m k]
          3 true,
        Blk.cells cz 1 true]))) := by kernel_rfl

theorem r503b (hm : Try.prog.follows .mixedOrders = true) (back n mo la i : Int) (b : Int) (m k : Nat) (cz : List Value) (K : Post) :
  roundX Try.prog (S502 hm) noLoop F503 body503 0 [0] [.cell 6 2 1] [0] [] [1,5,6,11,12,13] [0,0,1,0,1,1,1,1,1,1,1] (T503b back n false b i) (H503 mo la m k cz) K = (
Alt (leI i (wr IntKind.i64 back))
  (Alt (leI i n)
    ((FlatL cz ∧ True) ∧
      (IsE (iE IntKind.i64) (ZP IntKind.i64) cz 0 m k ∧ IsUp (intsAt cz 0 m)) ∧
        ∀ (x : Nat × Bool),
          FindR (intsAt cz 0 m) i x →
            Alt (!x.snd) (K AE.ret (tmps 110 [(4, Value.bool false)]) (hp []))
              ((FlatL cz ∧ True) ∧
                (IsE (iE IntKind.i64) (ZP IntKind.i64) cz 0 m k ∧
                    IsN [Value.int IntKind.i64 i] ∧ Need (leN m 1000) True) ∧
                  ∀ (x : Rw),
                    RowR (cutF (intsAt cz 0 m) i) x →
                      (FlatL x.snd.fst ∧ True) ∧
                        (IsE (iE IntKind.i64) (ZP IntKind.i64) x.snd.fst 0 x.fst.length x.snd.snd ∧
                            IsUp (intsAt x.snd.fst 0 x.fst.length)) ∧
                          ∀ (x_1 : Nat × Bool),
                            FindR (intsAt x.snd.fst 0 x.fst.length) i x_1 →
                              Alt (!x_1.snd)
                                (K AE.normal
                                  (tmps 110
                                    [(1, Value.int IntKind.u8 back), (5, Value.int IntKind.i64 n),
                                      (6, Value.pointer (some { block := 0, off := 0 : Addr })), (11, Value.bool false),
                                      (12, Value.int IntKind.i64 (wr IntKind.i64 (b + 1))),
                                      (13, Value.int IntKind.i64 (wr IntKind.i64 (i + 1)))])
                                  (hp
                                    [Blk.cells
                                        [Value.int IntKind.i64 mo, Value.int IntKind.i64 la,
                                          Value.slice (some { block := 1, off := 0, spot := some 1 : Addr })
                                            x.fst.length x.snd.snd]
                                        3 true,
                                      Blk.cells x.snd.fst 1 true]))
                                ((FlatL x.snd.fst ∧ True) ∧
                                  (IsE (iE IntKind.i64) (ZP IntKind.i64) x.snd.fst 0 x.fst.length x.snd.snd ∧
                                      IsN [Value.int IntKind.i64 i] ∧ Need (leN x.fst.length 1000) True) ∧
                                    ∀ (x_2 : Rw),
                                      RowR (cutF (intsAt x.snd.fst 0 x.fst.length) i) x_2 →
                                        K AE.ret (tmps 110 [(4, Value.bool false)]) (hp []))))
    (K (AE.exit 2)
      (tmps 110
        [(5, Value.int IntKind.i64 n), (6, Value.pointer (some { block := 0, off := 0 : Addr })),
          (11, Value.bool false), (12, Value.int IntKind.i64 b)])
      (hp
        [Blk.cells
            [Value.int IntKind.i64 mo, Value.int IntKind.i64 la,
              Value.slice (some { block := 1, off := 0, spot := some 1 : Addr }) m k]
            3 true,
          Blk.cells cz 1 true])))
  (K (AE.exit 2)
    (tmps 110
      [(5, Value.int IntKind.i64 n), (6, Value.pointer (some { block := 0, off := 0 : Addr })), (11, Value.bool false),
        (12, Value.int IntKind.i64 b)])
    (hp
      [Blk.cells
          [Value.int IntKind.i64 mo, Value.int IntKind.i64 la,
            Value.slice (some { block := 1, off := 0, spot := some 1 : Addr }) m k]
          3 true,
        Blk.cells cz 1 true]))) := by kernel_rfl

theorem r503c (hm : Try.prog.follows .mixedOrders = true) (n mo la i : Int) (b : Int) (m k : Nat) (cz : List Value) (K : Post) :
  roundX Try.prog (S502 hm) noLoop F503 body503 0 [0] [.cell 6 2 1] [0] [] [5,6,11,12,14] [0,0,1,0,1,1,1,1,1,1,1,1] (T503c n false b i) (H503 mo la m k cz) K = (
Alt (leI i b)
  (Alt (leI (intV (Value.int IntKind.i64 mo)) (↑m : Int)) (K AE.ret (tmps 110 [(4, Value.bool false)]) (hp []))
    (Alt (eqI (intV (Value.int IntKind.i64 la)) 2147483647) (K AE.ret (tmps 110 [(4, Value.bool false)]) (hp []))
      (Need (leN (0 + m * 1) cz.length)
        (Need (leN ((m + 1) * 8) 1099511627776)
          (Need (leN (m + 1) 1099511627776)
            (Need
              (beqV 64 (Value.slice (some { block := 1, off := 0, spot := some 1 : Addr }) m k)
                (Value.slice (some { block := 1, off := 0, spot := some 1 : Addr }) m k))
              (Alt
                (!eqI (intV (Value.int IntKind.i64 (wr IntKind.i64 (intV (Value.int IntKind.i64 la) + 1))))
                    (wr IntKind.i64 (n + i)))
                (K AE.ret (tmps 110 [(4, Value.bool false)]) (hp []))
                (K AE.normal
                  (tmps 110
                    [(5, Value.int IntKind.i64 n), (6, Value.pointer (some { block := 0, off := 0 : Addr })),
                      (11, Value.bool false), (12, Value.int IntKind.i64 b),
                      (14, Value.int IntKind.i64 (wr IntKind.i64 (i + 1)))])
                  (hp
                    [Blk.cells
                        [Value.int IntKind.i64 mo,
                          Value.int IntKind.i64 (wr IntKind.i64 (intV (Value.int IntKind.i64 la) + 1)),
                          Value.slice (some { block := 1, off := 0, spot := some 1 : Addr }) (m + 1) (m + 1)]
                        3 true,
                      Blk.cells
                        (List.take (m * 1) (List.drop 0 cz) ++
                          [Value.int IntKind.i64
                              (intV (Value.int IntKind.i64 (wr IntKind.i64 (intV (Value.int IntKind.i64 la) + 1))))])
                        1 true])))))))))
  (K (AE.exit 4)
    (tmps 110
      [(5, Value.int IntKind.i64 n), (6, Value.pointer (some { block := 0, off := 0 : Addr })), (11, Value.bool false)])
    (hp
      [Blk.cells
          [Value.int IntKind.i64 mo, Value.int IntKind.i64 la,
            Value.slice (some { block := 1, off := 0, spot := some 1 : Addr }) m k]
          3 true,
        Blk.cells cz 1 true]))) := by kernel_rfl

/-- so many numbers from a on -/
def rg (a : Int) (q : Nat) : List Int := (List.range q).map fun j => a + (j : Nat)
structure Rg (a : Int) (q : Nat) (cz : List Value) (k : Nat) : Prop where
  row : ISl cz 0 (rg a q)
  hk : q ≤ k
structure In503 (N B j : Nat) : Prop where
  hn : N < 60
  hb : B < 256
  hj : j ≤ N
  hjb : j ≤ B
noncomputable def cut503a (N B : Nat) : CutE where
  β := Nat × List Value × Nat
  p := [0,1,0,1,1,1,1]
  t := fun x => T503a B N ((x.1 : Int) + 1)
  h := fun x => H503 N x.1 x.1 x.2.2 x.2.1
  Q := fun x K => (Rg 1 x.1 x.2.1 x.2.2 ∧ In503 N N x.1) ∧ ∀ y : List Value × Nat, Rg 1 N y.1 y.2 → K (.exit 0) (tmps 110 [(1, .int .u8 B), (5, .int .i64 N), (6, .pointer (some ⟨0,0,none⟩))]) (H503 N N N y.2 y.1)
noncomputable def cut503b (N B : Nat) : CutE where
  β := Nat × List Value × Nat
  p := [0,1,0,1,1,1,1,1,1,1]
  t := fun x => T503b B N false x.1 ((x.1 : Int) + 1)
  h := fun x => H503 N N (N - x.1) x.2.2 x.2.1
  Q := fun x K => (Rg ((x.1 : Int) + 1) (N - x.1) x.2.1 x.2.2 ∧ In503 N B x.1) ∧ ∀ y : List Value × Nat, Rg (((min B N : Nat) : Int) + 1) (N - min B N) y.1 y.2 → K (.exit 2) (tmps 110 [(5, .int .i64 N), (6, .pointer (some ⟨0,0,none⟩)), (11, .bool false), (12, .int .i64 (min B N : Nat))]) (H503 N N (N - min B N) y.2 y.1)
noncomputable def cut503c (N M : Nat) : CutE where
  β := Nat × List Value × Nat
  p := [0,1,0,1,1,1,1,1,1,1,1]
  t := fun x => T503c N false M ((x.1 : Int) + 1)
  h := fun x => H503 N ((N : Int) + (x.1 : Int)) (N - M + x.1) x.2.2 x.2.1
  Q := fun x K => (Rg ((M : Int) + 1) (N - M + x.1) x.2.1 x.2.2 ∧ In503 N M x.1 ∧ In503 N M M) ∧ ∀ y : List Value × Nat, Rg ((M : Int) + 1) N y.1 y.2 → K (.exit 4) (tmps 110 [(5, .int .i64 N), (6, .pointer (some ⟨0,0,none⟩)), (11, .bool false)]) (H503 N ((N : Int) + (M : Int)) N y.2 y.1)

theorem w503 (hm : Try.prog.follows .mixedOrders = true) (most : Int) (N B M : Nat) (K : Value → Heap → Prop) :
  funX Try.prog (S502 hm) (gcLKX (at0 [0]) (at0 [.cell 6 2 1]) 0 (cutE [cut503a N B, cut503b N B, cut503c N M])) F503 body503 Try.f5 [] [] [.int .u8 most, .int .u8 B] (hp []) K = (
FlatD [0]
    (hp
      [Blk.cells
          [Value.int IntKind.i64 (if 0 > wr IntKind.i64 (most.tmod 60) then 0 else wr IntKind.i64 (most.tmod 60)),
            Value.int IntKind.i64 0, Value.slice (some { block := 1, off := 0, spot := some 1 : Addr }) 0 0]
          3 true,
        Blk.cells [] 1 true]) ∧
  ∃ (b : Nat × List Value × Nat),
    tmps 110
          [(1, Value.int IntKind.u8 (↑B : Int)), (5, Value.int IntKind.i64 (wr IntKind.i64 (most.tmod 60))),
            (6, Value.pointer (some { block := 0, off := 0 : Addr })), (7, Value.int IntKind.i64 1)] =
        tmps 110
          [(1, Value.int IntKind.u8 (↑B : Int)), (5, Value.int IntKind.i64 (↑N : Int)),
            (6, Value.pointer (some { block := 0, off := 0 : Addr })),
            (7, Value.int IntKind.i64 ((↑b.fst : Int) + 1))] ∧
      hp
            [Blk.cells
                [Value.int IntKind.i64 (if 0 > wr IntKind.i64 (most.tmod 60) then 0 else wr IntKind.i64 (most.tmod 60)),
                  Value.int IntKind.i64 0, Value.slice (some { block := 1, off := 0, spot := some 1 : Addr }) 0 0]
                3 true,
              Blk.cells [] 1 true] =
          hp
            [Blk.cells
                [Value.int IntKind.i64 (↑N : Int), Value.int IntKind.i64 (↑b.fst : Int),
                  Value.slice (some { block := 1, off := 0, spot := some 1 : Addr }) b.fst b.snd.snd]
                3 true,
              Blk.cells b.snd.fst 1 true] ∧
        (Rg 1 b.fst b.snd.fst b.snd.snd ∧ In503 N N b.fst) ∧
          ∀ (y : List Value × Nat),
            Rg 1 N y.fst y.snd →
              Alt (leI (intV (Value.int IntKind.i64 (↑N : Int))) (↑N : Int))
                (FlatD [0]
                    (hp
                      [Blk.cells
                          [Value.int IntKind.i64 (↑N : Int), Value.int IntKind.i64 (↑N : Int),
                            Value.slice (some { block := 1, off := 0, spot := some 1 : Addr }) N y.snd]
                          3 true,
                        Blk.cells y.fst 1 true]) ∧
                  ∃ (b : Nat × List Value × Nat),
                    tmps 110
                          [(1, Value.int IntKind.u8 (↑B : Int)), (5, Value.int IntKind.i64 (↑N : Int)),
                            (6, Value.pointer (some { block := 0, off := 0 : Addr })), (11, Value.bool false),
                            (12, Value.int IntKind.i64 0), (13, Value.int IntKind.i64 1)] =
                        tmps 110
                          [(1, Value.int IntKind.u8 (↑B : Int)), (5, Value.int IntKind.i64 (↑N : Int)),
                            (6, Value.pointer (some { block := 0, off := 0 : Addr })), (11, Value.bool false),
                            (12, Value.int IntKind.i64 (↑b.fst : Int)),
                            (13, Value.int IntKind.i64 ((↑b.fst : Int) + 1))] ∧
                      hp
                            [Blk.cells
                                [Value.int IntKind.i64 (↑N : Int), Value.int IntKind.i64 (↑N : Int),
                                  Value.slice (some { block := 1, off := 0, spot := some 1 : Addr }) N y.snd]
                                3 true,
                              Blk.cells y.fst 1 true] =
                          hp
                            [Blk.cells
                                [Value.int IntKind.i64 (↑N : Int), Value.int IntKind.i64 (↑N : Int),
                                  Value.slice (some { block := 1, off := 0, spot := some 1 : Addr }) (N - b.fst)
                                    b.snd.snd]
                                3 true,
                              Blk.cells b.snd.fst 1 true] ∧
                        (Rg ((↑b.fst : Int) + 1) (N - b.fst) b.snd.fst b.snd.snd ∧ In503 N B b.fst) ∧
                          ∀ (y : List Value × Nat),
                            Rg ((↑(min B N) : Int) + 1) (N - min B N) y.fst y.snd →
                              FlatD [0]
                                  (hp
                                    [Blk.cells
                                        [Value.int IntKind.i64 (↑N : Int), Value.int IntKind.i64 (↑N : Int),
                                          Value.slice (some { block := 1, off := 0, spot := some 1 : Addr })
                                            (N - min B N) y.snd]
                                        3 true,
                                      Blk.cells y.fst 1 true]) ∧
                                ∃ (b : Nat × List Value × Nat),
                                  tmps 110
                                        [(5, Value.int IntKind.i64 (↑N : Int)),
                                          (6, Value.pointer (some { block := 0, off := 0 : Addr })),
                                          (11, Value.bool false), (12, Value.int IntKind.i64 (↑(min B N) : Int)),
                                          (14, Value.int IntKind.i64 1)] =
                                      tmps 110
                                        [(5, Value.int IntKind.i64 (↑N : Int)),
                                          (6, Value.pointer (some { block := 0, off := 0 : Addr })),
                                          (11, Value.bool false), (12, Value.int IntKind.i64 (↑M : Int)),
                                          (14, Value.int IntKind.i64 ((↑b.fst : Int) + 1))] ∧
                                    hp
                                          [Blk.cells
                                              [Value.int IntKind.i64 (↑N : Int), Value.int IntKind.i64 (↑N : Int),
                                                Value.slice (some { block := 1, off := 0, spot := some 1 : Addr })
                                                  (N - min B N) y.snd]
                                              3 true,
                                            Blk.cells y.fst 1 true] =
                                        hp
                                          [Blk.cells
                                              [Value.int IntKind.i64 (↑N : Int),
                                                Value.int IntKind.i64 ((↑N : Int) + (↑b.fst : Int)),
                                                Value.slice (some { block := 1, off := 0, spot := some 1 : Addr })
                                                  (N - M + b.fst) b.snd.snd]
                                              3 true,
                                            Blk.cells b.snd.fst 1 true] ∧
                                      (Rg ((↑M : Int) + 1) (N - M + b.fst) b.snd.fst b.snd.snd ∧
                                          In503 N M b.fst ∧ In503 N M M) ∧
                                        ∀ (y : List Value × Nat),
                                          Rg ((↑M : Int) + 1) N y.fst y.snd →
                                            Alt (leI (intV (Value.int IntKind.i64 (↑N : Int))) (↑N : Int))
                                              ((FlatL y.fst ∧ True) ∧
                                                (IsE (iE IntKind.i64) (ZP IntKind.i64) y.fst 0 N y.snd ∧
                                                    Need (leN N 1000000000) True) ∧
                                                  Alt (eqI (↑N : Int) (↑N : Int))
                                                    (True ∧ True ∧ K (Value.bool true) (hp []))
                                                    (K (Value.bool false) (hp [])))
                                              (Alt
                                                (eqI (intV (Value.int IntKind.i64 ((↑N : Int) + (↑M : Int))))
                                                  2147483647)
                                                ((FlatL y.fst ∧ True) ∧
                                                  (IsE (iE IntKind.i64) (ZP IntKind.i64) y.fst 0 N y.snd ∧
                                                      Need (leN N 1000000000) True) ∧
                                                    Alt (eqI (↑N : Int) (↑N : Int))
                                                      (True ∧ True ∧ K (Value.bool true) (hp []))
                                                      (K (Value.bool false) (hp [])))
                                                (Need (leN (0 + N * 1) y.fst.length)
                                                  (Need (leN ((N + 1) * 8) 1099511627776)
                                                    (Need (leN (N + 1) 1099511627776)
                                                      (Need
                                                        (beqV 64
                                                          (Value.slice
                                                            (some { block := 1, off := 0, spot := some 1 : Addr }) N
                                                            y.snd)
                                                          (Value.slice
                                                            (some { block := 1, off := 0, spot := some 1 : Addr }) N
                                                            y.snd))
                                                        (K (Value.bool false) (hp []))))))))
                (Alt (eqI (intV (Value.int IntKind.i64 (↑N : Int))) 2147483647)
                  (FlatD [0]
                      (hp
                        [Blk.cells
                            [Value.int IntKind.i64 (↑N : Int), Value.int IntKind.i64 (↑N : Int),
                              Value.slice (some { block := 1, off := 0, spot := some 1 : Addr }) N y.snd]
                            3 true,
                          Blk.cells y.fst 1 true]) ∧
                    ∃ (b : Nat × List Value × Nat),
                      tmps 110
                            [(1, Value.int IntKind.u8 (↑B : Int)), (5, Value.int IntKind.i64 (↑N : Int)),
                              (6, Value.pointer (some { block := 0, off := 0 : Addr })), (11, Value.bool false),
                              (12, Value.int IntKind.i64 0), (13, Value.int IntKind.i64 1)] =
                          tmps 110
                            [(1, Value.int IntKind.u8 (↑B : Int)), (5, Value.int IntKind.i64 (↑N : Int)),
                              (6, Value.pointer (some { block := 0, off := 0 : Addr })), (11, Value.bool false),
                              (12, Value.int IntKind.i64 (↑b.fst : Int)),
                              (13, Value.int IntKind.i64 ((↑b.fst : Int) + 1))] ∧
                        hp
                              [Blk.cells
                                  [Value.int IntKind.i64 (↑N : Int), Value.int IntKind.i64 (↑N : Int),
                                    Value.slice (some { block := 1, off := 0, spot := some 1 : Addr }) N y.snd]
                                  3 true,
                                Blk.cells y.fst 1 true] =
                            hp
                              [Blk.cells
                                  [Value.int IntKind.i64 (↑N : Int), Value.int IntKind.i64 (↑N : Int),
                                    Value.slice (some { block := 1, off := 0, spot := some 1 : Addr }) (N - b.fst)
                                      b.snd.snd]
                                  3 true,
                                Blk.cells b.snd.fst 1 true] ∧
                          (Rg ((↑b.fst : Int) + 1) (N - b.fst) b.snd.fst b.snd.snd ∧ In503 N B b.fst) ∧
                            ∀ (y : List Value × Nat),
                              Rg ((↑(min B N) : Int) + 1) (N - min B N) y.fst y.snd →
                                FlatD [0]
                                    (hp
                                      [Blk.cells
                                          [Value.int IntKind.i64 (↑N : Int), Value.int IntKind.i64 (↑N : Int),
                                            Value.slice (some { block := 1, off := 0, spot := some 1 : Addr })
                                              (N - min B N) y.snd]
                                          3 true,
                                        Blk.cells y.fst 1 true]) ∧
                                  ∃ (b : Nat × List Value × Nat),
                                    tmps 110
                                          [(5, Value.int IntKind.i64 (↑N : Int)),
                                            (6, Value.pointer (some { block := 0, off := 0 : Addr })),
                                            (11, Value.bool false), (12, Value.int IntKind.i64 (↑(min B N) : Int)),
                                            (14, Value.int IntKind.i64 1)] =
                                        tmps 110
                                          [(5, Value.int IntKind.i64 (↑N : Int)),
                                            (6, Value.pointer (some { block := 0, off := 0 : Addr })),
                                            (11, Value.bool false), (12, Value.int IntKind.i64 (↑M : Int)),
                                            (14, Value.int IntKind.i64 ((↑b.fst : Int) + 1))] ∧
                                      hp
                                            [Blk.cells
                                                [Value.int IntKind.i64 (↑N : Int), Value.int IntKind.i64 (↑N : Int),
                                                  Value.slice (some { block := 1, off := 0, spot := some 1 : Addr })
                                                    (N - min B N) y.snd]
                                                3 true,
                                              Blk.cells y.fst 1 true] =
                                          hp
                                            [Blk.cells
                                                [Value.int IntKind.i64 (↑N : Int),
                                                  Value.int IntKind.i64 ((↑N : Int) + (↑b.fst : Int)),
                                                  Value.slice (some { block := 1, off := 0, spot := some 1 : Addr })
                                                    (N - M + b.fst) b.snd.snd]
                                                3 true,
                                              Blk.cells b.snd.fst 1 true] ∧
                                        (Rg ((↑M : Int) + 1) (N - M + b.fst) b.snd.fst b.snd.snd ∧
                                            In503 N M b.fst ∧ In503 N M M) ∧
                                          ∀ (y : List Value × Nat),
                                            Rg ((↑M : Int) + 1) N y.fst y.snd →
                                              Alt (leI (intV (Value.int IntKind.i64 (↑N : Int))) (↑N : Int))
                                                ((FlatL y.fst ∧ True) ∧
                                                  (IsE (iE IntKind.i64) (ZP IntKind.i64) y.fst 0 N y.snd ∧
                                                      Need (leN N 1000000000) True) ∧
                                                    Alt (eqI (↑N : Int) (↑N : Int))
                                                      (True ∧ True ∧ K (Value.bool true) (hp []))
                                                      (K (Value.bool false) (hp [])))
                                                (Alt
                                                  (eqI (intV (Value.int IntKind.i64 ((↑N : Int) + (↑M : Int))))
                                                    2147483647)
                                                  ((FlatL y.fst ∧ True) ∧
                                                    (IsE (iE IntKind.i64) (ZP IntKind.i64) y.fst 0 N y.snd ∧
                                                        Need (leN N 1000000000) True) ∧
                                                      Alt (eqI (↑N : Int) (↑N : Int))
                                                        (True ∧ True ∧ K (Value.bool true) (hp []))
                                                        (K (Value.bool false) (hp [])))
                                                  (Need (leN (0 + N * 1) y.fst.length)
                                                    (Need (leN ((N + 1) * 8) 1099511627776)
                                                      (Need (leN (N + 1) 1099511627776)
                                                        (Need
                                                          (beqV 64
                                                            (Value.slice
                                                              (some { block := 1, off := 0, spot := some 1 : Addr }) N
                                                              y.snd)
                                                            (Value.slice
                                                              (some { block := 1, off := 0, spot := some 1 : Addr }) N
                                                              y.snd))
                                                          (K (Value.bool false) (hp []))))))))
                  (Need (leN (0 + N * 1) y.fst.length)
                    (Need (leN ((N + 1) * 8) 1099511627776)
                      (Need (leN (N + 1) 1099511627776)
                        (Need
                          (beqV 64 (Value.slice (some { block := 1, off := 0, spot := some 1 : Addr }) N y.snd)
                            (Value.slice (some { block := 1, off := 0, spot := some 1 : Addr }) N y.snd))
                          (FlatD [0]
                              (hp
                                [Blk.cells
                                    [Value.int IntKind.i64 (↑N : Int),
                                      Value.int IntKind.i64
                                        (wr IntKind.i64 (intV (Value.int IntKind.i64 (↑N : Int)) + 1)),
                                      Value.slice (some { block := 1, off := 0, spot := some 1 : Addr }) (N + 1)
                                        (N + 1)]
                                    3 true,
                                  Blk.cells
                                    (List.take (N * 1) (List.drop 0 y.fst) ++
                                      [Value.int IntKind.i64
                                          (intV
                                            (Value.int IntKind.i64
                                              (wr IntKind.i64 (intV (Value.int IntKind.i64 (↑N : Int)) + 1))))])
                                    1 true]) ∧
                            ∃ (b : Nat × List Value × Nat),
                              tmps 110
                                    [(1, Value.int IntKind.u8 (↑B : Int)), (5, Value.int IntKind.i64 (↑N : Int)),
                                      (6, Value.pointer (some { block := 0, off := 0 : Addr })), (11, Value.bool true),
                                      (12, Value.int IntKind.i64 0), (13, Value.int IntKind.i64 1)] =
                                  tmps 110
                                    [(1, Value.int IntKind.u8 (↑B : Int)), (5, Value.int IntKind.i64 (↑N : Int)),
                                      (6, Value.pointer (some { block := 0, off := 0 : Addr })), (11, Value.bool false),
                                      (12, Value.int IntKind.i64 (↑b.fst : Int)),
                                      (13, Value.int IntKind.i64 ((↑b.fst : Int) + 1))] ∧
                                hp
                                      [Blk.cells
                                          [Value.int IntKind.i64 (↑N : Int),
                                            Value.int IntKind.i64
                                              (wr IntKind.i64 (intV (Value.int IntKind.i64 (↑N : Int)) + 1)),
                                            Value.slice (some { block := 1, off := 0, spot := some 1 : Addr }) (N + 1)
                                              (N + 1)]
                                          3 true,
                                        Blk.cells
                                          (List.take (N * 1) (List.drop 0 y.fst) ++
                                            [Value.int IntKind.i64
                                                (intV
                                                  (Value.int IntKind.i64
                                                    (wr IntKind.i64 (intV (Value.int IntKind.i64 (↑N : Int)) + 1))))])
                                          1 true] =
                                    hp
                                      [Blk.cells
                                          [Value.int IntKind.i64 (↑N : Int), Value.int IntKind.i64 (↑N : Int),
                                            Value.slice (some { block := 1, off := 0, spot := some 1 : Addr })
                                              (N - b.fst) b.snd.snd]
                                          3 true,
                                        Blk.cells b.snd.fst 1 true] ∧
                                  (Rg ((↑b.fst : Int) + 1) (N - b.fst) b.snd.fst b.snd.snd ∧ In503 N B b.fst) ∧
                                    ∀ (y : List Value × Nat),
                                      Rg ((↑(min B N) : Int) + 1) (N - min B N) y.fst y.snd →
                                        FlatD [0]
                                            (hp
                                              [Blk.cells
                                                  [Value.int IntKind.i64 (↑N : Int), Value.int IntKind.i64 (↑N : Int),
                                                    Value.slice (some { block := 1, off := 0, spot := some 1 : Addr })
                                                      (N - min B N) y.snd]
                                                  3 true,
                                                Blk.cells y.fst 1 true]) ∧
                                          ∃ (b : Nat × List Value × Nat),
                                            tmps 110
                                                  [(5, Value.int IntKind.i64 (↑N : Int)),
                                                    (6, Value.pointer (some { block := 0, off := 0 : Addr })),
                                                    (11, Value.bool false),
                                                    (12, Value.int IntKind.i64 (↑(min B N) : Int)),
                                                    (14, Value.int IntKind.i64 1)] =
                                                tmps 110
                                                  [(5, Value.int IntKind.i64 (↑N : Int)),
                                                    (6, Value.pointer (some { block := 0, off := 0 : Addr })),
                                                    (11, Value.bool false), (12, Value.int IntKind.i64 (↑M : Int)),
                                                    (14, Value.int IntKind.i64 ((↑b.fst : Int) + 1))] ∧
                                              hp
                                                    [Blk.cells
                                                        [Value.int IntKind.i64 (↑N : Int),
                                                          Value.int IntKind.i64 (↑N : Int),
                                                          Value.slice
                                                            (some { block := 1, off := 0, spot := some 1 : Addr })
                                                            (N - min B N) y.snd]
                                                        3 true,
                                                      Blk.cells y.fst 1 true] =
                                                  hp
                                                    [Blk.cells
                                                        [Value.int IntKind.i64 (↑N : Int),
                                                          Value.int IntKind.i64 ((↑N : Int) + (↑b.fst : Int)),
                                                          Value.slice
                                                            (some { block := 1, off := 0, spot := some 1 : Addr })
                                                            (N - M + b.fst) b.snd.snd]
                                                        3 true,
                                                      Blk.cells b.snd.fst 1 true] ∧
                                                (Rg ((↑M : Int) + 1) (N - M + b.fst) b.snd.fst b.snd.snd ∧
                                                    In503 N M b.fst ∧ In503 N M M) ∧
                                                  ∀ (y : List Value × Nat),
                                                    Rg ((↑M : Int) + 1) N y.fst y.snd →
                                                      Alt (leI (intV (Value.int IntKind.i64 (↑N : Int))) (↑N : Int))
                                                        ((FlatL y.fst ∧ True) ∧
                                                          (IsE (iE IntKind.i64) (ZP IntKind.i64) y.fst 0 N y.snd ∧
                                                              Need (leN N 1000000000) True) ∧
                                                            Alt (eqI (↑N : Int) (↑N : Int))
                                                              (True ∧ True ∧ K (Value.bool true) (hp []))
                                                              (K (Value.bool false) (hp [])))
                                                        (Alt
                                                          (eqI (intV (Value.int IntKind.i64 ((↑N : Int) + (↑M : Int))))
                                                            2147483647)
                                                          ((FlatL y.fst ∧ True) ∧
                                                            (IsE (iE IntKind.i64) (ZP IntKind.i64) y.fst 0 N y.snd ∧
                                                                Need (leN N 1000000000) True) ∧
                                                              Alt (eqI (↑N : Int) (↑N : Int))
                                                                (True ∧ True ∧ K (Value.bool true) (hp []))
                                                                (K (Value.bool false) (hp [])))
                                                          (Need (leN (0 + N * 1) y.fst.length)
                                                            (Need (leN ((N + 1) * 8) 1099511627776)
                                                              (Need (leN (N + 1) 1099511627776)
                                                                (Need
                                                                  (beqV 64
                                                                    (Value.slice
                                                                      (some
                                                                        { block := 1, off := 0, spot := some 1 : Addr })
                                                                      N y.snd)
                                                                    (Value.slice
                                                                      (some
                                                                        { block := 1, off := 0, spot := some 1 : Addr })
                                                                      N y.snd))
                                                                  (K (Value.bool false) (hp [])))))))))))))) := by kernel_rfl

end Go.Proofs.Ytocndbldmkjcnaa

namespace Go.Proofs.Ytocndbldmkjcnaa
open Go.RowKit Go.Proofs.Ytocndbldmkjcnaa.AM
set_option maxRecDepth 100000
set_option maxHeartbeats 4000000
theorem rg_len (a : Int) (q : Nat) : (rg a q).length = q := by unfold rg; simp
theorem rg_mem {a : Int} {q : Nat} {x : Int} : x ∈ rg a q ↔ a ≤ x ∧ x < a + q := by
  unfold rg
  rw [List.mem_map]
  constructor
  · rintro ⟨j, hj, rfl⟩; have := List.mem_range.1 hj; omega
  · rintro ⟨h1, h2⟩; exact ⟨(x - a).toNat, List.mem_range.2 (by omega), by omega⟩
theorem rg_up (a : Int) (q : Nat) : Up (rg a q) := by
  unfold rg
  rw [Up, List.pairwise_map]
  exact List.Pairwise.imp (fun {x y} h => by omega) List.pairwise_lt_range
theorem rg_more (a : Int) (q : Nat) : rg a q ++ [a + (q : Nat)] = rg a (q + 1) := by unfold rg; rw [List.range_succ, List.map_append]; rfl
theorem rg_cut (a : Int) (q : Nat) : cutF (rg a (q + 1)) a = rg (a + 1) q := up_ext (up_notF _ _) (rg_up _ _) fun y => by rw [mem_cutF, rg_mem, rg_mem]; constructor <;> (intro h; refine ⟨?_, ?_⟩ <;> omega)
theorem hF503 {cz : List Value} {mo la : Int} {m k : Nat} (h3 : FlatL cz) : FlatD [0] (hp [.cells [.int .i64 mo, .int .i64 la, .slice (some ⟨1,0,some 1⟩) m k] 3 true, .cells cz 1 true]) := FlatD.hp ⟨rfl, h3, trivial⟩
theorem fullA (hmix : Try.prog.follows .mixedOrders = true) (N B : Nat) (hN : N < 60) (K : Post)
    (hK : ∀ y : List Value × Nat, Rg 1 N y.1 y.2 → K (.exit 0) (tmps 110 [(1, .int .u8 B), (5, .int .i64 N), (6, .pointer (some ⟨0,0,none⟩))]) (H503 N N N y.2 y.1)) : ∀ (t j : Nat) (cz : List Value) (k : Nat), j + t = N → Rg 1 j cz k →
    LSays Try.prog 0 (sub body503 [0,0,1,0,1,1,1,1]) (T503a B N ((j : Int) + 1)) (H503 N j j k cz) K := by
  intro t
  induction t with
  | zero =>
    intro j cz k hj P
    obtain rfl : j = N := by omega
    have hF := hF503 (mo := j) (la := j) (m := j) (k := k) P.row.flat
    refine (sure502 hmix).roundX F503 noLoops [0] [.cell 6 2 1] [0] [] [1,5,6,7] ?_
    rw [r503a]
    simp only [show ¬ ((j : Int) + 1 ≤ (j : Int)) by omega, hF, Alt_iff, Need_iff, ltI_eq, leI_eq, eqI_eq, leN_eq, eqN_eq, decide_eq_true_eq, decide_eq_false_iff_not, decide_true, decide_false, true_and, and_true, Bool.true_eq_false, Bool.false_eq_true, false_implies, true_implies, implies_true, not_true_eq_false, not_false_eq_true, Bool.not_eq_true', Bool.not_eq_false', Nat.zero_add, Nat.add_zero, Nat.sub_zero, Nat.zero_mul, Nat.mul_one, Int.toNat_natCast, List.drop_zero, beqV_int, beqV_sl, beqV_str, beqV_bool, beqV_ptr, beqV_flt, beqV_agg, beqV_tuple, List.all_cons, List.all_nil, Bool.and_self, Bool.and_true, Bool.true_and, Nat.le_refl, Int.le_refl, Nat.zero_le, Option.getD_some, isStr, strV, isInt, intV, isBool, boolV, kindEq, at0, isJunk, Option.isSome_some, Option.isSome_none, if_true, if_false, Nat.add_sub_cancel_left, Nat.add_sub_cancel]
    exact hK (cz, k) P
  | succ t ih =>
    intro j cz k hj P
    have hz1 : ZP .i64 ((j : Int) + 1) := ZP.i64.2 ⟨by omega, by omega⟩
    have hl := rg_len 1 j
    obtain ⟨q3, q4⟩ := row_more P.row hz1 (by omega)
    have s2 := row_size P.row
    rw [hl] at q3 s2
    have hr : rg 1 j ++ [(j : Int) + 1] = rg 1 (j + 1) := by rw [Int.add_comm]; exact rg_more 1 j
    rw [hr] at q3 q4
    have hF := hF503 (mo := N) (la := (j : Int) + 1) (m := j + 1) (k := j + 1) q4.flat
    refine (sure502 hmix).roundX F503 noLoops [0] [.cell 6 2 1] [0] [] [1,5,6,7] ?_
    rw [r503a, show intV (Value.int .i64 (j : Int)) = (j : Int) from rfl, show wr .i64 ((j : Int) + 1) = (j : Int) + 1 from wr_i64 _ (by omega) (by omega), show intV (Value.int .i64 ((j : Int) + 1)) = (j : Int) + 1 from rfl, q3, show wr .i64 ((j : Int) + 1 + 1) = ((j + 1 : Nat) : Int) + 1 by rw [wr_i64 _ (by omega) (by omega)]; omega]
    simp only [show ((j : Int) + 1 ≤ (N : Int)) by omega, show ¬ ((N : Int) ≤ (j : Int)) by omega, show ¬ (j : Int) = 2147483647 by omega, show j ≤ cz.length from s2, show (j + 1) * 8 ≤ 1099511627776 by omega, show j + 1 ≤ 1099511627776 by omega, hF, Bool.not_true, Alt_iff, Need_iff, ltI_eq, leI_eq, eqI_eq, leN_eq, eqN_eq, decide_eq_true_eq, decide_eq_false_iff_not, decide_true, decide_false, true_and, and_true, Bool.true_eq_false, Bool.false_eq_true, false_implies, true_implies, implies_true, not_true_eq_false, not_false_eq_true, Bool.not_eq_true', Bool.not_eq_false', Nat.zero_add, Nat.add_zero, Nat.sub_zero, Nat.zero_mul, Nat.mul_one, Int.toNat_natCast, List.drop_zero, beqV_int, beqV_sl, beqV_str, beqV_bool, beqV_ptr, beqV_flt, beqV_agg, beqV_tuple, List.all_cons, List.all_nil, Bool.and_self, Bool.and_true, Bool.true_and, Nat.le_refl, Int.le_refl, Nat.zero_le, Option.getD_some, isStr, strV, isInt, intV, isBool, boolV, kindEq, at0, isJunk, Option.isSome_some, Option.isSome_none, if_true, if_false, Nat.add_sub_cancel_left, Nat.add_sub_cancel]
    exact ih (j + 1) _ (j + 1) (by omega) ⟨q4, Nat.le_refl _⟩
theorem fullB (hmix : Try.prog.follows .mixedOrders = true) (N B : Nat) (hN : N < 60) (hB : B < 256) (K : Post)
    (hK : ∀ y : List Value × Nat, Rg (((min B N : Nat) : Int) + 1) (N - min B N) y.1 y.2 → K (.exit 2) (tmps 110 [(5, .int .i64 N), (6, .pointer (some ⟨0,0,none⟩)), (11, .bool false), (12, .int .i64 (min B N : Nat))]) (H503 N N (N - min B N) y.2 y.1)) : ∀ (t j : Nat) (cz : List Value) (k : Nat), j + t = min B N → Rg ((j : Int) + 1) (N - j) cz k →
    LSays Try.prog 0 (sub body503 [0,0,1,0,1,1,1,1,1,1,1]) (T503b B N false j ((j : Int) + 1)) (H503 N N (N - j) k cz) K := by
  intro t
  induction t with
  | zero =>
    intro j cz k hj P
    have hjm : j = min B N := by omega
    have hF := hF503 (mo := N) (la := N) (m := N - j) (k := k) P.row.flat
    refine (sure502 hmix).roundX F503 noLoops [0] [.cell 6 2 1] [0] [] [1,5,6,11,12,13] ?_
    rw [r503b, show wr .i64 (B : Int) = (B : Int) from wr_i64 _ (by omega) (by omega)]
    have hd : K (.exit 2) (tmps 110 [(5, .int .i64 N), (6, .pointer (some ⟨0,0,none⟩)), (11, .bool false), (12, .int .i64 j)]) (H503 N N (N - j) k cz) := by
      rw [hjm]; exact hK (cz, k) (by rw [← hjm]; exact P)
    by_cases h1 : (j : Int) + 1 ≤ (B : Int)
    · simp only [h1, show ¬ ((j : Int) + 1 ≤ (N : Int)) by omega, hF, Alt_iff, Need_iff, ltI_eq, leI_eq, eqI_eq, leN_eq, eqN_eq, decide_eq_true_eq, decide_eq_false_iff_not, decide_true, decide_false, true_and, and_true, Bool.true_eq_false, Bool.false_eq_true, false_implies, true_implies, implies_true, not_true_eq_false, not_false_eq_true, Bool.not_eq_true', Bool.not_eq_false', Nat.zero_add, Nat.add_zero, Nat.sub_zero, Nat.zero_mul, Nat.mul_one, Int.toNat_natCast, List.drop_zero, beqV_int, beqV_sl, beqV_str, beqV_bool, beqV_ptr, beqV_flt, beqV_agg, beqV_tuple, List.all_cons, List.all_nil, Bool.and_self, Bool.and_true, Bool.true_and, Nat.le_refl, Int.le_refl, Nat.zero_le, Option.getD_some, isStr, strV, isInt, intV, isBool, boolV, kindEq, at0, isJunk, Option.isSome_some, Option.isSome_none, if_true, if_false, Nat.add_sub_cancel_left, Nat.add_sub_cancel]
      exact hd
    · simp only [h1, hF, Alt_iff, Need_iff, ltI_eq, leI_eq, eqI_eq, leN_eq, eqN_eq, decide_eq_true_eq, decide_eq_false_iff_not, decide_true, decide_false, true_and, and_true, Bool.true_eq_false, Bool.false_eq_true, false_implies, true_implies, implies_true, not_true_eq_false, not_false_eq_true, Bool.not_eq_true', Bool.not_eq_false', Nat.zero_add, Nat.add_zero, Nat.sub_zero, Nat.zero_mul, Nat.mul_one, Int.toNat_natCast, List.drop_zero, beqV_int, beqV_sl, beqV_str, beqV_bool, beqV_ptr, beqV_flt, beqV_agg, beqV_tuple, List.all_cons, List.all_nil, Bool.and_self, Bool.and_true, Bool.true_and, Nat.le_refl, Int.le_refl, Nat.zero_le, Option.getD_some, isStr, strV, isInt, intV, isBool, boolV, kindEq, at0, isJunk, Option.isSome_some, Option.isSome_none, if_true, if_false, Nat.add_sub_cancel_left, Nat.add_sub_cancel]
      exact hd
  | succ t ih =>
    intro j cz k hj P
    have hl := rg_len ((j : Int) + 1) (N - j)
    have hP := P.row
    have hcut : cutF (rg ((j : Int) + 1) (N - j)) ((j : Int) + 1) = rg (((j + 1 : Nat) : Int) + 1) (N - (j + 1)) := by
      rw [show N - j = (N - (j + 1)) + 1 by omega, rg_cut]; rfl
    have hJ : IsI cz 0 (N - j) k := .mk _ hl P.hk hP
    have hat : intsAt cz 0 (N - j) = rg ((j : Int) + 1) (N - j) := by have := intsAt_eq hP; rw [hl] at this; exact this
    have hU : IsUp (rg ((j : Int) + 1) (N - j)) := ⟨rg_up _ _, by omega⟩
    have hN1 : IsN [Value.int .i64 ((j : Int) + 1)] := ⟨_, ZP.i64.2 ⟨by omega, by omega⟩⟩
    have hh : hasL ((j : Int) + 1) (rg ((j : Int) + 1) (N - j)) = true := has_eq (by rw [rg_mem]; simp; omega)
    refine (sure502 hmix).roundX F503 noLoops [0] [.cell 6 2 1] [0] [] [1,5,6,11,12,13] ?_
    rw [r503b, hat, hcut, show wr .i64 (B : Int) = (B : Int) from wr_i64 _ (by omega) (by omega), show wr .i64 ((j : Int) + 1) = ((j + 1 : Nat) : Int) by rw [wr_i64 _ (by omega) (by omega)]; omega, show wr .i64 ((j : Int) + 1 + 1) = ((j + 1 : Nat) : Int) + 1 by rw [wr_i64 _ (by omega) (by omega)]; omega]
    simp only [show ((j : Int) + 1 ≤ (N : Int)) by omega, show ((j : Int) + 1 ≤ (B : Int)) by omega, hP.flat, hJ, hU, hN1, show N - j ≤ 1000 by omega, Alt_iff, Need_iff, ltI_eq, leI_eq, eqI_eq, leN_eq, eqN_eq, decide_eq_true_eq, decide_eq_false_iff_not, decide_true, decide_false, true_and, and_true, Bool.true_eq_false, Bool.false_eq_true, false_implies, true_implies, implies_true, not_true_eq_false, not_false_eq_true, Bool.not_eq_true', Bool.not_eq_false', Nat.zero_add, Nat.add_zero, Nat.sub_zero, Nat.zero_mul, Nat.mul_one, Int.toNat_natCast, List.drop_zero, beqV_int, beqV_sl, beqV_str, beqV_bool, beqV_ptr, beqV_flt, beqV_agg, beqV_tuple, List.all_cons, List.all_nil, Bool.and_self, Bool.and_true, Bool.true_and, Nat.le_refl, Int.le_refl, Nat.zero_le, Option.getD_some, isStr, strV, isInt, intV, isBool, boolV, kindEq, at0, isJunk, Option.isSome_some, Option.isSome_none, if_true, if_false, Nat.add_sub_cancel_left, Nat.add_sub_cancel]
    refine fun x hx => ?_
    rw [hx.has, hh]
    simp only [Bool.not_true, Alt_iff, Need_iff, ltI_eq, leI_eq, eqI_eq, leN_eq, eqN_eq, decide_eq_true_eq, decide_eq_false_iff_not, decide_true, decide_false, true_and, and_true, Bool.true_eq_false, Bool.false_eq_true, false_implies, true_implies, implies_true, not_true_eq_false, not_false_eq_true, Bool.not_eq_true', Bool.not_eq_false', Nat.zero_add, Nat.add_zero, Nat.sub_zero, Nat.zero_mul, Nat.mul_one, Int.toNat_natCast, List.drop_zero, beqV_int, beqV_sl, beqV_str, beqV_bool, beqV_ptr, beqV_flt, beqV_agg, beqV_tuple, List.all_cons, List.all_nil, Bool.and_self, Bool.and_true, Bool.true_and, Nat.le_refl, Int.le_refl, Nat.zero_le, Option.getD_some, isStr, strV, isInt, intV, isBool, boolV, kindEq, at0, isJunk, Option.isSome_some, Option.isSome_none, if_true, if_false, Nat.add_sub_cancel_left, Nat.add_sub_cancel]
    refine fun x1 hx1 => ?_
    have hl1 := rg_len (((j + 1 : Nat) : Int) + 1) (N - (j + 1))
    have hU1 : IsUp (rg (((j + 1 : Nat) : Int) + 1) (N - (j + 1))) := ⟨rg_up _ _, by omega⟩
    have hh1 : hasL ((j : Int) + 1) (rg (((j + 1 : Nat) : Int) + 1) (N - (j + 1))) = false := has_eq (by rw [rg_mem]; simp; omega)
    have hle := hx1.len
    rw [hl1] at hle
    have hF := hF503 (mo := N) (la := N) (m := N - (j + 1)) (k := x1.2.2) hx1.flat
    have hi1 := hx1.isL
    have ha1 := hx1.atL
    rw [hl1] at hi1 ha1
    simp only [hx1.flat, hle, hi1, ha1, hU1, Alt_iff, Need_iff, ltI_eq, leI_eq, eqI_eq, leN_eq, eqN_eq, decide_eq_true_eq, decide_eq_false_iff_not, decide_true, decide_false, true_and, and_true, Bool.true_eq_false, Bool.false_eq_true, false_implies, true_implies, implies_true, not_true_eq_false, not_false_eq_true, Bool.not_eq_true', Bool.not_eq_false', Nat.zero_add, Nat.add_zero, Nat.sub_zero, Nat.zero_mul, Nat.mul_one, Int.toNat_natCast, List.drop_zero, beqV_int, beqV_sl, beqV_str, beqV_bool, beqV_ptr, beqV_flt, beqV_agg, beqV_tuple, List.all_cons, List.all_nil, Bool.and_self, Bool.and_true, Bool.true_and, Nat.le_refl, Int.le_refl, Nat.zero_le, Option.getD_some, isStr, strV, isInt, intV, isBool, boolV, kindEq, at0, isJunk, Option.isSome_some, Option.isSome_none, if_true, if_false, Nat.add_sub_cancel_left, Nat.add_sub_cancel]
    refine fun x2 hx2 => ?_
    rw [hx2.has, hh1]
    simp only [hF, Bool.not_false, Alt_iff, Need_iff, ltI_eq, leI_eq, eqI_eq, leN_eq, eqN_eq, decide_eq_true_eq, decide_eq_false_iff_not, decide_true, decide_false, true_and, and_true, Bool.true_eq_false, Bool.false_eq_true, false_implies, true_implies, implies_true, not_true_eq_false, not_false_eq_true, Bool.not_eq_true', Bool.not_eq_false', Nat.zero_add, Nat.add_zero, Nat.sub_zero, Nat.zero_mul, Nat.mul_one, Int.toNat_natCast, List.drop_zero, beqV_int, beqV_sl, beqV_str, beqV_bool, beqV_ptr, beqV_flt, beqV_agg, beqV_tuple, List.all_cons, List.all_nil, Bool.and_self, Bool.and_true, Bool.true_and, Nat.le_refl, Int.le_refl, Nat.zero_le, Option.getD_some, isStr, strV, isInt, intV, isBool, boolV, kindEq, at0, isJunk, Option.isSome_some, Option.isSome_none, if_true, if_false, Nat.add_sub_cancel_left, Nat.add_sub_cancel]
    exact ih (j + 1) x1.2.1 x1.2.2 (by omega) ⟨hx1.eq ▸ hx1.row, by have := hx1.le; omega⟩
theorem fullC (hmix : Try.prog.follows .mixedOrders = true) (N M : Nat) (hN : N < 60) (hM : M ≤ N) (K : Post)
    (hK : ∀ y : List Value × Nat, Rg ((M : Int) + 1) N y.1 y.2 → K (.exit 4) (tmps 110 [(5, .int .i64 N), (6, .pointer (some ⟨0,0,none⟩)), (11, .bool false)]) (H503 N ((N : Int) + (M : Int)) N y.2 y.1)) : ∀ (t j : Nat) (cz : List Value) (k : Nat), j + t = M → Rg ((M : Int) + 1) (N - M + j) cz k →
    LSays Try.prog 0 (sub body503 [0,0,1,0,1,1,1,1,1,1,1,1]) (T503c N false M ((j : Int) + 1)) (H503 N ((N : Int) + (j : Int)) (N - M + j) k cz) K := by
  intro t
  induction t with
  | zero =>
    intro j cz k hj P
    obtain rfl : j = M := by omega
    rw [show N - j + j = N by omega] at P ⊢
    have hF := hF503 (mo := N) (la := (N : Int) + (j : Int)) (m := N) (k := k) P.row.flat
    refine (sure502 hmix).roundX F503 noLoops [0] [.cell 6 2 1] [0] [] [5,6,11,12,14] ?_
    rw [r503c]
    simp only [show ¬ ((j : Int) + 1 ≤ (j : Int)) by omega, hF, Alt_iff, Need_iff, ltI_eq, leI_eq, eqI_eq, leN_eq, eqN_eq, decide_eq_true_eq, decide_eq_false_iff_not, decide_true, decide_false, true_and, and_true, Bool.true_eq_false, Bool.false_eq_true, false_implies, true_implies, implies_true, not_true_eq_false, not_false_eq_true, Bool.not_eq_true', Bool.not_eq_false', Nat.zero_add, Nat.add_zero, Nat.sub_zero, Nat.zero_mul, Nat.mul_one, Int.toNat_natCast, List.drop_zero, beqV_int, beqV_sl, beqV_str, beqV_bool, beqV_ptr, beqV_flt, beqV_agg, beqV_tuple, List.all_cons, List.all_nil, Bool.and_self, Bool.and_true, Bool.true_and, Nat.le_refl, Int.le_refl, Nat.zero_le, Option.getD_some, isStr, strV, isInt, intV, isBool, boolV, kindEq, at0, isJunk, Option.isSome_some, Option.isSome_none, if_true, if_false, Nat.add_sub_cancel_left, Nat.add_sub_cancel]
    exact hK (cz, k) P
  | succ t ih =>
    intro j cz k hj P
    have hl := rg_len ((M : Int) + 1) (N - M + j)
    have hz1 : ZP .i64 ((N : Int) + (j : Int) + 1) := ZP.i64.2 ⟨by omega, by omega⟩
    obtain ⟨q3, q4⟩ := row_more P.row hz1 (by omega)
    have s2 := row_size P.row
    rw [hl] at q3 s2
    have hr : rg ((M : Int) + 1) (N - M + j) ++ [(N : Int) + (j : Int) + 1] = rg ((M : Int) + 1) (N - M + (j + 1)) := by
      have := rg_more ((M : Int) + 1) (N - M + j)
      rw [show (M : Int) + 1 + ((N - M + j : Nat) : Int) = (N : Int) + (j : Int) + 1 by omega] at this
      exact this
    rw [hr] at q3 q4
    have hF := hF503 (mo := N) (la := (N : Int) + (j : Int) + 1) (m := N - M + j + 1) (k := N - M + j + 1) q4.flat
    refine (sure502 hmix).roundX F503 noLoops [0] [.cell 6 2 1] [0] [] [5,6,11,12,14] ?_
    rw [r503c, show intV (Value.int .i64 ((N : Int) + (j : Int))) = (N : Int) + (j : Int) from rfl, show wr .i64 ((N : Int) + (j : Int) + 1) = (N : Int) + (j : Int) + 1 from wr_i64 _ (by omega) (by omega), show intV (Value.int .i64 ((N : Int) + (j : Int) + 1)) = (N : Int) + (j : Int) + 1 from rfl, q3, show wr .i64 ((j : Int) + 1 + 1) = ((j + 1 : Nat) : Int) + 1 by rw [wr_i64 _ (by omega) (by omega)]; omega, show wr .i64 ((N : Int) + ((j : Int) + 1)) = (N : Int) + (j : Int) + 1 by rw [wr_i64 _ (by omega) (by omega)]; omega]
    simp only [show ((j : Int) + 1 ≤ (M : Int)) by omega, show ¬ ((N : Int) ≤ ((N - M + j : Nat) : Int)) by omega, show ¬ (N : Int) + (j : Int) = 2147483647 by omega, show N - M + j ≤ cz.length from s2, show (N - M + j + 1) * 8 ≤ 1099511627776 by omega, show N - M + j + 1 ≤ 1099511627776 by omega, hF, Bool.not_true, Alt_iff, Need_iff, ltI_eq, leI_eq, eqI_eq, leN_eq, eqN_eq, decide_eq_true_eq, decide_eq_false_iff_not, decide_true, decide_false, true_and, and_true, Bool.true_eq_false, Bool.false_eq_true, false_implies, true_implies, implies_true, not_true_eq_false, not_false_eq_true, Bool.not_eq_true', Bool.not_eq_false', Nat.zero_add, Nat.add_zero, Nat.sub_zero, Nat.zero_mul, Nat.mul_one, Int.toNat_natCast, List.drop_zero, beqV_int, beqV_sl, beqV_str, beqV_bool, beqV_ptr, beqV_flt, beqV_agg, beqV_tuple, List.all_cons, List.all_nil, Bool.and_self, Bool.and_true, Bool.true_and, Nat.le_refl, Int.le_refl, Nat.zero_le, Option.getD_some, isStr, strV, isInt, intV, isBool, boolV, kindEq, at0, isJunk, Option.isSome_some, Option.isSome_none, if_true, if_false, Nat.add_sub_cancel_left, Nat.add_sub_cancel]
    have := ih (j + 1) _ (N - M + (j + 1)) (by omega) ⟨q4, Nat.le_refl _⟩
    rw [show (N : Int) + ((j + 1 : Nat) : Int) = (N : Int) + (j : Int) + 1 by omega] at this
    exact this
theorem law503 (hmix : Try.prog.follows .mixedOrders = true) (most back : Int) (hm : ZP .u8 most) (hb : ZP .u8 back) :
    FunSays Try.prog 5 [.int .u8 most, .int .u8 back] (hp []) fun v _ => v = .bool true := by
  have hm := ZP.u8.1 hm
  have hb := ZP.u8.1 hb
  obtain ⟨B, rfl⟩ := Int.eq_ofNat_of_zero_le hb.1
  obtain ⟨Q, rfl⟩ := Int.eq_ofNat_of_zero_le hm.1
  have hN : Q % 60 < 60 := Nat.mod_lt _ (by decide)
  have hn : wr .i64 (((Q : Nat) : Int).tmod 60) = ((Q % 60 : Nat) : Int) := by
    rw [Int.tmod_eq_emod_of_nonneg (by omega), wr_i64 _ (by omega) (by omega)]; omega
  generalize Q % 60 = N at hN hn
  have hM : min B N ≤ N := Nat.min_le_right _ _
  have hMB : min B N ≤ B := Nat.min_le_left _ _
  have hL : Loops Try.prog body503 0 (cutE [cut503a N B, cut503b N B, cut503c N (min B N)]) := ((Loops.noneE.moreE _ fun x K hQ => by
      obtain ⟨⟨h1, h2, h4⟩, h3⟩ := hQ
      have := h2.hjb
      have key := fullC hmix N (min B N) h2.hn h4.hj K h3 (min B N - x.1) x.1 x.2.1 x.2.2 (by omega) h1
      exact key).moreE _ fun x K hQ => by
      obtain ⟨⟨h1, h2⟩, h3⟩ := hQ
      have := h2.hjb
      have := h2.hj
      have key := fullB hmix N B h2.hn h2.hb K h3 (min B N - x.1) x.1 x.2.1 x.2.2 (by omega) h1
      exact key).moreE _ fun x K hQ => by
      obtain ⟨⟨h1, h2⟩, h3⟩ := hQ
      have := h2.hjb
      have key := fullA hmix N B h2.hn K h3 (N - x.1) x.1 x.2.1 x.2.2 (by omega) h1
      exact key
  refine (sure502 hmix).funX F503 body503 [] [] Try.func5 rfl (hL.gcX (at0 [0]) (at0 [.cell 6 2 1])) ?_
  have e0 : ISl [] 0 [] := ESl.own (l := []) flat_i (fun y hy => by simp at hy) (by simp)
  rw [w503, hn, show (if (0 : Int) > ((N : Nat) : Int) then (0 : Int) else ((N : Nat) : Int)) = ((N : Nat) : Int) from if_neg (by omega)]
  refine ⟨hF503 e0.flat, (0, [], 0), rfl, rfl, ⟨⟨e0, Nat.le_refl _⟩, hN, by omega, Nat.zero_le _, Nat.zero_le _⟩, fun y hy => ?_⟩
  rw [show intV (Value.int .i64 ((N : Nat) : Int)) = ((N : Nat) : Int) from rfl, show leI ((N : Nat) : Int) ((N : Nat) : Int) = true from leI_iff.2 (Int.le_refl _)]
  rw [Alt_iff]
  refine ⟨fun _ => ⟨hF503 hy.row.flat, (0, y.1, y.2), rfl, rfl, ⟨hy, hN, by omega, Nat.zero_le _, Nat.zero_le _⟩, fun y2 hy2 => ⟨hF503 hy2.row.flat, (0, y2.1, y2.2), rfl, ?_, ⟨hy2, ⟨hN, by omega, Nat.zero_le _, Nat.zero_le _⟩, hN, by omega, hM, Nat.le_refl _⟩, fun y3 hy3 => ?_⟩⟩, fun h => (by cases h)⟩
  · show hp _ = hp _
    rw [show ((N : Nat) : Int) + (((0 : Nat)) : Int) = ((N : Nat) : Int) by omega]; rfl
  · rw [Alt_iff]
    refine ⟨fun _ => ?_, fun h => (by cases h)⟩
    have hI : IsI y3.1 0 N y3.2 := .mk _ (rg_len _ _) hy3.hk hy3.row
    simp only [hy3.row.flat, hI, show N ≤ 1000000000 by omega, Alt_iff, Need_iff, ltI_eq, leI_eq, eqI_eq, leN_eq, eqN_eq, decide_eq_true_eq, decide_eq_false_iff_not, decide_true, decide_false, true_and, and_true, Bool.true_eq_false, Bool.false_eq_true, false_implies, true_implies, implies_true, not_true_eq_false, not_false_eq_true, Bool.not_eq_true', Bool.not_eq_false', Nat.zero_add, Nat.add_zero, Nat.sub_zero, Nat.zero_mul, Nat.mul_one, Int.toNat_natCast, List.drop_zero, beqV_int, beqV_sl, beqV_str, beqV_bool, beqV_ptr, beqV_flt, beqV_agg, beqV_tuple, List.all_cons, List.all_nil, Bool.and_self, Bool.and_true, Bool.true_and, Nat.le_refl, Int.le_refl, Nat.zero_le, Option.getD_some, isStr, strV, isInt, intV, isBool, boolV, kindEq, at0, isJunk, Option.isSome_some, Option.isSome_none, if_true, if_false, Nat.add_sub_cancel_left, Nat.add_sub_cancel]
    exact FlatD.hp (l := []) trivial
end Go.Proofs.Ytocndbldmkjcnaa

namespace Go.Proofs.Ytocndbldmkjcnaa
open Go.RowKit Go.Proofs.Ytocndbldmkjcnaa.AM
set_option maxRecDepth 100000
set_option maxHeartbeats 4000000
theorem flat_at {n : Nat} : ∀ {L : List (List Value)} {i : Nat} {c : List Value}, (∀ c ∈ L, c.length = n) → L[i]? = some c → ∀ j, j < n → L.flatten[i * n + j]? = c[j]? := by
  intro L
  induction L with
  | nil => intro i c _ h; simp at h
  | cons a L ih =>
    intro i c hL h j hj
    have ha : a.length = n := hL a List.mem_cons_self
    cases i with
    | zero =>
      simp at h
      subst h
      rw [Nat.zero_mul, Nat.zero_add, List.flatten_cons, List.getElem?_append_left (by omega)]
    | succ i =>
      rw [List.flatten_cons, List.getElem?_append_right (by rw [Nat.succ_mul]; omega), ha, show (i + 1) * n + j - n = i * n + j by rw [Nat.succ_mul]; omega]
      exact ih (fun c hc => hL c (List.mem_cons_of_mem _ hc)) (by simpa using h) j hj
def GoodStep (c : List Value) : Prop := ∃ (g : Bool) (n : Int), c = [.bool g, .int .i64 n] ∧ ZP .i64 n
theorem steps_of {L : List (List Value)} {len : Nat} (hl : len ≤ L.length) (h : ∀ c ∈ L, c.length = 2 ∧ GoodStep c) : Steps L.flatten len ∧ FlatL L.flatten := by
  refine ⟨fun i hi => ?_, ⟨fun x hx => ?_⟩⟩
  · have hc : L[i]? = some L[i] := List.getElem?_eq_getElem (by omega)
    obtain ⟨h1, g, n, h2, h3⟩ := h L[i] (List.getElem_mem (by omega))
    rw [h2] at hc
    have e0 := flat_at (n := 2) (fun c hc => (h c hc).1) hc 0 (by omega)
    have e1 := flat_at (n := 2) (fun c hc => (h c hc).1) hc 1 (by omega)
    exact ⟨g, n, by rw [getO_eq]; exact e0, by rw [getO_eq]; exact e1, h3⟩
  · obtain ⟨c, h1, h2⟩ := List.mem_flatten.1 hx
    obtain ⟨_, g, n, rfl, _⟩ := h c h1
    simp at h2
    rcases h2 with rfl | rfl <;> rfl
end Go.Proofs.Ytocndbldmkjcnaa
