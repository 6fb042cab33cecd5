/- Proved: what functions of the program come to, by their conditions over the abstract machine. Conditions: those that each theorem states. -/
import Derived.Test.YtglfkchcmjmmlaaCh1
set_option linter.unusedVariables false
set_option linter.unusedSimpArgs false
namespace Go.Proofs.Ytglfkchcmjmmlaa
open Go.RowKit Go.Proofs.Ytglfkchcmjmmlaa.AM
set_option maxRecDepth 100000
set_option maxHeartbeats 4000000
noncomputable def S20 (key : Nat → Int) : Nat → List Nat
  | 0 => []
  | k + 1 => S20 key k ++ piece key (20 * k) 20
theorem S20_len (key : Nat → Int) : ∀ k, (S20 key k).length = 20 * k := by
  intro k
  induction k with
  | zero => rfl
  | succ k ih => rw [S20, List.length_append, ih, piece_len]; omega
theorem S20_lt (key : Nat → Int) : ∀ k x, x ∈ S20 key k → x < 20 * k := by
  intro k
  induction k with
  | zero => intro x h; cases h
  | succ k ih =>
    intro x h
    rw [S20, List.mem_append, piece_mem] at h
    rcases h with h | h
    · have := ih x h; omega
    · omega
noncomputable def E20 (key : Nat → Int) (n k : Nat) : List Nat := S20 key k ++ (List.range' (20 * k) (n - 20 * k))
theorem E20_len (key : Nat → Int) {n k : Nat} (h : 20 * k ≤ n) : (E20 key n k).length = n := by unfold E20; rw [List.length_append, S20_len, List.length_range']; omega
theorem E20_lt (key : Nat → Int) {n k x : Nat} (h : 20 * k ≤ n) (hx : x ∈ E20 key n k) : x < n := by
  unfold E20 at hx
  rw [List.mem_append, List.mem_range'_1] at hx
  rcases hx with hx | hx
  · have := S20_lt key k x hx; omega
  · omega
theorem E20_ok {key : Nat → Int} {n n2 k b : Nat} (h : 20 * k ≤ n) (hb : 20 * k ≤ b) (hbn : b ≤ n) (hn : n ≤ n2) : InsOk (E20 key n k) ((20 * k : Nat) : Int) (b : Int) n2 := by
  refine ⟨by omega, by omega, by rw [E20_len key h]; omega, fun x hx => by have := E20_lt key h hx; omega, ?_⟩
  rw [Int.toNat_natCast, Int.toNat_natCast]
  unfold E20
  rw [show n - 20 * k = (b - 20 * k) + (n - b) by omega, ← List.range'_append_1, (cut3 (X := S20 key k) (A := List.range' (20 * k) (b - 20 * k)) (S20_len key k) (by rw [List.length_range']; omega)).2.1]
  exact List.pairwise_lt_range'
theorem E20_step {key : Nat → Int} {n k : Nat} (h : 20 * k + 20 ≤ n) : segS key (E20 key n k) (20 * k) (20 * k + 20) = E20 key n (k + 1) := by
  unfold E20
  rw [show n - 20 * k = 20 + (n - (20 * k + 20)) by omega, ← List.range'_append_1, segS_eq key (S20_len key k) (show 20 * k + (List.range' (20 * k) 20).length = 20 * k + 20 by rw [List.length_range']), S20, List.append_assoc]
  rfl
theorem E20_end {key : Nat → Int} {n : Nat} (h : n ≤ 60) : segS key (E20 key n (n / 20)) (20 * (n / 20)) n = D20 key n := by
  have e : segS key (E20 key n (n / 20)) (20 * (n / 20)) n = S20 key (n / 20) ++ piece key (20 * (n / 20)) (n - 20 * (n / 20)) := by
    unfold E20
    have := segS_eq key (X := S20 key (n / 20)) (A := List.range' (20 * (n / 20)) (n - 20 * (n / 20))) (Y := []) (b := n) (S20_len key (n / 20)) (by rw [List.length_range']; omega)
    rw [List.append_nil, List.append_nil] at this
    exact this
  rw [e]
  unfold D20
  have : n / 20 = 0 ∨ n / 20 = 1 ∨ n / 20 = 2 ∨ n / 20 = 3 := by omega
  rcases this with hk | hk | hk | hk
  · rw [hk, min_b (show n ≤ 20 by omega), show n - 20 = 0 by omega, show n - 40 = 0 by omega, min_b (Nat.zero_le _), piece_zero, piece_zero]
    simp [S20]
  · rw [hk, min_a (show 20 ≤ n by omega), min_b (show n - 20 ≤ 20 by omega), show n - 40 = 0 by omega, piece_zero]
    simp [S20]
  · rw [hk, min_a (show 20 ≤ n by omega), min_a (show 20 ≤ n - 20 by omega)]
    simp [S20]
  · have : n = 60 := by omega
    subst this
    rw [hk, min_a (show 20 ≤ 60 by omega), min_a (show 20 ≤ 60 - 20 by omega), show 60 - 20 * 3 = 0 by omega, piece_zero]
    simp [S20]
noncomputable def cut360a (sq : Option Nat) (q n : Nat) (sp : Option Nat) (n2 k2 : Nat) (fs : List Value) (own1 own2 : Bool) : CutE where
  β := Nat
  p := [0,0,1,1]
  t := fun _ => T360 sq n q n 20 0 20
  h := fun _ => hp (hS (pC (List.range n)) sp n2 k2 fs own1 own2)
  Q := fun _ K => K (.exit 0) (tmps 63 [(0, .slice (some ⟨0,0,sq⟩) n q), (1, .int .i64 n), (2, fnR), (6, .int .i64 20), (7, .int .i64 ((20 * (n / 20) : Nat) : Int))]) (hp (hS (pC (E20 (rkAt fs) n (n / 20))) sp n2 k2 fs own1 own2))
noncomputable def cut360o (sq : Option Nat) (q n : Nat) (sp : Option Nat) (n2 k2 : Nat) (fs : List Value) (own1 own2 : Bool) : CutE where
  β := Nat
  p := [0,1,1,1,1]
  t := fun _ => T360o sq n q n 20
  h := fun _ => hp (hS (pC (D20 (rkAt fs) n)) sp n2 k2 fs own1 own2)
  Q := fun _ K => K (.exit 2) (tmps 63 []) (hp (hS (pC (piece (rkAt fs) 0 n)) sp n2 k2 fs own1 own2))

theorem w360 (sq : Option Nat) (q n : Nat) (sp : Option Nat) (n2 k2 : Nat) (fs : List Value) (own1 own2 : Bool) (K : Value → Heap → Prop) :
  funX Try.prog S360 (gcLKX (at0 [1]) (at0 []) 3 (cutE [cut360a sq q n sp n2 k2 fs own1 own2, cut360o sq q n sp n2 k2 fs own1 own2])) F360 body360 Try.f53 [1] [] [.slice (some ⟨0,0,sq⟩) n q, .int .i64 n, fnR] (hp (hS (pC (List.range n)) sp n2 k2 fs own1 own2)) K = (
FlatD [1]
    (hp
      [Blk.cells (pC (List.range n)) 1 true,
        Blk.cells [Value.slice (some { block := 2, off := 0, spot := sp : Addr }) n2 k2] 1 own1, Blk.cells fs 1 own2]) ∧
  ∃ (b : Nat),
    tmps 63
          [(0, Value.slice (some { block := 0, off := 0, spot := sq : Addr }) n q),
            (1, Value.int IntKind.i64 (↑n : Int)),
            (2, Value.func (Fn.func 41) #[] #[Value.pointer (some { block := 1, off := 0 : Addr })]),
            (6, Value.int IntKind.i64 20), (7, Value.int IntKind.i64 0), (8, Value.int IntKind.i64 20)] =
        tmps 63
          [(0, Value.slice (some { block := 0, off := 0, spot := sq : Addr }) n q),
            (1, Value.int IntKind.i64 (↑n : Int)),
            (2, Value.func (Fn.func 41) #[] #[Value.pointer (some { block := 1, off := 0 : Addr })]),
            (6, Value.int IntKind.i64 20), (7, Value.int IntKind.i64 0), (8, Value.int IntKind.i64 20)] ∧
      hp
            [Blk.cells (pC (List.range n)) 1 true,
              Blk.cells [Value.slice (some { block := 2, off := 0, spot := sp : Addr }) n2 k2] 1 own1,
              Blk.cells fs 1 own2] =
          hp
            [Blk.cells (pC (List.range n)) 1 true,
              Blk.cells [Value.slice (some { block := 2, off := 0, spot := sp : Addr }) n2 k2] 1 own1,
              Blk.cells fs 1 own2] ∧
        (FlatL (pC (E20 (rkAt fs) n (n / 20))) ∧
            nojL [Value.slice (some { block := 2, off := 0, spot := sp : Addr }) n2 k2] = true ∧ FlatL fs ∧ True) ∧
          (Value.func (Fn.func 41) #[] #[Value.pointer (some { block := 1, off := 0 : Addr })] =
                Value.func (Fn.func 41) #[] #[Value.pointer (some { block := 1, off := 0 : Addr })] ∧
              IsPl (pC (E20 (rkAt fs) n (n / 20))) n ∧
                IsFv fs n2 ∧ InsOk (plAt (pC (E20 (rkAt fs) n (n / 20)))) (↑(20 * (n / 20)) : Int) (↑n : Int) n2) ∧
            FlatD [1]
                (hp
                  [Blk.cells
                      (pC
                        (segS (rkAt fs) (plAt (pC (E20 (rkAt fs) n (n / 20)))) (↑(20 * (n / 20)) : Int).toNat
                          (↑n : Int).toNat))
                      1 true,
                    Blk.cells [Value.slice (some { block := 2, off := 0, spot := sp : Addr }) n2 k2] 1 own1,
                    Blk.cells fs 1 own2]) ∧
              ∃ (b : Nat),
                tmps 63
                      [(0, Value.slice (some { block := 0, off := 0, spot := sq : Addr }) n q),
                        (1, Value.int IntKind.i64 (↑n : Int)),
                        (2, Value.func (Fn.func 41) #[] #[Value.pointer (some { block := 1, off := 0 : Addr })]),
                        (6, Value.int IntKind.i64 20)] =
                    tmps 63
                      [(0, Value.slice (some { block := 0, off := 0, spot := sq : Addr }) n q),
                        (1, Value.int IntKind.i64 (↑n : Int)),
                        (2, Value.func (Fn.func 41) #[] #[Value.pointer (some { block := 1, off := 0 : Addr })]),
                        (6, Value.int IntKind.i64 20)] ∧
                  hp
                        [Blk.cells
                            (pC
                              (segS (rkAt fs) (plAt (pC (E20 (rkAt fs) n (n / 20)))) (↑(20 * (n / 20)) : Int).toNat
                                (↑n : Int).toNat))
                            1 true,
                          Blk.cells [Value.slice (some { block := 2, off := 0, spot := sp : Addr }) n2 k2] 1 own1,
                          Blk.cells fs 1 own2] =
                      hp
                        [Blk.cells (pC (D20 (rkAt fs) n)) 1 true,
                          Blk.cells [Value.slice (some { block := 2, off := 0, spot := sp : Addr }) n2 k2] 1 own1,
                          Blk.cells fs 1 own2] ∧
                    K undef
                      (hp
                        [Blk.cells (pC (piece (rkAt fs) 0 n)) 1 true,
                          Blk.cells [Value.slice (some { block := 2, off := 0, spot := sp : Addr }) n2 k2] 1 own1,
                          Blk.cells fs 1 own2])) := by kernel_rfl

theorem st_l1 (hm : Try.prog.follows .mixedOrders = true) (sq : Option Nat) (q n : Nat) (sp : Option Nat) (n2 k2 : Nat) (fs : List Value) (own1 own2 : Bool) (hv : IsFv fs n2) (h60 : n ≤ 60) (hn2 : n ≤ n2) (K : Post) (hK : K (.exit 0) (tmps 63 [(0, .slice (some ⟨0,0,sq⟩) n q), (1, .int .i64 n), (2, fnR), (6, .int .i64 20), (7, .int .i64 ((20 * (n / 20) : Nat) : Int))]) (hp (hS (pC (E20 (rkAt fs) n (n / 20))) sp n2 k2 fs own1 own2))) :
    ∀ (t k : Nat), n - 20 * k ≤ t → 20 * k ≤ n → LSays Try.prog 3 (sub body360 [0,0,0,1,1]) (T360 sq n q n 20 (20 * k) (20 * k + 20)) (hp (hS (pC (E20 (rkAt fs) n k)) sp n2 k2 fs own1 own2)) K := by
  intro t
  induction t with
  | zero =>
    intro k ht hk
    refine (sure360 hm).roundX F360 noLoops [1] [] [1] [] [0,1,2,6,7,8] ?_
    rw [r360a, show leI ((20 * k + 20 : Nat) : Int) (n : Int) = false by rw [leI_eq, decide_eq_false (by omega)], alt_f, show k = n / 20 by omega]
    exact ⟨hS_flat hv, hK⟩
  | succ t ih =>
    intro k ht hk
    refine (sure360 hm).roundX F360 noLoops [1] [] [1] [] [0,1,2,6,7,8] ?_
    rw [r360a]
    by_cases h : 20 * k + 20 ≤ n
    · rw [leT (show ((20 * k + 20 : Nat) : Int) ≤ (n : Int) by omega), alt_t, wra (20 * k + 20) 20 (by omega), plAt_pC, Int.toNat_natCast, Int.toNat_natCast, E20_step h]
      exact ⟨⟨pC_flat _, rfl, hv.flat, trivial⟩, ⟨rfl, .mk _ rfl (E20_len _ hk) (by omega), hv, E20_ok hk (by omega) h hn2⟩, hS_flat hv, ih (k + 1) (by omega) (by omega)⟩
    · rw [show leI ((20 * k + 20 : Nat) : Int) (n : Int) = false by rw [leI_eq, decide_eq_false (by omega)], alt_f, show k = n / 20 by omega]
      exact ⟨hS_flat hv, hK⟩
structure StbOk (cs : List Value) (n : Int) (d n2 : Nat) : Prop where
  nd : n = d
  d60 : d ≤ 60
  n2 : d ≤ n2
  id : cs = pC (List.range d)
noncomputable def stbW : CtrW where
  D := [1]
  W := [0]
  E := [1]
  pre := fun args blks => match args, blks with
    | [.slice (some ⟨0,0,_⟩) d _, .int .i64 n, fn], [.cells cs 1 true, .cells [.slice (some ⟨2,0,_⟩) n2 _] 1 _, .cells fs 1 _] => fn = fnR ∧ IsFv fs n2 ∧ StbOk cs n d n2
    | _, _ => False
  val := fun args blks => undef
  out := fun args blks => match args, blks with
    | [.slice (some ⟨0,0,_⟩) d _, .int .i64 n, fn], [.cells cs 1 true, b1, .cells fs 1 own2] => [.cells (pC (piece (rkAt fs) 0 d)) 1 true, b1, .cells fs 1 own2]
    | _, _ => []
theorem stb_says (hm : Try.prog.follows .mixedOrders = true) : stbW.Holds Try.prog 53 := by
  intro args blks hf hpre
  simp only [stbW] at hpre ⊢
  split at hpre
  · rename_i sq n q n' fn cs sp n2 k2 own1 fs own2
    obtain ⟨rfl, hv, rfl, h60, hn2, rfl⟩ := hpre
    refine ⟨⟨trivial, rfl, rfl, trivial⟩, ⟨pC_flat _, trivial⟩, ?_⟩
    show FunSays _ _ _ _ fun v h' => v = undef ∧ h' = AM.hp [.cells (pC (piece (rkAt fs) 0 n)) 1 true, .cells [.slice (some ⟨2,0,sp⟩) n2 k2] 1 own1, .cells fs 1 own2]
    have e0 : List.range n = E20 (rkAt fs) n 0 := by unfold E20 S20; rw [List.nil_append, List.range_eq_range']; rfl
    have hL' : Loops Try.prog body360 3 (cutE [cut360a sq q n sp n2 k2 fs own1 own2, cut360o sq q n sp n2 k2 fs own1 own2]) := by
      refine Loops.moreE (Loops.moreE Loops.noneE _ fun x K hQ => ?_) _ fun x K hQ => ?_
      · show LSays Try.prog 3 (sub body360 [0,0,1,1,1,1]) (T360o sq n q n 20) (AM.hp (hS (pC (D20 (rkAt fs) n)) sp n2 k2 fs own1 own2)) K
        exact st_20 hm sq q n sp n2 k2 fs own1 own2 hv h60 hn2 K hQ
      · show LSays Try.prog 3 (sub body360 [0,0,0,1,1]) (T360 sq n q n 20 (20 * 0) (20 * 0 + 20)) (AM.hp (hS (pC (List.range n)) sp n2 k2 fs own1 own2)) K
        rw [e0]
        exact st_l1 hm sq q n sp n2 k2 fs own1 own2 hv h60 hn2 K hQ n 0 (by omega) (by omega)
    refine (sure360 hm).funX F360 body360 [1] [] Try.func53 rfl (hL'.gcX (at0 [1]) (at0 [])) ?_
    have hw := w360 sq q n sp n2 k2 fs own1 own2
    unfold hS at hw
    rw [hw, plAt_pC, Int.toNat_natCast, Int.toNat_natCast, E20_end h60]
    have hok := E20_ok (key := rkAt fs) (n := n) (n2 := n2) (k := n / 20) (b := n) (by omega) (by omega) (Nat.le_refl _) hn2
    exact ⟨hS_flat hv, 0, rfl, rfl, ⟨pC_flat _, rfl, hv.flat, trivial⟩, ⟨(by first | trivial | rfl), .mk _ rfl (E20_len _ (by omega)) (by omega), hv, hok⟩, hS_flat hv, 0, rfl, rfl, hS_flat hv, (by first | trivial | rfl), (by first | trivial | rfl), (by first | trivial | rfl)⟩
  · exact hpre.elim
end Go.Proofs.Ytglfkchcmjmmlaa

namespace Go.Proofs.Ytglfkchcmjmmlaa
open Go.RowKit Go.Proofs.Ytglfkchcmjmmlaa.AM
set_option maxRecDepth 100000
set_option maxHeartbeats 4000000
noncomputable def body314 : Code := (Try.f14.body).getD .skip
def F314 : List Nat → Option (List Nat) := fun p => match p with
  | [1] => some [1]
  | [1, 1] => some [1, 3]
  | [1, 0, 1, 1] => some [1, 3, 9, 10]
  | [1, 0, 0, 1, 0, 1, 1] => some [1, 3, 9, 10, 11]
  | [1, 0, 1, 0, 0, 1, 0, 1, 1] => some [1, 3]
  | [1, 1, 0, 0, 1, 0, 1, 1] => some [1, 3, 9, 10]
  | [1, 0, 0, 1, 1, 0, 0, 1, 0, 1, 1] => some [1, 3, 4, 9, 10]
  | [1, 1, 1, 0, 0, 1, 0, 1, 1] => some [1, 3, 9, 10]
  | [1, 1, 1] => some [1, 3]
  | [1, 1, 1, 1] => some [3]
  | [1, 1, 1, 1, 1] => some [2]
  | _ => none
noncomputable def body340 : Code := (Try.f40.body).getD .skip
def F340 : List Nat → Option (List Nat) := fun p => match p with
  | _ => none
noncomputable def S314 : Book := addI Try.prog [(40, Try.f40, body340)] (bookW [(53, stbW)] S0)
theorem sure314 (hm : Try.prog.follows .mixedOrders = true) : Sure Try.prog S314 := Sure.addI (S := bookW [(53, stbW)] S0) ⟨hm, plain, bookW_ok sums0 (l := [(53, stbW)]) ⟨stb_says hm, trivial⟩⟩ (l := [(40, Try.f40, body340)]) ⟨⟨Try.func40, rfl⟩, trivial⟩
noncomputable def T314 (sq : Option Nat) (n q i : Nat) : List Value := tmps 22 [(1, .pointer (some ⟨1,0,none⟩)), (3, .slice (some ⟨2,0,sq⟩) n q), (9, .int .i64 n), (10, .int .i64 i)]
noncomputable def hR (cs : List Value) (sp : Option Nat) (n k : Nat) (fs : List Value) (own2 : Bool) : List Blk := [.cells fs 1 own2, .cells [.slice (some ⟨0,0,sp⟩) n k] 1 true, .cells cs 1 true]

theorem r314 (sq : Option Nat) (n q i : Nat) (cs : List Value) (sp : Option Nat) (k : Nat) (fs : List Value) (own2 : Bool) (K : Post) :
  roundX Try.prog S314 noLoop F314 body314 1 [1] [] [1] [] [1,3,9,10] [0,0,1,0,1,1] (T314 sq n q i) (hp (hR cs sp n k fs own2)) K = (
Alt (ltI (↑i : Int) (↑n : Int))
  (Need (ltI (↑i : Int) (↑n : Int))
    (Need (leN (0 + (↑i : Int).toNat * 1 + 1) cs.length)
      (K AE.normal
        (tmps 22
          [(1, Value.pointer (some { block := 1, off := 0 : Addr })),
            (3, Value.slice (some { block := 2, off := 0, spot := sq : Addr }) n q),
            (9, Value.int IntKind.i64 (↑n : Int)), (10, Value.int IntKind.i64 (wr IntKind.i64 ((↑i : Int) + 1)))])
        (hp
          [Blk.cells fs 1 own2, Blk.cells [Value.slice (some { block := 0, off := 0, spot := sp : Addr }) n k] 1 true,
            Blk.cells (setAll cs (0 + (↑i : Int).toNat * 1) [Value.int IntKind.i64 (↑i : Int)]) 1 true]))))
  (K (AE.exit 0)
    (tmps 22
      [(1, Value.pointer (some { block := 1, off := 0 : Addr })),
        (3, Value.slice (some { block := 2, off := 0, spot := sq : Addr }) n q)])
    (hp
      [Blk.cells fs 1 own2, Blk.cells [Value.slice (some { block := 0, off := 0, spot := sp : Addr }) n k] 1 true,
        Blk.cells cs 1 true]))) := by kernel_rfl

noncomputable def cut314 (n : Nat) (sp : Option Nat) (k : Nat) (fs : List Value) (own2 : Bool) : CutE where
  β := Nat
  p := [0,1,0,1,1]
  t := fun _ => T314 (some 0) n n 0
  h := fun _ => hp (hR (pC (List.replicate n 0)) sp n k fs own2)
  Q := fun _ K => K (.exit 0) (tmps 22 [(1, .pointer (some ⟨1,0,none⟩)), (3, .slice (some ⟨2,0,some 0⟩) n n)]) (hp (hR (pC (List.range n)) sp n k fs own2))

theorem w314 (n : Nat) (sp : Option Nat) (k : Nat) (fs : List Value) (own2 : Bool) (K : Value → Heap → Prop) :
  funX Try.prog S314 (gcLKX (at0 [1]) (at0 []) 1 (cutE [cut314 n sp k fs own2])) F314 body314 Try.f14 [] [] [.slice (some ⟨0,0,sp⟩) n k] (hp [.cells fs 1 own2]) K = (
Need (leI (↑n : Int) (↑n : Int))
  (Need (leI (↑n : Int) 1099511627776)
    (Need (leI ((↑n : Int) * 8) 1099511627776)
      (FlatD [1]
          (hp
            [Blk.cells fs 1 own2, Blk.cells [Value.slice (some { block := 0, off := 0, spot := sp : Addr }) n k] 1 true,
              Blk.cells (repl (↑n : Int).toNat [Value.int IntKind.i64 0]) 1 true]) ∧
        ∃ (b : Nat),
          tmps 22
                [(1, Value.pointer (some { block := 1, off := 0 : Addr })),
                  (3,
                    Value.slice (some { block := 2, off := 0, spot := some 0 : Addr }) (↑n : Int).toNat
                      (↑n : Int).toNat),
                  (9, Value.int IntKind.i64 (↑(↑n : Int).toNat : Int)), (10, Value.int IntKind.i64 0)] =
              tmps 22
                [(1, Value.pointer (some { block := 1, off := 0 : Addr })),
                  (3, Value.slice (some { block := 2, off := 0, spot := some 0 : Addr }) n n),
                  (9, Value.int IntKind.i64 (↑n : Int)), (10, Value.int IntKind.i64 0)] ∧
            hp
                  [Blk.cells fs 1 own2,
                    Blk.cells [Value.slice (some { block := 0, off := 0, spot := sp : Addr }) n k] 1 true,
                    Blk.cells (repl (↑n : Int).toNat [Value.int IntKind.i64 0]) 1 true] =
                hp
                  [Blk.cells fs 1 own2,
                    Blk.cells [Value.slice (some { block := 0, off := 0, spot := sp : Addr }) n k] 1 true,
                    Blk.cells (pC (List.replicate n 0)) 1 true] ∧
              (FlatL (pC (List.range n)) ∧
                  nojL [Value.slice (some { block := 2, off := 0, spot := sp : Addr }) n k] = true ∧ FlatL fs ∧ True) ∧
                (Value.func (Fn.func 41) #[] #[Value.pointer (some { block := 1, off := 0 : Addr })] =
                      Value.func (Fn.func 41) #[] #[Value.pointer (some { block := 1, off := 0 : Addr })] ∧
                    IsFv fs n ∧ StbOk (pC (List.range n)) (↑n : Int) n n) ∧
                  K (Value.slice (some { block := 1, off := 0, spot := some 0 : Addr }) n n)
                    (hp [Blk.cells fs 1 own2, Blk.cells (pC (piece (rkAt fs) 0 n)) 1 true]))))) := by kernel_rfl

end Go.Proofs.Ytglfkchcmjmmlaa

namespace Go.Proofs.Ytglfkchcmjmmlaa
open Go.RowKit Go.Proofs.Ytglfkchcmjmmlaa.AM
set_option maxRecDepth 100000
set_option maxHeartbeats 4000000
noncomputable def body345 : Code := (Try.f45.body).getD .skip
def F345 : List Nat → Option (List Nat) := fun p => match p with
  | [1] => some [0, 1]
  | [1, 0, 1] => some [0, 1, 12]
  | [1, 0, 1, 0, 1] => some [4]
  | [1, 1] => some [0, 1]
  | [1, 1, 1] => some [4]
  | _ => none
noncomputable def body327 : Code := (Try.f27.body).getD .skip
def F327 : List Nat → Option (List Nat) := fun p => match p with
  | [1] => some [0]
  | [1, 1] => some [0, 3]
  | [1, 0, 1, 1] => some [0, 3, 4]
  | [1, 0, 0, 0, 1, 0, 1, 1] => some [0, 3, 4, 9]
  | [1, 1, 0, 0, 0, 1, 0, 1, 1] => some [3]
  | [1, 0, 0, 1, 0, 1, 1] => some [0, 3, 4]
  | [1, 0, 0, 1, 0, 0, 1, 0, 1, 1] => some [0, 3, 4, 5]
  | [1, 0, 0, 0, 0, 1, 0, 0, 1, 0, 0, 1, 0, 1, 1] => some [0, 3, 4, 5, 30]
  | [1, 1, 0, 0, 0, 0, 1, 0, 0, 1, 0, 0, 1, 0, 1, 1] => some [0, 3, 4, 5]
  | [1, 0, 0, 0, 1, 0, 0, 1, 0, 0, 1, 0, 1, 1] => some [0, 3, 4, 5]
  | [1, 1, 0, 0, 1, 0, 0, 1, 0, 1, 1] => some [0, 3, 4, 5]
  | [1, 1, 0, 0, 1, 0, 1, 1] => some [0, 3, 4]
  | [1, 1, 1] => some [3]
  | [1, 1, 1, 1] => some [2]
  | _ => none
noncomputable def body318 : Code := (Try.f18.body).getD .skip
def F318 : List Nat → Option (List Nat) := fun p => match p with
  | [1] => some [0, 1]
  | [1, 0, 1] => some [0, 1, 10]
  | [1, 0, 1, 0, 1] => some [4]
  | [1, 1] => some [0, 1]
  | [1, 0, 1, 1] => some [0, 1, 5]
  | [1, 0, 0, 0, 1, 0, 1, 1] => some [0, 1, 5, 14]
  | [1, 1, 0, 0, 0, 1, 0, 1, 1] => some []
  | [1, 0, 0, 1, 0, 1, 1] => some [0, 1, 5]
  | [1, 0, 0, 1, 0, 0, 1, 0, 1, 1] => some [0, 1, 5, 25]
  | [1, 0, 1, 0, 0, 1, 0, 0, 1, 0, 1, 1] => some [4]
  | [1, 1, 0, 0, 1, 0, 1, 1] => some [0, 1, 5]
  | [1, 1, 1] => some []
  | [1, 1, 1, 1] => some [4]
  | _ => none
noncomputable def S345 : Book := bookOf [(24, lessC)]

theorem w345 (a b : Nat) (K : Value → Heap → Prop) :
  funX Try.prog S345 noLoop F345 body345 Try.f45 [] [] [.float .f64 a, .float .f64 b] (hp []) K = (
Alt (!fEq a a) (Alt (fEq a a) (K (Value.bool !fEq b b) (hp [])) (K (Value.bool false) (hp [])))
  (Alt (!fEq b b) (Alt (fEq a a) (K (Value.bool !fEq b b) (hp [])) (K (Value.bool false) (hp [])))
    (True ∧
      Need (leN b 18446744073709551615) (Need (leN a 18446744073709551615) True) ∧
        K
          (Value.bool
            (ltI (fKey (fltA [Value.float FloatKind.f64 b, Value.float FloatKind.f64 a] 0))
              (fKey (fltA [Value.float FloatKind.f64 b, Value.float FloatKind.f64 a] 1))))
          (hp [])))) := by kernel_rfl

noncomputable def aheadC : Ctr := flC okFF fun xs => .bool (decide (rkF (fltA xs 0) < rkF (fltA xs 1)))
noncomputable def S327 : Book := bookOf [(45, aheadC)]
noncomputable def T327i (sp so : Option Nat) (n k m c i j : Nat) : List Value := tmps 45 [(0, .slice (some ⟨0,0,sp⟩) n k), (3, .slice (some ⟨1,0,so⟩) m c), (4, .int .i64 i), (5, .int .i64 j)]
noncomputable def T327o (sp so : Option Nat) (n k m c i : Nat) : List Value := tmps 45 [(0, .slice (some ⟨0,0,sp⟩) n k), (3, .slice (some ⟨1,0,so⟩) m c), (4, .int .i64 i)]
noncomputable def T327z (sp : Option Nat) (n k i : Nat) : List Value := tmps 45 [(0, .slice (some ⟨0,0,sp⟩) n k), (3, .slice none 0 0), (4, .int .i64 i)]
noncomputable def hO (fs : List Value) (own2 : Bool) (cs : List Value) : List Blk := [.cells fs 1 own2, .cells cs 1 true]

theorem r327i (sp so : Option Nat) (n k m c i j : Nat) (fs cs : List Value) (own2 : Bool) (K : Post) :
  roundX Try.prog S327 noLoop F327 body327 1 [] [] [] [] [0,3,4,5] [0,0,0,1,0,0,1,0,0,1,0,1,1] (T327i sp so n k m c i j) (hp (hO fs own2 cs)) K = (
Alt (ltI 0 (↑j : Int))
  (Need (ltI (↑i : Int) (↑n : Int))
    (Need (isFlt FloatKind.f64 ((getO fs (0 + (↑i : Int).toNat * 1)).getD undef))
      (Need (leI 0 (wr IntKind.i64 ((↑j : Int) - 1)))
        (Need (ltI (wr IntKind.i64 ((↑j : Int) - 1)) (↑m : Int))
          (Need (isInt IntKind.i64 ((getO cs (0 + (wr IntKind.i64 ((↑j : Int) - 1)).toNat * 1)).getD undef))
            (Need (leI 0 (intV ((getO cs (0 + (wr IntKind.i64 ((↑j : Int) - 1)).toNat * 1)).getD undef)))
              (Need (ltI (intV ((getO cs (0 + (wr IntKind.i64 ((↑j : Int) - 1)).toNat * 1)).getD undef)) (↑n : Int))
                (Need
                  (isFlt FloatKind.f64
                    ((getO fs
                          (0 +
                            (intV ((getO cs (0 + (wr IntKind.i64 ((↑j : Int) - 1)).toNat * 1)).getD undef)).toNat *
                              1)).getD
                      undef))
                  (True ∧
                    Need (leN (fltV ((getO fs (0 + (↑i : Int).toNat * 1)).getD undef)) 18446744073709551615)
                        (Need
                          (leN
                            (fltV
                              ((getO fs
                                    (0 +
                                      (intV
                                            ((getO cs (0 + (wr IntKind.i64 ((↑j : Int) - 1)).toNat * 1)).getD
                                              undef)).toNat *
                                        1)).getD
                                undef))
                            18446744073709551615)
                          True) ∧
                      Alt
                        (decide
                          (rkF
                              (fltA
                                [Value.float FloatKind.f64 (fltV ((getO fs (0 + (↑i : Int).toNat * 1)).getD undef)),
                                  Value.float FloatKind.f64
                                    (fltV
                                      ((getO fs
                                            (0 +
                                              (intV
                                                    ((getO cs (0 + (wr IntKind.i64 ((↑j : Int) - 1)).toNat * 1)).getD
                                                      undef)).toNat *
                                                1)).getD
                                        undef))]
                                0) <
                            rkF
                              (fltA
                                [Value.float FloatKind.f64 (fltV ((getO fs (0 + (↑i : Int).toNat * 1)).getD undef)),
                                  Value.float FloatKind.f64
                                    (fltV
                                      ((getO fs
                                            (0 +
                                              (intV
                                                    ((getO cs (0 + (wr IntKind.i64 ((↑j : Int) - 1)).toNat * 1)).getD
                                                      undef)).toNat *
                                                1)).getD
                                        undef))]
                                1)))
                        (K AE.normal
                          (tmps 45
                            [(0, Value.slice (some { block := 0, off := 0, spot := sp : Addr }) n k),
                              (3, Value.slice (some { block := 1, off := 0, spot := so : Addr }) m c),
                              (4, Value.int IntKind.i64 (↑i : Int)),
                              (5, Value.int IntKind.i64 (wr IntKind.i64 ((↑j : Int) - 1)))])
                          (hp [Blk.cells fs 1 own2, Blk.cells cs 1 true]))
                        (K (AE.exit 2)
                          (tmps 45
                            [(0, Value.slice (some { block := 0, off := 0, spot := sp : Addr }) n k),
                              (3, Value.slice (some { block := 1, off := 0, spot := so : Addr }) m c),
                              (4, Value.int IntKind.i64 (↑i : Int)), (5, Value.int IntKind.i64 (↑j : Int))])
                          (hp [Blk.cells fs 1 own2, Blk.cells cs 1 true])))))))))))
  (K (AE.exit 2)
    (tmps 45
      [(0, Value.slice (some { block := 0, off := 0, spot := sp : Addr }) n k),
        (3, Value.slice (some { block := 1, off := 0, spot := so : Addr }) m c), (4, Value.int IntKind.i64 (↑i : Int)),
        (5, Value.int IntKind.i64 (↑j : Int))])
    (hp [Blk.cells fs 1 own2, Blk.cells cs 1 true]))) := by kernel_rfl

structure PosJ (key : Nat → Int) (L : List Nat) (v j : Nat) : Prop where
  le : j ≤ L.length
  lo : ∀ y ∈ L.take j, key y ≤ key v
  up : ∀ y ∈ L.drop j, key v < key y
noncomputable def cut327i (sp so : Option Nat) (n k m c i : Nat) (fs : List Value) (L : List Nat) (own2 : Bool) : CutE where
  β := Nat
  p := [0,0,1,0,0,1,0,0,1,0,1,1]
  t := fun _ => T327i sp so n k m c i m
  h := fun _ => hp (hO fs own2 (pC L))
  Q := fun _ K => LtN i n ∧ ∀ j, PosJ (rkAt fs) L i j → K (.exit 2) (T327i sp so n k m c i j) (hp (hO fs own2 (pC L)))

theorem r327o (sp so : Option Nat) (n k m c i : Nat) (fs : List Value) (L : List Nat) (own2 : Bool) (K : Post) :
  roundX Try.prog S327 (gcLKX (at0 []) (at0 []) 1 (cutE [cut327i sp so n k m c i fs L own2])) F327 body327 1 [] [] [] [] [0,3,4] [0,0,1,0,1,1] (T327o sp so n k m c i) (hp (hO fs own2 (pC L))) K = (
Alt (ltI (↑i : Int) (↑n : Int))
  (FlatD [] (hp [Blk.cells fs 1 own2, Blk.cells (pC L) 1 true]) ∧
    ∃ (b : Nat),
      tmps 45
            [(0, Value.slice (some { block := 0, off := 0, spot := sp : Addr }) n k),
              (3, Value.slice (some { block := 1, off := 0, spot := so : Addr }) m c),
              (4, Value.int IntKind.i64 (↑i : Int)), (5, Value.int IntKind.i64 (↑m : Int))] =
          tmps 45
            [(0, Value.slice (some { block := 0, off := 0, spot := sp : Addr }) n k),
              (3, Value.slice (some { block := 1, off := 0, spot := so : Addr }) m c),
              (4, Value.int IntKind.i64 (↑i : Int)), (5, Value.int IntKind.i64 (↑m : Int))] ∧
        hp [Blk.cells fs 1 own2, Blk.cells (pC L) 1 true] = hp [Blk.cells fs 1 own2, Blk.cells (pC L) 1 true] ∧
          LtN i n ∧
            ∀ (j : Nat),
              PosJ (rkAt fs) L i j →
                Need (leI (↑j : Int) (↑c : Int))
                  (Need (leN (0 + ((↑j : Int).toNat - 0) * 1) (pC L).length)
                    (Need (leN (((↑j : Int).toNat - 0) * 8) 1099511627776)
                      (Need (leN ((↑j : Int).toNat - 0) 1099511627776)
                        (Need
                          (leN (0 + ((↑j : Int).toNat - 0) * 1)
                            (List.take (((↑j : Int).toNat - 0) * 1) (List.drop 0 (pC L))).length)
                          (Need (leN (((↑j : Int).toNat - 0 + 1) * 8) 1099511627776)
                            (Need (leN ((↑j : Int).toNat - 0 + 1) 1099511627776)
                              (Need (leI (↑j : Int) (↑m : Int))
                                (Need (leN (0 + (↑j : Int).toNat * 1 + (m - (↑j : Int).toNat) * 1) (pC L).length)
                                  (Need
                                    (leN (0 + ((↑j : Int).toNat - 0 + 1) * 1)
                                      (List.take (((↑j : Int).toNat - 0) * 1)
                                            (List.drop 0
                                              (List.take (((↑j : Int).toNat - 0) * 1) (List.drop 0 (pC L)))) ++
                                          [Value.int IntKind.i64 (↑i : Int)]).length)
                                    (Need (leN (((↑j : Int).toNat - 0 + 1 + (m - (↑j : Int).toNat)) * 8) 1099511627776)
                                      (Need (leN ((↑j : Int).toNat - 0 + 1 + (m - (↑j : Int).toNat)) 1099511627776)
                                        (Need
                                          ((List.take ((m - (↑j : Int).toNat) * 1)
                                                (List.drop (0 + (↑j : Int).toNat * 1) (pC L))).all
                                            oneV)
                                          (Need (leI (↑j : Int) (↑m : Int))
                                            (Need
                                              (beqV 64
                                                (Value.slice
                                                  (some
                                                    { block := 1, off := 0 + (↑j : Int).toNat * 1,
                                                      spot := bif fullS so then some 3 else so : Addr })
                                                  (m - (↑j : Int).toNat) (c - (↑j : Int).toNat))
                                                (Value.slice
                                                  (some
                                                    { block := 1, off := 0 + (↑j : Int).toNat * 1,
                                                      spot := bif fullS so then some 3 else so : Addr })
                                                  (m - (↑j : Int).toNat) (c - (↑j : Int).toNat)))
                                              (Need (leI (↑j : Int) (↑m : Int))
                                                (Need
                                                  (beqV 64
                                                    (Value.slice
                                                      (some
                                                        { block := 1, off := 0 + (↑j : Int).toNat * 1,
                                                          spot := bif fullS so then some 3 else so : Addr })
                                                      (m - (↑j : Int).toNat) (c - (↑j : Int).toNat))
                                                    (Value.slice
                                                      (some
                                                        { block := 1, off := 0 + (↑j : Int).toNat * 1,
                                                          spot := bif fullS so then some 3 else so : Addr })
                                                      (m - (↑j : Int).toNat) (c - (↑j : Int).toNat)))
                                                  (Need
                                                    (beqV 64 (Value.int IntKind.i64 (↑j : Int))
                                                      (Value.int IntKind.i64 (↑j : Int)))
                                                    (Need
                                                      (beqV 64 (Value.int IntKind.i64 (↑j : Int))
                                                        (Value.int IntKind.i64 (↑j : Int)))
                                                      (Need
                                                        (beqV 64
                                                          (Value.slice
                                                            (some { block := 1, off := 0, spot := so : Addr }) m c)
                                                          (Value.slice
                                                            (some { block := 1, off := 0, spot := so : Addr }) m c))
                                                        (Need
                                                          (beqV 64
                                                            (Value.slice
                                                              (some { block := 1, off := 0, spot := so : Addr }) m c)
                                                            (Value.slice
                                                              (some { block := 1, off := 0, spot := so : Addr }) m c))
                                                          (Need
                                                            (beqV 64 (Value.int IntKind.i64 (↑i : Int))
                                                              (Value.int IntKind.i64 (↑i : Int)))
                                                            (K AE.normal
                                                              (tmps 45
                                                                [(0,
                                                                    Value.slice
                                                                      (some { block := 0, off := 0, spot := sp : Addr })
                                                                      n k),
                                                                  (3,
                                                                    Value.slice
                                                                      (some
                                                                        { block := 1, off := 0, spot := some 1 : Addr })
                                                                      ((↑j : Int).toNat - 0 + 1 +
                                                                        (m - (↑j : Int).toNat))
                                                                      ((↑j : Int).toNat - 0 + 1 +
                                                                        (m - (↑j : Int).toNat))),
                                                                  (4,
                                                                    Value.int IntKind.i64
                                                                      (wr IntKind.i64 ((↑i : Int) + 1)))])
                                                              (hp
                                                                [Blk.cells fs 1 own2,
                                                                  Blk.cells
                                                                    (List.take (((↑j : Int).toNat - 0 + 1) * 1)
                                                                        (List.drop 0
                                                                          (List.take (((↑j : Int).toNat - 0) * 1)
                                                                              (List.drop 0
                                                                                (List.take (((↑j : Int).toNat - 0) * 1)
                                                                                  (List.drop 0 (pC L)))) ++
                                                                            [Value.int IntKind.i64 (↑i : Int)])) ++
                                                                      List.take ((m - (↑j : Int).toNat) * 1)
                                                                        (List.drop (0 + (↑j : Int).toNat * 1) (pC L)))
                                                                    1 true]))))))))))))))))))))))))
  (K (AE.exit 0) (tmps 45 [(3, Value.slice (some { block := 1, off := 0, spot := so : Addr }) m c)])
    (hp [Blk.cells fs 1 own2, Blk.cells (pC L) 1 true]))) := by kernel_rfl

noncomputable def T327iz (sp : Option Nat) (n k i : Nat) : List Value := tmps 45 [(0, .slice (some ⟨0,0,sp⟩) n k), (3, .slice none 0 0), (4, .int .i64 i), (5, .int .i64 0)]

theorem r327iz (sp : Option Nat) (n k i : Nat) (fs : List Value) (own2 : Bool) (K : Post) :
  roundX Try.prog S327 noLoop F327 body327 1 [] [] [] [] [0,3,4,5] [0,0,0,1,0,0,1,0,0,1,0,1,1] (T327iz sp n k i) (hp [.cells fs 1 own2]) K = (
K (AE.exit 2)
  (tmps 45
    [(0, Value.slice (some { block := 0, off := 0, spot := sp : Addr }) n k), (3, Value.slice none 0 0),
      (4, Value.int IntKind.i64 (↑i : Int)), (5, Value.int IntKind.i64 0)])
  (hp [Blk.cells fs 1 own2])) := by kernel_rfl

noncomputable def cut327iz (sp : Option Nat) (n k i : Nat) (fs : List Value) (own2 : Bool) : CutE where
  β := Nat
  p := [0,0,1,0,0,1,0,0,1,0,1,1]
  t := fun _ => T327iz sp n k i
  h := fun _ => hp [.cells fs 1 own2]
  Q := fun _ K => K (.exit 2) (T327iz sp n k i) (hp [.cells fs 1 own2])

theorem r327oz (sp : Option Nat) (n k i : Nat) (fs : List Value) (own2 : Bool) (K : Post) :
  roundX Try.prog S327 (gcLKX (at0 []) (at0 []) 1 (cutE [cut327iz sp n k i fs own2])) F327 body327 1 [] [] [] [] [0,3,4] [0,0,1,0,1,1] (T327z sp n k i) (hp [.cells fs 1 own2]) K = (
Alt (ltI (↑i : Int) (↑n : Int))
  (FlatD [] (hp [Blk.cells fs 1 own2]) ∧
    ∃ (b : Nat),
      tmps 45
            [(0, Value.slice (some { block := 0, off := 0, spot := sp : Addr }) n k), (3, Value.slice none 0 0),
              (4, Value.int IntKind.i64 (↑i : Int)), (5, Value.int IntKind.i64 0)] =
          tmps 45
            [(0, Value.slice (some { block := 0, off := 0, spot := sp : Addr }) n k), (3, Value.slice none 0 0),
              (4, Value.int IntKind.i64 (↑i : Int)), (5, Value.int IntKind.i64 0)] ∧
        hp [Blk.cells fs 1 own2] = hp [Blk.cells fs 1 own2] ∧
          Need (beqV 64 (Value.int IntKind.i64 (↑i : Int)) (Value.int IntKind.i64 (↑i : Int)))
            (K AE.normal
              (tmps 45
                [(0, Value.slice (some { block := 0, off := 0, spot := sp : Addr }) n k),
                  (3, Value.slice (some { block := 1, off := 0, spot := some 1 : Addr }) 1 1),
                  (4, Value.int IntKind.i64 (wr IntKind.i64 ((↑i : Int) + 1)))])
              (hp [Blk.cells fs 1 own2, Blk.cells [Value.int IntKind.i64 (↑i : Int)] 1 true])))
  (K (AE.exit 0) (tmps 45 [(3, Value.slice none 0 0)]) (hp [Blk.cells fs 1 own2]))) := by kernel_rfl

noncomputable def cut327o (sp : Option Nat) (n k : Nat) (fs : List Value) (own2 : Bool) : CutE where
  β := Nat
  p := [0,1,0,1,1]
  t := fun _ => T327z sp n k 0
  h := fun _ => hp [.cells fs 1 own2]
  Q := fun _ K => K (.exit 0) (tmps 45 [(3, .slice (some ⟨1,0,some 1⟩) n n)]) (hp (hO fs own2 (pC (piece (rkAt fs) 0 n))))

theorem w327 (sp : Option Nat) (n k : Nat) (fs : List Value) (own2 : Bool) (K : Value → Heap → Prop) :
  funX Try.prog S327 (gcLKX (at0 []) (at0 []) 1 (cutE [cut327o sp n k fs own2])) F327 body327 Try.f27 [] [] [.slice (some ⟨0,0,sp⟩) n k] (hp [.cells fs 1 own2]) K = (
FlatD [] (hp [Blk.cells fs 1 own2]) ∧
  ∃ (b : Nat),
    tmps 45
          [(0, Value.slice (some { block := 0, off := 0, spot := sp : Addr }) n k), (3, Value.slice none 0 0),
            (4, Value.int IntKind.i64 0)] =
        tmps 45
          [(0, Value.slice (some { block := 0, off := 0, spot := sp : Addr }) n k), (3, Value.slice none 0 0),
            (4, Value.int IntKind.i64 0)] ∧
      hp [Blk.cells fs 1 own2] = hp [Blk.cells fs 1 own2] ∧
        K (Value.slice (some { block := 1, off := 0, spot := some 1 : Addr }) n n)
          (hp [Blk.cells fs 1 own2, Blk.cells (pC (piece (rkAt fs) 0 n)) 1 true])) := by kernel_rfl

noncomputable def cut327y (sp : Option Nat) (k : Nat) (fs : List Value) (own2 : Bool) : CutE where
  β := Nat
  p := [0,1,0,1,1]
  t := fun _ => T327z sp 0 k 0
  h := fun _ => hp [.cells fs 1 own2]
  Q := fun _ K => K (.exit 0) (tmps 45 [(3, .slice none 0 0)]) (hp [.cells fs 1 own2])

theorem w327y (sp : Option Nat) (k : Nat) (fs : List Value) (own2 : Bool) (K : Value → Heap → Prop) :
  funX Try.prog S327 (gcLKX (at0 []) (at0 []) 1 (cutE [cut327y sp k fs own2])) F327 body327 Try.f27 [] [] [.slice (some ⟨0,0,sp⟩) 0 k] (hp [.cells fs 1 own2]) K = (
FlatD [] (hp [Blk.cells fs 1 own2]) ∧
  ∃ (b : Nat),
    tmps 45
          [(0, Value.slice (some { block := 0, off := 0, spot := sp : Addr }) 0 k), (3, Value.slice none 0 0),
            (4, Value.int IntKind.i64 0)] =
        tmps 45
          [(0, Value.slice (some { block := 0, off := 0, spot := sp : Addr }) 0 k), (3, Value.slice none 0 0),
            (4, Value.int IntKind.i64 0)] ∧
      hp [Blk.cells fs 1 own2] = hp [Blk.cells fs 1 own2] ∧ K (Value.slice none 0 0) (hp [Blk.cells fs 1 own2])) := by kernel_rfl

noncomputable def T318 (sa sb : Option Nat) (n ka kb i : Nat) : List Value := tmps 26 [(0, .slice (some ⟨0,0,sa⟩) n ka), (1, .slice (some ⟨1,0,sb⟩) n kb), (5, .int .i64 i)]

theorem r318 (sa sb : Option Nat) (n ka kb i : Nat) (L : List Nat) (oa ob : Bool) (K : Post) :
  roundX Try.prog S0 noLoop F318 body318 2 [] [] [] [] [0,1,5] [0,0,1,0,1,1] (T318 sa sb n ka kb i) (hp [.cells (pC L) 1 oa, .cells (pC L) 1 ob]) K = (
Alt (ltI (↑i : Int) (↑n : Int))
  (Need (ltI (↑i : Int) (↑n : Int))
    (Need (isInt IntKind.i64 ((getO (pC L) (0 + (↑i : Int).toNat * 1)).getD undef))
      (Need (ltI (↑i : Int) (↑n : Int))
        (Need (isInt IntKind.i64 ((getO (pC L) (0 + (↑i : Int).toNat * 1)).getD undef))
          (Alt
            (!eqI (intV ((getO (pC L) (0 + (↑i : Int).toNat * 1)).getD undef))
                (intV ((getO (pC L) (0 + (↑i : Int).toNat * 1)).getD undef)))
            (K AE.ret (tmps 26 [(4, Value.bool false)]) (hp [Blk.cells (pC L) 1 oa, Blk.cells (pC L) 1 ob]))
            (K AE.normal
              (tmps 26
                [(0, Value.slice (some { block := 0, off := 0, spot := sa : Addr }) n ka),
                  (1, Value.slice (some { block := 1, off := 0, spot := sb : Addr }) n kb),
                  (5, Value.int IntKind.i64 (wr IntKind.i64 ((↑i : Int) + 1)))])
              (hp [Blk.cells (pC L) 1 oa, Blk.cells (pC L) 1 ob])))))))
  (K (AE.exit 0) (tmps 26 []) (hp [Blk.cells (pC L) 1 oa, Blk.cells (pC L) 1 ob]))) := by kernel_rfl

noncomputable def cut318 (sa sb : Option Nat) (n ka kb : Nat) (L : List Nat) (oa ob : Bool) : CutE where
  β := Nat
  p := [0,1,0,1,1]
  t := fun _ => T318 sa sb n ka kb 0
  h := fun _ => hp [.cells (pC L) 1 oa, .cells (pC L) 1 ob]
  Q := fun _ K => K (.exit 0) (tmps 26 []) (hp [.cells (pC L) 1 oa, .cells (pC L) 1 ob])

theorem w318 (sa sb : Option Nat) (n ka kb : Nat) (L : List Nat) (oa ob : Bool) (K : Value → Heap → Prop) :
  funX Try.prog S0 (gcLKX (at0 []) (at0 []) 2 (cutE [cut318 sa sb n ka kb L oa ob])) F318 body318 Try.f18 [] [] [.slice (some ⟨0,0,sa⟩) n ka, .slice (some ⟨1,0,sb⟩) n kb] (hp [.cells (pC L) 1 oa, .cells (pC L) 1 ob]) K = (
Alt (!eqI (↑n : Int) (↑n : Int)) (K (Value.bool false) (hp [Blk.cells (pC L) 1 oa, Blk.cells (pC L) 1 ob]))
  (FlatD [] (hp [Blk.cells (pC L) 1 oa, Blk.cells (pC L) 1 ob]) ∧
    ∃ (b : Nat),
      tmps 26
            [(0, Value.slice (some { block := 0, off := 0, spot := sa : Addr }) n ka),
              (1, Value.slice (some { block := 1, off := 0, spot := sb : Addr }) n kb), (5, Value.int IntKind.i64 0)] =
          tmps 26
            [(0, Value.slice (some { block := 0, off := 0, spot := sa : Addr }) n ka),
              (1, Value.slice (some { block := 1, off := 0, spot := sb : Addr }) n kb), (5, Value.int IntKind.i64 0)] ∧
        hp [Blk.cells (pC L) 1 oa, Blk.cells (pC L) 1 ob] = hp [Blk.cells (pC L) 1 oa, Blk.cells (pC L) 1 ob] ∧
          K (Value.bool true) (hp [Blk.cells (pC L) 1 oa, Blk.cells (pC L) 1 ob]))) := by kernel_rfl

noncomputable def T318z (sa : Option Nat) (ka : Nat) : List Value := tmps 26 [(0, .slice (some ⟨0,0,sa⟩) 0 ka), (1, .slice none 0 0), (5, .int .i64 0)]

theorem r318z (sa : Option Nat) (ka : Nat) (cs : List Value) (oa : Bool) (K : Post) :
  roundX Try.prog S0 noLoop F318 body318 1 [] [] [] [] [0,1,5] [0,0,1,0,1,1] (T318z sa ka) (hp [.cells cs 1 oa]) K = (
K (AE.exit 0) (tmps 26 []) (hp [Blk.cells cs 1 oa])) := by kernel_rfl

noncomputable def cut318z (sa : Option Nat) (ka : Nat) (cs : List Value) (oa : Bool) : CutE where
  β := Nat
  p := [0,1,0,1,1]
  t := fun _ => T318z sa ka
  h := fun _ => hp [.cells cs 1 oa]
  Q := fun _ K => K (.exit 0) (tmps 26 []) (hp [.cells cs 1 oa])

theorem w318z (sa : Option Nat) (ka : Nat) (cs : List Value) (oa : Bool) (K : Value → Heap → Prop) :
  funX Try.prog S0 (gcLKX (at0 []) (at0 []) 1 (cutE [cut318z sa ka cs oa])) F318 body318 Try.f18 [] [] [.slice (some ⟨0,0,sa⟩) 0 ka, .slice none 0 0] (hp [.cells cs 1 oa]) K = (
FlatD [] (hp [Blk.cells cs 1 oa]) ∧
  ∃ (b : Nat),
    tmps 26
          [(0, Value.slice (some { block := 0, off := 0, spot := sa : Addr }) 0 ka), (1, Value.slice none 0 0),
            (5, Value.int IntKind.i64 0)] =
        tmps 26
          [(0, Value.slice (some { block := 0, off := 0, spot := sa : Addr }) 0 ka), (1, Value.slice none 0 0),
            (5, Value.int IntKind.i64 0)] ∧
      hp [Blk.cells cs 1 oa] = hp [Blk.cells cs 1 oa] ∧ K (Value.bool true) (hp [Blk.cells cs 1 oa])) := by kernel_rfl

end Go.Proofs.Ytglfkchcmjmmlaa

namespace Go.Proofs.Ytglfkchcmjmmlaa
open Go.RowKit Go.Proofs.Ytglfkchcmjmmlaa.AM
set_option maxRecDepth 100000
set_option maxHeartbeats 4000000
structure N60 (n : Nat) : Prop where
  le : n ≤ 60
structure N1 (n : Nat) : Prop where
  le : n ≤ 60
  ge : 1 ≤ n
theorem fv_at {fs : List Value} {n x : Nat} (h : IsFv fs n) (hx : x < n) : ∃ a : Nat, getO fs x = some (.float .f64 a) ∧ a ≤ 18446744073709551615 ∧ rkAt fs x = rkF a := by
  obtain ⟨l, rfl, hn, ok⟩ := h
  have e : getO (l.map (Value.float .f64)) x = some (.float .f64 (l[x]'(by omega))) := by rw [getO_eq, List.getElem?_map, List.getElem?_eq_getElem (by omega)]; rfl
  exact ⟨l[x]'(by omega), e, ok _ (List.getElem_mem _), by unfold rkAt; rw [e]; rfl⟩
theorem ahead_says (hmix : Try.prog.follows .mixedOrders = true) : aheadC.Holds Try.prog 45 := flC_of fun xs h => by
  obtain ⟨a, b, rfl, ha, hb⟩ := okFF_eq h
  have hF : FlatD [] (hp []) := FlatD.hp trivial
  have s : Sure Try.prog S345 := ⟨hmix, plain, bookOf_ok (l := [(24, lessC)]) ⟨rless_says hmix, trivial⟩⟩
  refine s.funX F345 body345 [] [] Try.func45 rfl noLoops ?_
  rw [w345]
  simp only [flt0, flt1, fEq_self, leN_iff.2 ha, leN_iff.2 hb, Bool.not_not]
  have ka := fKey_in a ha
  have kb := fKey_in b hb
  have fin : ∀ c : Bool, c = decide (rkF a < rkF b) → FlatD [] (hp []) ∧ isJunk (Value.bool c) = false ∧ Value.bool c = Value.bool (decide (rkF a < rkF b)) ∧ True := fun c h => ⟨hF, rfl, by rw [h], trivial⟩
  cases na : fNan a with
  | true =>
    have ra : rkF a = 18446744073709551616 := by unfold rkF; rw [na, if_pos rfl]
    rw [alt_t, Bool.not_true, alt_f]
    refine fin false ?_
    rw [eq_comm, decide_eq_false_iff_not, ra]
    unfold rkF; split <;> omega
  | false =>
    have ra : rkF a = -fKey a := by unfold rkF; rw [na, if_neg (by simp)]
    rw [alt_f]
    cases nb : fNan b with
    | true =>
      have rb : rkF b = 18446744073709551616 := by unfold rkF; rw [nb, if_pos rfl]
      rw [alt_t, Bool.not_false, alt_t]
      refine fin true ?_
      rw [eq_comm, decide_eq_true_iff, ra, rb]; omega
    | false =>
      have rb : rkF b = -fKey b := by unfold rkF; rw [nb, if_neg (by simp)]
      rw [alt_f]
      refine ⟨trivial, Need_iff.2 ⟨rfl, Need_iff.2 ⟨rfl, trivial⟩⟩, fin _ ?_⟩
      rw [ltI_eq, Bool.eq_iff_iff, decide_eq_true_iff, decide_eq_true_iff, ra, rb]; omega
noncomputable def rankC : Ctr where
  pre := fun args blks => match args, blks with
    | [.slice (some ⟨0,0,_⟩) n _], [.cells fs 1 _] => IsFv fs n ∧ N60 n
    | _, _ => False
  val := fun args blks => match args, blks with
    | [.slice (some ⟨0,0,_⟩) n _], [.cells fs 1 _] => .slice (some ⟨1,0,some 0⟩) n n
    | _, _ => undef
  new := fun args blks => match args, blks with
    | [.slice (some ⟨0,0,_⟩) n _], [.cells fs 1 _] => [.cells (pC (piece (rkAt fs) 0 n)) 1 true]
    | _, _ => []
theorem rank_loop (hm : Try.prog.follows .mixedOrders = true) (n : Nat) (sp : Option Nat) (k : Nat) (fs : List Value) (own2 : Bool) (hv : FlatL fs) (h60 : n ≤ 60) (K : Post) (hK : K (.exit 0) (tmps 22 [(1, .pointer (some ⟨1,0,none⟩)), (3, .slice (some ⟨2,0,some 0⟩) n n)]) (hp (hR (pC (List.range n)) sp n k fs own2))) :
    ∀ (t i : Nat), i + t = n → LSays Try.prog 1 (sub body314 [0,0,1,0,1,1]) (T314 (some 0) n n i) (hp (hR (pC (List.range i ++ List.replicate (n - i) 0)) sp n k fs own2)) K := by
  have hF : ∀ L : List Nat, FlatD [1] (hp (hR (pC L) sp n k fs own2)) := fun L => FlatD.hp ⟨hv, rfl, pC_flat L, trivial⟩
  intro t
  induction t with
  | zero =>
    intro i hi
    refine (sure314 hm).roundX F314 noLoops [1] [] [1] [] [1,3,9,10] ?_
    rw [r314, ltF (show ¬ (i : Int) < (n : Int) by omega), alt_f, show n - i = 0 by omega, show i = n by omega, List.replicate_zero, List.append_nil]
    exact ⟨hF _, hK⟩
  | succ t ih =>
    intro i hi
    have e : List.range i ++ List.replicate (n - i) 0 = List.range i ++ 0 :: List.replicate (n - (i + 1)) 0 := by rw [show n - i = (n - (i + 1)) + 1 by omega, List.replicate_succ]
    have hs : (pC (List.range i ++ List.replicate (n - i) 0)).set i (.int .i64 (i : Int)) = pC (List.range (i + 1) ++ List.replicate (n - (i + 1)) 0) := by
      rw [pC_set, e]
      have := set_mid (List.range i) (List.replicate (n - (i + 1)) 0) 0 i
      rw [List.length_range] at this
      rw [this, List.range_succ, List.append_assoc]; rfl
    refine (sure314 hm).roundX F314 noLoops [1] [] [1] [] [1,3,9,10] ?_
    rw [r314, ltT (show (i : Int) < (n : Int) by omega), wra1 i (by omega), setAll1, Int.toNat_natCast, Nat.zero_add, Nat.mul_one, hs, pC_len]
    have hle : leN (i + 1) (List.range i ++ List.replicate (n - i) 0).length = true := leNT (by rw [List.length_append, List.length_range, List.length_replicate]; omega)
    rw [hle]
    simp only [need_t, alt_t]
    exact ⟨hF _, ih (i + 1) (by omega)⟩
theorem repl1 (n : Nat) (v : Value) : repl n [v] = List.replicate n v := by
  unfold repl
  induction n with
  | zero => rfl
  | succ n ih => rw [List.replicate_succ, List.flatten_cons, ih, List.replicate_succ]; rfl
theorem rank_says (hm : Try.prog.follows .mixedOrders = true) : rankC.Holds Try.prog 14 := by
  intro args blks hf hpre
  simp only [rankC] at hpre ⊢
  split at hpre
  · rename_i sp n k fs own2
    obtain ⟨hv, h60⟩ := hpre
    have h60 := h60.le
    refine ⟨⟨pC_flat _, trivial⟩, ?_⟩
    have hL : Loops Try.prog body314 1 (cutE [cut314 n sp k fs own2]) := Loops.noneE.moreE _ fun x K hQ => by
      show LSays Try.prog 1 (sub body314 [0,0,1,0,1,1]) (T314 (some 0) n n (0 : Nat)) (AM.hp (hR (pC (List.replicate n 0)) sp n k fs own2)) K
      have := rank_loop hm n sp k fs own2 hv.flat h60 K hQ n 0 (by omega)
      rw [Nat.sub_zero, show List.range 0 = [] from rfl, List.nil_append] at this
      exact this
    refine (sure314 hm).funX F314 body314 [] [] Try.func14 rfl (hL.gcX (at0 [1]) (at0 [])) ?_
    rw [w314, Int.toNat_natCast, repl1]
    have hr : List.replicate n (Value.int .i64 0) = pC (List.replicate n 0) := by unfold pC; rw [List.map_replicate]; rfl
    rw [hr, leT (show (n : Int) ≤ (n : Int) by omega), leT (show (n : Int) ≤ 1099511627776 by omega), leT (show (n : Int) * 8 ≤ 1099511627776 by omega)]
    simp only [need_t]
    exact ⟨FlatD.hp ⟨hv.flat, rfl, pC_flat _, trivial⟩, 0, (by first | trivial | rfl), (by first | trivial | rfl), ⟨pC_flat _, rfl, hv.flat, trivial⟩, ⟨(by first | trivial | rfl), hv, ⟨rfl, h60, Nat.le_refl _, rfl⟩⟩, FlatD.hp ⟨hv.flat, pC_flat _, trivial⟩, rfl, (by first | trivial | rfl), (by first | trivial | rfl)⟩
  · exact hpre.elim
theorem sure327 (hm : Try.prog.follows .mixedOrders = true) : Sure Try.prog S327 := ⟨hm, plain, bookOf_ok (l := [(45, aheadC)]) ⟨ahead_says hm, trivial⟩⟩
theorem in327 (hm : Try.prog.follows .mixedOrders = true) (sp so : Option Nat) (n k m c i : Nat) (fs : List Value) (L : List Nat) (own2 : Bool) (hv : IsFv fs n) (hi : i < n) (h60 : n ≤ 60) (hL : L.length = m) (hA : Asc (rkAt fs) L) (hn : ∀ y ∈ L, y < n) (hm60 : m ≤ 60) (K : Post) (hK : ∀ j, PosJ (rkAt fs) L i j → K (.exit 2) (T327i sp so n k m c i j) (hp (hO fs own2 (pC L)))) :
    ∀ (t : Nat) (A B : List Nat), A.length = t → L = A ++ B → (∀ y ∈ B, rkAt fs i < rkAt fs y) → LSays Try.prog 1 (sub body327 [0,0,0,1,0,0,1,0,0,1,0,1,1]) (T327i sp so n k m c i A.length) (hp (hO fs own2 (pC L))) K := by
  have hF : FlatD [] (hp (hO fs own2 (pC L))) := FlatD.hp ⟨hv.flat, pC_flat L, trivial⟩
  obtain ⟨a, ga, ha, ra⟩ := fv_at hv hi
  intro t
  induction t with
  | zero =>
    intro A B hAl hLe hB
    obtain rfl := List.eq_nil_of_length_eq_zero hAl
    refine (sure327 hm).roundX F327 noLoops [] [] [] [] [0,3,4,5] ?_
    rw [r327i, ltF (show ¬ (0 : Int) < (([] : List Nat).length : Int) by simp), alt_f]
    rw [List.nil_append] at hLe
    exact ⟨hF, hK 0 ⟨Nat.zero_le _, fun y hy => by simp at hy, fun y hy => hB y (by rw [← hLe]; simpa using hy)⟩⟩
  | succ t ih =>
    intro A B hAl hLe hB
    obtain ⟨S, y, rfl⟩ := snoc_of (show 0 < A.length by omega)
    have hSl : S.length = t := by simpa using hAl
    have hLl : t + 1 ≤ m := by rw [← hL, hLe]; simp; omega
    have hy : y ∈ L := by rw [hLe]; simp
    have hyn := hn y hy
    obtain ⟨b, gb, hb, rb⟩ := fv_at hv hyn
    have d1 : L.getD t 0 = y := by
      rw [hLe, List.append_assoc, ← hSl]
      exact getD_mid S B y
    have g1 := pC_get (L := L) (i := t) (by omega)
    rw [d1] at g1
    refine (sure327 hm).roundX F327 noLoops [] [] [] [] [0,3,4,5] ?_
    rw [hAl, r327i]
    simp only [wrs1 (t + 1) (by omega) (by omega), Nat.add_sub_cancel, Int.toNat_natCast, Nat.zero_add, Nat.mul_one, g1, ga, gb, Option.getD_some, isInt, intV, kindEq, isFlt_k, fltV_f, flt0, flt1, leN_iff.2 ha, leN_iff.2 hb, ltT (show (0 : Int) < ((t + 1 : Nat) : Int) by omega), ltT (show (i : Int) < (n : Int) by omega), ltT (show (t : Int) < (m : Int) by omega), ltT (show (y : Int) < (n : Int) by omega), le0, need_t, alt_t]
    refine ⟨trivial, trivial, ?_⟩
    by_cases hk : rkAt fs i < rkAt fs y
    · rw [decide_eq_true (show rkF a < rkF b by rw [← ra, ← rb]; exact hk), alt_t]
      have := ih S (y :: B) hSl (by rw [hLe]; simp) (fun z hz => by
        rcases List.mem_cons.1 hz with rfl | hz
        · exact hk
        · exact hB z hz)
      rw [hSl] at this
      exact ⟨hF, this⟩
    · rw [decide_eq_false (show ¬ rkF a < rkF b by rw [← ra, ← rb]; exact hk), alt_f]
      refine ⟨hF, hK (t + 1) ⟨by omega, fun z hz => ?_, fun z hz => ?_⟩⟩
      · have e : L.take (t + 1) = S ++ [y] := by
          have : (S ++ [y]).length = t + 1 := hAl
          rw [hLe, ← this, List.take_left]
        rw [e] at hz
        rcases List.mem_append.1 hz with hz | hz
        · rw [hLe] at hA
          have := (asc_app.1 (asc_app.1 hA).1).2.2 z hz y (by simp)
          unfold ltK at this; omega
        · simp at hz; subst hz; omega
      · have e : L.drop (t + 1) = B := by
          have : (S ++ [y]).length = t + 1 := hAl
          rw [hLe, ← this, List.drop_left]
        rw [e] at hz
        exact hB z hz
theorem put_eq {key : Nat → Int} {i j : Nat} (h : PosJ key (piece key 0 i) i j) : (piece key 0 i).take j ++ i :: (piece key 0 i).drop j = piece key 0 (i + 1) := by
  have hlt : ∀ y ∈ piece key 0 i, y < i := fun y hy => by rw [piece_mem] at hy; omega
  refine (srtK_eq ?_ (asc_ins (by rw [List.take_append_drop]; exact piece_asc key 0 i) (fun y hy => ?_) (fun y hy => .inl (h.up y hy)))).symm
  · have h1 : ((piece key 0 i).take j ++ i :: (piece key 0 i).drop j).Perm (i :: ((piece key 0 i).take j ++ (piece key 0 i).drop j)) := List.perm_middle
    rw [List.take_append_drop] at h1
    have h2 : (piece key 0 i).Perm (List.range' 0 i) := srtK_perm key _
    rw [← List.range'_append_1 (s := 0) (m := i) (n := 1)]
    refine h1.trans (((List.perm_append_singleton i (piece key 0 i)).symm).trans ?_)
    rw [Nat.zero_add]
    exact h2.append_right _
  · have := h.lo y hy
    have := hlt y (List.mem_of_mem_take hy)
    unfold ltK; omega
theorem flatO (fs : List Value) (n : Nat) (hv : IsFv fs n) (own2 : Bool) (L : List Nat) : FlatD [] (hp (hO fs own2 (pC L))) := FlatD.hp ⟨hv.flat, pC_flat L, trivial⟩
theorem out327 (hm : Try.prog.follows .mixedOrders = true) (sp : Option Nat) (n k : Nat) (fs : List Value) (own2 : Bool) (hv : IsFv fs n) (h60 : n ≤ 60) (K : Post) (hK : K (.exit 0) (tmps 45 [(3, .slice (some ⟨1,0,some 1⟩) n n)]) (hp (hO fs own2 (pC (piece (rkAt fs) 0 n))))) :
    ∀ (t i : Nat), i + t = n → LSays Try.prog 1 (sub body327 [0,0,1,0,1,1]) (T327o sp (some 1) n k i i i) (hp (hO fs own2 (pC (piece (rkAt fs) 0 i)))) K := by
  intro t
  induction t with
  | zero =>
    intro i hi
    refine (sure327 hm).roundX F327 (((Loops.noneE (P := Try.prog) (root := body327) (k := 1)).moreE (cut327i sp (some 1) n k i i i fs (piece (rkAt fs) 0 i) own2) fun x K hQ => ?_).gcX (at0 []) (at0 [])) [] [] [] [] [0,3,4] ?_
    · have := hQ.1.lt; omega
    rw [r327o, ltF (show ¬ (i : Int) < (n : Int) by omega), alt_f, show i = n by omega]
    exact ⟨flatO fs n hv own2 _, hK⟩
  | succ t ih =>
    intro i hi
    have hlen : (piece (rkAt fs) 0 i).length = i := piece_len _ _ _
    refine (sure327 hm).roundX F327 (((Loops.noneE (P := Try.prog) (root := body327) (k := 1)).moreE (cut327i sp (some 1) n k i i i fs (piece (rkAt fs) 0 i) own2) fun x K hQ => ?_).gcX (at0 []) (at0 [])) [] [] [] [] [0,3,4] ?_
    · show LSays Try.prog 1 (sub body327 [0,0,0,1,0,0,1,0,0,1,0,1,1]) (T327i sp (some 1) n k i i i i) (hp (hO fs own2 (pC (piece (rkAt fs) 0 i)))) K
      have := in327 hm sp (some 1) n k i i i fs (piece (rkAt fs) 0 i) own2 hv (by omega) h60 hlen (piece_asc _ _ _) (fun y hy => by rw [piece_mem] at hy; omega) (by omega) K hQ.2 i (piece (rkAt fs) 0 i) [] hlen (by simp) (fun y hy => by cases hy)
      rw [hlen] at this
      exact this
    rw [r327o, ltT (show (i : Int) < (n : Int) by omega), alt_t, wra1 i (by omega)]
    refine ⟨flatO fs n hv own2 _, 0, rfl, rfl, ⟨by omega⟩, fun j hj => ?_⟩
    have hjl := hj.le
    rw [hlen] at hjl
    have hc : List.take (j + 1) ((pC (piece (rkAt fs) 0 i)).take j ++ [Value.int .i64 (i : Int)]) ++ List.take (i - j) ((pC (piece (rkAt fs) 0 i)).drop j) = pC (piece (rkAt fs) 0 (i + 1)) := by
      have ht : List.take (j + 1) ((pC (piece (rkAt fs) 0 i)).take j ++ [Value.int .i64 (i : Int)]) = (pC (piece (rkAt fs) 0 i)).take j ++ [Value.int .i64 (i : Int)] := List.take_of_length_le (by rw [List.length_append, List.length_take, pC_len, hlen, Nat.min_eq_left hjl]; exact Nat.le_refl _)
      have hd : List.take (i - j) ((pC (piece (rkAt fs) 0 i)).drop j) = (pC (piece (rkAt fs) 0 i)).drop j := List.take_of_length_le (by rw [List.length_drop, pC_len, hlen]; exact Nat.le_refl _)
      rw [ht, hd, ← put_eq hj]
      unfold pC
      rw [List.map_append, List.map_cons, List.map_take, List.map_drop, List.append_assoc]; rfl
    have hnj : ((pC (piece (rkAt fs) 0 i)).take j).take j = (pC (piece (rkAt fs) 0 i)).take j := by rw [List.take_take, Nat.min_self]
    simp only [Int.toNat_natCast, Nat.sub_zero, Nat.mul_one, Nat.zero_add, List.drop_zero, hnj, hc, beqV_int, beqV_sl, need_t, pC_len, hlen, List.length_take, List.length_append, List.length_drop, show j + 1 + (i - j) = i + 1 by omega, Nat.min_eq_left hjl, List.length_cons, List.length_nil, leT (show (j : Int) ≤ (i : Int) by omega), leNT (show j ≤ i by omega), leNT (show j * 8 ≤ 1099511627776 by omega), leNT (show j ≤ 1099511627776 by omega), leNT (show (j + 1) * 8 ≤ 1099511627776 by omega), leNT (show j + 1 ≤ 1099511627776 by omega), leNT (show j + (i - j) ≤ i by omega), leNT (show (i + 1) * 8 ≤ 1099511627776 by omega), leNT (show i + 1 ≤ 1099511627776 by omega), leNT (Nat.le_refl j), leNT (Nat.le_refl (j + 1))]
    have hall : (List.take (i - j) (List.drop j (pC (piece (rkAt fs) 0 i)))).all oneV = true := by
      rw [List.all_eq_true]
      intro v hv
      obtain ⟨x, _, rfl⟩ := List.mem_map.1 (List.mem_of_mem_drop (List.mem_of_mem_take hv))
      rfl
    rw [hall]
    simp only [need_t]
    exact ⟨flatO fs n hv own2 _, ih (i + 1) (by omega)⟩
noncomputable def rrankC : Ctr where
  pre := fun args blks => match args, blks with
    | [.slice (some ⟨0,0,_⟩) n _], [.cells fs 1 _] => IsFv fs n ∧ N1 n
    | _, _ => False
  val := fun args blks => match args, blks with
    | [.slice (some ⟨0,0,_⟩) n _], [.cells fs 1 _] => .slice (some ⟨1,0,some 1⟩) n n
    | _, _ => undef
  new := fun args blks => match args, blks with
    | [.slice (some ⟨0,0,_⟩) n _], [.cells fs 1 _] => [.cells (pC (piece (rkAt fs) 0 n)) 1 true]
    | _, _ => []
theorem piece_one (key : Nat → Int) (p : Nat) : piece key p 1 = [p] := by
  unfold piece
  exact srtK_eq (List.Perm.refl _) (List.pairwise_singleton _ _)
theorem rrank_says (hm : Try.prog.follows .mixedOrders = true) : rrankC.Holds Try.prog 27 := by
  intro args blks hf hpre
  simp only [rrankC] at hpre ⊢
  split at hpre
  · rename_i sp n k fs own2
    obtain ⟨hv, hN⟩ := hpre
    have h60 := hN.le
    have h1 := hN.ge
    have hF : FlatD [] (hp [.cells fs 1 own2]) := FlatD.hp ⟨hv.flat, trivial⟩
    refine ⟨⟨pC_flat _, trivial⟩, ?_⟩
    have hL : Loops Try.prog body327 1 (cutE [cut327o sp n k fs own2]) := Loops.noneE.moreE _ fun x K hQ => by
      show LSays Try.prog 1 (sub body327 [0,0,1,0,1,1]) (T327z sp n k (0 : Nat)) (AM.hp [.cells fs 1 own2]) K
      refine (sure327 hm).roundX F327 (((Loops.noneE (P := Try.prog) (root := body327) (k := 1)).moreE (cut327iz sp n k 0 fs own2) fun x K hQ => ?_).gcX (at0 []) (at0 [])) [] [] [] [] [0,3,4] ?_
      · show LSays Try.prog 1 (sub body327 [0,0,0,1,0,0,1,0,0,1,0,1,1]) (T327iz sp n k 0) (AM.hp [.cells fs 1 own2]) K
        refine (sure327 hm).roundX F327 noLoops [] [] [] [] [0,3,4,5] ?_
        rw [r327iz]
        exact ⟨hF, hQ⟩
      rw [r327oz, ltT (show ((0 : Nat) : Int) < (n : Int) by omega), alt_t, beqV_int, need_t, wra1 0 (by omega)]
      have nx := out327 hm sp n k fs own2 hv h60 K hQ (n - 1) 1 (by omega)
      rw [piece_one] at nx
      exact ⟨hF, 0, rfl, rfl, flatO fs n hv own2 [0], nx⟩
    refine (sure327 hm).funX F327 body327 [] [] Try.func27 rfl (hL.gcX (at0 []) (at0 [])) ?_
    rw [w327]
    exact ⟨hF, 0, rfl, rfl, flatO fs n hv own2 _, rfl, (by first | trivial | rfl), (by first | trivial | rfl)⟩
  · exact hpre.elim
noncomputable def rrankZ : Ctr where
  pre := fun args blks => match args, blks with
    | [.slice (some ⟨0,0,_⟩) 0 _], [.cells fs 1 _] => True
    | _, _ => False
  val := fun args blks => .slice none 0 0
  new := fun args blks => []
theorem rrankz_says (hm : Try.prog.follows .mixedOrders = true) : rrankZ.Holds Try.prog 27 := by
  intro args blks hf hpre
  simp only [rrankZ] at hpre ⊢
  split at hpre
  · rename_i sp k fs own2
    have hF : FlatD [] (hp [.cells fs 1 own2]) := FlatD.hp ⟨hf.1, trivial⟩
    refine ⟨trivial, ?_⟩
    have hL : Loops Try.prog body327 1 (cutE [cut327y sp k fs own2]) := Loops.noneE.moreE _ fun x K hQ => by
      show LSays Try.prog 1 (sub body327 [0,0,1,0,1,1]) (T327z sp 0 k (0 : Nat)) (AM.hp [.cells fs 1 own2]) K
      refine (sure327 hm).roundX F327 (((Loops.noneE (P := Try.prog) (root := body327) (k := 1)).moreE (cut327iz sp 0 k 0 fs own2) fun x K hQ => ?_).gcX (at0 []) (at0 [])) [] [] [] [] [0,3,4] ?_
      · show LSays Try.prog 1 (sub body327 [0,0,0,1,0,0,1,0,0,1,0,1,1]) (T327iz sp 0 k 0) (AM.hp [.cells fs 1 own2]) K
        refine (sure327 hm).roundX F327 noLoops [] [] [] [] [0,3,4,5] ?_
        rw [r327iz]
        exact ⟨hF, hQ⟩
      rw [r327oz, ltF (show ¬ ((0 : Nat) : Int) < ((0 : Nat) : Int) by omega), alt_f]
      exact ⟨hF, hQ⟩
    refine (sure327 hm).funX F327 body327 [] [] Try.func27 rfl (hL.gcX (at0 []) (at0 [])) ?_
    rw [w327y]
    exact ⟨hF, 0, rfl, rfl, hF, rfl, (by first | trivial | rfl), (by first | trivial | rfl)⟩
  · exact hpre.elim
noncomputable def sameP : Ctr where
  pre := fun args blks => match args, blks with
    | [.slice (some ⟨0,0,_⟩) n _, .slice (some ⟨1,0,_⟩) m _], [.cells cs 1 _, .cells ds 1 _] => n = m ∧ cs = ds ∧ IsPl cs n
    | _, _ => False
  val := fun args blks => .bool true
  new := fun args blks => []
theorem sameP_says (hm : Try.prog.follows .mixedOrders = true) : sameP.Holds Try.prog 18 := by
  intro args blks hf hpre
  simp only [sameP] at hpre ⊢
  split at hpre
  · rename_i sa n ka sb m kb cs oa ds ob
    obtain ⟨rfl, rfl, L, rfl, hL, hs⟩ := hpre
    refine ⟨trivial, ?_⟩
    have hF : FlatD [] (hp [.cells (pC L) 1 oa, .cells (pC L) 1 ob]) := FlatD.hp ⟨pC_flat L, pC_flat L, trivial⟩
    have hl : ∀ (K : Post), K (.exit 0) (tmps 26 []) (hp [.cells (pC L) 1 oa, .cells (pC L) 1 ob]) → ∀ (t i : Nat), i + t = n → LSays Try.prog 2 (sub body318 [0,0,1,0,1,1]) (T318 sa sb n ka kb i) (hp [.cells (pC L) 1 oa, .cells (pC L) 1 ob]) K := by
      intro K hK t
      induction t with
      | zero =>
        intro i hi
        refine (sure0 hm).roundX F318 noLoops [] [] [] [] [0,1,5] ?_
        rw [r318, ltF (show ¬ (i : Int) < (n : Int) by omega), alt_f]
        exact ⟨hF, hK⟩
      | succ t ih =>
        intro i hi
        have g := pC_get (L := L) (i := i) (by omega)
        refine (sure0 hm).roundX F318 noLoops [] [] [] [] [0,1,5] ?_
        rw [r318]
        simp only [ltT (show (i : Int) < (n : Int) by omega), wra1 i (by omega), Int.toNat_natCast, Nat.zero_add, Nat.mul_one, g, Option.getD_some, isInt, intV, kindEq, eqT rfl, Bool.not_true, need_t, alt_t, alt_f]
        exact ⟨hF, ih (i + 1) (by omega)⟩
    have hL' : Loops Try.prog body318 2 (cutE [cut318 sa sb n ka kb L oa ob]) := Loops.noneE.moreE _ fun x K hQ => by
      show LSays Try.prog 2 (sub body318 [0,0,1,0,1,1]) (T318 sa sb n ka kb (0 : Nat)) (AM.hp [.cells (pC L) 1 oa, .cells (pC L) 1 ob]) K
      exact hl K hQ n 0 (by omega)
    refine (sure0 hm).funX F318 body318 [] [] Try.func18 rfl (hL'.gcX (at0 []) (at0 [])) ?_
    rw [w318, eqT rfl, Bool.not_true, alt_f]
    exact ⟨hF, 0, rfl, rfl, hF, rfl, (by first | trivial | rfl), (by first | trivial | rfl)⟩
  · exact hpre.elim
noncomputable def sameZ : Ctr where
  pre := fun args blks => match args, blks with
    | [.slice (some ⟨0,0,_⟩) 0 _, .slice none 0 0], [.cells cs 1 _] => True
    | _, _ => False
  val := fun args blks => .bool true
  new := fun args blks => []
theorem sameZ_says (hm : Try.prog.follows .mixedOrders = true) : sameZ.Holds Try.prog 18 := by
  intro args blks hf hpre
  simp only [sameZ] at hpre ⊢
  split at hpre
  · rename_i sa ka cs oa
    refine ⟨trivial, ?_⟩
    have hF : FlatD [] (hp [.cells cs 1 oa]) := FlatD.hp ⟨hf.1, trivial⟩
    have hL' : Loops Try.prog body318 1 (cutE [cut318z sa ka cs oa]) := Loops.noneE.moreE _ fun x K hQ => by
      show LSays Try.prog 1 (sub body318 [0,0,1,0,1,1]) (T318z sa ka) (AM.hp [.cells cs 1 oa]) K
      refine (sure0 hm).roundX F318 noLoops [] [] [] [] [0,1,5] ?_
      rw [r318z]
      exact ⟨hF, hQ⟩
    refine (sure0 hm).funX F318 body318 [] [] Try.func18 rfl (hL'.gcX (at0 []) (at0 [])) ?_
    rw [w318z]
    exact ⟨hF, 0, rfl, rfl, hF, rfl, (by first | trivial | rfl), (by first | trivial | rfl)⟩
  · exact hpre.elim
end Go.Proofs.Ytglfkchcmjmmlaa

namespace Go.Proofs.Ytglfkchcmjmmlaa
open Go.RowKit Go.Proofs.Ytglfkchcmjmmlaa.AM
set_option maxRecDepth 100000
set_option maxHeartbeats 4000000
noncomputable def body308 : Code := (Try.f8.body).getD .skip
def F308 : List Nat → Option (List Nat) := fun p => match p with
  | [1] => some [0]
  | [1, 0, 1] => some [0, 5]
  | [1, 0, 1, 0, 1] => some [2]
  | [1, 1] => some [0]
  | [1, 1, 1] => some [2]
  | _ => none
noncomputable def S308 : Book := bookOf [(3, trueC), (14, rankC), (27, rrankC), (18, sameP)]
noncomputable def S308z : Book := bookOf [(3, trueC), (14, rankC), (27, rrankZ), (18, sameZ)]

theorem w308 (sp : Option Nat) (n k : Nat) (fs : List Value) (own : Bool) (K : Value → Heap → Prop) :
  funX Try.prog S308 noLoop F308 body308 Try.f8 [] [] [.slice (some ⟨0,0,sp⟩) n k] (hp [.cells fs 1 own]) K = (
Alt (ltI 60 (↑n : Int)) (True ∧ True ∧ K (Value.bool true) (hp [Blk.cells fs 1 own]))
  ((FlatL fs ∧ True) ∧
    (IsFv fs n ∧ N60 n) ∧
      (FlatL fs ∧ True) ∧
        (IsFv fs n ∧ N1 n) ∧
          (FlatL (pC (piece (rkAt fs) 0 n)) ∧ FlatL (pC (piece (rkAt fs) 0 n)) ∧ True) ∧
            (n = n ∧ pC (piece (rkAt fs) 0 n) = pC (piece (rkAt fs) 0 n) ∧ IsPl (pC (piece (rkAt fs) 0 n)) n) ∧
              True ∧ True ∧ K (Value.bool true) (hp [Blk.cells fs 1 own]))) := by kernel_rfl

theorem w308z (sp : Option Nat) (k : Nat) (fs : List Value) (own : Bool) (K : Value → Heap → Prop) :
  funX Try.prog S308z noLoop F308 body308 Try.f8 [] [] [.slice (some ⟨0,0,sp⟩) 0 k] (hp [.cells fs 1 own]) K = (
(FlatL fs ∧ True) ∧
  (IsFv fs 0 ∧ N60 0) ∧
    (FlatL fs ∧ True) ∧ True ∧ (FlatL [] ∧ True) ∧ True ∧ True ∧ True ∧ K (Value.bool true) (hp [Blk.cells fs 1 own])) := by kernel_rfl

theorem sure308 (hm : Try.prog.follows .mixedOrders = true) : Sure Try.prog S308 := ⟨hm, plain, bookOf_ok (l := [(3, trueC), (14, rankC), (27, rrankC), (18, sameP)]) ⟨runs_holds hm, rank_says hm, rrank_says hm, sameP_says hm, trivial⟩⟩
theorem sure308z (hm : Try.prog.follows .mixedOrders = true) : Sure Try.prog S308z := ⟨hm, plain, bookOf_ok (l := [(3, trueC), (14, rankC), (27, rrankZ), (18, sameZ)]) ⟨runs_holds hm, rank_says hm, rrankz_says hm, sameZ_says hm, trivial⟩⟩
theorem law308 (hm : Try.prog.follows .mixedOrders = true) (fs : List Value) (n k : Nat) (sp : Option Nat) (hv : IsFv fs n) : FunSays Try.prog 8 [.slice (some ⟨0,0,sp⟩) n k] (hp [.cells fs 1 false]) fun v _ => v = .bool true := by
  have hF : FlatD [] (hp [.cells fs 1 false]) := FlatD.hp ⟨hv.flat, trivial⟩
  by_cases h0 : n = 0
  · subst h0
    refine (sure308z hm).funX F308 body308 [] [] Try.func8 rfl noLoops ?_
    rw [w308z]
    exact ⟨⟨hv.flat, trivial⟩, ⟨hv, ⟨by omega⟩⟩, ⟨hv.flat, trivial⟩, trivial, ⟨⟨fun x hx => by cases hx⟩, trivial⟩, trivial, trivial, trivial, hF, rfl, (by first | trivial | rfl)⟩
  · refine (sure308 hm).funX F308 body308 [] [] Try.func8 rfl noLoops ?_
    rw [w308]
    by_cases h60 : 60 < n
    · rw [ltT (show (60 : Int) < (n : Int) by omega), alt_t]
      exact ⟨trivial, trivial, hF, rfl, (by first | trivial | rfl)⟩
    · rw [ltF (show ¬ (60 : Int) < (n : Int) by omega), alt_f]
      exact ⟨⟨hv.flat, trivial⟩, ⟨hv, ⟨by omega⟩⟩, ⟨hv.flat, trivial⟩, ⟨hv, ⟨by omega, by omega⟩⟩, ⟨pC_flat _, pC_flat _, trivial⟩, ⟨(by first | trivial | rfl), (by first | trivial | rfl), .mk _ rfl (piece_len _ _ _) (by omega)⟩, trivial, trivial, hF, rfl, (by first | trivial | rfl)⟩
def GoodF (c : List Value) : Prop := ∃ a : Nat, c = [.float .f64 a] ∧ a ≤ 18446744073709551615
theorem fv_of {n : Nat} : ∀ (L : List (List Value)), (∀ c ∈ L, c.length = 1 ∧ GoodF c) → n ≤ L.length → IsFv L.flatten n := by
  intro L h hn
  have key : ∀ (L : List (List Value)), (∀ c ∈ L, c.length = 1 ∧ GoodF c) → ∃ l : List Nat, L.flatten = l.map (Value.float .f64) ∧ l.length = L.length ∧ ∀ x ∈ l, x ≤ 18446744073709551615 := by
    intro L
    induction L with
    | nil => intro _; exact ⟨[], rfl, rfl, fun x h => by cases h⟩
    | cons c L ih =>
      intro h
      obtain ⟨l, e1, e2, e3⟩ := ih fun c hc => h c (List.mem_cons_of_mem _ hc)
      obtain ⟨_, a, rfl, ha⟩ := h c List.mem_cons_self
      refine ⟨a :: l, by rw [List.flatten_cons, e1]; rfl, by simp [e2], fun x hx => ?_⟩
      rcases List.mem_cons.1 hx with rfl | hx
      · exact ha
      · exact e3 x hx
  obtain ⟨l, e1, e2, e3⟩ := key L h
  exact ⟨l, e1, by omega, e3⟩
end Go.Proofs.Ytglfkchcmjmmlaa

namespace Go.Proofs.Ytglfkchcmjmmlaa
open Go.RowKit Go.Proofs.Ytglfkchcmjmmlaa.AM
set_option maxRecDepth 100000
set_option maxHeartbeats 4000000
noncomputable def body306 : Code := (Try.f6.body).getD .skip
def F306 : List Nat → Option (List Nat) := fun p => match p with
  | [1] => some [0]
  | [1, 0, 1] => some [0, 10]
  | [1, 0, 1, 0, 1] => some [2]
  | [1, 1] => some [0]
  | [1, 1, 1] => some [0, 3]
  | [1, 1, 1, 1] => some [0, 3, 4]
  | [1, 0, 1, 1, 1, 1] => some [0, 3, 4, 21]
  | [1, 0, 1, 0, 1, 1, 1, 1] => some [2]
  | [1, 1, 1, 1, 1] => some [0, 3, 4]
  | [1, 0, 1, 1, 1, 1, 1] => some [0, 3, 4, 5]
  | [1, 0, 0, 0, 1, 0, 1, 1, 1, 1, 1] => some [0, 3, 4, 5, 25]
  | [1, 1, 0, 0, 0, 1, 0, 1, 1, 1, 1, 1] => some []
  | [1, 0, 0, 1, 0, 1, 1, 1, 1, 1] => some [0, 3, 4, 5]
  | [1, 0, 0, 0, 1, 0, 0, 1, 0, 1, 1, 1, 1, 1] => some [0, 3, 4, 5, 50]
  | [1, 0, 1, 0, 0, 0, 1, 0, 0, 1, 0, 1, 1, 1, 1, 1] => some [2]
  | [1, 0, 0, 1, 0, 0, 1, 0, 1, 1, 1, 1, 1] => some [0, 3, 4, 5]
  | [1, 1, 0, 0, 1, 0, 0, 1, 0, 1, 1, 1, 1, 1] => some [0, 3, 4, 5]
  | [1, 0, 1, 1, 0, 0, 1, 0, 0, 1, 0, 1, 1, 1, 1, 1] => some [0, 3, 4, 5, 58]
  | [0, 1, 0, 1, 1, 0, 0, 1, 0, 0, 1, 0, 1, 1, 1, 1, 1] => some [0, 3, 4, 5]
  | [1, 1, 1, 0, 0, 1, 0, 0, 1, 0, 1, 1, 1, 1, 1] => some [0, 3, 4, 5]
  | [1, 1, 1, 1, 0, 0, 1, 0, 0, 1, 0, 1, 1, 1, 1, 1] => some [0, 3, 4, 5, 6, 7]
  | [1, 1, 1, 1, 1, 0, 0, 1, 0, 0, 1, 0, 1, 1, 1, 1, 1] => some [0, 3, 4, 5, 115]
  | [1, 0, 1, 1, 1, 1, 1, 0, 0, 1, 0, 0, 1, 0, 1, 1, 1, 1, 1] => some [2]
  | [1, 1, 0, 0, 1, 0, 1, 1, 1, 1, 1] => some [0, 3, 4, 5]
  | [1, 1, 1, 1, 1, 1] => some []
  | [1, 1, 1, 1, 1, 1, 1] => some [2]
  | _ => none
noncomputable def S306 : Book := bookOf [(3, trueC), (14, rankC), (16, lessC), (20, bitsC)]
noncomputable def T306 (sp : Option Nat) (n k : Nat) (i : Nat) : List Value := tmps 117 [(0, .slice (some ⟨0,0,sp⟩) n k), (3, .slice (some ⟨1,0,some 0⟩) n n), (4, .slice (some ⟨2,0,some 0⟩) n n), (5, .int .i64 i)]

theorem r306 (sp : Option Nat) (n k i : Nat) (fs ds ss : List Value) (own : Bool) (K : Post) :
  roundX Try.prog S306 noLoop F306 body306 1 [] [] [] [] [0,3,4,5] [0,0,1,0,1,1,1,1,1] (T306 sp n k i) (hp [.cells fs 1 own, .cells ds 1 true, .cells ss 1 true]) K = (
Alt (ltI (↑i : Int) (↑n : Int)) (Need (ltI (↑i : Int) (↑n : Int)) (Need (isInt IntKind.i64 ((getO ds (0 + (↑i : Int).toNat * 1)).getD undef)) (Alt (ltI (intV ((getO ds (0 + (↑i : Int).toNat * 1)).getD undef)) 0) (K
AE.ret (tmps 117 [(2, Value.bool false)]) (hp [Blk.cells fs 1 own])) (Need (ltI (↑i : Int) (↑n : Int)) (Need (isInt IntKind.i64 ((getO ds (0 + (↑i : Int).toNat * 1)).getD undef)) (Alt (leI (↑n : Int) (intV ((getO ds (0 +
(↑i : Int).toNat * 1)).getD undef))) (K AE.ret (tmps 117 [(2, Value.bool false)]) (hp [Blk.cells fs 1 own])) (Need (ltI (↑i : Int) (↑n : Int)) (Need (isInt IntKind.i64 ((getO ds (0 + (↑i : Int).toNat * 1)).getD undef))
(Need (leI 0 (intV ((getO ds (0 + (↑i : Int).toNat * 1)).getD undef))) (Need (ltI (intV ((getO ds (0 + (↑i : Int).toNat * 1)).getD undef)) (↑n : Int)) (Need (isBool ((getO ss (0 + (intV ((getO ds (0 + (↑i : Int).toNat *
1)).getD undef)).toNat * 1)).getD undef)) (Alt (boolV ((getO ss (0 + (intV ((getO ds (0 + (↑i : Int).toNat * 1)).getD undef)).toNat * 1)).getD undef)) (K AE.ret (tmps 117 [(2, Value.bool false)]) (hp [Blk.cells fs 1
own])) (Need (ltI (↑i : Int) (↑n : Int)) (Need (isInt IntKind.i64 ((getO ds (0 + (↑i : Int).toNat * 1)).getD undef)) (Need (leI 0 (intV ((getO ds (0 + (↑i : Int).toNat * 1)).getD undef))) (Need (ltI (intV ((getO ds (0 +
(↑i : Int).toNat * 1)).getD undef)) (↑n : Int)) (Need (leN (0 + (intV ((getO ds (0 + (↑i : Int).toNat * 1)).getD undef)).toNat * 1 + 1) ss.length) (Alt (eqI (↑i : Int) 0) (K AE.normal (tmps 117 [(0, Value.slice (some
{ block := 0, off := 0, spot := sp : Addr }) n k), (3, Value.slice (some { block := 1, off := 0, spot := some 0 : Addr }) n n), (4, Value.slice (some { block := 2, off := 0, spot := some 0 : Addr }) n n), (5, Value.int
IntKind.i64 (wr IntKind.i64 ((↑i : Int) + 1)))]) (hp [Blk.cells fs 1 own, Blk.cells ds 1 true, Blk.cells (setAll ss (0 + (intV ((getO ds (0 + (↑i : Int).toNat * 1)).getD undef)).toNat * 1) [Value.bool true]) 1 true]))
(Need (leI 0 (wr IntKind.i64 ((↑i : Int) - 1))) (Need (ltI (wr IntKind.i64 ((↑i : Int) - 1)) (↑n : Int)) (Need (isInt IntKind.i64 ((getO ds (0 + (wr IntKind.i64 ((↑i : Int) - 1)).toNat * 1)).getD undef)) (Need (leI 0
(intV ((getO ds (0 + (wr IntKind.i64 ((↑i : Int) - 1)).toNat * 1)).getD undef))) (Need (ltI (intV ((getO ds (0 + (wr IntKind.i64 ((↑i : Int) - 1)).toNat * 1)).getD undef)) (↑n : Int)) (Need (isFlt FloatKind.f64 ((getO fs
(0 + (intV ((getO ds (0 + (wr IntKind.i64 ((↑i : Int) - 1)).toNat * 1)).getD undef)).toNat * 1)).getD undef)) (Need (ltI (↑i : Int) (↑n : Int)) (Need (isInt IntKind.i64 ((getO ds (0 + (↑i : Int).toNat * 1)).getD undef))
(Need (leI 0 (intV ((getO ds (0 + (↑i : Int).toNat * 1)).getD undef))) (Need (ltI (intV ((getO ds (0 + (↑i : Int).toNat * 1)).getD undef)) (↑n : Int)) (Need (isFlt FloatKind.f64 ((getO fs (0 + (intV ((getO ds (0 + (↑i :
Int).toNat * 1)).getD undef)).toNat * 1)).getD undef)) (Alt (!fEq (fltV ((getO fs (0 + (intV ((getO ds (0 + (wr IntKind.i64 ((↑i : Int) - 1)).toNat * 1)).getD undef)).toNat * 1)).getD undef)) (fltV ((getO fs (0 + (intV
((getO ds (0 + (wr IntKind.i64 ((↑i : Int) - 1)).toNat * 1)).getD undef)).toNat * 1)).getD undef))) (Alt (fEq (fltV ((getO fs (0 + (intV ((getO ds (0 + (↑i : Int).toNat * 1)).getD undef)).toNat * 1)).getD undef)) (fltV
((getO fs (0 + (intV ((getO ds (0 + (↑i : Int).toNat * 1)).getD undef)).toNat * 1)).getD undef))) (K AE.ret (tmps 117 [(2, Value.bool false)]) (hp [Blk.cells fs 1 own])) (Alt (fEq (fltV ((getO fs (0 + (intV ((getO ds (0
+ (wr IntKind.i64 ((↑i : Int) - 1)).toNat * 1)).getD undef)).toNat * 1)).getD undef)) (fltV ((getO fs (0 + (intV ((getO ds (0 + (wr IntKind.i64 ((↑i : Int) - 1)).toNat * 1)).getD undef)).toNat * 1)).getD undef))) (Alt
(fEq (fltV ((getO fs (0 + (intV ((getO ds (0 + (↑i : Int).toNat * 1)).getD undef)).toNat * 1)).getD undef)) (fltV ((getO fs (0 + (intV ((getO ds (0 + (↑i : Int).toNat * 1)).getD undef)).toNat * 1)).getD undef))) (True ∧
Need (leN (fltV ((getO fs (0 + (intV ((getO ds (0 + (wr IntKind.i64 ((↑i : Int) - 1)).toNat * 1)).getD undef)).toNat * 1)).getD undef)) 18446744073709551615) (Need (leN (fltV ((getO fs (0 + (intV ((getO ds (0 + (↑i :
Int).toNat * 1)).getD undef)).toNat * 1)).getD undef)) 18446744073709551615) True) ∧ Alt (ltI (fKey (fltA [Value.float FloatKind.f64 (fltV ((getO fs (0 + (intV ((getO ds (0 + (wr IntKind.i64 ((↑i : Int) - 1)).toNat *
1)).getD undef)).toNat * 1)).getD undef)), Value.float FloatKind.f64 (fltV ((getO fs (0 + (intV ((getO ds (0 + (↑i : Int).toNat * 1)).getD undef)).toNat * 1)).getD undef))] 0)) (fKey (fltA [Value.float FloatKind.f64
(fltV ((getO fs (0 + (intV ((getO ds (0 + (wr IntKind.i64 ((↑i : Int) - 1)).toNat * 1)).getD undef)).toNat * 1)).getD undef)), Value.float FloatKind.f64 (fltV ((getO fs (0 + (intV ((getO ds (0 + (↑i : Int).toNat *
1)).getD undef)).toNat * 1)).getD undef))] 1))) (K AE.ret (tmps 117 [(2, Value.bool false)]) (hp [Blk.cells fs 1 own])) (True ∧ Need (leN (fltV ((getO fs (0 + (intV ((getO ds (0 + (wr IntKind.i64 ((↑i : Int) - 1)).toNat
* 1)).getD undef)).toNat * 1)).getD undef)) 18446744073709551615) True ∧ True ∧ Need (leN (fltV ((getO fs (0 + (intV ((getO ds (0 + (↑i : Int).toNat * 1)).getD undef)).toNat * 1)).getD undef)) 18446744073709551615) True
∧ Alt (eqI (fBits (fltA [Value.float FloatKind.f64 (fltV ((getO fs (0 + (intV ((getO ds (0 + (wr IntKind.i64 ((↑i : Int) - 1)).toNat * 1)).getD undef)).toNat * 1)).getD undef))] 0)) (fBits (fltA [Value.float
FloatKind.f64 (fltV ((getO fs (0 + (intV ((getO ds (0 + (↑i : Int).toNat * 1)).getD undef)).toNat * 1)).getD undef))] 0))) (Need (leI 0 (wr IntKind.i64 ((↑i : Int) - 1))) (Need (ltI (wr IntKind.i64 ((↑i : Int) - 1)) (↑n
: Int)) (Need (isInt IntKind.i64 ((getO ds (0 + (wr IntKind.i64 ((↑i : Int) - 1)).toNat * 1)).getD undef)) (Need (ltI (↑i : Int) (↑n : Int)) (Need (isInt IntKind.i64 ((getO ds (0 + (↑i : Int).toNat * 1)).getD undef))
(Need (beqV 64 (Value.float FloatKind.f64 (fltV ((getO fs (0 + (intV ((getO ds (0 + (↑i : Int).toNat * 1)).getD undef)).toNat * 1)).getD undef))) (Value.float FloatKind.f64 (fltV ((getO fs (0 + (intV ((getO ds (0 + (↑i :
Int).toNat * 1)).getD undef)).toNat * 1)).getD undef)))) (Alt (ltI (intV ((getO ds (0 + (↑i : Int).toNat * 1)).getD undef)) (intV ((getO ds (0 + (wr IntKind.i64 ((↑i : Int) - 1)).toNat * 1)).getD undef))) (K AE.ret (tmps
117 [(2, Value.bool false)]) (hp [Blk.cells fs 1 own])) (K AE.normal (tmps 117 [(0, Value.slice (some { block := 0, off := 0, spot := sp : Addr }) n k), (3, Value.slice (some
{ block := 1, off := 0, spot := some 0 : Addr }) n n), (4, Value.slice (some { block := 2, off := 0, spot := some 0 : Addr }) n n), (5, Value.int IntKind.i64 (wr IntKind.i64 ((↑i : Int) + 1)))]) (hp [Blk.cells fs 1 own,
Blk.cells ds 1 true, Blk.cells (setAll ss (0 + (intV ((getO ds (0 + (↑i : Int).toNat * 1)).getD undef)).toNat * 1) [Value.bool true]) 1 true]))))))))) (Need (beqV 64 (Value.float FloatKind.f64 (fltV ((getO fs (0 + (intV
((getO ds (0 + (↑i : Int).toNat * 1)).getD undef)).toNat * 1)).getD undef))) (Value.float FloatKind.f64 (fltV ((getO fs (0 + (intV ((getO ds (0 + (↑i : Int).toNat * 1)).getD undef)).toNat * 1)).getD undef)))) (K
AE.normal (tmps 117 [(0, Value.slice (some { block := 0, off := 0, spot := sp : Addr }) n k), (3, Value.slice (some { block := 1, off := 0, spot := some 0 : Addr }) n n), (4, Value.slice (some
{ block := 2, off := 0, spot := some 0 : Addr }) n n), (5, Value.int IntKind.i64 (wr IntKind.i64 ((↑i : Int) + 1)))]) (hp [Blk.cells fs 1 own, Blk.cells ds 1 true, Blk.cells (setAll ss (0 + (intV ((getO ds (0 + (↑i :
Int).toNat * 1)).getD undef)).toNat * 1) [Value.bool true]) 1 true]))))) (True ∧ Need (leN (fltV ((getO fs (0 + (intV ((getO ds (0 + (wr IntKind.i64 ((↑i : Int) - 1)).toNat * 1)).getD undef)).toNat * 1)).getD undef))
18446744073709551615) True ∧ True ∧ Need (leN (fltV ((getO fs (0 + (intV ((getO ds (0 + (↑i : Int).toNat * 1)).getD undef)).toNat * 1)).getD undef)) 18446744073709551615) True ∧ Alt (eqI (fBits (fltA [Value.float
FloatKind.f64 (fltV ((getO fs (0 + (intV ((getO ds (0 + (wr IntKind.i64 ((↑i : Int) - 1)).toNat * 1)).getD undef)).toNat * 1)).getD undef))] 0)) (fBits (fltA [Value.float FloatKind.f64 (fltV ((getO fs (0 + (intV ((getO
ds (0 + (↑i : Int).toNat * 1)).getD undef)).toNat * 1)).getD undef))] 0))) (Need (leI 0 (wr IntKind.i64 ((↑i : Int) - 1))) (Need (ltI (wr IntKind.i64 ((↑i : Int) - 1)) (↑n : Int)) (Need (isInt IntKind.i64 ((getO ds (0 +
(wr IntKind.i64 ((↑i : Int) - 1)).toNat * 1)).getD undef)) (Need (ltI (↑i : Int) (↑n : Int)) (Need (isInt IntKind.i64 ((getO ds (0 + (↑i : Int).toNat * 1)).getD undef)) (Need (beqV 64 (Value.float FloatKind.f64 (fltV
((getO fs (0 + (intV ((getO ds (0 + (↑i : Int).toNat * 1)).getD undef)).toNat * 1)).getD undef))) (Value.float FloatKind.f64 (fltV ((getO fs (0 + (intV ((getO ds (0 + (↑i : Int).toNat * 1)).getD undef)).toNat * 1)).getD
undef)))) (Alt (ltI (intV ((getO ds (0 + (↑i : Int).toNat * 1)).getD undef)) (intV ((getO ds (0 + (wr IntKind.i64 ((↑i : Int) - 1)).toNat * 1)).getD undef))) (K AE.ret (tmps 117 [(2, Value.bool false)]) (hp [Blk.cells fs
1 own])) (K AE.normal (tmps 117 [(0, Value.slice (some { block := 0, off := 0, spot := sp : Addr }) n k), (3, Value.slice (some { block := 1, off := 0, spot := some 0 : Addr }) n n), (4, Value.slice (some
{ block := 2, off := 0, spot := some 0 : Addr }) n n), (5, Value.int IntKind.i64 (wr IntKind.i64 ((↑i : Int) + 1)))]) (hp [Blk.cells fs 1 own, Blk.cells ds 1 true, Blk.cells (setAll ss (0 + (intV ((getO ds (0 + (↑i :
Int).toNat * 1)).getD undef)).toNat * 1) [Value.bool true]) 1 true]))))))))) (Need (beqV 64 (Value.float FloatKind.f64 (fltV ((getO fs (0 + (intV ((getO ds (0 + (↑i : Int).toNat * 1)).getD undef)).toNat * 1)).getD
undef))) (Value.float FloatKind.f64 (fltV ((getO fs (0 + (intV ((getO ds (0 + (↑i : Int).toNat * 1)).getD undef)).toNat * 1)).getD undef)))) (K AE.normal (tmps 117 [(0, Value.slice (some
{ block := 0, off := 0, spot := sp : Addr }) n k), (3, Value.slice (some { block := 1, off := 0, spot := some 0 : Addr }) n n), (4, Value.slice (some { block := 2, off := 0, spot := some 0 : Addr }) n n), (5, Value.int
IntKind.i64 (wr IntKind.i64 ((↑i : Int) + 1)))]) (hp [Blk.cells fs 1 own, Blk.cells ds 1 true, Blk.cells (setAll ss (0 + (intV ((getO ds (0 + (↑i : Int).toNat * 1)).getD undef)).toNat * 1) [Value.bool true]) 1 true])))))
(True ∧ Need (leN (fltV ((getO fs (0 + (intV ((getO ds (0 + (wr IntKind.i64 ((↑i : Int) - 1)).toNat * 1)).getD undef)).toNat * 1)).getD undef)) 18446744073709551615) True ∧ True ∧ Need (leN (fltV ((getO fs (0 + (intV
((getO ds (0 + (↑i : Int).toNat * 1)).getD undef)).toNat * 1)).getD undef)) 18446744073709551615) True ∧ Alt (eqI (fBits (fltA [Value.float FloatKind.f64 (fltV ((getO fs (0 + (intV ((getO ds (0 + (wr IntKind.i64 ((↑i :
Int) - 1)).toNat * 1)).getD undef)).toNat * 1)).getD undef))] 0)) (fBits (fltA [Value.float FloatKind.f64 (fltV ((getO fs (0 + (intV ((getO ds (0 + (↑i : Int).toNat * 1)).getD undef)).toNat * 1)).getD undef))] 0))) (Need
(leI 0 (wr IntKind.i64 ((↑i : Int) - 1))) (Need (ltI (wr IntKind.i64 ((↑i : Int) - 1)) (↑n : Int)) (Need (isInt IntKind.i64 ((getO ds (0 + (wr IntKind.i64 ((↑i : Int) - 1)).toNat * 1)).getD undef)) (Need (ltI (↑i : Int)
(↑n : Int)) (Need (isInt IntKind.i64 ((getO ds (0 + (↑i : Int).toNat * 1)).getD undef)) (Need (beqV 64 (Value.float FloatKind.f64 (fltV ((getO fs (0 + (intV ((getO ds (0 + (↑i : Int).toNat * 1)).getD undef)).toNat *
1)).getD undef))) (Value.float FloatKind.f64 (fltV ((getO fs (0 + (intV ((getO ds (0 + (↑i : Int).toNat * 1)).getD undef)).toNat * 1)).getD undef)))) (Alt (ltI (intV ((getO ds (0 + (↑i : Int).toNat * 1)).getD undef))
(intV ((getO ds (0 + (wr IntKind.i64 ((↑i : Int) - 1)).toNat * 1)).getD undef))) (K AE.ret (tmps 117 [(2, Value.bool false)]) (hp [Blk.cells fs 1 own])) (K AE.normal (tmps 117 [(0, Value.slice (some
{ block := 0, off := 0, spot := sp : Addr }) n k), (3, Value.slice (some { block := 1, off := 0, spot := some 0 : Addr }) n n), (4, Value.slice (some { block := 2, off := 0, spot := some 0 : Addr }) n n), (5, Value.int
IntKind.i64 (wr IntKind.i64 ((↑i : Int) + 1)))]) (hp [Blk.cells fs 1 own, Blk.cells ds 1 true, Blk.cells (setAll ss (0 + (intV ((getO ds (0 + (↑i : Int).toNat * 1)).getD undef)).toNat * 1) [Value.bool true]) 1
true]))))))))) (Need (beqV 64 (Value.float FloatKind.f64 (fltV ((getO fs (0 + (intV ((getO ds (0 + (↑i : Int).toNat * 1)).getD undef)).toNat * 1)).getD undef))) (Value.float FloatKind.f64 (fltV ((getO fs (0 + (intV
((getO ds (0 + (↑i : Int).toNat * 1)).getD undef)).toNat * 1)).getD undef)))) (K AE.normal (tmps 117 [(0, Value.slice (some { block := 0, off := 0, spot := sp : Addr }) n k), (3, Value.slice (some
{ block := 1, off := 0, spot := some 0 : Addr }) n n), (4, Value.slice (some { block := 2, off := 0, spot := some 0 : Addr }) n n), (5, Value.int IntKind.i64 (wr IntKind.i64 ((↑i : Int) + 1)))]) (hp [Blk.cells fs 1 own,
Blk.cells ds 1 true, Blk.cells (setAll ss (0 + (intV ((getO ds (0 + (↑i : Int).toNat * 1)).getD undef)).toNat * 1) [Value.bool true]) 1 true])))))) (Alt (fEq (fltV ((getO fs (0 + (intV ((getO ds (0 + (wr IntKind.i64 ((↑i
: Int) - 1)).toNat * 1)).getD undef)).toNat * 1)).getD undef)) (fltV ((getO fs (0 + (intV ((getO ds (0 + (wr IntKind.i64 ((↑i : Int) - 1)).toNat * 1)).getD undef)).toNat * 1)).getD undef))) (Alt (fEq (fltV ((getO fs (0 +
(intV ((getO ds (0 + (↑i : Int).toNat * 1)).getD undef)).toNat * 1)).getD undef)) (fltV ((getO fs (0 + (intV ((getO ds (0 + (↑i : Int).toNat * 1)).getD undef)).toNat * 1)).getD undef))) (True ∧ Need (leN (fltV ((getO fs
(0 + (intV ((getO ds (0 + (wr IntKind.i64 ((↑i : Int) - 1)).toNat * 1)).getD undef)).toNat * 1)).getD undef)) 18446744073709551615) (Need (leN (fltV ((getO fs (0 + (intV ((getO ds (0 + (↑i : Int).toNat * 1)).getD
undef)).toNat * 1)).getD undef)) 18446744073709551615) True) ∧ Alt (ltI (fKey (fltA [Value.float FloatKind.f64 (fltV ((getO fs (0 + (intV ((getO ds (0 + (wr IntKind.i64 ((↑i : Int) - 1)).toNat * 1)).getD undef)).toNat *
1)).getD undef)), Value.float FloatKind.f64 (fltV ((getO fs (0 + (intV ((getO ds (0 + (↑i : Int).toNat * 1)).getD undef)).toNat * 1)).getD undef))] 0)) (fKey (fltA [Value.float FloatKind.f64 (fltV ((getO fs (0 + (intV
((getO ds (0 + (wr IntKind.i64 ((↑i : Int) - 1)).toNat * 1)).getD undef)).toNat * 1)).getD undef)), Value.float FloatKind.f64 (fltV ((getO fs (0 + (intV ((getO ds (0 + (↑i : Int).toNat * 1)).getD undef)).toNat * 1)).getD
undef))] 1))) (K AE.ret (tmps 117 [(2, Value.bool false)]) (hp [Blk.cells fs 1 own])) (True ∧ Need (leN (fltV ((getO fs (0 + (intV ((getO ds (0 + (wr IntKind.i64 ((↑i : Int) - 1)).toNat * 1)).getD undef)).toNat *
1)).getD undef)) 18446744073709551615) True ∧ True ∧ Need (leN (fltV ((getO fs (0 + (intV ((getO ds (0 + (↑i : Int).toNat * 1)).getD undef)).toNat * 1)).getD undef)) 18446744073709551615) True ∧ Alt (eqI (fBits (fltA
[Value.float FloatKind.f64 (fltV ((getO fs (0 + (intV ((getO ds (0 + (wr IntKind.i64 ((↑i : Int) - 1)).toNat * 1)).getD undef)).toNat * 1)).getD undef))] 0)) (fBits (fltA [Value.float FloatKind.f64 (fltV ((getO fs (0 +
(intV ((getO ds (0 + (↑i : Int).toNat * 1)).getD undef)).toNat * 1)).getD undef))] 0))) (Need (leI 0 (wr IntKind.i64 ((↑i : Int) - 1))) (Need (ltI (wr IntKind.i64 ((↑i : Int) - 1)) (↑n : Int)) (Need (isInt IntKind.i64
((getO ds (0 + (wr IntKind.i64 ((↑i : Int) - 1)).toNat * 1)).getD undef)) (Need (ltI (↑i : Int) (↑n : Int)) (Need (isInt IntKind.i64 ((getO ds (0 + (↑i : Int).toNat * 1)).getD undef)) (Need (beqV 64 (Value.float
FloatKind.f64 (fltV ((getO fs (0 + (intV ((getO ds (0 + (↑i : Int).toNat * 1)).getD undef)).toNat * 1)).getD undef))) (Value.float FloatKind.f64 (fltV ((getO fs (0 + (intV ((getO ds (0 + (↑i : Int).toNat * 1)).getD
undef)).toNat * 1)).getD undef)))) (Alt (ltI (intV ((getO ds (0 + (↑i : Int).toNat * 1)).getD undef)) (intV ((getO ds (0 + (wr IntKind.i64 ((↑i : Int) - 1)).toNat * 1)).getD undef))) (K AE.ret (tmps 117 [(2, Value.bool
false)]) (hp [Blk.cells fs 1 own])) (K AE.normal (tmps 117 [(0, Value.slice (some { block := 0, off := 0, spot := sp : Addr }) n k), (3, Value.slice (some { block := 1, off := 0, spot := some 0 : Addr }) n n), (4,
Value.slice (some { block := 2, off := 0, spot := some 0 : Addr }) n n), (5, Value.int IntKind.i64 (wr IntKind.i64 ((↑i : Int) + 1)))]) (hp [Blk.cells fs 1 own, Blk.cells ds 1 true, Blk.cells (setAll ss (0 + (intV ((getO
ds (0 + (↑i : Int).toNat * 1)).getD undef)).toNat * 1) [Value.bool true]) 1 true]))))))))) (Need (beqV 64 (Value.float FloatKind.f64 (fltV ((getO fs (0 + (intV ((getO ds (0 + (↑i : Int).toNat * 1)).getD undef)).toNat *
1)).getD undef))) (Value.float FloatKind.f64 (fltV ((getO fs (0 + (intV ((getO ds (0 + (↑i : Int).toNat * 1)).getD undef)).toNat * 1)).getD undef)))) (K AE.normal (tmps 117 [(0, Value.slice (some
{ block := 0, off := 0, spot := sp : Addr }) n k), (3, Value.slice (some { block := 1, off := 0, spot := some 0 : Addr }) n n), (4, Value.slice (some { block := 2, off := 0, spot := some 0 : Addr }) n n), (5, Value.int
IntKind.i64 (wr IntKind.i64 ((↑i : Int) + 1)))]) (hp [Blk.cells fs 1 own, Blk.cells ds 1 true, Blk.cells (setAll ss (0 + (intV ((getO ds (0 + (↑i : Int).toNat * 1)).getD undef)).toNat * 1) [Value.bool true]) 1 true])))))
(True ∧ Need (leN (fltV ((getO fs (0 + (intV ((getO ds (0 + (wr IntKind.i64 ((↑i : Int) - 1)).toNat * 1)).getD undef)).toNat * 1)).getD undef)) 18446744073709551615) True ∧ True ∧ Need (leN (fltV ((getO fs (0 + (intV
((getO ds (0 + (↑i : Int).toNat * 1)).getD undef)).toNat * 1)).getD undef)) 18446744073709551615) True ∧ Alt (eqI (fBits (fltA [Value.float FloatKind.f64 (fltV ((getO fs (0 + (intV ((getO ds (0 + (wr IntKind.i64 ((↑i :
Int) - 1)).toNat * 1)).getD undef)).toNat * 1)).getD undef))] 0)) (fBits (fltA [Value.float FloatKind.f64 (fltV ((getO fs (0 + (intV ((getO ds (0 + (↑i : Int).toNat * 1)).getD undef)).toNat * 1)).getD undef))] 0))) (Need
(leI 0 (wr IntKind.i64 ((↑i : Int) - 1))) (Need (ltI (wr IntKind.i64 ((↑i : Int) - 1)) (↑n : Int)) (Need (isInt IntKind.i64 ((getO ds (0 + (wr IntKind.i64 ((↑i : Int) - 1)).toNat * 1)).getD undef)) (Need (ltI (↑i : Int)
(↑n : Int)) (Need (isInt IntKind.i64 ((getO ds (0 + (↑i : Int).toNat * 1)).getD undef)) (Need (beqV 64 (Value.float FloatKind.f64 (fltV ((getO fs (0 + (intV ((getO ds (0 + (↑i : Int).toNat * 1)).getD undef)).toNat *
1)).getD undef))) (Value.float FloatKind.f64 (fltV ((getO fs (0 + (intV ((getO ds (0 + (↑i : Int).toNat * 1)).getD undef)).toNat * 1)).getD undef)))) (Alt (ltI (intV ((getO ds (0 + (↑i : Int).toNat * 1)).getD undef))
(intV ((getO ds (0 + (wr IntKind.i64 ((↑i : Int) - 1)).toNat * 1)).getD undef))) (K AE.ret (tmps 117 [(2, Value.bool false)]) (hp [Blk.cells fs 1 own])) (K AE.normal (tmps 117 [(0, Value.slice (some
{ block := 0, off := 0, spot := sp : Addr }) n k), (3, Value.slice (some { block := 1, off := 0, spot := some 0 : Addr }) n n), (4, Value.slice (some { block := 2, off := 0, spot := some 0 : Addr }) n n), (5, Value.int
IntKind.i64 (wr IntKind.i64 ((↑i : Int) + 1)))]) (hp [Blk.cells fs 1 own, Blk.cells ds 1 true, Blk.cells (setAll ss (0 + (intV ((getO ds (0 + (↑i : Int).toNat * 1)).getD undef)).toNat * 1) [Value.bool true]) 1
true]))))))))) (Need (beqV 64 (Value.float FloatKind.f64 (fltV ((getO fs (0 + (intV ((getO ds (0 + (↑i : Int).toNat * 1)).getD undef)).toNat * 1)).getD undef))) (Value.float FloatKind.f64 (fltV ((getO fs (0 + (intV
((getO ds (0 + (↑i : Int).toNat * 1)).getD undef)).toNat * 1)).getD undef)))) (K AE.normal (tmps 117 [(0, Value.slice (some { block := 0, off := 0, spot := sp : Addr }) n k), (3, Value.slice (some
{ block := 1, off := 0, spot := some 0 : Addr }) n n), (4, Value.slice (some { block := 2, off := 0, spot := some 0 : Addr }) n n), (5, Value.int IntKind.i64 (wr IntKind.i64 ((↑i : Int) + 1)))]) (hp [Blk.cells fs 1 own,
Blk.cells ds 1 true, Blk.cells (setAll ss (0 + (intV ((getO ds (0 + (↑i : Int).toNat * 1)).getD undef)).toNat * 1) [Value.bool true]) 1 true]))))) (True ∧ Need (leN (fltV ((getO fs (0 + (intV ((getO ds (0 + (wr
IntKind.i64 ((↑i : Int) - 1)).toNat * 1)).getD undef)).toNat * 1)).getD undef)) 18446744073709551615) True ∧ True ∧ Need (leN (fltV ((getO fs (0 + (intV ((getO ds (0 + (↑i : Int).toNat * 1)).getD undef)).toNat * 1)).getD
undef)) 18446744073709551615) True ∧ Alt (eqI (fBits (fltA [Value.float FloatKind.f64 (fltV ((getO fs (0 + (intV ((getO ds (0 + (wr IntKind.i64 ((↑i : Int) - 1)).toNat * 1)).getD undef)).toNat * 1)).getD undef))] 0))
(fBits (fltA [Value.float FloatKind.f64 (fltV ((getO fs (0 + (intV ((getO ds (0 + (↑i : Int).toNat * 1)).getD undef)).toNat * 1)).getD undef))] 0))) (Need (leI 0 (wr IntKind.i64 ((↑i : Int) - 1))) (Need (ltI (wr
IntKind.i64 ((↑i : Int) - 1)) (↑n : Int)) (Need (isInt IntKind.i64 ((getO ds (0 + (wr IntKind.i64 ((↑i : Int) - 1)).toNat * 1)).getD undef)) (Need (ltI (↑i : Int) (↑n : Int)) (Need (isInt IntKind.i64 ((getO ds (0 + (↑i :
Int).toNat * 1)).getD undef)) (Need (beqV 64 (Value.float FloatKind.f64 (fltV ((getO fs (0 + (intV ((getO ds (0 + (↑i : Int).toNat * 1)).getD undef)).toNat * 1)).getD undef))) (Value.float FloatKind.f64 (fltV ((getO fs
(0 + (intV ((getO ds (0 + (↑i : Int).toNat * 1)).getD undef)).toNat * 1)).getD undef)))) (Alt (ltI (intV ((getO ds (0 + (↑i : Int).toNat * 1)).getD undef)) (intV ((getO ds (0 + (wr IntKind.i64 ((↑i : Int) - 1)).toNat *
1)).getD undef))) (K AE.ret (tmps 117 [(2, Value.bool false)]) (hp [Blk.cells fs 1 own])) (K AE.normal (tmps 117 [(0, Value.slice (some { block := 0, off := 0, spot := sp : Addr }) n k), (3, Value.slice (some
{ block := 1, off := 0, spot := some 0 : Addr }) n n), (4, Value.slice (some { block := 2, off := 0, spot := some 0 : Addr }) n n), (5, Value.int IntKind.i64 (wr IntKind.i64 ((↑i : Int) + 1)))]) (hp [Blk.cells fs 1 own,
Blk.cells ds 1 true, Blk.cells (setAll ss (0 + (intV ((getO ds (0 + (↑i : Int).toNat * 1)).getD undef)).toNat * 1) [Value.bool true]) 1 true]))))))))) (Need (beqV 64 (Value.float FloatKind.f64 (fltV ((getO fs (0 + (intV
((getO ds (0 + (↑i : Int).toNat * 1)).getD undef)).toNat * 1)).getD undef))) (Value.float FloatKind.f64 (fltV ((getO fs (0 + (intV ((getO ds (0 + (↑i : Int).toNat * 1)).getD undef)).toNat * 1)).getD undef)))) (K
AE.normal (tmps 117 [(0, Value.slice (some { block := 0, off := 0, spot := sp : Addr }) n k), (3, Value.slice (some { block := 1, off := 0, spot := some 0 : Addr }) n n), (4, Value.slice (some
{ block := 2, off := 0, spot := some 0 : Addr }) n n), (5, Value.int IntKind.i64 (wr IntKind.i64 ((↑i : Int) + 1)))]) (hp [Blk.cells fs 1 own, Blk.cells ds 1 true, Blk.cells (setAll ss (0 + (intV ((getO ds (0 + (↑i :
Int).toNat * 1)).getD undef)).toNat * 1) [Value.bool true]) 1 true]))))))))))))))))))))))))))))))))))) (K (AE.exit 0) (tmps 117 []) (hp [Blk.cells fs 1 own]))) := by kernel_rfl

noncomputable def cut306 (sp : Option Nat) (n k : Nat) (fs ds ss : List Value) (own : Bool) : CutE where
  β := Nat
  p := [0,1,0,1,1,1,1,1]
  t := fun _ => T306 sp n k 0
  h := fun _ => hp [.cells fs 1 own, .cells ds 1 true, .cells ss 1 true]
  Q := fun _ K => LtN n 61 ∧ K (.exit 0) (tmps 117 []) (hp [.cells fs 1 own])

theorem w306 (sp : Option Nat) (n k : Nat) (fs ss : List Value) (own : Bool) (K : Value → Heap → Prop) :
  funX Try.prog S306 (gcLKX (at0 []) (at0 []) 1 (cutE [cut306 sp n k fs (pC (piece (rkAt fs) 0 n)) ss own])) F306 body306 Try.f6 [] [] [.slice (some ⟨0,0,sp⟩) n k] (hp [.cells fs 1 own]) K = (
Alt (ltI 60 (↑n : Int)) (True ∧ True ∧ K (Value.bool true) (hp [Blk.cells fs 1 own]))
  ((FlatL fs ∧ True) ∧
    (IsFv fs n ∧ N60 n) ∧
      Need (leI (↑n : Int) (↑n : Int))
        (Need (leI (↑n : Int) 1099511627776)
          (Need (leI ((↑n : Int) * 1) 1099511627776)
            (Alt (!eqI (↑n : Int) (↑n : Int)) (K (Value.bool false) (hp [Blk.cells fs 1 own]))
              (FlatD []
                  (hp
                    [Blk.cells fs 1 own, Blk.cells (pC (piece (rkAt fs) 0 n)) 1 true,
                      Blk.cells (repl (↑n : Int).toNat [Value.bool false]) 1 true]) ∧
                ∃ (b : Nat),
                  tmps 117
                        [(0, Value.slice (some { block := 0, off := 0, spot := sp : Addr }) n k),
                          (3, Value.slice (some { block := 1, off := 0, spot := some 0 : Addr }) n n),
                          (4,
                            Value.slice (some { block := 2, off := 0, spot := some 0 : Addr }) (↑n : Int).toNat
                              (↑n : Int).toNat),
                          (5, Value.int IntKind.i64 0)] =
                      tmps 117
                        [(0, Value.slice (some { block := 0, off := 0, spot := sp : Addr }) n k),
                          (3, Value.slice (some { block := 1, off := 0, spot := some 0 : Addr }) n n),
                          (4, Value.slice (some { block := 2, off := 0, spot := some 0 : Addr }) n n),
                          (5, Value.int IntKind.i64 0)] ∧
                    hp
                          [Blk.cells fs 1 own, Blk.cells (pC (piece (rkAt fs) 0 n)) 1 true,
                            Blk.cells (repl (↑n : Int).toNat [Value.bool false]) 1 true] =
                        hp [Blk.cells fs 1 own, Blk.cells (pC (piece (rkAt fs) 0 n)) 1 true, Blk.cells ss 1 true] ∧
                      LtN n 61 ∧ True ∧ True ∧ K (Value.bool true) (hp [Blk.cells fs 1 own]))))))) := by kernel_rfl

end Go.Proofs.Ytglfkchcmjmmlaa

namespace Go.Proofs.Ytglfkchcmjmmlaa
open Go.RowKit Go.Proofs.Ytglfkchcmjmmlaa.AM
set_option maxRecDepth 100000
set_option maxHeartbeats 4000000
def bC (f : Nat → Bool) (n : Nat) : List Value := (List.range n).map fun x => .bool (f x)
theorem bC_flat (f : Nat → Bool) (n : Nat) : FlatL (bC f n) := ⟨fun v hv => by
  obtain ⟨x, _, rfl⟩ := List.mem_map.1 hv
  rfl⟩
theorem bC_len (f : Nat → Bool) (n : Nat) : (bC f n).length = n := by unfold bC; rw [List.length_map, List.length_range]
theorem bC_get {f : Nat → Bool} {n y : Nat} (h : y < n) : getO (bC f n) y = some (.bool (f y)) := by
  rw [getO_eq]; unfold bC
  rw [List.getElem?_map, List.getElem?_range h]; rfl
theorem bC_set {f g : Nat → Bool} {n y : Nat} (h : ∀ x, x < n → g x = if x = y then true else f x) : (bC f n).set y (.bool true) = bC g n := by
  unfold bC
  apply List.ext_getElem?
  intro x
  by_cases hx : x < n
  · rw [List.getElem?_set, List.getElem?_map, List.getElem?_map, List.getElem?_range hx, List.length_map, List.length_range]
    have := h x hx
    by_cases hxy : y = x
    · subst hxy
      rw [if_pos rfl, if_pos hx, Option.map_some, this, if_pos rfl]
    · rw [if_neg hxy, Option.map_some, Option.map_some, this, if_neg (fun e => hxy e.symm)]
  · rw [List.getElem?_eq_none (by rw [List.length_set, List.length_map, List.length_range]; omega), List.getElem?_eq_none (by rw [List.length_map, List.length_range]; omega)]
theorem fBits_rk {a b : Nat} (h : fBits a = fBits b) : rkF a = rkF b := by
  have hk : fKey a = fKey b := by unfold fKey; rw [h]
  have hn : ∀ c d : Nat, fBits c = fBits d → fNan c = true → fNan d = true := fun c d e hc => by
    cases hd : fNan d with
    | true => rfl
    | false =>
      unfold fBits at e
      rw [hc, hd, cond_true, cond_false] at e
      have : d = 9221120237041090561 := by omega
      subst this
      exact absurd hd (by decide)
  unfold rkF
  rw [hk]
  cases na : fNan a with
  | true => rw [hn a b h na]
  | false =>
    cases nb : fNan b with
    | true => rw [hn b a h.symm nb] at na; cases na
    | false => rfl
theorem piece_at {key : Nat → Int} {n i : Nat} (hi : i < n) : ∃ y Q, piece key 0 n = (piece key 0 n).take i ++ y :: Q ∧ (piece key 0 n).getD i 0 = y ∧ y < n ∧ y ∉ (piece key 0 n).take i ∧ (∀ z, z ∈ (piece key 0 n).take (i + 1) ↔ z = y ∨ z ∈ (piece key 0 n).take i) ∧ (∀ z ∈ (piece key 0 n).take i, ltK key z y) := by
  have hl := piece_len key 0 n
  have hd : (piece key 0 n).drop i = (piece key 0 n)[i]'(by omega) :: (piece key 0 n).drop (i + 1) := List.drop_eq_getElem_cons (by omega)
  have hs : piece key 0 n = (piece key 0 n).take i ++ (piece key 0 n)[i]'(by omega) :: (piece key 0 n).drop (i + 1) := by rw [← hd, List.take_append_drop]
  have hlt : ∀ z ∈ (piece key 0 n).take i, ltK key z ((piece key 0 n)[i]'(by omega)) := fun z hz => by
    have ha : Asc key ((piece key 0 n).take i ++ (piece key 0 n)[i]'(by omega) :: (piece key 0 n).drop (i + 1)) := by rw [← hs]; exact piece_asc key 0 n
    exact (asc_app.1 ha).2.2 z hz _ List.mem_cons_self
  refine ⟨(piece key 0 n)[i]'(by omega), _, hs, ?_, ?_, fun h => ?_, fun z => ?_, hlt⟩
  · rw [List.getD_eq_getElem?_getD, List.getElem?_eq_getElem (by omega)]; rfl
  · have : (piece key 0 n)[i]'(by omega) ∈ piece key 0 n := List.getElem_mem _
    rw [piece_mem] at this; omega
  · have := hlt _ h
    unfold ltK at this; omega
  · rw [List.take_add_one, List.getElem?_eq_getElem (by omega), List.mem_append, Option.toList_some, List.mem_singleton]
    exact Or.comm
theorem sure306 (hm : Try.prog.follows .mixedOrders = true) : Sure Try.prog S306 := ⟨hm, plain, bookOf_ok (l := [(3, trueC), (14, rankC), (16, lessC), (20, bitsC)]) ⟨runs_holds hm, rank_says hm, less_says hm, bits_says hm, trivial⟩⟩
theorem falls_loop (hm : Try.prog.follows .mixedOrders = true) (sp : Option Nat) (n k : Nat) (fs : List Value) (own : Bool) (hv : IsFv fs n) (h60 : n ≤ 60) (K : Post) (hK : K (.exit 0) (tmps 117 []) (hp [.cells fs 1 own])) :
    ∀ (t i : Nat), i + t = n → LSays Try.prog 1 (sub body306 [0,0,1,0,1,1,1,1,1]) (T306 sp n k i) (hp [.cells fs 1 own, .cells (pC (piece (rkAt fs) 0 n)) 1 true, .cells (bC (fun x => decide (x ∈ (piece (rkAt fs) 0 n).take i)) n) 1 true]) K := by
  have hl := piece_len (rkAt fs) 0 n
  have hF1 : FlatD [] (hp [.cells fs 1 own]) := FlatD.hp ⟨hv.flat, trivial⟩
  have hF : ∀ f : Nat → Bool, FlatD [] (hp [.cells fs 1 own, .cells (pC (piece (rkAt fs) 0 n)) 1 true, .cells (bC f n) 1 true]) := fun f => FlatD.hp ⟨hv.flat, pC_flat _, bC_flat _ _, trivial⟩
  intro t
  induction t with
  | zero =>
    intro i hi
    refine (sure306 hm).roundX F306 noLoops [] [] [] [] [0,3,4,5] ?_
    rw [r306, ltF (show ¬ (i : Int) < (n : Int) by omega), alt_f]
    exact ⟨hF1, hK⟩
  | succ t ih =>
    intro i hi
    obtain ⟨y, Q, hs, hy, hyn, hni, hmem, hlty⟩ := piece_at (key := rkAt fs) (n := n) (i := i) (by omega)
    have g1 := pC_get (L := piece (rkAt fs) 0 n) (i := i) (by omega)
    rw [hy] at g1
    have g2 := bC_get (f := fun x => decide (x ∈ (piece (rkAt fs) 0 n).take i)) hyn
    have hf : decide (y ∈ (piece (rkAt fs) 0 n).take i) = false := decide_eq_false hni
    rw [hf] at g2
    have nx := ih (i + 1) (by omega)
    rw [← bC_set (f := fun x => decide (x ∈ (piece (rkAt fs) 0 n).take i)) (y := y) (fun x _ => by
      rw [show decide (x ∈ (piece (rkAt fs) 0 n).take (i + 1)) = decide (x = y ∨ x ∈ (piece (rkAt fs) 0 n).take i) from decide_eq_decide.2 (hmem x)]
      by_cases hxy : x = y <;> simp [hxy])] at nx
    unfold T306 at nx
    have hF2 : FlatD [] (hp [.cells fs 1 own, .cells (pC (piece (rkAt fs) 0 n)) 1 true, .cells ((bC (fun x => decide (x ∈ (piece (rkAt fs) 0 n).take i)) n).set y (.bool true)) 1 true]) := FlatD.hp ⟨hv.flat, pC_flat _, ⟨fun v hv => by
      rcases List.mem_or_eq_of_mem_set hv with h | rfl
      · exact (bC_flat _ _).1 v h
      · rfl⟩, trivial⟩
    generalize hss : bC (fun x => decide (x ∈ (piece (rkAt fs) 0 n).take i)) n = ss at *
    have hsl : ss.length = n := by rw [← hss]; exact bC_len _ _
    refine (sure306 hm).roundX F306 noLoops [] [] [] [] [0,3,4,5] ?_
    rw [r306]
    obtain ⟨b, gb, hb, rb⟩ := fv_at hv hyn
    by_cases h0 : i = 0
    · subst h0
      simp only [wra1 0 (by omega), Int.toNat_natCast, Nat.zero_add, Nat.mul_one, g1, g2, gb, Option.getD_some, isInt, intV, kindEq, isBool, boolV, isFlt_k, fltV_f, setAll1, hsl, ltT (show ((0 : Nat) : Int) < (n : Int) by omega), ltT (show (y : Int) < (n : Int) by omega), ltF (show ¬ (y : Int) < 0 by omega), show leI (n : Int) (y : Int) = false by rw [leI_eq, decide_eq_false (by omega)], le0, leNT (show y + 1 ≤ n by omega), eqT (show ((0 : Nat) : Int) = 0 by rfl), need_t, alt_t, alt_f]
      exact ⟨hF2, nx⟩
    · obtain ⟨x, Q', hs', hx, hxn, _, hmem', _⟩ := piece_at (key := rkAt fs) (n := n) (i := i - 1) (by omega)
      have hxt : x ∈ (piece (rkAt fs) 0 n).take i := by
        have := (hmem' x).2 (.inl rfl)
        rw [show i - 1 + 1 = i by omega] at this; exact this
      have hxy := hlty x hxt
      have g0 := pC_get (L := piece (rkAt fs) 0 n) (i := i - 1) (by omega)
      rw [hx] at g0
      obtain ⟨a, ga, ha, ra⟩ := fv_at hv hxn
      have ka := fKey_in a ha
      have kb := fKey_in b hb
      simp only [wra1 i (by omega), wrs1 i (by omega) (by omega), Int.toNat_natCast, Nat.zero_add, Nat.mul_one, g0, g1, g2, ga, gb, Option.getD_some, isInt, intV, kindEq, isBool, boolV, isFlt_k, fltV_f, flt0, flt1, setAll1, hsl, ltT (show (i : Int) < (n : Int) by omega), ltT (show ((i - 1 : Nat) : Int) < (n : Int) by omega), ltT (show (y : Int) < (n : Int) by omega), ltT (show (x : Int) < (n : Int) by omega), ltF (show ¬ (y : Int) < 0 by omega), show leI (n : Int) (y : Int) = false by rw [leI_eq, decide_eq_false (by omega)], le0, leNT (show y + 1 ≤ n by omega), eqF (show ¬ (i : Int) = 0 by omega), leN_iff.2 ha, leN_iff.2 hb, beqV_flt, beqV_int, beqV_sl, fEq_self, need_t, alt_t, alt_f]
      have hyx : eqI (fBits a) (fBits b) = true → ltI (y : Int) (x : Int) = false := fun h => by
        rw [eqI_iff] at h
        have := fBits_rk h
        rw [← ra, ← rb] at this
        unfold ltK at hxy
        exact ltF (by omega)
      cases na : fNan a with
      | true =>
        have r1 : rkF a = 18446744073709551616 := by unfold rkF; rw [na, if_pos rfl]
        have nb : fNan b = true := by
          cases nb : fNan b with
          | true => rfl
          | false =>
            have r2 : rkF b = -fKey b := by unfold rkF; rw [nb, if_neg (by simp)]
            unfold ltK at hxy; omega
        rw [nb]
        simp only [Bool.not_true, Bool.not_false, alt_t, alt_f]
        cases he : eqI (fBits a) (fBits b) with
        | true =>
          rw [hyx he]
          simp only [alt_t, alt_f]
          exact ⟨trivial, trivial, trivial, trivial, hF2, nx⟩
        | false =>
          simp only [alt_t, alt_f]
          exact ⟨trivial, trivial, trivial, trivial, hF2, nx⟩
      | false =>
        have r1 : rkF a = -fKey a := by unfold rkF; rw [na, if_neg (by simp)]
        cases nb : fNan b with
        | true =>
          simp only [Bool.not_true, Bool.not_false, alt_t, alt_f]
          cases he : eqI (fBits a) (fBits b) with
          | true =>
            rw [hyx he]
            simp only [alt_t, alt_f]
            exact ⟨trivial, trivial, trivial, trivial, hF2, nx⟩
          | false =>
            simp only [alt_t, alt_f]
            exact ⟨trivial, trivial, trivial, trivial, hF2, nx⟩
        | false =>
          have r2 : rkF b = -fKey b := by unfold rkF; rw [nb, if_neg (by simp)]
          have hk : ltI (fKey a) (fKey b) = false := ltF (by unfold ltK at hxy; omega)
          rw [hk]
          simp only [Bool.not_true, Bool.not_false, alt_t, alt_f]
          cases he : eqI (fBits a) (fBits b) with
          | true =>
            rw [hyx he]
            simp only [alt_t, alt_f]
            exact ⟨trivial, trivial, trivial, trivial, trivial, trivial, hF2, nx⟩
          | false =>
            simp only [alt_t, alt_f]
            exact ⟨trivial, trivial, trivial, trivial, trivial, trivial, hF2, nx⟩
theorem law306 (hm : Try.prog.follows .mixedOrders = true) (fs : List Value) (n k : Nat) (sp : Option Nat) (hv : IsFv fs n) : FunSays Try.prog 6 [.slice (some ⟨0,0,sp⟩) n k] (hp [.cells fs 1 false]) fun v _ => v = .bool true := by
  have hF : FlatD [] (hp [.cells fs 1 false]) := FlatD.hp ⟨hv.flat, trivial⟩
  have hL : Loops Try.prog body306 1 (cutE [cut306 sp n k fs (pC (piece (rkAt fs) 0 n)) (bC (fun _ => false) n) false]) := Loops.noneE.moreE _ fun x K hQ => by
    show LSays Try.prog 1 (sub body306 [0,0,1,0,1,1,1,1,1]) (T306 sp n k (0 : Nat)) (hp [.cells fs 1 false, .cells (pC (piece (rkAt fs) 0 n)) 1 true, .cells (bC (fun _ => false) n) 1 true]) K
    have h60 := hQ.1.lt
    have := falls_loop hm sp n k fs false hv (by omega) K hQ.2 n 0 (by omega)
    have e : (fun x => decide (x ∈ (piece (rkAt fs) 0 n).take 0)) = fun _ => false := by
      funext x
      rw [List.take_zero]; simp
    rw [e] at this
    exact this
  refine (sure306 hm).funX F306 body306 [] [] Try.func6 rfl (hL.gcX (at0 []) (at0 [])) ?_
  rw [w306]
  by_cases h60 : 60 < n
  · rw [ltT (show (60 : Int) < (n : Int) by omega), alt_t]
    exact ⟨trivial, trivial, hF, rfl, (by first | trivial | rfl)⟩
  · have hr : List.replicate n (Value.bool false) = bC (fun _ => false) n := by
      unfold bC
      rw [List.map_const', List.length_range]
    rw [ltF (show ¬ (60 : Int) < (n : Int) by omega), alt_f, Int.toNat_natCast, repl1, hr, leT (show (n : Int) ≤ (n : Int) by omega), leT (show (n : Int) ≤ 1099511627776 by omega), leT (show (n : Int) * 1 ≤ 1099511627776 by omega), eqT rfl, Bool.not_true]
    simp only [need_t, alt_f]
    exact ⟨⟨hv.flat, trivial⟩, ⟨hv, ⟨by omega⟩⟩, FlatD.hp ⟨hv.flat, pC_flat _, bC_flat _ _, trivial⟩, 0, (by first | trivial | rfl), (by first | trivial | rfl), ⟨by omega⟩, trivial, trivial, hF, rfl, (by first | trivial | rfl)⟩
end Go.Proofs.Ytglfkchcmjmmlaa
