/- Proved: what functions of the program come to, by their conditions over the abstract machine. Conditions: those that each theorem states. -/
import Derived.Test.YtkigkmjmbegmhaaCh1
set_option linter.unusedVariables false
set_option linter.unusedSimpArgs false
namespace Go.Proofs.Ytkigkmjmbegmhaa
open Go.RowKit Go.Proofs.Ytkigkmjmbegmhaa.AM
set_option maxRecDepth 100000
set_option maxHeartbeats 4000000
noncomputable def body226 : Code := (Try.f28.body).getD .skip
def F226 : List Nat → Option (List Nat) := fun p => match p with
  | [1] => some [0, 1]
  | [1, 1] => some [3]
  | _ => none
noncomputable def body227 : Code := (Try.f29.body).getD .skip
def F227 : List Nat → Option (List Nat) := fun p => match p with
  | [1] => some [0, 1]
  | [1, 1] => some [3]
  | _ => none
noncomputable def body231 : Code := (Try.f35.body).getD .skip
def F231 : List Nat → Option (List Nat) := fun p => match p with
  | [1] => some [0, 1]
  | [1, 1] => some [3]
  | _ => none
noncomputable def body232 : Code := (Try.f47.body).getD .skip
def F232 : List Nat → Option (List Nat) := fun p => match p with
  | [1] => some [0, 1]
  | [1, 0, 1] => some [0, 1, 7, 8]
  | [1, 0, 0, 1, 0, 1] => some [0, 1, 7, 8, 9]
  | [1, 0, 1, 0, 0, 1, 0, 1] => some []
  | [1, 1, 0, 0, 1, 0, 1] => some [0, 1, 7, 8]
  | [1, 0, 0, 1, 1, 0, 0, 1, 0, 1] => some [0, 1, 5, 7, 8]
  | [1, 1, 0, 0, 1, 1, 0, 0, 1, 0, 1] => some [0, 1, 5, 7, 8, 16]
  | [1, 0, 1, 1, 0, 0, 1, 1, 0, 0, 1, 0, 1] => some [4]
  | [1, 1, 1, 0, 0, 1, 0, 1] => some [0, 1, 7, 8]
  | [1, 1] => some []
  | [1, 1, 1] => some [4]
  | _ => none
noncomputable def body230 : Code := (Try.f34.body).getD .skip
def F230 : List Nat → Option (List Nat) := fun p => match p with
  | [1] => some [0, 1]
  | [1, 1] => some [0, 1, 5]
  | [1, 0, 1, 1] => some [0, 1, 5, 12]
  | [1, 0, 1, 0, 1, 1] => some [4]
  | [1, 1, 1] => some [0, 1, 5]
  | [1, 0, 1, 1, 1] => some [0, 1, 5, 6]
  | [1, 0, 0, 0, 1, 0, 1, 1, 1] => some [0, 1, 5, 6, 19]
  | [1, 1, 0, 0, 0, 1, 0, 1, 1, 1] => some [0, 5]
  | [1, 0, 0, 1, 0, 1, 1, 1] => some [0, 1, 5, 6]
  | [1, 0, 0, 1, 0, 0, 1, 0, 1, 1, 1] => some [0, 1, 5, 6, 7]
  | [1, 1, 0, 0, 1, 0, 0, 1, 0, 1, 1, 1] => some [0, 1, 5, 6, 7, 29]
  | [1, 0, 1, 1, 0, 0, 1, 0, 0, 1, 0, 1, 1, 1] => some [0, 1, 5, 6]
  | [1, 1, 0, 0, 1, 0, 1, 1, 1] => some [0, 1, 5, 6]
  | [1, 1, 1, 1] => some [0, 5]
  | [1, 1, 1, 1, 1] => some [0, 5]
  | [1, 1, 1, 1, 1, 1] => some [4]
  | _ => none
noncomputable def body225 : Code := (Try.f27.body).getD .skip
def F225 : List Nat → Option (List Nat) := fun p => match p with
  | [1] => some [0, 3]
  | [1, 1] => some [4]
  | _ => none
noncomputable def body214 : Code := (Try.f16.body).getD .skip
def F214 : List Nat → Option (List Nat) := fun p => match p with
  | [1] => some [0, 3]
  | [1, 1] => some [4]
  | _ => none
noncomputable def body216 : Code := (Try.f18.body).getD .skip
def F216 : List Nat → Option (List Nat) := fun p => match p with
  | [1] => some [0, 3]
  | [1, 1] => some [4]
  | _ => none
noncomputable def S96 : Book := bookOf [(12, hasC)]
theorem sure96 (hmix : Try.prog.follows .mixedOrders = true) : Sure Try.prog S96 := ⟨hmix, plain, bookOf_ok (l := [(12, hasC)]) ⟨rhas_says hmix, trivial⟩⟩
def isG (g : Nat) (fn : Fn) (f c : Array Value) (b : Nat) : Prop := match fn, f.toList, c.toList with
  | .func g', [], [.pointer (some ⟨b', 0, none⟩)] => Need (eqN g' g) (Need (eqN b' b) True)
  | _, _, _ => False
theorem isG_eq {g : Nat} {fn : Fn} {f c : Array Value} {b : Nat} (h : isG g fn f c b) : fn = .func g ∧ f = #[] ∧ c = #[.pointer (some ⟨b, 0, none⟩)] := by
  unfold isG at h
  split at h
  · rename_i g' b' h1 h2
    simp only [Alt_iff, Need_iff, ltI_eq, leI_eq, eqI_eq, leN_eq, eqN_eq, decide_eq_true_eq, decide_eq_false_iff_not, decide_true, decide_false, true_and, and_true, Bool.true_eq_false, Bool.false_eq_true, false_implies, true_implies, implies_true, not_true_eq_false, not_false_eq_true, Bool.not_eq_true', Bool.not_eq_false'] at h
    obtain ⟨rfl, rfl⟩ := h
    exact ⟨rfl, by cases f; simp_all, by cases c; simp_all⟩
  · exact h.elim
/-- a variable that holds a slice; one that holds a function over such a variable -/
noncomputable def hV (o : Nat) (sp : Option Nat) (len cap : Nat) (cb : List Value) (w : Bool) : List Blk := [.cells [.slice (some ⟨1,o,sp⟩) len cap] 1 true, .cells cb 1 w]
noncomputable def hW (g : Nat) (o : Nat) (sp : Option Nat) (len cap : Nat) (cb : List Value) (w : Bool) : List Blk := [.cells [.func (.func g) #[] #[.pointer (some ⟨1,0,none⟩)]] 1 true, .cells [.slice (some ⟨2,o,sp⟩) len cap] 1 true, .cells cb 1 w]
noncomputable def hD (cs : List Value) (g : Nat) (o : Nat) (sp : Option Nat) (len cap : Nat) (cb : List Value) (w : Bool) : List Blk := [.cells cs 1 true, .cells [.func (.func g) #[] #[.pointer (some ⟨2,0,none⟩)]] 1 true, .cells [.slice (some ⟨3,o,sp⟩) len cap] 1 true, .cells cb 1 w]
noncomputable def hE (cs : List Value) (w0 : Bool) (o : Nat) (sp : Option Nat) (len cap : Nat) (cb : List Value) (w : Bool) : List Blk := [.cells cs 1 w0, .cells [.slice (some ⟨2,o,sp⟩) len cap] 1 true, .cells cb 1 w]
noncomputable def T232 (len cap i : Nat) : List Value := tmps 19 [(0, .slice (some ⟨0,0,some 3⟩) len cap), (1, .func (.func 35) #[] #[.pointer (some ⟨1,0,none⟩)]), (7, .int .i64 len), (8, .int .i64 i)]
noncomputable def T230 (len cap i j : Nat) : List Value := tmps 42 [(0, .slice (some ⟨0,0,some 3⟩) len cap), (1, .func (.func 35) #[] #[.pointer (some ⟨1,0,none⟩)]), (5, .int .i64 i), (6, .int .i64 j)]
/-- the first that is not kept -/
def idxD (kp : Int → Bool) : Nat → List Int → Int
  | _, [] => -1
  | i, x :: t => if kp x then idxD kp (i + 1) t else (i : Int)
def allD (kp : Int → Bool) : List Int → Bool
  | [] => true
  | x :: t => if kp x then allD kp t else false
/-- what is left of a row, from which those that are not kept are taken -/
noncomputable def delC (kp : Int → Bool) (len : Nat) (cs : List Value) : List Value := eC (iE .i64) ((intsAt cs 0 len).filter kp ++ List.replicate (len - ((intsAt cs 0 len).filter kp).length) 0) ++ cs.drop len
def kpA (b : List Int) (n : Int) : Bool := hasL n b
def kpN (b : List Int) (n : Int) : Bool := !hasL n b
theorem hD_flat {cs : List Value} {g o : Nat} {sp : Option Nat} {len cap : Nat} {cb : List Value} {w : Bool} (ha : FlatL cs) (hb : FlatL cb) : FlatD [1, 2] (hp (hD cs g o sp len cap cb w)) := FlatD.hp ⟨ha, rfl, rfl, hb, trivial⟩
theorem allD_idx (kp : Int → Bool) : ∀ (l : List Int) (i : Nat), (allD kp l = true ∧ idxD kp i l = -1 ∧ l.filter kp = l) ∨ (allD kp l = false ∧ ∃ a x t, l = a ++ x :: t ∧ idxD kp i l = ((i + a.length : Nat) : Int) ∧ a.filter kp = a ∧ kp x = false) := by
  intro l
  induction l with
  | nil => intro i; exact .inl ⟨rfl, rfl, rfl⟩
  | cons x t ih =>
    intro i
    cases hk : kp x with
    | false => exact .inr ⟨by simp [allD, hk], [], x, t, rfl, by simp [idxD, hk], rfl, hk⟩
    | true =>
      rcases ih (i + 1) with ⟨h1, h2, h3⟩ | ⟨h1, a, y, u, h2, h3, h4, h5⟩
      · exact .inl ⟨by simp [allD, hk, h1], by simp [idxD, hk, h2], by rw [List.filter_cons, if_pos hk, h3]⟩
      · exact .inr ⟨by simp [allD, hk, h1], x :: a, y, u, by rw [h2]; rfl, by rw [idxD, if_pos hk, h3]; simp; omega, by rw [List.filter_cons, if_pos hk, h4], h5⟩
theorem IsI.row {cs : List Value} {l : List Int} (h : ISl cs 0 l) : cs = eC (iE .i64) l ++ cs.drop l.length := by
  obtain ⟨h1, _⟩ := h.take 0 l.length (by omega)
  rw [List.drop_zero, List.drop_zero, List.take_length] at h1
  rw [← h1, List.take_append_drop]
theorem del_full {l : List Int} {q : List Value} (F : List Int) (hF : F.length ≤ l.length) : setAll (eC (iE .i64) (F ++ l.drop F.length) ++ q) F.length (repl (l.length - F.length) [Value.int .i64 0]) = eC (iE .i64) (F ++ List.replicate (l.length - F.length) 0) ++ q := by
  have hr : (repl (l.length - F.length) [Value.int .i64 0]).length = l.length - F.length := by rw [repl_one, List.length_replicate]
  rw [eC_append, List.append_assoc, setAll_app _ _ _ _ (eC_len _ _) (by rw [hr]; simp [eC_len]), hr, List.drop_append_of_le_length (by rw [eC_len]; simp), eC_drop, List.drop_eq_nil_of_le (by simp), repl_one, eC_append]
  simp [eC]
theorem delC_flat {kp : Int → Bool} {len : Nat} {cs : List Value} (h : FlatL cs) : FlatL (delC kp len cs) := ⟨fun x hx => (List.mem_append.1 hx).elim ((eC_flat flat_i _).1 x) fun hh => h.1 x (List.mem_of_mem_drop hh)⟩
theorem row_is {l : List Int} {q : List Value} (hz : ∀ x ∈ l, ZP .i64 x) (hl : l.length ≤ 1000000) (hq : FlatL q) : ISl (eC (iE .i64) l ++ q) 0 l := ⟨fun j c hj => by
    rw [Nat.zero_add, getO_eq, List.getElem?_append_left (by rw [eC_len]; exact (List.getElem?_eq_some_iff.1 hj).1), ← getO_eq]; exact eC_get _ _ hj, hz, by omega, ⟨fun x hx => (List.mem_append.1 hx).elim ((eC_flat flat_i l).1 x) (hq.1 x)⟩⟩
noncomputable def clAC : CtrW where
  D := [0]
  W := []
  E := []
  pre := fun args blks => match args, blks with
    | [.int .i64 n, .pointer (some ⟨0,0,none⟩)], [.cells [.slice (some ⟨1,o,_⟩) len cap] 1 true, .cells cb 1 _] => IsI cb o len cap ∧ IsN [.int .i64 n]
    | _, _ => False
  val := fun args blks => match args, blks with
    | [.int .i64 n, _], [.cells [.slice (some ⟨1,o,_⟩) len _] 1 true, .cells cb 1 _] => .bool (kpA (intsAt cb o len) n)
    | _, _ => undef
  out := fun _ blks => blks
noncomputable def kkAC : CtrW where
  D := [0, 1]
  W := []
  E := []
  pre := fun args blks => match args, blks with
    | [.int .i64 n, .pointer (some ⟨0,0,none⟩)], [.cells [.func fn f c] 1 true, .cells [.slice (some ⟨2,o,_⟩) len cap] 1 true, .cells cb 1 _] => isG 28 fn f c 1 ∧ IsI cb o len cap ∧ IsN [.int .i64 n]
    | _, _ => False
  val := fun args blks => match args, blks with
    | [.int .i64 n, _], [.cells [.func _ _ _] 1 true, .cells [.slice (some ⟨2,o,_⟩) len _] 1 true, .cells cb 1 _] => .bool (!kpA (intsAt cb o len) n)
    | _, _ => undef
  out := fun _ blks => blks
noncomputable def S97A : Book := bookW [(28, clAC)] (bookOf [])
noncomputable def S98A : Book := bookW [(35, kkAC)] (bookOf [])

theorem w226 (n : Int) (o : Nat) (sp : Option Nat) (len cap : Nat) (cb : List Value) (w : Bool) (K : Value → Heap → Prop) :
  funX Try.prog S96 noLoop F226 body226 Try.f28 [0] [] [.int .i64 n, .pointer (some ⟨0,0,none⟩)] (hp (hV o sp len cap cb w)) K = (
(FlatL cb ∧ True) ∧
  (IsE (iE IntKind.i64) (ZP IntKind.i64) cb o len cap ∧ IsN [Value.int IntKind.i64 n]) ∧
    K (Value.bool (hasL n (intsAt cb o len)))
      (hp [Blk.cells [Value.slice (some { block := 1, off := o, spot := sp : Addr }) len cap] 1 true, Blk.cells cb 1 w])) := by kernel_rfl

theorem w231A (n : Int) (o : Nat) (sp : Option Nat) (len cap : Nat) (cb : List Value) (w : Bool) (K : Value → Heap → Prop) :
  funX Try.prog S97A noLoop F231 body231 Try.f35 [0,1] [] [.int .i64 n, .pointer (some ⟨0,0,none⟩)] (hp (hW 28 o sp len cap cb w)) K = (
(nojL [Value.slice (some { block := 1, off := o, spot := sp : Addr }) len cap] = true ∧ FlatL cb ∧ True) ∧
  (IsE (iE IntKind.i64) (ZP IntKind.i64) cb o len cap ∧ IsN [Value.int IntKind.i64 n]) ∧
    K (Value.bool !kpA (intsAt cb o len) n)
      (hp
        [Blk.cells [Value.func (Fn.func 28) #[] #[Value.pointer (some { block := 1, off := 0 : Addr })]] 1 true,
          Blk.cells [Value.slice (some { block := 2, off := o, spot := sp : Addr }) len cap] 1 true, Blk.cells cb 1 w])) := by kernel_rfl

theorem r232A (cs : List Value) (len cap i : Nat) (o2 : Nat) (s2 : Option Nat) (l2 c2 : Nat) (cb : List Value) (w : Bool) (K : Post) :
  roundX Try.prog S98A noLoop F232 body232 4 [1,2] [] [1,2] [] [0,1,7,8] [0,0,1,0,1] (T232 len cap i) (hp (hD cs 28 o2 s2 l2 c2 cb w)) K = (
Alt (ltI (↑i : Int) (↑len : Int))
  (Need (ltI (↑i : Int) (↑len : Int))
    (Need (isInt IntKind.i64 ((getO cs (0 + (↑i : Int).toNat * 1)).getD undef))
      ((nojL [Value.func (Fn.func 28) #[] #[Value.pointer (some { block := 1, off := 0 : Addr })]] = true ∧
          nojL [Value.slice (some { block := 2, off := o2, spot := s2 : Addr }) l2 c2] = true ∧ FlatL cb ∧ True) ∧
        (True ∧
            IsE (iE IntKind.i64) (ZP IntKind.i64) cb o2 l2 c2 ∧
              IsN [Value.int IntKind.i64 (intV ((getO cs (0 + (↑i : Int).toNat * 1)).getD undef))]) ∧
          Alt (!kpA (intsAt cb o2 l2) (intV ((getO cs (0 + (↑i : Int).toNat * 1)).getD undef)))
            (K AE.ret (tmps 19 [(4, Value.int IntKind.i64 (↑i : Int))])
              (hp
                [Blk.cells cs 1 true,
                  Blk.cells [Value.func (Fn.func 28) #[] #[Value.pointer (some { block := 2, off := 0 : Addr })]] 1
                    true,
                  Blk.cells [Value.slice (some { block := 3, off := o2, spot := s2 : Addr }) l2 c2] 1 true,
                  Blk.cells cb 1 w]))
            (K AE.normal
              (tmps 19
                [(0, Value.slice (some { block := 0, off := 0, spot := some 3 : Addr }) len cap),
                  (1, Value.func (Fn.func 35) #[] #[Value.pointer (some { block := 1, off := 0 : Addr })]),
                  (7, Value.int IntKind.i64 (↑len : Int)),
                  (8, Value.int IntKind.i64 (wr IntKind.i64 ((↑i : Int) + 1)))])
              (hp
                [Blk.cells cs 1 true,
                  Blk.cells [Value.func (Fn.func 28) #[] #[Value.pointer (some { block := 2, off := 0 : Addr })]] 1
                    true,
                  Blk.cells [Value.slice (some { block := 3, off := o2, spot := s2 : Addr }) l2 c2] 1 true,
                  Blk.cells cb 1 w])))))
  (K (AE.exit 0) (tmps 19 [])
    (hp
      [Blk.cells cs 1 true,
        Blk.cells [Value.func (Fn.func 28) #[] #[Value.pointer (some { block := 2, off := 0 : Addr })]] 1 true,
        Blk.cells [Value.slice (some { block := 3, off := o2, spot := s2 : Addr }) l2 c2] 1 true, Blk.cells cb 1 w]))) := by kernel_rfl

theorem r230A (cs : List Value) (len cap i j : Nat) (o2 : Nat) (s2 : Option Nat) (l2 c2 : Nat) (cb : List Value) (w : Bool) (K : Post) :
  roundX Try.prog S98A noLoop F230 body230 4 [1,2] [] [1,2] [] [0,1,5,6] [0,0,1,0,1,1,1] (T230 len cap i j) (hp (hD cs 28 o2 s2 l2 c2 cb w)) K = (
Alt (ltI (↑j : Int) (↑len : Int))
  (Need (ltI (↑j : Int) (↑len : Int))
    (Need (isInt IntKind.i64 ((getO cs (0 + (↑j : Int).toNat * 1)).getD undef))
      ((nojL [Value.func (Fn.func 28) #[] #[Value.pointer (some { block := 1, off := 0 : Addr })]] = true ∧
          nojL [Value.slice (some { block := 2, off := o2, spot := s2 : Addr }) l2 c2] = true ∧ FlatL cb ∧ True) ∧
        (True ∧
            IsE (iE IntKind.i64) (ZP IntKind.i64) cb o2 l2 c2 ∧
              IsN [Value.int IntKind.i64 (intV ((getO cs (0 + (↑j : Int).toNat * 1)).getD undef))]) ∧
          Alt (!!kpA (intsAt cb o2 l2) (intV ((getO cs (0 + (↑j : Int).toNat * 1)).getD undef)))
            (Need (ltI (↑i : Int) (↑len : Int))
              (Need (leN (0 + (↑i : Int).toNat * 1 + 1) cs.length)
                (K AE.normal
                  (tmps 42
                    [(0, Value.slice (some { block := 0, off := 0, spot := some 3 : Addr }) len cap),
                      (1, Value.func (Fn.func 35) #[] #[Value.pointer (some { block := 1, off := 0 : Addr })]),
                      (5, Value.int IntKind.i64 (wr IntKind.i64 ((↑i : Int) + 1))),
                      (6, Value.int IntKind.i64 (wr IntKind.i64 ((↑j : Int) + 1)))])
                  (hp
                    [Blk.cells
                        (setAll cs (0 + (↑i : Int).toNat * 1)
                          [Value.int IntKind.i64 (intV ((getO cs (0 + (↑j : Int).toNat * 1)).getD undef))])
                        1 true,
                      Blk.cells [Value.func (Fn.func 28) #[] #[Value.pointer (some { block := 2, off := 0 : Addr })]] 1
                        true,
                      Blk.cells [Value.slice (some { block := 3, off := o2, spot := s2 : Addr }) l2 c2] 1 true,
                      Blk.cells cb 1 w]))))
            (K AE.normal
              (tmps 42
                [(0, Value.slice (some { block := 0, off := 0, spot := some 3 : Addr }) len cap),
                  (1, Value.func (Fn.func 35) #[] #[Value.pointer (some { block := 1, off := 0 : Addr })]),
                  (5, Value.int IntKind.i64 (↑i : Int)), (6, Value.int IntKind.i64 (wr IntKind.i64 ((↑j : Int) + 1)))])
              (hp
                [Blk.cells cs 1 true,
                  Blk.cells [Value.func (Fn.func 28) #[] #[Value.pointer (some { block := 2, off := 0 : Addr })]] 1
                    true,
                  Blk.cells [Value.slice (some { block := 3, off := o2, spot := s2 : Addr }) l2 c2] 1 true,
                  Blk.cells cb 1 w])))))
  (K (AE.exit 0)
    (tmps 42
      [(0, Value.slice (some { block := 0, off := 0, spot := some 3 : Addr }) len cap),
        (5, Value.int IntKind.i64 (↑i : Int))])
    (hp
      [Blk.cells cs 1 true,
        Blk.cells [Value.func (Fn.func 28) #[] #[Value.pointer (some { block := 2, off := 0 : Addr })]] 1 true,
        Blk.cells [Value.slice (some { block := 3, off := o2, spot := s2 : Addr }) l2 c2] 1 true, Blk.cells cb 1 w]))) := by kernel_rfl

theorem w232A (cs : List Value) (len cap : Nat) (r : Int) (ok : Bool) (o2 : Nat) (s2 : Option Nat) (l2 c2 : Nat) (cb : List Value) (w : Bool) (K : Value → Heap → Prop) :
  funX Try.prog S98A (gcLKX (at0 [1,2]) (at0 []) 4 (cutLK [⟨[0,1,0,1], T232 len cap 0, hp (hD cs 28 o2 s2 l2 c2 cb w), fun K => Alt ok (K (.exit 0) (tmps 19 []) (hp (hD cs 28 o2 s2 l2 c2 cb w))) (K .ret (tmps 19 [(4, .int .i64 r)]) (hp (hD cs 28 o2 s2 l2 c2 cb w)))⟩])) F232 body232 Try.f47 [1,2] [] [.slice (some ⟨0,0,some 3⟩) len cap, .func (.func 35) #[] #[.pointer (some ⟨1,0,none⟩)]] (hp (hD cs 28 o2 s2 l2 c2 cb w)) K = (
FlatD [1, 2]
    (hp
      [Blk.cells cs 1 true,
        Blk.cells [Value.func (Fn.func 28) #[] #[Value.pointer (some { block := 2, off := 0 : Addr })]] 1 true,
        Blk.cells [Value.slice (some { block := 3, off := o2, spot := s2 : Addr }) l2 c2] 1 true, Blk.cells cb 1 w]) ∧
  tmps 19
        [(0, Value.slice (some { block := 0, off := 0, spot := some 3 : Addr }) len cap),
          (1, Value.func (Fn.func 35) #[] #[Value.pointer (some { block := 1, off := 0 : Addr })]),
          (7, Value.int IntKind.i64 (↑len : Int)), (8, Value.int IntKind.i64 0)] =
      tmps 19
        [(0, Value.slice (some { block := 0, off := 0, spot := some 3 : Addr }) len cap),
          (1, Value.func (Fn.func 35) #[] #[Value.pointer (some { block := 1, off := 0 : Addr })]),
          (7, Value.int IntKind.i64 (↑len : Int)), (8, Value.int IntKind.i64 0)] ∧
    hp
          [Blk.cells cs 1 true,
            Blk.cells [Value.func (Fn.func 28) #[] #[Value.pointer (some { block := 2, off := 0 : Addr })]] 1 true,
            Blk.cells [Value.slice (some { block := 3, off := o2, spot := s2 : Addr }) l2 c2] 1 true,
            Blk.cells cb 1 w] =
        hp
          [Blk.cells cs 1 true,
            Blk.cells [Value.func (Fn.func 28) #[] #[Value.pointer (some { block := 2, off := 0 : Addr })]] 1 true,
            Blk.cells [Value.slice (some { block := 3, off := o2, spot := s2 : Addr }) l2 c2] 1 true,
            Blk.cells cb 1 w] ∧
      Alt ok
        (K (Value.int IntKind.i64 (-1))
          (hp
            [Blk.cells cs 1 true,
              Blk.cells [Value.func (Fn.func 28) #[] #[Value.pointer (some { block := 2, off := 0 : Addr })]] 1 true,
              Blk.cells [Value.slice (some { block := 3, off := o2, spot := s2 : Addr }) l2 c2] 1 true,
              Blk.cells cb 1 w]))
        (K (Value.int IntKind.i64 r)
          (hp
            [Blk.cells cs 1 true,
              Blk.cells [Value.func (Fn.func 28) #[] #[Value.pointer (some { block := 2, off := 0 : Addr })]] 1 true,
              Blk.cells [Value.slice (some { block := 3, off := o2, spot := s2 : Addr }) l2 c2] 1 true,
              Blk.cells cb 1 w]))) := by kernel_rfl

theorem clA_says (hmix : Try.prog.follows .mixedOrders = true) : clAC.Holds Try.prog 28 := by
  intro args blks hf hp
  simp only [clAC] at hp ⊢
  split at hp
  · rename_i n o sp len cap cb w
    obtain ⟨hI, hN⟩ := hp
    have hI' := hI
    obtain ⟨b, rfl, hc, hB⟩ := hI
    simp only [intsAt_eq hB]
    refine ⟨⟨rfl, rfl, trivial⟩, trivial, ?_⟩
    refine (sure96 hmix).funX F226 body226 [0] [] Try.func28 rfl noLoops ?_
    have := w226 n o sp b.length cap cb w
    unfold hV at this
    rw [this, intsAt_eq hB]
    exact ⟨⟨hB.flat, trivial⟩, ⟨hI', hN⟩, FlatD.hp ⟨rfl, hB.flat, trivial⟩, rfl, rfl, rfl⟩
  · exact hp.elim
theorem sure97A (hmix : Try.prog.follows .mixedOrders = true) : Sure Try.prog S97A := ⟨hmix, plain, bookW_ok (l := [(28, clAC)]) sb9 ⟨clA_says hmix, trivial⟩⟩
theorem kkA_says (hmix : Try.prog.follows .mixedOrders = true) : kkAC.Holds Try.prog 35 := by
  intro args blks hf hp
  simp only [kkAC] at hp ⊢
  split at hp
  · rename_i n fn f c o sp len cap cb w
    obtain ⟨hG, hI, hN⟩ := hp
    obtain ⟨rfl, rfl, rfl⟩ := isG_eq hG
    have hI' := hI
    obtain ⟨b, rfl, hc, hB⟩ := hI
    simp only [intsAt_eq hB]
    refine ⟨⟨rfl, rfl, rfl, trivial⟩, trivial, ?_⟩
    refine (sure97A hmix).funX F231 body231 [0,1] [] Try.func35 rfl noLoops ?_
    have := w231A n o sp b.length cap cb w
    unfold hW at this
    rw [this, intsAt_eq hB]
    exact ⟨⟨rfl, hB.flat, trivial⟩, ⟨hI', hN⟩, FlatD.hp ⟨rfl, rfl, hB.flat, trivial⟩, rfl, rfl, rfl⟩
  · exact hp.elim
theorem sure98A (hmix : Try.prog.follows .mixedOrders = true) : Sure Try.prog S98A := ⟨hmix, plain, bookW_ok (l := [(35, kkAC)]) sb9 ⟨kkA_says hmix, trivial⟩⟩
theorem ixA_loop (hmix : Try.prog.follows .mixedOrders = true) (l b : List Int) (cs cb : List Value) (w : Bool) (o2 : Nat) (s2 : Option Nat) (cap c2 : Nat) (hc2 : b.length ≤ c2) (hA : ISl cs 0 l) (hB : ISl cb o2 b) (K : Post) : ∀ (t : List Int) (i : Nat), l.drop i = t →
    Alt (allD (kpA b) t) (K (.exit 0) (tmps 19 []) (hp (hD cs 28 o2 s2 b.length c2 cb w))) (K .ret (tmps 19 [(4, .int .i64 (idxD (kpA b) i t))]) (hp (hD cs 28 o2 s2 b.length c2 cb w))) →
    LSays Try.prog 4 (sub body232 [0,0,1,0,1]) (T232 l.length cap i) (hp (hD cs 28 o2 s2 b.length c2 cb w)) K := by
  have hF : FlatD [1, 2] (hp (hD cs 28 o2 s2 b.length c2 cb w)) := hD_flat hA.flat hB.flat
  have hsh := hA.short
  intro t
  induction t with
  | nil =>
    intro i ht hK
    have hge : ¬ ((i : Int) < (l.length : Int)) := by have := List.drop_eq_nil_iff.1 ht; omega
    refine (sure98A hmix).roundX F232 noLoops [1,2] [] [1,2] [] [0,1,7,8] ?_
    rw [r232A]
    simp only [hge, Alt_iff, Need_iff, ltI_eq, leI_eq, eqI_eq, leN_eq, eqN_eq, decide_eq_true_eq, decide_eq_false_iff_not, decide_true, decide_false, true_and, and_true, Bool.true_eq_false, Bool.false_eq_true, false_implies, true_implies, implies_true, not_true_eq_false, not_false_eq_true, Bool.not_eq_true', Bool.not_eq_false', Nat.zero_add, Nat.add_zero, Nat.sub_zero, Nat.zero_mul, Nat.mul_one, Int.toNat_natCast, List.drop_zero, beqV_int, beqV_sl, beqV_str, beqV_bool, beqV_ptr, beqV_flt, beqV_agg, beqV_tuple, List.all_cons, List.all_nil, Bool.and_self, Bool.and_true, Bool.true_and, Nat.le_refl, Int.le_refl, Nat.zero_le, Option.getD_some, isStr, strV, isInt, intV, isBool, boolV, kindEq, at0, isJunk, Option.isSome_some, Option.isSome_none, if_true, if_false, Nat.add_sub_cancel_left, Nat.add_sub_cancel]
    exact ⟨hF, hK⟩
  | cons x t ih =>
    intro i ht hK
    obtain ⟨hlt, hx, hd⟩ := cons_of_drop ht
    have hg := hA.cell i x hx
    rw [Nat.zero_add] at hg
    refine (sure98A hmix).roundX F232 noLoops [1,2] [] [1,2] [] [0,1,7,8] ?_
    rw [r232A]
    simp only [show (i : Int) < (l.length : Int) by omega, hg, nx i (by omega), intsAt_eq hB, Alt_iff, Need_iff, ltI_eq, leI_eq, eqI_eq, leN_eq, eqN_eq, decide_eq_true_eq, decide_eq_false_iff_not, decide_true, decide_false, true_and, and_true, Bool.true_eq_false, Bool.false_eq_true, false_implies, true_implies, implies_true, not_true_eq_false, not_false_eq_true, Bool.not_eq_true', Bool.not_eq_false', Nat.zero_add, Nat.add_zero, Nat.sub_zero, Nat.zero_mul, Nat.mul_one, Int.toNat_natCast, List.drop_zero, beqV_int, beqV_sl, beqV_str, beqV_bool, beqV_ptr, beqV_flt, beqV_agg, beqV_tuple, List.all_cons, List.all_nil, Bool.and_self, Bool.and_true, Bool.true_and, Nat.le_refl, Int.le_refl, Nat.zero_le, Option.getD_some, isStr, strV, isInt, intV, isBool, boolV, kindEq, at0, isJunk, Option.isSome_some, Option.isSome_none, if_true, if_false, Nat.add_sub_cancel_left, Nat.add_sub_cancel]
    refine ⟨⟨rfl, rfl, hB.flat⟩, ⟨.mk b rfl hc2 hB, .mk x (hA.ok x (List.mem_of_getElem? hx))⟩, fun h => ⟨hF, ?_⟩, fun h => ⟨hF, ?_⟩⟩
    · rw [allD, idxD, if_neg (by rw [h]; simp), if_neg (by rw [h]; simp)] at hK; exact hK
    · rw [allD, idxD, if_pos h, if_pos h] at hK; exact ih (i + 1) hd hK
noncomputable def ixAC : CtrW where
  D := [1, 2]
  W := []
  E := []
  pre := fun args blks => match args, blks with
    | [.slice (some ⟨0,0,some 3⟩) len cap, .func fn f c], [.cells cs 1 true, .cells [.func fn2 f2 c2] 1 true, .cells [.slice (some ⟨3,o,_⟩) l2 cc] 1 true, .cells cb 1 _] => isG 35 fn f c 1 ∧ isG 28 fn2 f2 c2 2 ∧ IsI cs 0 len cap ∧ IsI cb o l2 cc
    | _, _ => False
  val := fun args blks => match args, blks with
    | [.slice (some ⟨0,0,some 3⟩) len _, .func _ _ _], [.cells cs 1 true, .cells [.func _ _ _] 1 true, .cells [.slice (some ⟨3,o,_⟩) l2 _] 1 true, .cells cb 1 _] => .int .i64 (idxD (kpA (intsAt cb o l2)) 0 (intsAt cs 0 len))
    | _, _ => undef
  out := fun _ blks => blks
theorem ixA_says (hmix : Try.prog.follows .mixedOrders = true) : ixAC.Holds Try.prog 47 := by
  intro args blks hf hp
  simp only [ixAC] at hp ⊢
  split at hp
  · rename_i len cap fn f c cs fn2 f2 c2 o sp l2 cc cb w
    obtain ⟨hG, hG2, hI, hJ⟩ := hp
    obtain ⟨rfl, rfl, rfl⟩ := isG_eq hG
    obtain ⟨rfl, rfl, rfl⟩ := isG_eq hG2
    obtain ⟨l, rfl, hc, hA⟩ := hI
    obtain ⟨b, rfl, hc2, hB⟩ := hJ
    simp only [intsAt_eq hB, intsAt_eq hA]
    refine ⟨⟨rfl, rfl, rfl, rfl, trivial⟩, trivial, ?_⟩
    have hF : FlatD [1, 2] (AM.hp (hD cs 28 o sp b.length cc cb w)) := hD_flat hA.flat hB.flat
    have hL : Loops Try.prog body232 4 (cutLK [⟨[0,1,0,1], T232 l.length cap 0, AM.hp (hD cs 28 o sp b.length cc cb w), fun K => Alt (allD (kpA b) l) (K (.exit 0) (tmps 19 []) (AM.hp (hD cs 28 o sp b.length cc cb w))) (K .ret (tmps 19 [(4, .int .i64 (idxD (kpA b) 0 l))]) (AM.hp (hD cs 28 o sp b.length cc cb w)))⟩]) := Loops.none.more _ fun K hK => by
      show LSays Try.prog _ (sub body232 [0,0,1,0,1]) _ _ _
      exact ixA_loop hmix l b cs cb w o sp cap cc hc2 hA hB K l 0 rfl hK
    refine (sure98A hmix).funX F232 body232 [1,2] [] Try.func47 rfl (hL.gcX (at0 [1,2]) (at0 [])) ?_
    have := w232A cs l.length cap (idxD (kpA b) 0 l) (allD (kpA b) l) o sp b.length cc cb w
    unfold hD at *
    rw [this]
    refine ⟨hF, rfl, rfl, ?_⟩
    rcases allD_idx (kpA b) l 0 with ⟨h1, h2, _⟩ | ⟨h1, _⟩
    · rw [h1, h2]; exact ⟨hF, rfl, rfl, rfl⟩
    · rw [h1]; exact ⟨hF, rfl, rfl, rfl⟩
  · exact hp.elim
noncomputable def S99A : Book := bookW [(35, kkAC), (47, ixAC)] (bookOf [])
theorem sure99A (hmix : Try.prog.follows .mixedOrders = true) : Sure Try.prog S99A := ⟨hmix, plain, bookW_ok (l := [(35, kkAC), (47, ixAC)]) sb9 ⟨kkA_says hmix, ixA_says hmix, trivial⟩⟩
theorem deA_loop (hmix : Try.prog.follows .mixedOrders = true) (l b : List Int) (q cb : List Value) (w : Bool) (o2 : Nat) (s2 : Option Nat) (cap c2 : Nat) (hc2 : b.length ≤ c2) (hz : ∀ x ∈ l, ZP .i64 x) (hq : FlatL q) (hl : l.length ≤ 1000000) (hB : ISl cb o2 b) (K : Post) : ∀ (t F : List Int) (j : Nat), l.drop j = t → F.length ≤ j → j ≤ l.length →
    K (.exit 0) (tmps 42 [(0, .slice (some ⟨0,0,some 3⟩) l.length cap), (5, .int .i64 ((F ++ t.filter (kpA b)).length : Nat))]) (hp (hD (eC (iE .i64) ((F ++ t.filter (kpA b)) ++ l.drop (F ++ t.filter (kpA b)).length) ++ q) 28 o2 s2 b.length c2 cb w)) →
    LSays Try.prog 4 (sub body230 [0,0,1,0,1,1,1]) (T230 l.length cap F.length j) (hp (hD (eC (iE .i64) (F ++ l.drop F.length) ++ q) 28 o2 s2 b.length c2 cb w)) K := by
  have hfl : ∀ F : List Int, FlatL (eC (iE .i64) F ++ q) := fun F => ⟨fun x hx => (List.mem_append.1 hx).elim ((eC_flat flat_i F).1 x) (hq.1 x)⟩
  have hF : ∀ F : List Int, FlatD [1, 2] (hp (hD (eC (iE .i64) F ++ q) 28 o2 s2 b.length c2 cb w)) := fun F => hD_flat (hfl F) hB.flat
  intro t
  induction t with
  | nil =>
    intro F j ht hFj hj hK
    have hge : ¬ ((j : Int) < (l.length : Int)) := by have := List.drop_eq_nil_iff.1 ht; omega
    refine (sure98A hmix).roundX F230 noLoops [1,2] [] [1,2] [] [0,1,5,6] ?_
    rw [r230A]
    simp only [hge, Alt_iff, Need_iff, ltI_eq, leI_eq, eqI_eq, leN_eq, eqN_eq, decide_eq_true_eq, decide_eq_false_iff_not, decide_true, decide_false, true_and, and_true, Bool.true_eq_false, Bool.false_eq_true, false_implies, true_implies, implies_true, not_true_eq_false, not_false_eq_true, Bool.not_eq_true', Bool.not_eq_false', Nat.zero_add, Nat.add_zero, Nat.sub_zero, Nat.zero_mul, Nat.mul_one, Int.toNat_natCast, List.drop_zero, beqV_int, beqV_sl, beqV_str, beqV_bool, beqV_ptr, beqV_flt, beqV_agg, beqV_tuple, List.all_cons, List.all_nil, Bool.and_self, Bool.and_true, Bool.true_and, Nat.le_refl, Int.le_refl, Nat.zero_le, Option.getD_some, isStr, strV, isInt, intV, isBool, boolV, kindEq, at0, isJunk, Option.isSome_some, Option.isSome_none, if_true, if_false, Nat.add_sub_cancel_left, Nat.add_sub_cancel]
    simp only [List.filter_nil, List.append_nil] at hK
    exact ⟨hF _, hK⟩
  | cons x t ih =>
    intro F j ht hFj hj hK
    obtain ⟨hlt, hx, hd⟩ := cons_of_drop ht
    have hlen : (F ++ l.drop F.length).length = l.length := by simp; omega
    have hg : getO (eC (iE .i64) (F ++ l.drop F.length) ++ q) j = some (iE .i64 x) := by
      rw [getO_eq, List.getElem?_append_left (by rw [eC_len]; omega), ← getO_eq]
      refine eC_get _ _ ?_
      rw [List.getElem?_append_right hFj, List.getElem?_drop, show F.length + (j - F.length) = j by omega, hx]
    have hset : setAll (eC (iE .i64) (F ++ l.drop F.length) ++ q) F.length [.int .i64 x] = eC (iE .i64) ((F ++ [x]) ++ l.drop (F ++ [x]).length) ++ q := by
      rw [eC_append, List.append_assoc, setAll_app _ _ _ _ (eC_len _ _) (by simp [eC_len]; omega)]
      have : (eC (iE .i64) (l.drop F.length) ++ q).drop 1 = eC (iE .i64) (l.drop (F.length + 1)) ++ q := by
        rw [List.drop_append_of_le_length (by rw [eC_len]; simp; omega), eC_drop, List.drop_drop]
      rw [List.length_singleton, this, eC_append, eC_append]
      simp [eC]
    refine (sure98A hmix).roundX F230 noLoops [1,2] [] [1,2] [] [0,1,5,6] ?_
    rw [r230A]
    have hroom : F.length + 1 ≤ (eC (iE .i64) (F ++ l.drop F.length) ++ q).length := by simp only [List.length_append, eC_len]; simp; omega
    simp only [show (j : Int) < (l.length : Int) by omega, show (F.length : Int) < (l.length : Int) by omega, hg, nx j (by omega), nx F.length (by omega), intsAt_eq hB, hset, hroom, Alt_iff, Need_iff, ltI_eq, leI_eq, eqI_eq, leN_eq, eqN_eq, decide_eq_true_eq, decide_eq_false_iff_not, decide_true, decide_false, true_and, and_true, Bool.true_eq_false, Bool.false_eq_true, false_implies, true_implies, implies_true, not_true_eq_false, not_false_eq_true, Bool.not_eq_true', Bool.not_eq_false', Nat.zero_add, Nat.add_zero, Nat.sub_zero, Nat.zero_mul, Nat.mul_one, Int.toNat_natCast, List.drop_zero, beqV_int, beqV_sl, beqV_str, beqV_bool, beqV_ptr, beqV_flt, beqV_agg, beqV_tuple, List.all_cons, List.all_nil, Bool.and_self, Bool.and_true, Bool.true_and, Nat.le_refl, Int.le_refl, Nat.zero_le, Option.getD_some, isStr, strV, isInt, intV, isBool, boolV, kindEq, at0, isJunk, Option.isSome_some, Option.isSome_none, if_true, if_false, Nat.add_sub_cancel_left, Nat.add_sub_cancel]
    refine ⟨⟨rfl, rfl, hB.flat⟩, ⟨.mk b rfl hc2 hB, .mk x (hz x (List.mem_of_getElem? hx))⟩, fun h => ⟨hF _, ?_⟩, fun h => ⟨hF _, ?_⟩⟩
    · have h : kpA b x = true := by simpa using h
      have e : F ++ (x :: t).filter (kpA b) = (F ++ [x]) ++ t.filter (kpA b) := by rw [List.filter_cons, if_pos h]; simp
      rw [e] at hK
      have := ih (F ++ [x]) (j + 1) hd (by simp; omega) (by omega) hK
      rw [show (F ++ [x]).length = F.length + 1 by simp] at this ⊢
      exact this
    · have h : kpA b x = false := by simpa using h
      have e : (x :: t).filter (kpA b) = t.filter (kpA b) := by rw [List.filter_cons, if_neg (by rw [h]; simp)]
      rw [e] at hK
      exact ih F (j + 1) hd (by omega) (by omega) hK

theorem w230A (cs : List Value) (len cap i m : Nat) (c3 : List Value) (o2 : Nat) (s2 : Option Nat) (l2 c2 : Nat) (cb : List Value) (w : Bool) (K : Value → Heap → Prop) :
  funX Try.prog S99A (gcLKX (at0 [1,2]) (at0 []) 4 (cutLK [⟨[0,1,0,1,1,1], T230 len cap i (i + 1), hp (hD cs 28 o2 s2 l2 c2 cb w), fun K => K (.exit 0) (tmps 42 [(0, .slice (some ⟨0,0,some 3⟩) len cap), (5, .int .i64 m)]) (hp (hD c3 28 o2 s2 l2 c2 cb w))⟩])) F230 body230 Try.f34 [1,2] [] [.slice (some ⟨0,0,some 3⟩) len cap, .func (.func 35) #[] #[.pointer (some ⟨1,0,none⟩)]] (hp (hD cs 28 o2 s2 l2 c2 cb w)) K = (
(FlatL cs ∧
    nojL [Value.func (Fn.func 28) #[] #[Value.pointer (some { block := 2, off := 0 : Addr })]] = true ∧
      nojL [Value.slice (some { block := 3, off := o2, spot := s2 : Addr }) l2 c2] = true ∧ FlatL cb ∧ True) ∧
  (True ∧
      True ∧ IsE (iE IntKind.i64) (ZP IntKind.i64) cs 0 len cap ∧ IsE (iE IntKind.i64) (ZP IntKind.i64) cb o2 l2 c2) ∧
    Alt (eqI (idxD (kpA (intsAt cb o2 l2)) 0 (intsAt cs 0 len)) (-1))
      (K (Value.slice (some { block := 0, off := 0, spot := some 3 : Addr }) len cap)
        (hp
          [Blk.cells cs 1 true,
            Blk.cells [Value.func (Fn.func 28) #[] #[Value.pointer (some { block := 2, off := 0 : Addr })]] 1 true,
            Blk.cells [Value.slice (some { block := 3, off := o2, spot := s2 : Addr }) l2 c2] 1 true,
            Blk.cells cb 1 w]))
      (FlatD [1, 2]
          (hp
            [Blk.cells cs 1 true,
              Blk.cells [Value.func (Fn.func 28) #[] #[Value.pointer (some { block := 2, off := 0 : Addr })]] 1 true,
              Blk.cells [Value.slice (some { block := 3, off := o2, spot := s2 : Addr }) l2 c2] 1 true,
              Blk.cells cb 1 w]) ∧
        tmps 42
              [(0, Value.slice (some { block := 0, off := 0, spot := some 3 : Addr }) len cap),
                (1, Value.func (Fn.func 35) #[] #[Value.pointer (some { block := 1, off := 0 : Addr })]),
                (5, Value.int IntKind.i64 (idxD (kpA (intsAt cb o2 l2)) 0 (intsAt cs 0 len))),
                (6, Value.int IntKind.i64 (wr IntKind.i64 (idxD (kpA (intsAt cb o2 l2)) 0 (intsAt cs 0 len) + 1)))] =
            tmps 42
              [(0, Value.slice (some { block := 0, off := 0, spot := some 3 : Addr }) len cap),
                (1, Value.func (Fn.func 35) #[] #[Value.pointer (some { block := 1, off := 0 : Addr })]),
                (5, Value.int IntKind.i64 (↑i : Int)), (6, Value.int IntKind.i64 (↑(i + 1) : Int))] ∧
          hp
                [Blk.cells cs 1 true,
                  Blk.cells [Value.func (Fn.func 28) #[] #[Value.pointer (some { block := 2, off := 0 : Addr })]] 1
                    true,
                  Blk.cells [Value.slice (some { block := 3, off := o2, spot := s2 : Addr }) l2 c2] 1 true,
                  Blk.cells cb 1 w] =
              hp
                [Blk.cells cs 1 true,
                  Blk.cells [Value.func (Fn.func 28) #[] #[Value.pointer (some { block := 2, off := 0 : Addr })]] 1
                    true,
                  Blk.cells [Value.slice (some { block := 3, off := o2, spot := s2 : Addr }) l2 c2] 1 true,
                  Blk.cells cb 1 w] ∧
            Need (leI (↑m : Int) (↑len : Int))
              (Alt (eqN (len - (↑m : Int).toNat) 0)
                (Need (leI (↑m : Int) (↑cap : Int))
                  (K
                    (Value.slice (some { block := 0, off := 0, spot := some 3 : Addr }) ((↑m : Int).toNat - 0)
                      (cap - 0))
                    (hp
                      [Blk.cells c3 1 true,
                        Blk.cells [Value.func (Fn.func 28) #[] #[Value.pointer (some { block := 2, off := 0 : Addr })]]
                          1 true,
                        Blk.cells [Value.slice (some { block := 3, off := o2, spot := s2 : Addr }) l2 c2] 1 true,
                        Blk.cells cb 1 w])))
                (Need
                  (leN (0 + (↑m : Int).toNat * 1 + (repl (len - (↑m : Int).toNat) [Value.int IntKind.i64 0]).length)
                    c3.length)
                  (Need ((repl (len - (↑m : Int).toNat) [Value.int IntKind.i64 0]).all oneV)
                    (Need (leI (↑m : Int) (↑cap : Int))
                      (K
                        (Value.slice (some { block := 0, off := 0, spot := some 3 : Addr }) ((↑m : Int).toNat - 0)
                          (cap - 0))
                        (hp
                          [Blk.cells
                              (setAll c3 (0 + (↑m : Int).toNat * 1)
                                (repl (len - (↑m : Int).toNat) [Value.int IntKind.i64 0]))
                              1 true,
                            Blk.cells
                              [Value.func (Fn.func 28) #[] #[Value.pointer (some { block := 2, off := 0 : Addr })]] 1
                              true,
                            Blk.cells [Value.slice (some { block := 3, off := o2, spot := s2 : Addr }) l2 c2] 1 true,
                            Blk.cells cb 1 w])))))))) := by kernel_rfl

theorem w230eA (cs : List Value) (len cap : Nat) (o2 : Nat) (s2 : Option Nat) (l2 c2 : Nat) (cb : List Value) (w : Bool) (K : Value → Heap → Prop) :
  funX Try.prog S99A noLoop F230 body230 Try.f34 [1,2] [] [.slice (some ⟨0,0,some 3⟩) len cap, .func (.func 35) #[] #[.pointer (some ⟨1,0,none⟩)]] (hp (hD cs 28 o2 s2 l2 c2 cb w)) K = (
(FlatL cs ∧
    nojL [Value.func (Fn.func 28) #[] #[Value.pointer (some { block := 2, off := 0 : Addr })]] = true ∧
      nojL [Value.slice (some { block := 3, off := o2, spot := s2 : Addr }) l2 c2] = true ∧ FlatL cb ∧ True) ∧
  (True ∧
      True ∧ IsE (iE IntKind.i64) (ZP IntKind.i64) cs 0 len cap ∧ IsE (iE IntKind.i64) (ZP IntKind.i64) cb o2 l2 c2) ∧
    Need (eqI (idxD (kpA (intsAt cb o2 l2)) 0 (intsAt cs 0 len)) (-1))
      (K (Value.slice (some { block := 0, off := 0, spot := some 3 : Addr }) len cap)
        (hp
          [Blk.cells cs 1 true,
            Blk.cells [Value.func (Fn.func 28) #[] #[Value.pointer (some { block := 2, off := 0 : Addr })]] 1 true,
            Blk.cells [Value.slice (some { block := 3, off := o2, spot := s2 : Addr }) l2 c2] 1 true,
            Blk.cells cb 1 w]))) := by kernel_rfl

noncomputable def deAC : CtrW where
  D := [1, 2]
  W := [0]
  E := []
  pre := fun args blks => match args, blks with
    | [.slice (some ⟨0,0,some 3⟩) len cap, .func fn f c], [.cells cs 1 true, .cells [.func fn2 f2 c2] 1 true, .cells [.slice (some ⟨3,o,_⟩) l2 cc] 1 true, .cells cb 1 _] => isG 35 fn f c 1 ∧ isG 28 fn2 f2 c2 2 ∧ IsI cs 0 len cap ∧ IsI cb o l2 cc ∧ Need (leN len 1000000) True
    | _, _ => False
  val := fun args blks => match args, blks with
    | [.slice (some ⟨0,0,some 3⟩) len cap, .func _ _ _], [.cells cs 1 true, .cells [.func _ _ _] 1 true, .cells [.slice (some ⟨3,o,_⟩) l2 _] 1 true, .cells cb 1 _] => .slice (some ⟨0,0,some 3⟩) ((intsAt cs 0 len).filter (kpA (intsAt cb o l2))).length cap
    | _, _ => undef
  out := fun args blks => match args, blks with
    | [.slice (some ⟨0,0,some 3⟩) len cap, .func _ _ _], [.cells cs 1 true, .cells [.func f g h] 1 true, .cells [.slice (some ⟨3,o,sp⟩) l2 cc] 1 true, .cells cb 1 w] => [.cells (delC (kpA (intsAt cb o l2)) len cs) 1 true, .cells [.func f g h] 1 true, .cells [.slice (some ⟨3,o,sp⟩) l2 cc] 1 true, .cells cb 1 w]
    | _, b => b
theorem deA_says (hmix : Try.prog.follows .mixedOrders = true) : deAC.Holds Try.prog 34 := by
  intro args blks hf hp
  simp only [deAC] at hp ⊢
  split at hp
  · rename_i len cap fn f c cs fn2 f2 c2 o sp l2 cc cb w
    obtain ⟨hG, hG2, hI, hJ, hk⟩ := hp
    obtain ⟨rfl, rfl, rfl⟩ := isG_eq hG
    obtain ⟨rfl, rfl, rfl⟩ := isG_eq hG2
    have hI' := hI
    have hJ' := hJ
    obtain ⟨l, rfl, hc, hA⟩ := hI
    obtain ⟨b, rfl, hc2, hB⟩ := hJ
    simp only [Alt_iff, Need_iff, ltI_eq, leI_eq, eqI_eq, leN_eq, eqN_eq, decide_eq_true_eq, decide_eq_false_iff_not, decide_true, decide_false, true_and, and_true, Bool.true_eq_false, Bool.false_eq_true, false_implies, true_implies, implies_true, not_true_eq_false, not_false_eq_true, Bool.not_eq_true', Bool.not_eq_false'] at hk
    have hrow := IsI.row hA
    simp only [intsAt_eq hB, intsAt_eq hA]
    refine ⟨⟨trivial, rfl, rfl, rfl, trivial⟩, ⟨delC_flat hA.flat, trivial⟩, ?_⟩
    have hF : FlatD [1, 2] (AM.hp (hD cs 28 o sp b.length cc cb w)) := hD_flat hA.flat hB.flat
    have hdel : delC (kpA b) l.length cs = eC (iE .i64) (l.filter (kpA b) ++ List.replicate (l.length - (l.filter (kpA b)).length) 0) ++ cs.drop l.length := by unfold delC; rw [intsAt_eq hA]
    rcases allD_idx (kpA b) l 0 with ⟨h1, h2, h3⟩ | ⟨h1, a, x, t, h2, h3, h4, h5⟩
    · refine (sure99A hmix).funX F230 body230 [1,2] [] Try.func34 rfl noLoops ?_
      have := w230eA cs l.length cap o sp b.length cc cb w
      unfold hD at *
      rw [this, intsAt_eq hB, intsAt_eq hA, h2, hdel, h3, Nat.sub_self, List.replicate_zero, List.append_nil, ← hrow]
      exact ⟨⟨hA.flat, rfl, rfl, hB.flat, trivial⟩, ⟨trivial, trivial, hI', hJ'⟩, hF, rfl, rfl, rfl⟩
    · have hfe : l.filter (kpA b) = a ++ t.filter (kpA b) := by rw [h2, List.filter_append, h4, List.filter_cons, if_neg (by rw [h5]; simp)]
      have hla : a.length < l.length := by rw [h2]; simp
      have hfl : (l.filter (kpA b)).length ≤ l.length := List.length_filter_le _ _
      have hdr : l.drop (a.length + 1) = t := by rw [h2, List.drop_append]; simp
      have hst : eC (iE .i64) (a ++ l.drop a.length) ++ cs.drop l.length = cs := by
        have : a ++ l.drop a.length = l := by conv => rhs; rw [← List.take_append_drop a.length l]
                                              congr 1; rw [h2]; simp
        rw [this]; exact hrow.symm
      have hL : Loops Try.prog body230 4 (cutLK [⟨[0,1,0,1,1,1], T230 l.length cap a.length (a.length + 1), AM.hp (hD cs 28 o sp b.length cc cb w), fun K => K (.exit 0) (tmps 42 [(0, .slice (some ⟨0,0,some 3⟩) l.length cap), (5, .int .i64 ((l.filter (kpA b)).length : Nat))]) (AM.hp (hD (eC (iE .i64) (l.filter (kpA b) ++ l.drop (l.filter (kpA b)).length) ++ cs.drop l.length) 28 o sp b.length cc cb w))⟩]) := Loops.none.more _ fun K hK => by
        show LSays Try.prog _ (sub body230 [0,0,1,0,1,1,1]) _ _ _
        rw [hfe] at hK
        have := deA_loop hmix l b (cs.drop l.length) cb w o sp cap cc hc2 hA.ok ⟨fun x hx => hA.flat.1 x (List.mem_of_mem_drop hx)⟩ hk hB K t a (a.length + 1) hdr (by omega) (by omega) hK
        rw [hst] at this; exact this
      refine (sure99A hmix).funX F230 body230 [1,2] [] Try.func34 rfl (hL.gcX (at0 [1,2]) (at0 [])) ?_
      have := w230A cs l.length cap a.length (l.filter (kpA b)).length (eC (iE .i64) (l.filter (kpA b) ++ l.drop (l.filter (kpA b)).length) ++ cs.drop l.length) o sp b.length cc cb w
      have hq : FlatL (cs.drop l.length) := ⟨fun x hx => hA.flat.1 x (List.mem_of_mem_drop hx)⟩
      have hF2 : ∀ L : List Int, FlatD [1, 2] (AM.hp (hD (eC (iE .i64) L ++ cs.drop l.length) 28 o sp b.length cc cb w)) := fun L => hD_flat ⟨fun x hx => (List.mem_append.1 hx).elim ((eC_flat flat_i L).1 x) (hq.1 x)⟩ hB.flat
      have hfull := del_full (l := l) (q := cs.drop l.length) (l.filter (kpA b)) hfl
      have hrl : (repl (l.length - (l.filter (kpA b)).length) [Value.int .i64 0]).length = l.length - (l.filter (kpA b)).length := by rw [repl_one, List.length_replicate]
      have hro : (repl (l.length - (l.filter (kpA b)).length) [Value.int .i64 0]).all oneV = true := by rw [repl_one]; simp [oneV]
      have hcl : (eC (iE .i64) (l.filter (kpA b) ++ l.drop (l.filter (kpA b)).length) ++ cs.drop l.length).length = l.length + (cs.drop l.length).length := by rw [List.length_append, eC_len, List.length_append, List.length_drop]; omega
      unfold hD at *
      rw [this]
      simp only [intsAt_eq hB, intsAt_eq hA, h3, Nat.zero_add, nx a.length (by omega), hdel, hfull, hrl, hro, hcl, show ¬ ((a.length : Int) = -1) by omega, show ((l.filter (kpA b)).length : Int) ≤ (l.length : Int) by omega, show ((l.filter (kpA b)).length : Int) ≤ (cap : Int) by omega, Alt_iff, Need_iff, ltI_eq, leI_eq, eqI_eq, leN_eq, eqN_eq, decide_eq_true_eq, decide_eq_false_iff_not, decide_true, decide_false, true_and, and_true, Bool.true_eq_false, Bool.false_eq_true, false_implies, true_implies, implies_true, not_true_eq_false, not_false_eq_true, Bool.not_eq_true', Bool.not_eq_false', Nat.zero_add, Nat.add_zero, Nat.sub_zero, Nat.zero_mul, Nat.mul_one, Int.toNat_natCast, List.drop_zero, beqV_int, beqV_sl, beqV_str, beqV_bool, beqV_ptr, beqV_flt, beqV_agg, beqV_tuple, List.all_cons, List.all_nil, Bool.and_self, Bool.and_true, Bool.true_and, Nat.le_refl, Int.le_refl, Nat.zero_le, Option.getD_some, isStr, strV, isInt, intV, isBool, boolV, kindEq, at0, isJunk, Option.isSome_some, Option.isSome_none, if_true, if_false, Nat.add_sub_cancel_left, Nat.add_sub_cancel]
      refine ⟨⟨hA.flat, rfl, rfl, hB.flat⟩, ⟨hI', hJ'⟩, hF, fun h => ?_, fun h => ?_⟩
      · have he : l.length = (l.filter (kpA b)).length := by omega
        have e1 : l.drop (l.filter (kpA b)).length = [] := List.drop_eq_nil_of_le (by omega)
        rw [e1, h, List.replicate_zero]
        exact ⟨hF2 _, rfl⟩
      · and_intros <;> first | omega | exact hF2 _ | rfl
  · exact hp.elim
noncomputable def keAC : CtrW where
  D := [1]
  W := []
  E := []
  pre := fun args blks => match args, blks with
    | [.slice (some ⟨0,o1,_⟩) len cap, .func fn f c], [.cells cs 1 _, .cells [.slice (some ⟨2,o,_⟩) l2 cc] 1 true, .cells cb 1 _] => isG 28 fn f c 1 ∧ IsI cs o1 len cap ∧ IsI cb o l2 cc ∧ Need (leN len 1000000) (Need (leN o1 cs.length) True)
    | _, _ => False
  val := fun args blks => match args, blks with
    | [.slice (some ⟨0,o1,_⟩) len _, .func _ _ _], [.cells cs 1 _, .cells [.slice (some ⟨2,o,_⟩) l2 _] 1 true, .cells cb 1 _] => .slice (some ⟨3,0,some 3⟩) ((ddL (intsAt cs o1 len)).filter (kpA (intsAt cb o l2))).length len
    | _, _ => undef
  out := fun args blks => match args, blks with
    | [.slice (some ⟨0,o1,_⟩) len _, .func _ _ _], [.cells cs 1 w0, .cells [.slice (some ⟨2,o,sp⟩) l2 cc] 1 true, .cells cb 1 w] => [.cells cs 1 w0, .cells [.slice (some ⟨2,o,sp⟩) l2 cc] 1 true, .cells cb 1 w, .cells (delC (kpA (intsAt cb o l2)) (ddL (intsAt cs o1 len)).length (mkC (intsAt cs o1 len))) 1 true]
    | _, b => b
noncomputable def S100A : Book := bookW [(34, deAC)] (bookOf [(14, makeC)])
theorem sure100A (hmix : Try.prog.follows .mixedOrders = true) : Sure Try.prog S100A := ⟨hmix, plain, bookW_ok (l := [(34, deAC)]) (bookOf_ok (l := [(14, makeC)]) ⟨make_says hmix, trivial⟩) ⟨deA_says hmix, trivial⟩⟩

theorem w225A (cs : List Value) (w0 : Bool) (o1 : Nat) (sp : Option Nat) (len cap : Nat) (o2 : Nat) (s2 : Option Nat) (l2 c2 : Nat) (cb : List Value) (w : Bool) (K : Value → Heap → Prop) :
  funX Try.prog S100A noLoop F225 body225 Try.f27 [1] [] [.slice (some ⟨0,o1,sp⟩) len cap, .func (.func 28) #[] #[.pointer (some ⟨1,0,none⟩)]] (hp (hE cs w0 o2 s2 l2 c2 cb w)) K = (
(FlatL cs ∧ True) ∧
  (IsE (iE IntKind.i64) (ZP IntKind.i64) cs o1 len cap ∧ Need (leN len 1000000000) (Need (leN o1 cs.length) True)) ∧
    (FlatL (mkC (intsAt cs o1 len)) ∧
        nojL [Value.func (Fn.func 28) #[] #[Value.pointer (some { block := 2, off := 0 : Addr })]] = true ∧
          nojL [Value.slice (some { block := 3, off := o2, spot := s2 : Addr }) l2 c2] = true ∧ FlatL cb ∧ True) ∧
      (True ∧
          True ∧
            IsE (iE IntKind.i64) (ZP IntKind.i64) (mkC (intsAt cs o1 len)) 0 (ddL (intsAt cs o1 len)).length len ∧
              IsE (iE IntKind.i64) (ZP IntKind.i64) cb o2 l2 c2 ∧
                Need (leN (ddL (intsAt cs o1 len)).length 1000000) True) ∧
        K
          (Value.slice (some { block := 3, off := 0, spot := some 3 : Addr })
            (List.filter (kpA (intsAt cb o2 l2))
                (intsAt (mkC (intsAt cs o1 len)) 0 (ddL (intsAt cs o1 len)).length)).length
            len)
          (hp
            [Blk.cells cs 1 w0,
              Blk.cells [Value.slice (some { block := 2, off := o2, spot := s2 : Addr }) l2 c2] 1 true,
              Blk.cells cb 1 w,
              Blk.cells (delC (kpA (intsAt cb o2 l2)) (ddL (intsAt cs o1 len)).length (mkC (intsAt cs o1 len))) 1 true])) := by kernel_rfl

theorem keA_says (hmix : Try.prog.follows .mixedOrders = true) : keAC.Holds Try.prog 27 := by
  intro args blks hf hp
  simp only [keAC] at hp ⊢
  split at hp
  · rename_i o1 s1 len cap fn f c cs w0 o sp l2 cc cb w
    obtain ⟨hG, hI, hJ, hk⟩ := hp
    obtain ⟨rfl, rfl, rfl⟩ := isG_eq hG
    have hI' := hI
    have hJ' := hJ
    obtain ⟨l, rfl, hc, hA⟩ := hI
    obtain ⟨b, rfl, hc2, hB⟩ := hJ
    simp only [Alt_iff, Need_iff, ltI_eq, leI_eq, eqI_eq, leN_eq, eqN_eq, decide_eq_true_eq, decide_eq_false_iff_not, decide_true, decide_false, true_and, and_true, Bool.true_eq_false, Bool.false_eq_true, false_implies, true_implies, implies_true, not_true_eq_false, not_false_eq_true, Bool.not_eq_true', Bool.not_eq_false'] at hk
    obtain ⟨k1, k2⟩ := hk
    obtain ⟨m1, m2, m3⟩ := mkC_is hA.ok k1
    have hdl := ddL_len l
    simp only [intsAt_eq hB, intsAt_eq hA]
    refine ⟨⟨rfl, rfl, rfl, trivial⟩, ⟨delC_flat m3, trivial⟩, ?_⟩
    refine (sure100A hmix).funX F225 body225 [1] [] Try.func27 rfl noLoops ?_
    have := w225A cs w0 o1 s1 l.length cap o sp b.length cc cb w
    unfold hE at this
    rw [this, intsAt_eq hB, intsAt_eq hA, intsAt_eq m1]
    refine ⟨⟨hA.flat, trivial⟩, ⟨hI', Need_iff.2 ⟨leN_iff.2 (by omega), Need_iff.2 ⟨leN_iff.2 k2, trivial⟩⟩⟩, ⟨m3, rfl, rfl, hB.flat, trivial⟩, ⟨trivial, trivial, m2, hJ', Need_iff.2 ⟨leN_iff.2 (by omega), trivial⟩⟩, FlatD.hp ⟨hA.flat, rfl, hB.flat, delC_flat m3, trivial⟩, rfl, rfl, rfl⟩
  · exact hp.elim
noncomputable def S101A : Book := bookW [(27, keAC)] (bookOf [])
theorem sure101A (hmix : Try.prog.follows .mixedOrders = true) : Sure Try.prog S101A := ⟨hmix, plain, bookW_ok (l := [(27, keAC)]) sb9 ⟨keA_says hmix, trivial⟩⟩

theorem w214 (ca cb : List Value) (w1 w2 : Bool) (o1 o2 : Nat) (s1 s2 : Option Nat) (l1 c1 l2 c2 : Nat) (K : Value → Heap → Prop) :
  funX Try.prog S101A noLoop F214 body214 Try.f16 [] [] [.slice (some ⟨0,o1,s1⟩) l1 c1, .slice (some ⟨1,o2,s2⟩) l2 c2] (hp [.cells ca 1 w1, .cells cb 1 w2]) K = (
(FlatL ca ∧ nojL [Value.slice (some { block := 2, off := o2, spot := s2 : Addr }) l2 c2] = true ∧ FlatL cb ∧ True) ∧
  (True ∧
      IsE (iE IntKind.i64) (ZP IntKind.i64) ca o1 l1 c1 ∧
        IsE (iE IntKind.i64) (ZP IntKind.i64) cb o2 l2 c2 ∧ Need (leN l1 1000000) (Need (leN o1 ca.length) True)) ∧
    K
      (Value.slice (some { block := 2, off := 0, spot := some 3 : Addr })
        (List.filter (kpA (intsAt cb o2 l2)) (ddL (intsAt ca o1 l1))).length l1)
      (hp
        [Blk.cells ca 1 w1, Blk.cells cb 1 w2,
          Blk.cells (delC (kpA (intsAt cb o2 l2)) (ddL (intsAt ca o1 l1)).length (mkC (intsAt ca o1 l1))) 1 true])) := by kernel_rfl

noncomputable def anAC : Ctr where
  pre := fun args blks => match args, blks with
    | [.slice (some ⟨0, o1, _⟩) l1 c1, .slice (some ⟨1, o2, _⟩) l2 c2], [.cells ca 1 _, .cells cb 1 _] => IsI ca o1 l1 c1 ∧ IsI cb o2 l2 c2 ∧ Need (leN l1 1000000) (Need (leN o1 ca.length) True)
    | _, _ => False
  val := fun args blks => match args, blks with
    | [.slice (some ⟨0, o1, _⟩) l1 _, .slice (some ⟨1, o2, _⟩) l2 _], [.cells ca 1 _, .cells cb 1 _] => .slice (some ⟨2,0,some 3⟩) ((ddL (intsAt ca o1 l1)).filter (kpA (intsAt cb o2 l2))).length l1
    | _, _ => undef
  new := fun args blks => match args, blks with
    | [.slice (some ⟨0, o1, _⟩) l1 _, .slice (some ⟨1, o2, _⟩) l2 _], [.cells ca 1 _, .cells cb 1 _] => [.cells (delC (kpA (intsAt cb o2 l2)) (ddL (intsAt ca o1 l1)).length (mkC (intsAt ca o1 l1))) 1 true]
    | _, _ => []
theorem anA_says (hmix : Try.prog.follows .mixedOrders = true) : anAC.Holds Try.prog 16 := by
  intro args blks hf hp
  simp only [anAC] at hp ⊢
  split at hp
  · rename_i o1 s1 l1 c1 o2 s2 l2 c2 ca w1 cb w2
    obtain ⟨hI, hJ, hk⟩ := hp
    have hI' := hI
    have hJ' := hJ
    have hk' := hk
    obtain ⟨l, rfl, hc, hA⟩ := hI
    obtain ⟨b, rfl, hc2, hB⟩ := hJ
    simp only [Alt_iff, Need_iff, ltI_eq, leI_eq, eqI_eq, leN_eq, eqN_eq, decide_eq_true_eq, decide_eq_false_iff_not, decide_true, decide_false, true_and, and_true, Bool.true_eq_false, Bool.false_eq_true, false_implies, true_implies, implies_true, not_true_eq_false, not_false_eq_true, Bool.not_eq_true', Bool.not_eq_false'] at hk
    obtain ⟨m1, m2, m3⟩ := mkC_is hA.ok hk.1
    simp only [intsAt_eq hB, intsAt_eq hA]
    refine ⟨⟨delC_flat m3, trivial⟩, ?_⟩
    refine (sure101A hmix).funX F214 body214 [] [] Try.func16 rfl noLoops ?_
    rw [w214, intsAt_eq hB, intsAt_eq hA]
    refine ⟨⟨hA.flat, rfl, hB.flat, trivial⟩, ?_, FlatD.hp ⟨hA.flat, hB.flat, delC_flat m3, trivial⟩, rfl, rfl, rfl⟩
    and_intros <;> first | trivial | exact hI' | exact hJ' | exact hk'
  · exact hp.elim
noncomputable def clNC : CtrW where
  D := [0]
  W := []
  E := []
  pre := fun args blks => match args, blks with
    | [.int .i64 n, .pointer (some ⟨0,0,none⟩)], [.cells [.slice (some ⟨1,o,_⟩) len cap] 1 true, .cells cb 1 _] => IsI cb o len cap ∧ IsN [.int .i64 n]
    | _, _ => False
  val := fun args blks => match args, blks with
    | [.int .i64 n, _], [.cells [.slice (some ⟨1,o,_⟩) len _] 1 true, .cells cb 1 _] => .bool (kpN (intsAt cb o len) n)
    | _, _ => undef
  out := fun _ blks => blks
noncomputable def kkNC : CtrW where
  D := [0, 1]
  W := []
  E := []
  pre := fun args blks => match args, blks with
    | [.int .i64 n, .pointer (some ⟨0,0,none⟩)], [.cells [.func fn f c] 1 true, .cells [.slice (some ⟨2,o,_⟩) len cap] 1 true, .cells cb 1 _] => isG 29 fn f c 1 ∧ IsI cb o len cap ∧ IsN [.int .i64 n]
    | _, _ => False
  val := fun args blks => match args, blks with
    | [.int .i64 n, _], [.cells [.func _ _ _] 1 true, .cells [.slice (some ⟨2,o,_⟩) len _] 1 true, .cells cb 1 _] => .bool (!kpN (intsAt cb o len) n)
    | _, _ => undef
  out := fun _ blks => blks
noncomputable def S97N : Book := bookW [(29, clNC)] (bookOf [])
noncomputable def S98N : Book := bookW [(35, kkNC)] (bookOf [])

theorem w227 (n : Int) (o : Nat) (sp : Option Nat) (len cap : Nat) (cb : List Value) (w : Bool) (K : Value → Heap → Prop) :
  funX Try.prog S96 noLoop F227 body227 Try.f29 [0] [] [.int .i64 n, .pointer (some ⟨0,0,none⟩)] (hp (hV o sp len cap cb w)) K = (
(FlatL cb ∧ True) ∧
  (IsE (iE IntKind.i64) (ZP IntKind.i64) cb o len cap ∧ IsN [Value.int IntKind.i64 n]) ∧
    K (Value.bool !hasL n (intsAt cb o len))
      (hp [Blk.cells [Value.slice (some { block := 1, off := o, spot := sp : Addr }) len cap] 1 true, Blk.cells cb 1 w])) := by kernel_rfl

theorem w231N (n : Int) (o : Nat) (sp : Option Nat) (len cap : Nat) (cb : List Value) (w : Bool) (K : Value → Heap → Prop) :
  funX Try.prog S97N noLoop F231 body231 Try.f35 [0,1] [] [.int .i64 n, .pointer (some ⟨0,0,none⟩)] (hp (hW 29 o sp len cap cb w)) K = (
(nojL [Value.slice (some { block := 1, off := o, spot := sp : Addr }) len cap] = true ∧ FlatL cb ∧ True) ∧
  (IsE (iE IntKind.i64) (ZP IntKind.i64) cb o len cap ∧ IsN [Value.int IntKind.i64 n]) ∧
    K (Value.bool !kpN (intsAt cb o len) n)
      (hp
        [Blk.cells [Value.func (Fn.func 29) #[] #[Value.pointer (some { block := 1, off := 0 : Addr })]] 1 true,
          Blk.cells [Value.slice (some { block := 2, off := o, spot := sp : Addr }) len cap] 1 true, Blk.cells cb 1 w])) := by kernel_rfl

theorem r232N (cs : List Value) (len cap i : Nat) (o2 : Nat) (s2 : Option Nat) (l2 c2 : Nat) (cb : List Value) (w : Bool) (K : Post) :
  roundX Try.prog S98N noLoop F232 body232 4 [1,2] [] [1,2] [] [0,1,7,8] [0,0,1,0,1] (T232 len cap i) (hp (hD cs 29 o2 s2 l2 c2 cb w)) K = (
Alt (ltI (↑i : Int) (↑len : Int))
  (Need (ltI (↑i : Int) (↑len : Int))
    (Need (isInt IntKind.i64 ((getO cs (0 + (↑i : Int).toNat * 1)).getD undef))
      ((nojL [Value.func (Fn.func 29) #[] #[Value.pointer (some { block := 1, off := 0 : Addr })]] = true ∧
          nojL [Value.slice (some { block := 2, off := o2, spot := s2 : Addr }) l2 c2] = true ∧ FlatL cb ∧ True) ∧
        (True ∧
            IsE (iE IntKind.i64) (ZP IntKind.i64) cb o2 l2 c2 ∧
              IsN [Value.int IntKind.i64 (intV ((getO cs (0 + (↑i : Int).toNat * 1)).getD undef))]) ∧
          Alt (!kpN (intsAt cb o2 l2) (intV ((getO cs (0 + (↑i : Int).toNat * 1)).getD undef)))
            (K AE.ret (tmps 19 [(4, Value.int IntKind.i64 (↑i : Int))])
              (hp
                [Blk.cells cs 1 true,
                  Blk.cells [Value.func (Fn.func 29) #[] #[Value.pointer (some { block := 2, off := 0 : Addr })]] 1
                    true,
                  Blk.cells [Value.slice (some { block := 3, off := o2, spot := s2 : Addr }) l2 c2] 1 true,
                  Blk.cells cb 1 w]))
            (K AE.normal
              (tmps 19
                [(0, Value.slice (some { block := 0, off := 0, spot := some 3 : Addr }) len cap),
                  (1, Value.func (Fn.func 35) #[] #[Value.pointer (some { block := 1, off := 0 : Addr })]),
                  (7, Value.int IntKind.i64 (↑len : Int)),
                  (8, Value.int IntKind.i64 (wr IntKind.i64 ((↑i : Int) + 1)))])
              (hp
                [Blk.cells cs 1 true,
                  Blk.cells [Value.func (Fn.func 29) #[] #[Value.pointer (some { block := 2, off := 0 : Addr })]] 1
                    true,
                  Blk.cells [Value.slice (some { block := 3, off := o2, spot := s2 : Addr }) l2 c2] 1 true,
                  Blk.cells cb 1 w])))))
  (K (AE.exit 0) (tmps 19 [])
    (hp
      [Blk.cells cs 1 true,
        Blk.cells [Value.func (Fn.func 29) #[] #[Value.pointer (some { block := 2, off := 0 : Addr })]] 1 true,
        Blk.cells [Value.slice (some { block := 3, off := o2, spot := s2 : Addr }) l2 c2] 1 true, Blk.cells cb 1 w]))) := by kernel_rfl

theorem r230N (cs : List Value) (len cap i j : Nat) (o2 : Nat) (s2 : Option Nat) (l2 c2 : Nat) (cb : List Value) (w : Bool) (K : Post) :
  roundX Try.prog S98N noLoop F230 body230 4 [1,2] [] [1,2] [] [0,1,5,6] [0,0,1,0,1,1,1] (T230 len cap i j) (hp (hD cs 29 o2 s2 l2 c2 cb w)) K = (
Alt (ltI (↑j : Int) (↑len : Int))
  (Need (ltI (↑j : Int) (↑len : Int))
    (Need (isInt IntKind.i64 ((getO cs (0 + (↑j : Int).toNat * 1)).getD undef))
      ((nojL [Value.func (Fn.func 29) #[] #[Value.pointer (some { block := 1, off := 0 : Addr })]] = true ∧
          nojL [Value.slice (some { block := 2, off := o2, spot := s2 : Addr }) l2 c2] = true ∧ FlatL cb ∧ True) ∧
        (True ∧
            IsE (iE IntKind.i64) (ZP IntKind.i64) cb o2 l2 c2 ∧
              IsN [Value.int IntKind.i64 (intV ((getO cs (0 + (↑j : Int).toNat * 1)).getD undef))]) ∧
          Alt (!!kpN (intsAt cb o2 l2) (intV ((getO cs (0 + (↑j : Int).toNat * 1)).getD undef)))
            (Need (ltI (↑i : Int) (↑len : Int))
              (Need (leN (0 + (↑i : Int).toNat * 1 + 1) cs.length)
                (K AE.normal
                  (tmps 42
                    [(0, Value.slice (some { block := 0, off := 0, spot := some 3 : Addr }) len cap),
                      (1, Value.func (Fn.func 35) #[] #[Value.pointer (some { block := 1, off := 0 : Addr })]),
                      (5, Value.int IntKind.i64 (wr IntKind.i64 ((↑i : Int) + 1))),
                      (6, Value.int IntKind.i64 (wr IntKind.i64 ((↑j : Int) + 1)))])
                  (hp
                    [Blk.cells
                        (setAll cs (0 + (↑i : Int).toNat * 1)
                          [Value.int IntKind.i64 (intV ((getO cs (0 + (↑j : Int).toNat * 1)).getD undef))])
                        1 true,
                      Blk.cells [Value.func (Fn.func 29) #[] #[Value.pointer (some { block := 2, off := 0 : Addr })]] 1
                        true,
                      Blk.cells [Value.slice (some { block := 3, off := o2, spot := s2 : Addr }) l2 c2] 1 true,
                      Blk.cells cb 1 w]))))
            (K AE.normal
              (tmps 42
                [(0, Value.slice (some { block := 0, off := 0, spot := some 3 : Addr }) len cap),
                  (1, Value.func (Fn.func 35) #[] #[Value.pointer (some { block := 1, off := 0 : Addr })]),
                  (5, Value.int IntKind.i64 (↑i : Int)), (6, Value.int IntKind.i64 (wr IntKind.i64 ((↑j : Int) + 1)))])
              (hp
                [Blk.cells cs 1 true,
                  Blk.cells [Value.func (Fn.func 29) #[] #[Value.pointer (some { block := 2, off := 0 : Addr })]] 1
                    true,
                  Blk.cells [Value.slice (some { block := 3, off := o2, spot := s2 : Addr }) l2 c2] 1 true,
                  Blk.cells cb 1 w])))))
  (K (AE.exit 0)
    (tmps 42
      [(0, Value.slice (some { block := 0, off := 0, spot := some 3 : Addr }) len cap),
        (5, Value.int IntKind.i64 (↑i : Int))])
    (hp
      [Blk.cells cs 1 true,
        Blk.cells [Value.func (Fn.func 29) #[] #[Value.pointer (some { block := 2, off := 0 : Addr })]] 1 true,
        Blk.cells [Value.slice (some { block := 3, off := o2, spot := s2 : Addr }) l2 c2] 1 true, Blk.cells cb 1 w]))) := by kernel_rfl

theorem w232N (cs : List Value) (len cap : Nat) (r : Int) (ok : Bool) (o2 : Nat) (s2 : Option Nat) (l2 c2 : Nat) (cb : List Value) (w : Bool) (K : Value → Heap → Prop) :
  funX Try.prog S98N (gcLKX (at0 [1,2]) (at0 []) 4 (cutLK [⟨[0,1,0,1], T232 len cap 0, hp (hD cs 29 o2 s2 l2 c2 cb w), fun K => Alt ok (K (.exit 0) (tmps 19 []) (hp (hD cs 29 o2 s2 l2 c2 cb w))) (K .ret (tmps 19 [(4, .int .i64 r)]) (hp (hD cs 29 o2 s2 l2 c2 cb w)))⟩])) F232 body232 Try.f47 [1,2] [] [.slice (some ⟨0,0,some 3⟩) len cap, .func (.func 35) #[] #[.pointer (some ⟨1,0,none⟩)]] (hp (hD cs 29 o2 s2 l2 c2 cb w)) K = (
FlatD [1, 2]
    (hp
      [Blk.cells cs 1 true,
        Blk.cells [Value.func (Fn.func 29) #[] #[Value.pointer (some { block := 2, off := 0 : Addr })]] 1 true,
        Blk.cells [Value.slice (some { block := 3, off := o2, spot := s2 : Addr }) l2 c2] 1 true, Blk.cells cb 1 w]) ∧
  tmps 19
        [(0, Value.slice (some { block := 0, off := 0, spot := some 3 : Addr }) len cap),
          (1, Value.func (Fn.func 35) #[] #[Value.pointer (some { block := 1, off := 0 : Addr })]),
          (7, Value.int IntKind.i64 (↑len : Int)), (8, Value.int IntKind.i64 0)] =
      tmps 19
        [(0, Value.slice (some { block := 0, off := 0, spot := some 3 : Addr }) len cap),
          (1, Value.func (Fn.func 35) #[] #[Value.pointer (some { block := 1, off := 0 : Addr })]),
          (7, Value.int IntKind.i64 (↑len : Int)), (8, Value.int IntKind.i64 0)] ∧
    hp
          [Blk.cells cs 1 true,
            Blk.cells [Value.func (Fn.func 29) #[] #[Value.pointer (some { block := 2, off := 0 : Addr })]] 1 true,
            Blk.cells [Value.slice (some { block := 3, off := o2, spot := s2 : Addr }) l2 c2] 1 true,
            Blk.cells cb 1 w] =
        hp
          [Blk.cells cs 1 true,
            Blk.cells [Value.func (Fn.func 29) #[] #[Value.pointer (some { block := 2, off := 0 : Addr })]] 1 true,
            Blk.cells [Value.slice (some { block := 3, off := o2, spot := s2 : Addr }) l2 c2] 1 true,
            Blk.cells cb 1 w] ∧
      Alt ok
        (K (Value.int IntKind.i64 (-1))
          (hp
            [Blk.cells cs 1 true,
              Blk.cells [Value.func (Fn.func 29) #[] #[Value.pointer (some { block := 2, off := 0 : Addr })]] 1 true,
              Blk.cells [Value.slice (some { block := 3, off := o2, spot := s2 : Addr }) l2 c2] 1 true,
              Blk.cells cb 1 w]))
        (K (Value.int IntKind.i64 r)
          (hp
            [Blk.cells cs 1 true,
              Blk.cells [Value.func (Fn.func 29) #[] #[Value.pointer (some { block := 2, off := 0 : Addr })]] 1 true,
              Blk.cells [Value.slice (some { block := 3, off := o2, spot := s2 : Addr }) l2 c2] 1 true,
              Blk.cells cb 1 w]))) := by kernel_rfl

theorem clN_says (hmix : Try.prog.follows .mixedOrders = true) : clNC.Holds Try.prog 29 := by
  intro args blks hf hp
  simp only [clNC] at hp ⊢
  split at hp
  · rename_i n o sp len cap cb w
    obtain ⟨hI, hN⟩ := hp
    have hI' := hI
    obtain ⟨b, rfl, hc, hB⟩ := hI
    simp only [intsAt_eq hB]
    refine ⟨⟨rfl, rfl, trivial⟩, trivial, ?_⟩
    refine (sure96 hmix).funX F227 body227 [0] [] Try.func29 rfl noLoops ?_
    have := w227 n o sp b.length cap cb w
    unfold hV at this
    rw [this, intsAt_eq hB]
    exact ⟨⟨hB.flat, trivial⟩, ⟨hI', hN⟩, FlatD.hp ⟨rfl, hB.flat, trivial⟩, rfl, rfl, rfl⟩
  · exact hp.elim
theorem sure97N (hmix : Try.prog.follows .mixedOrders = true) : Sure Try.prog S97N := ⟨hmix, plain, bookW_ok (l := [(29, clNC)]) sb9 ⟨clN_says hmix, trivial⟩⟩
theorem kkN_says (hmix : Try.prog.follows .mixedOrders = true) : kkNC.Holds Try.prog 35 := by
  intro args blks hf hp
  simp only [kkNC] at hp ⊢
  split at hp
  · rename_i n fn f c o sp len cap cb w
    obtain ⟨hG, hI, hN⟩ := hp
    obtain ⟨rfl, rfl, rfl⟩ := isG_eq hG
    have hI' := hI
    obtain ⟨b, rfl, hc, hB⟩ := hI
    simp only [intsAt_eq hB]
    refine ⟨⟨rfl, rfl, rfl, trivial⟩, trivial, ?_⟩
    refine (sure97N hmix).funX F231 body231 [0,1] [] Try.func35 rfl noLoops ?_
    have := w231N n o sp b.length cap cb w
    unfold hW at this
    rw [this, intsAt_eq hB]
    exact ⟨⟨rfl, hB.flat, trivial⟩, ⟨hI', hN⟩, FlatD.hp ⟨rfl, rfl, hB.flat, trivial⟩, rfl, rfl, rfl⟩
  · exact hp.elim
theorem sure98N (hmix : Try.prog.follows .mixedOrders = true) : Sure Try.prog S98N := ⟨hmix, plain, bookW_ok (l := [(35, kkNC)]) sb9 ⟨kkN_says hmix, trivial⟩⟩
theorem ixN_loop (hmix : Try.prog.follows .mixedOrders = true) (l b : List Int) (cs cb : List Value) (w : Bool) (o2 : Nat) (s2 : Option Nat) (cap c2 : Nat) (hc2 : b.length ≤ c2) (hA : ISl cs 0 l) (hB : ISl cb o2 b) (K : Post) : ∀ (t : List Int) (i : Nat), l.drop i = t →
    Alt (allD (kpN b) t) (K (.exit 0) (tmps 19 []) (hp (hD cs 29 o2 s2 b.length c2 cb w))) (K .ret (tmps 19 [(4, .int .i64 (idxD (kpN b) i t))]) (hp (hD cs 29 o2 s2 b.length c2 cb w))) →
    LSays Try.prog 4 (sub body232 [0,0,1,0,1]) (T232 l.length cap i) (hp (hD cs 29 o2 s2 b.length c2 cb w)) K := by
  have hF : FlatD [1, 2] (hp (hD cs 29 o2 s2 b.length c2 cb w)) := hD_flat hA.flat hB.flat
  have hsh := hA.short
  intro t
  induction t with
  | nil =>
    intro i ht hK
    have hge : ¬ ((i : Int) < (l.length : Int)) := by have := List.drop_eq_nil_iff.1 ht; omega
    refine (sure98N hmix).roundX F232 noLoops [1,2] [] [1,2] [] [0,1,7,8] ?_
    rw [r232N]
    simp only [hge, Alt_iff, Need_iff, ltI_eq, leI_eq, eqI_eq, leN_eq, eqN_eq, decide_eq_true_eq, decide_eq_false_iff_not, decide_true, decide_false, true_and, and_true, Bool.true_eq_false, Bool.false_eq_true, false_implies, true_implies, implies_true, not_true_eq_false, not_false_eq_true, Bool.not_eq_true', Bool.not_eq_false', Nat.zero_add, Nat.add_zero, Nat.sub_zero, Nat.zero_mul, Nat.mul_one, Int.toNat_natCast, List.drop_zero, beqV_int, beqV_sl, beqV_str, beqV_bool, beqV_ptr, beqV_flt, beqV_agg, beqV_tuple, List.all_cons, List.all_nil, Bool.and_self, Bool.and_true, Bool.true_and, Nat.le_refl, Int.le_refl, Nat.zero_le, Option.getD_some, isStr, strV, isInt, intV, isBool, boolV, kindEq, at0, isJunk, Option.isSome_some, Option.isSome_none, if_true, if_false, Nat.add_sub_cancel_left, Nat.add_sub_cancel]
    exact ⟨hF, hK⟩
  | cons x t ih =>
    intro i ht hK
    obtain ⟨hlt, hx, hd⟩ := cons_of_drop ht
    have hg := hA.cell i x hx
    rw [Nat.zero_add] at hg
    refine (sure98N hmix).roundX F232 noLoops [1,2] [] [1,2] [] [0,1,7,8] ?_
    rw [r232N]
    simp only [show (i : Int) < (l.length : Int) by omega, hg, nx i (by omega), intsAt_eq hB, Alt_iff, Need_iff, ltI_eq, leI_eq, eqI_eq, leN_eq, eqN_eq, decide_eq_true_eq, decide_eq_false_iff_not, decide_true, decide_false, true_and, and_true, Bool.true_eq_false, Bool.false_eq_true, false_implies, true_implies, implies_true, not_true_eq_false, not_false_eq_true, Bool.not_eq_true', Bool.not_eq_false', Nat.zero_add, Nat.add_zero, Nat.sub_zero, Nat.zero_mul, Nat.mul_one, Int.toNat_natCast, List.drop_zero, beqV_int, beqV_sl, beqV_str, beqV_bool, beqV_ptr, beqV_flt, beqV_agg, beqV_tuple, List.all_cons, List.all_nil, Bool.and_self, Bool.and_true, Bool.true_and, Nat.le_refl, Int.le_refl, Nat.zero_le, Option.getD_some, isStr, strV, isInt, intV, isBool, boolV, kindEq, at0, isJunk, Option.isSome_some, Option.isSome_none, if_true, if_false, Nat.add_sub_cancel_left, Nat.add_sub_cancel]
    refine ⟨⟨rfl, rfl, hB.flat⟩, ⟨.mk b rfl hc2 hB, .mk x (hA.ok x (List.mem_of_getElem? hx))⟩, fun h => ⟨hF, ?_⟩, fun h => ⟨hF, ?_⟩⟩
    · rw [allD, idxD, if_neg (by rw [h]; simp), if_neg (by rw [h]; simp)] at hK; exact hK
    · rw [allD, idxD, if_pos h, if_pos h] at hK; exact ih (i + 1) hd hK
noncomputable def ixNC : CtrW where
  D := [1, 2]
  W := []
  E := []
  pre := fun args blks => match args, blks with
    | [.slice (some ⟨0,0,some 3⟩) len cap, .func fn f c], [.cells cs 1 true, .cells [.func fn2 f2 c2] 1 true, .cells [.slice (some ⟨3,o,_⟩) l2 cc] 1 true, .cells cb 1 _] => isG 35 fn f c 1 ∧ isG 29 fn2 f2 c2 2 ∧ IsI cs 0 len cap ∧ IsI cb o l2 cc
    | _, _ => False
  val := fun args blks => match args, blks with
    | [.slice (some ⟨0,0,some 3⟩) len _, .func _ _ _], [.cells cs 1 true, .cells [.func _ _ _] 1 true, .cells [.slice (some ⟨3,o,_⟩) l2 _] 1 true, .cells cb 1 _] => .int .i64 (idxD (kpN (intsAt cb o l2)) 0 (intsAt cs 0 len))
    | _, _ => undef
  out := fun _ blks => blks
theorem ixN_says (hmix : Try.prog.follows .mixedOrders = true) : ixNC.Holds Try.prog 47 := by
  intro args blks hf hp
  simp only [ixNC] at hp ⊢
  split at hp
  · rename_i len cap fn f c cs fn2 f2 c2 o sp l2 cc cb w
    obtain ⟨hG, hG2, hI, hJ⟩ := hp
    obtain ⟨rfl, rfl, rfl⟩ := isG_eq hG
    obtain ⟨rfl, rfl, rfl⟩ := isG_eq hG2
    obtain ⟨l, rfl, hc, hA⟩ := hI
    obtain ⟨b, rfl, hc2, hB⟩ := hJ
    simp only [intsAt_eq hB, intsAt_eq hA]
    refine ⟨⟨rfl, rfl, rfl, rfl, trivial⟩, trivial, ?_⟩
    have hF : FlatD [1, 2] (AM.hp (hD cs 29 o sp b.length cc cb w)) := hD_flat hA.flat hB.flat
    have hL : Loops Try.prog body232 4 (cutLK [⟨[0,1,0,1], T232 l.length cap 0, AM.hp (hD cs 29 o sp b.length cc cb w), fun K => Alt (allD (kpN b) l) (K (.exit 0) (tmps 19 []) (AM.hp (hD cs 29 o sp b.length cc cb w))) (K .ret (tmps 19 [(4, .int .i64 (idxD (kpN b) 0 l))]) (AM.hp (hD cs 29 o sp b.length cc cb w)))⟩]) := Loops.none.more _ fun K hK => by
      show LSays Try.prog _ (sub body232 [0,0,1,0,1]) _ _ _
      exact ixN_loop hmix l b cs cb w o sp cap cc hc2 hA hB K l 0 rfl hK
    refine (sure98N hmix).funX F232 body232 [1,2] [] Try.func47 rfl (hL.gcX (at0 [1,2]) (at0 [])) ?_
    have := w232N cs l.length cap (idxD (kpN b) 0 l) (allD (kpN b) l) o sp b.length cc cb w
    unfold hD at *
    rw [this]
    refine ⟨hF, rfl, rfl, ?_⟩
    rcases allD_idx (kpN b) l 0 with ⟨h1, h2, _⟩ | ⟨h1, _⟩
    · rw [h1, h2]; exact ⟨hF, rfl, rfl, rfl⟩
    · rw [h1]; exact ⟨hF, rfl, rfl, rfl⟩
  · exact hp.elim
noncomputable def S99N : Book := bookW [(35, kkNC), (47, ixNC)] (bookOf [])
theorem sure99N (hmix : Try.prog.follows .mixedOrders = true) : Sure Try.prog S99N := ⟨hmix, plain, bookW_ok (l := [(35, kkNC), (47, ixNC)]) sb9 ⟨kkN_says hmix, ixN_says hmix, trivial⟩⟩
theorem deN_loop (hmix : Try.prog.follows .mixedOrders = true) (l b : List Int) (q cb : List Value) (w : Bool) (o2 : Nat) (s2 : Option Nat) (cap c2 : Nat) (hc2 : b.length ≤ c2) (hz : ∀ x ∈ l, ZP .i64 x) (hq : FlatL q) (hl : l.length ≤ 1000000) (hB : ISl cb o2 b) (K : Post) : ∀ (t F : List Int) (j : Nat), l.drop j = t → F.length ≤ j → j ≤ l.length →
    K (.exit 0) (tmps 42 [(0, .slice (some ⟨0,0,some 3⟩) l.length cap), (5, .int .i64 ((F ++ t.filter (kpN b)).length : Nat))]) (hp (hD (eC (iE .i64) ((F ++ t.filter (kpN b)) ++ l.drop (F ++ t.filter (kpN b)).length) ++ q) 29 o2 s2 b.length c2 cb w)) →
    LSays Try.prog 4 (sub body230 [0,0,1,0,1,1,1]) (T230 l.length cap F.length j) (hp (hD (eC (iE .i64) (F ++ l.drop F.length) ++ q) 29 o2 s2 b.length c2 cb w)) K := by
  have hfl : ∀ F : List Int, FlatL (eC (iE .i64) F ++ q) := fun F => ⟨fun x hx => (List.mem_append.1 hx).elim ((eC_flat flat_i F).1 x) (hq.1 x)⟩
  have hF : ∀ F : List Int, FlatD [1, 2] (hp (hD (eC (iE .i64) F ++ q) 29 o2 s2 b.length c2 cb w)) := fun F => hD_flat (hfl F) hB.flat
  intro t
  induction t with
  | nil =>
    intro F j ht hFj hj hK
    have hge : ¬ ((j : Int) < (l.length : Int)) := by have := List.drop_eq_nil_iff.1 ht; omega
    refine (sure98N hmix).roundX F230 noLoops [1,2] [] [1,2] [] [0,1,5,6] ?_
    rw [r230N]
    simp only [hge, Alt_iff, Need_iff, ltI_eq, leI_eq, eqI_eq, leN_eq, eqN_eq, decide_eq_true_eq, decide_eq_false_iff_not, decide_true, decide_false, true_and, and_true, Bool.true_eq_false, Bool.false_eq_true, false_implies, true_implies, implies_true, not_true_eq_false, not_false_eq_true, Bool.not_eq_true', Bool.not_eq_false', Nat.zero_add, Nat.add_zero, Nat.sub_zero, Nat.zero_mul, Nat.mul_one, Int.toNat_natCast, List.drop_zero, beqV_int, beqV_sl, beqV_str, beqV_bool, beqV_ptr, beqV_flt, beqV_agg, beqV_tuple, List.all_cons, List.all_nil, Bool.and_self, Bool.and_true, Bool.true_and, Nat.le_refl, Int.le_refl, Nat.zero_le, Option.getD_some, isStr, strV, isInt, intV, isBool, boolV, kindEq, at0, isJunk, Option.isSome_some, Option.isSome_none, if_true, if_false, Nat.add_sub_cancel_left, Nat.add_sub_cancel]
    simp only [List.filter_nil, List.append_nil] at hK
    exact ⟨hF _, hK⟩
  | cons x t ih =>
    intro F j ht hFj hj hK
    obtain ⟨hlt, hx, hd⟩ := cons_of_drop ht
    have hlen : (F ++ l.drop F.length).length = l.length := by simp; omega
    have hg : getO (eC (iE .i64) (F ++ l.drop F.length) ++ q) j = some (iE .i64 x) := by
      rw [getO_eq, List.getElem?_append_left (by rw [eC_len]; omega), ← getO_eq]
      refine eC_get _ _ ?_
      rw [List.getElem?_append_right hFj, List.getElem?_drop, show F.length + (j - F.length) = j by omega, hx]
    have hset : setAll (eC (iE .i64) (F ++ l.drop F.length) ++ q) F.length [.int .i64 x] = eC (iE .i64) ((F ++ [x]) ++ l.drop (F ++ [x]).length) ++ q := by
      rw [eC_append, List.append_assoc, setAll_app _ _ _ _ (eC_len _ _) (by simp [eC_len]; omega)]
      have : (eC (iE .i64) (l.drop F.length) ++ q).drop 1 = eC (iE .i64) (l.drop (F.length + 1)) ++ q := by
        rw [List.drop_append_of_le_length (by rw [eC_len]; simp; omega), eC_drop, List.drop_drop]
      rw [List.length_singleton, this, eC_append, eC_append]
      simp [eC]
    refine (sure98N hmix).roundX F230 noLoops [1,2] [] [1,2] [] [0,1,5,6] ?_
    rw [r230N]
    have hroom : F.length + 1 ≤ (eC (iE .i64) (F ++ l.drop F.length) ++ q).length := by simp only [List.length_append, eC_len]; simp; omega
    simp only [show (j : Int) < (l.length : Int) by omega, show (F.length : Int) < (l.length : Int) by omega, hg, nx j (by omega), nx F.length (by omega), intsAt_eq hB, hset, hroom, Alt_iff, Need_iff, ltI_eq, leI_eq, eqI_eq, leN_eq, eqN_eq, decide_eq_true_eq, decide_eq_false_iff_not, decide_true, decide_false, true_and, and_true, Bool.true_eq_false, Bool.false_eq_true, false_implies, true_implies, implies_true, not_true_eq_false, not_false_eq_true, Bool.not_eq_true', Bool.not_eq_false', Nat.zero_add, Nat.add_zero, Nat.sub_zero, Nat.zero_mul, Nat.mul_one, Int.toNat_natCast, List.drop_zero, beqV_int, beqV_sl, beqV_str, beqV_bool, beqV_ptr, beqV_flt, beqV_agg, beqV_tuple, List.all_cons, List.all_nil, Bool.and_self, Bool.and_true, Bool.true_and, Nat.le_refl, Int.le_refl, Nat.zero_le, Option.getD_some, isStr, strV, isInt, intV, isBool, boolV, kindEq, at0, isJunk, Option.isSome_some, Option.isSome_none, if_true, if_false, Nat.add_sub_cancel_left, Nat.add_sub_cancel]
    refine ⟨⟨rfl, rfl, hB.flat⟩, ⟨.mk b rfl hc2 hB, .mk x (hz x (List.mem_of_getElem? hx))⟩, fun h => ⟨hF _, ?_⟩, fun h => ⟨hF _, ?_⟩⟩
    · have h : kpN b x = true := by simpa using h
      have e : F ++ (x :: t).filter (kpN b) = (F ++ [x]) ++ t.filter (kpN b) := by rw [List.filter_cons, if_pos h]; simp
      rw [e] at hK
      have := ih (F ++ [x]) (j + 1) hd (by simp; omega) (by omega) hK
      rw [show (F ++ [x]).length = F.length + 1 by simp] at this ⊢
      exact this
    · have h : kpN b x = false := by simpa using h
      have e : (x :: t).filter (kpN b) = t.filter (kpN b) := by rw [List.filter_cons, if_neg (by rw [h]; simp)]
      rw [e] at hK
      exact ih F (j + 1) hd (by omega) (by omega) hK

theorem w230N (cs : List Value) (len cap i m : Nat) (c3 : List Value) (o2 : Nat) (s2 : Option Nat) (l2 c2 : Nat) (cb : List Value) (w : Bool) (K : Value → Heap → Prop) :
  funX Try.prog S99N (gcLKX (at0 [1,2]) (at0 []) 4 (cutLK [⟨[0,1,0,1,1,1], T230 len cap i (i + 1), hp (hD cs 29 o2 s2 l2 c2 cb w), fun K => K (.exit 0) (tmps 42 [(0, .slice (some ⟨0,0,some 3⟩) len cap), (5, .int .i64 m)]) (hp (hD c3 29 o2 s2 l2 c2 cb w))⟩])) F230 body230 Try.f34 [1,2] [] [.slice (some ⟨0,0,some 3⟩) len cap, .func (.func 35) #[] #[.pointer (some ⟨1,0,none⟩)]] (hp (hD cs 29 o2 s2 l2 c2 cb w)) K = (
(FlatL cs ∧
    nojL [Value.func (Fn.func 29) #[] #[Value.pointer (some { block := 2, off := 0 : Addr })]] = true ∧
      nojL [Value.slice (some { block := 3, off := o2, spot := s2 : Addr }) l2 c2] = true ∧ FlatL cb ∧ True) ∧
  (True ∧
      True ∧ IsE (iE IntKind.i64) (ZP IntKind.i64) cs 0 len cap ∧ IsE (iE IntKind.i64) (ZP IntKind.i64) cb o2 l2 c2) ∧
    Alt (eqI (idxD (kpN (intsAt cb o2 l2)) 0 (intsAt cs 0 len)) (-1))
      (K (Value.slice (some { block := 0, off := 0, spot := some 3 : Addr }) len cap)
        (hp
          [Blk.cells cs 1 true,
            Blk.cells [Value.func (Fn.func 29) #[] #[Value.pointer (some { block := 2, off := 0 : Addr })]] 1 true,
            Blk.cells [Value.slice (some { block := 3, off := o2, spot := s2 : Addr }) l2 c2] 1 true,
            Blk.cells cb 1 w]))
      (FlatD [1, 2]
          (hp
            [Blk.cells cs 1 true,
              Blk.cells [Value.func (Fn.func 29) #[] #[Value.pointer (some { block := 2, off := 0 : Addr })]] 1 true,
              Blk.cells [Value.slice (some { block := 3, off := o2, spot := s2 : Addr }) l2 c2] 1 true,
              Blk.cells cb 1 w]) ∧
        tmps 42
              [(0, Value.slice (some { block := 0, off := 0, spot := some 3 : Addr }) len cap),
                (1, Value.func (Fn.func 35) #[] #[Value.pointer (some { block := 1, off := 0 : Addr })]),
                (5, Value.int IntKind.i64 (idxD (kpN (intsAt cb o2 l2)) 0 (intsAt cs 0 len))),
                (6, Value.int IntKind.i64 (wr IntKind.i64 (idxD (kpN (intsAt cb o2 l2)) 0 (intsAt cs 0 len) + 1)))] =
            tmps 42
              [(0, Value.slice (some { block := 0, off := 0, spot := some 3 : Addr }) len cap),
                (1, Value.func (Fn.func 35) #[] #[Value.pointer (some { block := 1, off := 0 : Addr })]),
                (5, Value.int IntKind.i64 (↑i : Int)), (6, Value.int IntKind.i64 (↑(i + 1) : Int))] ∧
          hp
                [Blk.cells cs 1 true,
                  Blk.cells [Value.func (Fn.func 29) #[] #[Value.pointer (some { block := 2, off := 0 : Addr })]] 1
                    true,
                  Blk.cells [Value.slice (some { block := 3, off := o2, spot := s2 : Addr }) l2 c2] 1 true,
                  Blk.cells cb 1 w] =
              hp
                [Blk.cells cs 1 true,
                  Blk.cells [Value.func (Fn.func 29) #[] #[Value.pointer (some { block := 2, off := 0 : Addr })]] 1
                    true,
                  Blk.cells [Value.slice (some { block := 3, off := o2, spot := s2 : Addr }) l2 c2] 1 true,
                  Blk.cells cb 1 w] ∧
            Need (leI (↑m : Int) (↑len : Int))
              (Alt (eqN (len - (↑m : Int).toNat) 0)
                (Need (leI (↑m : Int) (↑cap : Int))
                  (K
                    (Value.slice (some { block := 0, off := 0, spot := some 3 : Addr }) ((↑m : Int).toNat - 0)
                      (cap - 0))
                    (hp
                      [Blk.cells c3 1 true,
                        Blk.cells [Value.func (Fn.func 29) #[] #[Value.pointer (some { block := 2, off := 0 : Addr })]]
                          1 true,
                        Blk.cells [Value.slice (some { block := 3, off := o2, spot := s2 : Addr }) l2 c2] 1 true,
                        Blk.cells cb 1 w])))
                (Need
                  (leN (0 + (↑m : Int).toNat * 1 + (repl (len - (↑m : Int).toNat) [Value.int IntKind.i64 0]).length)
                    c3.length)
                  (Need ((repl (len - (↑m : Int).toNat) [Value.int IntKind.i64 0]).all oneV)
                    (Need (leI (↑m : Int) (↑cap : Int))
                      (K
                        (Value.slice (some { block := 0, off := 0, spot := some 3 : Addr }) ((↑m : Int).toNat - 0)
                          (cap - 0))
                        (hp
                          [Blk.cells
                              (setAll c3 (0 + (↑m : Int).toNat * 1)
                                (repl (len - (↑m : Int).toNat) [Value.int IntKind.i64 0]))
                              1 true,
                            Blk.cells
                              [Value.func (Fn.func 29) #[] #[Value.pointer (some { block := 2, off := 0 : Addr })]] 1
                              true,
                            Blk.cells [Value.slice (some { block := 3, off := o2, spot := s2 : Addr }) l2 c2] 1 true,
                            Blk.cells cb 1 w])))))))) := by kernel_rfl

theorem w230eN (cs : List Value) (len cap : Nat) (o2 : Nat) (s2 : Option Nat) (l2 c2 : Nat) (cb : List Value) (w : Bool) (K : Value → Heap → Prop) :
  funX Try.prog S99N noLoop F230 body230 Try.f34 [1,2] [] [.slice (some ⟨0,0,some 3⟩) len cap, .func (.func 35) #[] #[.pointer (some ⟨1,0,none⟩)]] (hp (hD cs 29 o2 s2 l2 c2 cb w)) K = (
(FlatL cs ∧
    nojL [Value.func (Fn.func 29) #[] #[Value.pointer (some { block := 2, off := 0 : Addr })]] = true ∧
      nojL [Value.slice (some { block := 3, off := o2, spot := s2 : Addr }) l2 c2] = true ∧ FlatL cb ∧ True) ∧
  (True ∧
      True ∧ IsE (iE IntKind.i64) (ZP IntKind.i64) cs 0 len cap ∧ IsE (iE IntKind.i64) (ZP IntKind.i64) cb o2 l2 c2) ∧
    Need (eqI (idxD (kpN (intsAt cb o2 l2)) 0 (intsAt cs 0 len)) (-1))
      (K (Value.slice (some { block := 0, off := 0, spot := some 3 : Addr }) len cap)
        (hp
          [Blk.cells cs 1 true,
            Blk.cells [Value.func (Fn.func 29) #[] #[Value.pointer (some { block := 2, off := 0 : Addr })]] 1 true,
            Blk.cells [Value.slice (some { block := 3, off := o2, spot := s2 : Addr }) l2 c2] 1 true,
            Blk.cells cb 1 w]))) := by kernel_rfl

noncomputable def deNC : CtrW where
  D := [1, 2]
  W := [0]
  E := []
  pre := fun args blks => match args, blks with
    | [.slice (some ⟨0,0,some 3⟩) len cap, .func fn f c], [.cells cs 1 true, .cells [.func fn2 f2 c2] 1 true, .cells [.slice (some ⟨3,o,_⟩) l2 cc] 1 true, .cells cb 1 _] => isG 35 fn f c 1 ∧ isG 29 fn2 f2 c2 2 ∧ IsI cs 0 len cap ∧ IsI cb o l2 cc ∧ Need (leN len 1000000) True
    | _, _ => False
  val := fun args blks => match args, blks with
    | [.slice (some ⟨0,0,some 3⟩) len cap, .func _ _ _], [.cells cs 1 true, .cells [.func _ _ _] 1 true, .cells [.slice (some ⟨3,o,_⟩) l2 _] 1 true, .cells cb 1 _] => .slice (some ⟨0,0,some 3⟩) ((intsAt cs 0 len).filter (kpN (intsAt cb o l2))).length cap
    | _, _ => undef
  out := fun args blks => match args, blks with
    | [.slice (some ⟨0,0,some 3⟩) len cap, .func _ _ _], [.cells cs 1 true, .cells [.func f g h] 1 true, .cells [.slice (some ⟨3,o,sp⟩) l2 cc] 1 true, .cells cb 1 w] => [.cells (delC (kpN (intsAt cb o l2)) len cs) 1 true, .cells [.func f g h] 1 true, .cells [.slice (some ⟨3,o,sp⟩) l2 cc] 1 true, .cells cb 1 w]
    | _, b => b
theorem deN_says (hmix : Try.prog.follows .mixedOrders = true) : deNC.Holds Try.prog 34 := by
  intro args blks hf hp
  simp only [deNC] at hp ⊢
  split at hp
  · rename_i len cap fn f c cs fn2 f2 c2 o sp l2 cc cb w
    obtain ⟨hG, hG2, hI, hJ, hk⟩ := hp
    obtain ⟨rfl, rfl, rfl⟩ := isG_eq hG
    obtain ⟨rfl, rfl, rfl⟩ := isG_eq hG2
    have hI' := hI
    have hJ' := hJ
    obtain ⟨l, rfl, hc, hA⟩ := hI
    obtain ⟨b, rfl, hc2, hB⟩ := hJ
    simp only [Alt_iff, Need_iff, ltI_eq, leI_eq, eqI_eq, leN_eq, eqN_eq, decide_eq_true_eq, decide_eq_false_iff_not, decide_true, decide_false, true_and, and_true, Bool.true_eq_false, Bool.false_eq_true, false_implies, true_implies, implies_true, not_true_eq_false, not_false_eq_true, Bool.not_eq_true', Bool.not_eq_false'] at hk
    have hrow := IsI.row hA
    simp only [intsAt_eq hB, intsAt_eq hA]
    refine ⟨⟨trivial, rfl, rfl, rfl, trivial⟩, ⟨delC_flat hA.flat, trivial⟩, ?_⟩
    have hF : FlatD [1, 2] (AM.hp (hD cs 29 o sp b.length cc cb w)) := hD_flat hA.flat hB.flat
    have hdel : delC (kpN b) l.length cs = eC (iE .i64) (l.filter (kpN b) ++ List.replicate (l.length - (l.filter (kpN b)).length) 0) ++ cs.drop l.length := by unfold delC; rw [intsAt_eq hA]
    rcases allD_idx (kpN b) l 0 with ⟨h1, h2, h3⟩ | ⟨h1, a, x, t, h2, h3, h4, h5⟩
    · refine (sure99N hmix).funX F230 body230 [1,2] [] Try.func34 rfl noLoops ?_
      have := w230eN cs l.length cap o sp b.length cc cb w
      unfold hD at *
      rw [this, intsAt_eq hB, intsAt_eq hA, h2, hdel, h3, Nat.sub_self, List.replicate_zero, List.append_nil, ← hrow]
      exact ⟨⟨hA.flat, rfl, rfl, hB.flat, trivial⟩, ⟨trivial, trivial, hI', hJ'⟩, hF, rfl, rfl, rfl⟩
    · have hfe : l.filter (kpN b) = a ++ t.filter (kpN b) := by rw [h2, List.filter_append, h4, List.filter_cons, if_neg (by rw [h5]; simp)]
      have hla : a.length < l.length := by rw [h2]; simp
      have hfl : (l.filter (kpN b)).length ≤ l.length := List.length_filter_le _ _
      have hdr : l.drop (a.length + 1) = t := by rw [h2, List.drop_append]; simp
      have hst : eC (iE .i64) (a ++ l.drop a.length) ++ cs.drop l.length = cs := by
        have : a ++ l.drop a.length = l := by conv => rhs; rw [← List.take_append_drop a.length l]
                                              congr 1; rw [h2]; simp
        rw [this]; exact hrow.symm
      have hL : Loops Try.prog body230 4 (cutLK [⟨[0,1,0,1,1,1], T230 l.length cap a.length (a.length + 1), AM.hp (hD cs 29 o sp b.length cc cb w), fun K => K (.exit 0) (tmps 42 [(0, .slice (some ⟨0,0,some 3⟩) l.length cap), (5, .int .i64 ((l.filter (kpN b)).length : Nat))]) (AM.hp (hD (eC (iE .i64) (l.filter (kpN b) ++ l.drop (l.filter (kpN b)).length) ++ cs.drop l.length) 29 o sp b.length cc cb w))⟩]) := Loops.none.more _ fun K hK => by
        show LSays Try.prog _ (sub body230 [0,0,1,0,1,1,1]) _ _ _
        rw [hfe] at hK
        have := deN_loop hmix l b (cs.drop l.length) cb w o sp cap cc hc2 hA.ok ⟨fun x hx => hA.flat.1 x (List.mem_of_mem_drop hx)⟩ hk hB K t a (a.length + 1) hdr (by omega) (by omega) hK
        rw [hst] at this; exact this
      refine (sure99N hmix).funX F230 body230 [1,2] [] Try.func34 rfl (hL.gcX (at0 [1,2]) (at0 [])) ?_
      have := w230N cs l.length cap a.length (l.filter (kpN b)).length (eC (iE .i64) (l.filter (kpN b) ++ l.drop (l.filter (kpN b)).length) ++ cs.drop l.length) o sp b.length cc cb w
      have hq : FlatL (cs.drop l.length) := ⟨fun x hx => hA.flat.1 x (List.mem_of_mem_drop hx)⟩
      have hF2 : ∀ L : List Int, FlatD [1, 2] (AM.hp (hD (eC (iE .i64) L ++ cs.drop l.length) 29 o sp b.length cc cb w)) := fun L => hD_flat ⟨fun x hx => (List.mem_append.1 hx).elim ((eC_flat flat_i L).1 x) (hq.1 x)⟩ hB.flat
      have hfull := del_full (l := l) (q := cs.drop l.length) (l.filter (kpN b)) hfl
      have hrl : (repl (l.length - (l.filter (kpN b)).length) [Value.int .i64 0]).length = l.length - (l.filter (kpN b)).length := by rw [repl_one, List.length_replicate]
      have hro : (repl (l.length - (l.filter (kpN b)).length) [Value.int .i64 0]).all oneV = true := by rw [repl_one]; simp [oneV]
      have hcl : (eC (iE .i64) (l.filter (kpN b) ++ l.drop (l.filter (kpN b)).length) ++ cs.drop l.length).length = l.length + (cs.drop l.length).length := by rw [List.length_append, eC_len, List.length_append, List.length_drop]; omega
      unfold hD at *
      rw [this]
      simp only [intsAt_eq hB, intsAt_eq hA, h3, Nat.zero_add, nx a.length (by omega), hdel, hfull, hrl, hro, hcl, show ¬ ((a.length : Int) = -1) by omega, show ((l.filter (kpN b)).length : Int) ≤ (l.length : Int) by omega, show ((l.filter (kpN b)).length : Int) ≤ (cap : Int) by omega, Alt_iff, Need_iff, ltI_eq, leI_eq, eqI_eq, leN_eq, eqN_eq, decide_eq_true_eq, decide_eq_false_iff_not, decide_true, decide_false, true_and, and_true, Bool.true_eq_false, Bool.false_eq_true, false_implies, true_implies, implies_true, not_true_eq_false, not_false_eq_true, Bool.not_eq_true', Bool.not_eq_false', Nat.zero_add, Nat.add_zero, Nat.sub_zero, Nat.zero_mul, Nat.mul_one, Int.toNat_natCast, List.drop_zero, beqV_int, beqV_sl, beqV_str, beqV_bool, beqV_ptr, beqV_flt, beqV_agg, beqV_tuple, List.all_cons, List.all_nil, Bool.and_self, Bool.and_true, Bool.true_and, Nat.le_refl, Int.le_refl, Nat.zero_le, Option.getD_some, isStr, strV, isInt, intV, isBool, boolV, kindEq, at0, isJunk, Option.isSome_some, Option.isSome_none, if_true, if_false, Nat.add_sub_cancel_left, Nat.add_sub_cancel]
      refine ⟨⟨hA.flat, rfl, rfl, hB.flat⟩, ⟨hI', hJ'⟩, hF, fun h => ?_, fun h => ?_⟩
      · have he : l.length = (l.filter (kpN b)).length := by omega
        have e1 : l.drop (l.filter (kpN b)).length = [] := List.drop_eq_nil_of_le (by omega)
        rw [e1, h, List.replicate_zero]
        exact ⟨hF2 _, rfl⟩
      · and_intros <;> first | omega | exact hF2 _ | rfl
  · exact hp.elim
noncomputable def keNC : CtrW where
  D := [1]
  W := []
  E := []
  pre := fun args blks => match args, blks with
    | [.slice (some ⟨0,o1,_⟩) len cap, .func fn f c], [.cells cs 1 _, .cells [.slice (some ⟨2,o,_⟩) l2 cc] 1 true, .cells cb 1 _] => isG 29 fn f c 1 ∧ IsI cs o1 len cap ∧ IsI cb o l2 cc ∧ Need (leN len 1000000) (Need (leN o1 cs.length) True)
    | _, _ => False
  val := fun args blks => match args, blks with
    | [.slice (some ⟨0,o1,_⟩) len _, .func _ _ _], [.cells cs 1 _, .cells [.slice (some ⟨2,o,_⟩) l2 _] 1 true, .cells cb 1 _] => .slice (some ⟨3,0,some 3⟩) ((ddL (intsAt cs o1 len)).filter (kpN (intsAt cb o l2))).length len
    | _, _ => undef
  out := fun args blks => match args, blks with
    | [.slice (some ⟨0,o1,_⟩) len _, .func _ _ _], [.cells cs 1 w0, .cells [.slice (some ⟨2,o,sp⟩) l2 cc] 1 true, .cells cb 1 w] => [.cells cs 1 w0, .cells [.slice (some ⟨2,o,sp⟩) l2 cc] 1 true, .cells cb 1 w, .cells (delC (kpN (intsAt cb o l2)) (ddL (intsAt cs o1 len)).length (mkC (intsAt cs o1 len))) 1 true]
    | _, b => b
noncomputable def S100N : Book := bookW [(34, deNC)] (bookOf [(14, makeC)])
theorem sure100N (hmix : Try.prog.follows .mixedOrders = true) : Sure Try.prog S100N := ⟨hmix, plain, bookW_ok (l := [(34, deNC)]) (bookOf_ok (l := [(14, makeC)]) ⟨make_says hmix, trivial⟩) ⟨deN_says hmix, trivial⟩⟩

theorem w225N (cs : List Value) (w0 : Bool) (o1 : Nat) (sp : Option Nat) (len cap : Nat) (o2 : Nat) (s2 : Option Nat) (l2 c2 : Nat) (cb : List Value) (w : Bool) (K : Value → Heap → Prop) :
  funX Try.prog S100N noLoop F225 body225 Try.f27 [1] [] [.slice (some ⟨0,o1,sp⟩) len cap, .func (.func 29) #[] #[.pointer (some ⟨1,0,none⟩)]] (hp (hE cs w0 o2 s2 l2 c2 cb w)) K = (
(FlatL cs ∧ True) ∧
  (IsE (iE IntKind.i64) (ZP IntKind.i64) cs o1 len cap ∧ Need (leN len 1000000000) (Need (leN o1 cs.length) True)) ∧
    (FlatL (mkC (intsAt cs o1 len)) ∧
        nojL [Value.func (Fn.func 29) #[] #[Value.pointer (some { block := 2, off := 0 : Addr })]] = true ∧
          nojL [Value.slice (some { block := 3, off := o2, spot := s2 : Addr }) l2 c2] = true ∧ FlatL cb ∧ True) ∧
      (True ∧
          True ∧
            IsE (iE IntKind.i64) (ZP IntKind.i64) (mkC (intsAt cs o1 len)) 0 (ddL (intsAt cs o1 len)).length len ∧
              IsE (iE IntKind.i64) (ZP IntKind.i64) cb o2 l2 c2 ∧
                Need (leN (ddL (intsAt cs o1 len)).length 1000000) True) ∧
        K
          (Value.slice (some { block := 3, off := 0, spot := some 3 : Addr })
            (List.filter (kpN (intsAt cb o2 l2))
                (intsAt (mkC (intsAt cs o1 len)) 0 (ddL (intsAt cs o1 len)).length)).length
            len)
          (hp
            [Blk.cells cs 1 w0,
              Blk.cells [Value.slice (some { block := 2, off := o2, spot := s2 : Addr }) l2 c2] 1 true,
              Blk.cells cb 1 w,
              Blk.cells (delC (kpN (intsAt cb o2 l2)) (ddL (intsAt cs o1 len)).length (mkC (intsAt cs o1 len))) 1 true])) := by kernel_rfl

theorem keN_says (hmix : Try.prog.follows .mixedOrders = true) : keNC.Holds Try.prog 27 := by
  intro args blks hf hp
  simp only [keNC] at hp ⊢
  split at hp
  · rename_i o1 s1 len cap fn f c cs w0 o sp l2 cc cb w
    obtain ⟨hG, hI, hJ, hk⟩ := hp
    obtain ⟨rfl, rfl, rfl⟩ := isG_eq hG
    have hI' := hI
    have hJ' := hJ
    obtain ⟨l, rfl, hc, hA⟩ := hI
    obtain ⟨b, rfl, hc2, hB⟩ := hJ
    simp only [Alt_iff, Need_iff, ltI_eq, leI_eq, eqI_eq, leN_eq, eqN_eq, decide_eq_true_eq, decide_eq_false_iff_not, decide_true, decide_false, true_and, and_true, Bool.true_eq_false, Bool.false_eq_true, false_implies, true_implies, implies_true, not_true_eq_false, not_false_eq_true, Bool.not_eq_true', Bool.not_eq_false'] at hk
    obtain ⟨k1, k2⟩ := hk
    obtain ⟨m1, m2, m3⟩ := mkC_is hA.ok k1
    have hdl := ddL_len l
    simp only [intsAt_eq hB, intsAt_eq hA]
    refine ⟨⟨rfl, rfl, rfl, trivial⟩, ⟨delC_flat m3, trivial⟩, ?_⟩
    refine (sure100N hmix).funX F225 body225 [1] [] Try.func27 rfl noLoops ?_
    have := w225N cs w0 o1 s1 l.length cap o sp b.length cc cb w
    unfold hE at this
    rw [this, intsAt_eq hB, intsAt_eq hA, intsAt_eq m1]
    refine ⟨⟨hA.flat, trivial⟩, ⟨hI', Need_iff.2 ⟨leN_iff.2 (by omega), Need_iff.2 ⟨leN_iff.2 k2, trivial⟩⟩⟩, ⟨m3, rfl, rfl, hB.flat, trivial⟩, ⟨trivial, trivial, m2, hJ', Need_iff.2 ⟨leN_iff.2 (by omega), trivial⟩⟩, FlatD.hp ⟨hA.flat, rfl, hB.flat, delC_flat m3, trivial⟩, rfl, rfl, rfl⟩
  · exact hp.elim
noncomputable def S101N : Book := bookW [(27, keNC)] (bookOf [])
theorem sure101N (hmix : Try.prog.follows .mixedOrders = true) : Sure Try.prog S101N := ⟨hmix, plain, bookW_ok (l := [(27, keNC)]) sb9 ⟨keN_says hmix, trivial⟩⟩

theorem w216 (ca cb : List Value) (w1 w2 : Bool) (o1 o2 : Nat) (s1 s2 : Option Nat) (l1 c1 l2 c2 : Nat) (K : Value → Heap → Prop) :
  funX Try.prog S101N noLoop F216 body216 Try.f18 [] [] [.slice (some ⟨0,o1,s1⟩) l1 c1, .slice (some ⟨1,o2,s2⟩) l2 c2] (hp [.cells ca 1 w1, .cells cb 1 w2]) K = (
(FlatL ca ∧ nojL [Value.slice (some { block := 2, off := o2, spot := s2 : Addr }) l2 c2] = true ∧ FlatL cb ∧ True) ∧
  (True ∧
      IsE (iE IntKind.i64) (ZP IntKind.i64) ca o1 l1 c1 ∧
        IsE (iE IntKind.i64) (ZP IntKind.i64) cb o2 l2 c2 ∧ Need (leN l1 1000000) (Need (leN o1 ca.length) True)) ∧
    K
      (Value.slice (some { block := 2, off := 0, spot := some 3 : Addr })
        (List.filter (kpN (intsAt cb o2 l2)) (ddL (intsAt ca o1 l1))).length l1)
      (hp
        [Blk.cells ca 1 w1, Blk.cells cb 1 w2,
          Blk.cells (delC (kpN (intsAt cb o2 l2)) (ddL (intsAt ca o1 l1)).length (mkC (intsAt ca o1 l1))) 1 true])) := by kernel_rfl

noncomputable def anNC : Ctr where
  pre := fun args blks => match args, blks with
    | [.slice (some ⟨0, o1, _⟩) l1 c1, .slice (some ⟨1, o2, _⟩) l2 c2], [.cells ca 1 _, .cells cb 1 _] => IsI ca o1 l1 c1 ∧ IsI cb o2 l2 c2 ∧ Need (leN l1 1000000) (Need (leN o1 ca.length) True)
    | _, _ => False
  val := fun args blks => match args, blks with
    | [.slice (some ⟨0, o1, _⟩) l1 _, .slice (some ⟨1, o2, _⟩) l2 _], [.cells ca 1 _, .cells cb 1 _] => .slice (some ⟨2,0,some 3⟩) ((ddL (intsAt ca o1 l1)).filter (kpN (intsAt cb o2 l2))).length l1
    | _, _ => undef
  new := fun args blks => match args, blks with
    | [.slice (some ⟨0, o1, _⟩) l1 _, .slice (some ⟨1, o2, _⟩) l2 _], [.cells ca 1 _, .cells cb 1 _] => [.cells (delC (kpN (intsAt cb o2 l2)) (ddL (intsAt ca o1 l1)).length (mkC (intsAt ca o1 l1))) 1 true]
    | _, _ => []
theorem anN_says (hmix : Try.prog.follows .mixedOrders = true) : anNC.Holds Try.prog 18 := by
  intro args blks hf hp
  simp only [anNC] at hp ⊢
  split at hp
  · rename_i o1 s1 l1 c1 o2 s2 l2 c2 ca w1 cb w2
    obtain ⟨hI, hJ, hk⟩ := hp
    have hI' := hI
    have hJ' := hJ
    have hk' := hk
    obtain ⟨l, rfl, hc, hA⟩ := hI
    obtain ⟨b, rfl, hc2, hB⟩ := hJ
    simp only [Alt_iff, Need_iff, ltI_eq, leI_eq, eqI_eq, leN_eq, eqN_eq, decide_eq_true_eq, decide_eq_false_iff_not, decide_true, decide_false, true_and, and_true, Bool.true_eq_false, Bool.false_eq_true, false_implies, true_implies, implies_true, not_true_eq_false, not_false_eq_true, Bool.not_eq_true', Bool.not_eq_false'] at hk
    obtain ⟨m1, m2, m3⟩ := mkC_is hA.ok hk.1
    simp only [intsAt_eq hB, intsAt_eq hA]
    refine ⟨⟨delC_flat m3, trivial⟩, ?_⟩
    refine (sure101N hmix).funX F216 body216 [] [] Try.func18 rfl noLoops ?_
    rw [w216, intsAt_eq hB, intsAt_eq hA]
    refine ⟨⟨hA.flat, rfl, hB.flat, trivial⟩, ?_, FlatD.hp ⟨hA.flat, hB.flat, delC_flat m3, trivial⟩, rfl, rfl, rfl⟩
    and_intros <;> first | trivial | exact hI' | exact hJ' | exact hk'
  · exact hp.elim
end Go.Proofs.Ytkigkmjmbegmhaa

namespace Go.Proofs.Ytkigkmjmbegmhaa
open Go.RowKit Go.Proofs.Ytkigkmjmbegmhaa.AM
set_option maxRecDepth 100000
set_option maxHeartbeats 4000000
noncomputable def body215 : Code := (Try.f17.body).getD .skip
def F215 : List Nat → Option (List Nat) := fun p => match p with
  | [1] => some [0, 1, 2]
  | [1, 1] => some [0, 1, 2, 7]
  | [1, 0, 1, 1] => some [0, 1, 2, 7, 8]
  | [1, 0, 0, 0, 1, 0, 1, 1] => some [0, 1, 2, 7, 8, 12]
  | [1, 1, 0, 0, 0, 1, 0, 1, 1] => some [7]
  | [1, 0, 0, 1, 0, 1, 1] => some [0, 1, 2, 7, 8]
  | [1, 0, 0, 1, 0, 0, 1, 0, 1, 1] => some [0, 1, 2, 7, 8, 22]
  | [1, 1, 0, 0, 1, 0, 1, 1] => some [0, 1, 2, 7, 8]
  | [1, 1, 1] => some [7]
  | [1, 1, 1, 1] => some [6]
  | _ => none
noncomputable def body217 : Code := (Try.f19.body).getD .skip
def F217 : List Nat → Option (List Nat) := fun p => match p with
  | [1] => some [0, 1]
  | [1, 1] => some [4]
  | _ => none
noncomputable def body218 : Code := (Try.f20.body).getD .skip
def F218 : List Nat → Option (List Nat) := fun p => match p with
  | [1] => some [0, 1]
  | [1, 1] => some [4]
  | _ => none
noncomputable def body219 : Code := (Try.f21.body).getD .skip
def F219 : List Nat → Option (List Nat) := fun p => match p with
  | [1] => some [0, 1]
  | [1, 1] => some [4]
  | _ => none
noncomputable def S102 : Book := bookOf [(13, riseC), (15, hasC)]
theorem sure102 (hmix : Try.prog.follows .mixedOrders = true) : Sure Try.prog S102 := ⟨hmix, plain, bookOf_ok (l := [(13, riseC), (15, hasC)]) ⟨rise_says hmix, has_says hmix, trivial⟩⟩
noncomputable def T215 (a b : Value) (inn : Bool) (m i : Nat) : List Value := tmps 32 [(0, a), (1, b), (2, .bool inn), (7, .slice (some ⟨2,0,some 1⟩) m m), (8, .int .i64 i)]

theorem r215 (ca cb c3 : List Value) (w1 w2 : Bool) (o1 o2 : Nat) (s1 s2 : Option Nat) (l1 k1 l2 k2 m i : Nat) (inn : Bool) (K : Post) :
  roundX Try.prog S102 noLoop F215 body215 2 [] [] [] [] [0,1,2,7,8] [0,0,1,0,1,1] (T215 (.slice (some ⟨0,o1,s1⟩) l1 k1) (.slice (some ⟨1,o2,s2⟩) l2 k2) inn m i) (hp [.cells ca 1 w1, .cells cb 1 w2, .cells c3 1 true]) K = (
Alt (ltI (↑i : Int) (↑l1 : Int))
  (Need (ltI (↑i : Int) (↑l1 : Int))
    (Need (isInt IntKind.i64 ((getO ca (o1 + (↑i : Int).toNat * 1)).getD undef))
      ((FlatL cb ∧ True) ∧
        (IsE (iE IntKind.i64) (ZP IntKind.i64) cb o2 l2 k2 ∧
            IsN [Value.int IntKind.i64 (intV ((getO ca (o1 + (↑i : Int).toNat * 1)).getD undef))]) ∧
          Alt (hasL (intV ((getO ca (o1 + (↑i : Int).toNat * 1)).getD undef)) (intsAt cb o2 l2) == inn)
            (Need (ltI (↑i : Int) (↑l1 : Int))
              (Need (isInt IntKind.i64 ((getO ca (o1 + (↑i : Int).toNat * 1)).getD undef))
                (Need (leN (0 + m * 1) c3.length)
                  (Need (leN ((m + 1) * 8) 1099511627776)
                    (Need (leN (m + 1) 1099511627776)
                      (K AE.normal
                        (tmps 32
                          [(0, Value.slice (some { block := 0, off := o1, spot := s1 : Addr }) l1 k1),
                            (1, Value.slice (some { block := 1, off := o2, spot := s2 : Addr }) l2 k2),
                            (2, Value.bool inn),
                            (7, Value.slice (some { block := 2, off := 0, spot := some 1 : Addr }) (m + 1) (m + 1)),
                            (8, Value.int IntKind.i64 (wr IntKind.i64 ((↑i : Int) + 1)))])
                        (hp
                          [Blk.cells ca 1 w1, Blk.cells cb 1 w2,
                            Blk.cells
                              (List.take (m * 1) (List.drop 0 c3) ++
                                [Value.int IntKind.i64 (intV ((getO ca (o1 + (↑i : Int).toNat * 1)).getD undef))])
                              1 true])))))))
            (K AE.normal
              (tmps 32
                [(0, Value.slice (some { block := 0, off := o1, spot := s1 : Addr }) l1 k1),
                  (1, Value.slice (some { block := 1, off := o2, spot := s2 : Addr }) l2 k2), (2, Value.bool inn),
                  (7, Value.slice (some { block := 2, off := 0, spot := some 1 : Addr }) m m),
                  (8, Value.int IntKind.i64 (wr IntKind.i64 ((↑i : Int) + 1)))])
              (hp [Blk.cells ca 1 w1, Blk.cells cb 1 w2, Blk.cells c3 1 true])))))
  (K (AE.exit 0) (tmps 32 [(7, Value.slice (some { block := 2, off := 0, spot := some 1 : Addr }) m m)])
    (hp [Blk.cells ca 1 w1, Blk.cells cb 1 w2, Blk.cells c3 1 true]))) := by kernel_rfl

theorem w215 (ca cb c3 : List Value) (w1 w2 : Bool) (o1 o2 : Nat) (s1 s2 : Option Nat) (l1 k1 l2 k2 m : Nat) (inn : Bool) (K : Value → Heap → Prop) :
  funX Try.prog S102 (gcLKX (at0 []) (at0 [.tmp 7 1]) 2 (cutLK [⟨[0,1,0,1,1], T215 (.slice (some ⟨0,o1,s1⟩) l1 k1) (.slice (some ⟨1,o2,s2⟩) l2 k2) inn 0 0, hp [.cells ca 1 w1, .cells cb 1 w2, .cells [] 1 true], fun K => K (.exit 0) (tmps 32 [(7, .slice (some ⟨2,0,some 1⟩) m m)]) (hp [.cells ca 1 w1, .cells cb 1 w2, .cells c3 1 true])⟩])) F215 body215 Try.f17 [] [] [.slice (some ⟨0,o1,s1⟩) l1 k1, .slice (some ⟨1,o2,s2⟩) l2 k2, .bool inn] (hp [.cells ca 1 w1, .cells cb 1 w2]) K = (
FlatD [] (hp [Blk.cells ca 1 w1, Blk.cells cb 1 w2, Blk.cells [] 1 true]) ∧
  tmps 32
        [(0, Value.slice (some { block := 0, off := o1, spot := s1 : Addr }) l1 k1),
          (1, Value.slice (some { block := 1, off := o2, spot := s2 : Addr }) l2 k2), (2, Value.bool inn),
          (7, Value.slice (some { block := 2, off := 0, spot := some 1 : Addr }) 0 0), (8, Value.int IntKind.i64 0)] =
      tmps 32
        [(0, Value.slice (some { block := 0, off := o1, spot := s1 : Addr }) l1 k1),
          (1, Value.slice (some { block := 1, off := o2, spot := s2 : Addr }) l2 k2), (2, Value.bool inn),
          (7, Value.slice (some { block := 2, off := 0, spot := some 1 : Addr }) 0 0), (8, Value.int IntKind.i64 0)] ∧
    hp [Blk.cells ca 1 w1, Blk.cells cb 1 w2, Blk.cells [] 1 true] =
        hp [Blk.cells ca 1 w1, Blk.cells cb 1 w2, Blk.cells [] 1 true] ∧
      (FlatL c3 ∧ True) ∧
        (IsE (iE IntKind.i64) (ZP IntKind.i64) c3 0 m m ∧ Need (leN m 1000000) True) ∧
          K
            (Value.slice (some { block := 2, off := 0, spot := some 1 : Addr }) (riseL (intsAt c3 0 m)).length
              (riseL (intsAt c3 0 m)).length)
            (hp [Blk.cells ca 1 w1, Blk.cells cb 1 w2, Blk.cells (eC (iE IntKind.i64) (riseL (intsAt c3 0 m))) 1 true])) := by kernel_rfl

noncomputable def S103 : Book := bookOf [(10, orC), (18, anNC)]

theorem w217 (ca : List Value) (w1 : Bool) (o1 : Nat) (s1 : Option Nat) (l1 k1 : Nat) (n : Int) (K : Value → Heap → Prop) :
  funX Try.prog S103 noLoop F217 body217 Try.f19 [] [] [.slice (some ⟨0,o1,s1⟩) l1 k1, .int .i64 n] (hp [.cells ca 1 w1]) K = (
(FlatL ca ∧ FlatL [Value.int IntKind.i64 n] ∧ True) ∧
  (IsE (iE IntKind.i64) (ZP IntKind.i64) ca o1 l1 k1 ∧
      IsE (iE IntKind.i64) (ZP IntKind.i64) [Value.int IntKind.i64 n] 0 1 1 ∧
        Need (leN l1 1000) (Need (leN o1 ca.length) True)) ∧
    K
      (Value.slice (some { block := 1, off := 0, spot := some 3 : Addr })
        (ddL (intsAt ca o1 l1 ++ intsAt [Value.int IntKind.i64 n] 0 1)).length (l1 + 1))
      (hp [Blk.cells ca 1 w1, Blk.cells (mkC (intsAt ca o1 l1 ++ intsAt [Value.int IntKind.i64 n] 0 1)) 1 true])) := by kernel_rfl

theorem w218 (ca : List Value) (w1 : Bool) (o1 : Nat) (s1 : Option Nat) (l1 k1 : Nat) (n : Int) (K : Value → Heap → Prop) :
  funX Try.prog S103 noLoop F218 body218 Try.f20 [] [] [.slice (some ⟨0,o1,s1⟩) l1 k1, .int .i64 n] (hp [.cells ca 1 w1]) K = (
(FlatL ca ∧ FlatL [Value.int IntKind.i64 n] ∧ True) ∧
  (IsE (iE IntKind.i64) (ZP IntKind.i64) ca o1 l1 k1 ∧
      IsE (iE IntKind.i64) (ZP IntKind.i64) [Value.int IntKind.i64 n] 0 1 1 ∧
        Need (leN l1 1000000) (Need (leN o1 ca.length) True)) ∧
    K
      (Value.slice (some { block := 1, off := 0, spot := some 3 : Addr })
        (List.filter (kpN (intsAt [Value.int IntKind.i64 n] 0 1)) (ddL (intsAt ca o1 l1))).length l1)
      (hp
        [Blk.cells ca 1 w1,
          Blk.cells
            (delC (kpN (intsAt [Value.int IntKind.i64 n] 0 1)) (ddL (intsAt ca o1 l1)).length (mkC (intsAt ca o1 l1))) 1
            true])) := by kernel_rfl

theorem del_is {l : List Int} (kp : Int → Bool) (hz : ∀ x ∈ l, ZP .i64 x) (hl : l.length ≤ 1000000) : ISl (delC kp (ddL l).length (mkC l)) 0 ((ddL l).filter kp) ∧ IsI (delC kp (ddL l).length (mkC l)) 0 ((ddL l).filter kp).length l.length := by
  obtain ⟨m1, m2, m3⟩ := mkC_is hz hl
  have hle := ddL_len l
  have hfl : ((ddL l).filter kp).length ≤ (ddL l).length := List.length_filter_le _ _
  have hb : ISl (delC kp (ddL l).length (mkC l)) 0 ((ddL l).filter kp) := by
    unfold delC
    rw [intsAt_eq m1, eC_append, List.append_assoc]
    exact row_is (fun x hx => hz x (ddL_mem.1 (List.mem_filter.1 hx).1)) (by omega) ⟨fun x hx => (List.mem_append.1 hx).elim ((eC_flat flat_i _).1 x) fun hh => m3.1 x (List.mem_of_mem_drop hh)⟩
  exact ⟨hb, .mk _ rfl (by omega) hb⟩
theorem one_is {n : Int} (hn : ZP .i64 n) : ISl [Value.int .i64 n] 0 [n] ∧ intsAt [Value.int .i64 n] 0 1 = [n] ∧ IsI [Value.int .i64 n] 0 1 1 := by
  obtain ⟨a, b⟩ := own_is (l := [n]) (fun x hx => by simp at hx; rw [hx]; exact hn) (by simp)
  exact ⟨a, intsAt_eq a, b⟩
def bothL (inn : Bool) (a b : List Int) : List Int := riseL (a.filter fun x => hasL x b == inn)
theorem both_loop (hmix : Try.prog.follows .mixedOrders = true) (a b : List Int) (ca cb : List Value) (w1 w2 : Bool) (o1 o2 : Nat) (s1 s2 : Option Nat) (k1 k2 : Nat) (inn : Bool) (hk2 : b.length ≤ k2) (hA : ISl ca o1 a) (hB : ISl cb o2 b) (hl : a.length ≤ 1000000) (K : Post) : ∀ (t F : List Int) (i : Nat), a.drop i = t → F.length ≤ i → i ≤ a.length →
    K (.exit 0) (tmps 32 [(7, .slice (some ⟨2,0,some 1⟩) (F ++ t.filter fun x => hasL x b == inn).length (F ++ t.filter fun x => hasL x b == inn).length)]) (hp [.cells ca 1 w1, .cells cb 1 w2, .cells (eC (iE .i64) (F ++ t.filter fun x => hasL x b == inn)) 1 true]) →
    LSays Try.prog 2 (sub body215 [0,0,1,0,1,1]) (T215 (.slice (some ⟨0,o1,s1⟩) a.length k1) (.slice (some ⟨1,o2,s2⟩) b.length k2) inn F.length i) (hp [.cells ca 1 w1, .cells cb 1 w2, .cells (eC (iE .i64) F) 1 true]) K := by
  have hF : ∀ F : List Int, FlatD [] (hp [.cells ca 1 w1, .cells cb 1 w2, .cells (eC (iE .i64) F) 1 true]) := fun F => FlatD.hp ⟨hA.flat, hB.flat, eC_flat flat_i F, trivial⟩
  intro t
  induction t with
  | nil =>
    intro F i ht hFi hi hK
    have hge : ¬ ((i : Int) < (a.length : Int)) := by have := List.drop_eq_nil_iff.1 ht; omega
    refine (sure102 hmix).roundX F215 noLoops [] [] [] [] [0,1,2,7,8] ?_
    rw [r215]
    simp only [List.filter_nil, List.append_nil] at hK
    simp only [hge, hF, Alt_iff, Need_iff, ltI_eq, leI_eq, eqI_eq, leN_eq, eqN_eq, decide_eq_true_eq, decide_eq_false_iff_not, decide_true, decide_false, true_and, and_true, Bool.true_eq_false, Bool.false_eq_true, false_implies, true_implies, implies_true, not_true_eq_false, not_false_eq_true, Bool.not_eq_true', Bool.not_eq_false', Nat.zero_add, Nat.add_zero, Nat.sub_zero, Nat.zero_mul, Nat.mul_one, Int.toNat_natCast, List.drop_zero, beqV_int, beqV_sl, beqV_str, beqV_bool, beqV_ptr, beqV_flt, beqV_agg, beqV_tuple, List.all_cons, List.all_nil, Bool.and_self, Bool.and_true, Bool.true_and, Nat.le_refl, Int.le_refl, Nat.zero_le, Option.getD_some, isStr, strV, isInt, intV, isBool, boolV, kindEq, at0, isJunk, Option.isSome_some, Option.isSome_none, if_true, if_false, Nat.add_sub_cancel_left, Nat.add_sub_cancel]
    exact hK
  | cons x t ih =>
    intro F i ht hFi hi hK
    obtain ⟨hlt, hx, hd⟩ := cons_of_drop ht
    refine (sure102 hmix).roundX F215 noLoops [] [] [] [] [0,1,2,7,8] ?_
    rw [r215]
    have ht1 : List.take F.length (eC (iE .i64) F) ++ [Value.int .i64 x] = eC (iE .i64) (F ++ [x]) := by rw [List.take_of_length_le (by rw [eC_len]; exact Nat.le_refl _), eC_append]; rfl
    simp only [show (i : Int) < (a.length : Int) by omega, hA.cell i x hx, nx i (by omega), intsAt_eq hB, ht1, eC_len, hF, hB.flat, Alt_iff, Need_iff, ltI_eq, leI_eq, eqI_eq, leN_eq, eqN_eq, decide_eq_true_eq, decide_eq_false_iff_not, decide_true, decide_false, true_and, and_true, Bool.true_eq_false, Bool.false_eq_true, false_implies, true_implies, implies_true, not_true_eq_false, not_false_eq_true, Bool.not_eq_true', Bool.not_eq_false', Nat.zero_add, Nat.add_zero, Nat.sub_zero, Nat.zero_mul, Nat.mul_one, Int.toNat_natCast, List.drop_zero, beqV_int, beqV_sl, beqV_str, beqV_bool, beqV_ptr, beqV_flt, beqV_agg, beqV_tuple, List.all_cons, List.all_nil, Bool.and_self, Bool.and_true, Bool.true_and, Nat.le_refl, Int.le_refl, Nat.zero_le, Option.getD_some, isStr, strV, isInt, intV, isBool, boolV, kindEq, at0, isJunk, Option.isSome_some, Option.isSome_none, if_true, if_false, Nat.add_sub_cancel_left, Nat.add_sub_cancel]
    refine ⟨⟨.mk b rfl hk2 hB, .mk x (hA.ok x (List.mem_of_getElem? hx))⟩, fun h => ?_, fun h => ?_⟩
    · have e : F ++ (x :: t).filter (fun x => hasL x b == inn) = (F ++ [x]) ++ t.filter (fun x => hasL x b == inn) := by rw [List.filter_cons, if_pos h]; simp
      rw [e] at hK
      have := ih (F ++ [x]) (i + 1) hd (by simp; omega) (by omega) hK
      rw [show (F ++ [x]).length = F.length + 1 by simp] at this
      and_intros <;> first | omega | exact this
    · have e : (x :: t).filter (fun x => hasL x b == inn) = t.filter (fun x => hasL x b == inn) := by rw [List.filter_cons, if_neg (by rw [h]; simp)]
      rw [e] at hK
      exact ih F (i + 1) hd (by omega) (by omega) hK
noncomputable def boC : Ctr where
  pre := fun args blks => match args, blks with
    | [.slice (some ⟨0, o1, _⟩) l1 c1, .slice (some ⟨1, o2, _⟩) l2 c2, .bool _], [.cells ca 1 _, .cells cb 1 _] => IsI ca o1 l1 c1 ∧ IsI cb o2 l2 c2 ∧ Need (leN l1 1000000) True
    | _, _ => False
  val := fun args blks => match args, blks with
    | [.slice (some ⟨0, o1, _⟩) l1 _, .slice (some ⟨1, o2, _⟩) l2 _, .bool inn], [.cells ca 1 _, .cells cb 1 _] => .slice (some ⟨2,0,some 1⟩) (bothL inn (intsAt ca o1 l1) (intsAt cb o2 l2)).length (bothL inn (intsAt ca o1 l1) (intsAt cb o2 l2)).length
    | _, _ => undef
  new := fun args blks => match args, blks with
    | [.slice (some ⟨0, o1, _⟩) l1 _, .slice (some ⟨1, o2, _⟩) l2 _, .bool inn], [.cells ca 1 _, .cells cb 1 _] => [.cells (eC (iE .i64) (bothL inn (intsAt ca o1 l1) (intsAt cb o2 l2))) 1 true]
    | _, _ => []
theorem bo_says (hmix : Try.prog.follows .mixedOrders = true) : boC.Holds Try.prog 17 := by
  intro args blks hf hp
  simp only [boC] at hp ⊢
  split at hp
  · rename_i o1 s1 l1 k1 o2 s2 l2 k2 inn ca w1 cb w2
    obtain ⟨⟨a, rfl, hc, hA⟩, ⟨b, rfl, hc2, hB⟩, hk⟩ := hp
    simp only [Alt_iff, Need_iff, ltI_eq, leI_eq, eqI_eq, leN_eq, eqN_eq, decide_eq_true_eq, decide_eq_false_iff_not, decide_true, decide_false, true_and, and_true, Bool.true_eq_false, Bool.false_eq_true, false_implies, true_implies, implies_true, not_true_eq_false, not_false_eq_true, Bool.not_eq_true', Bool.not_eq_false'] at hk
    simp only [intsAt_eq hB, intsAt_eq hA]
    refine ⟨⟨eC_flat flat_i _, trivial⟩, ?_⟩
    have hF : ∀ F : List Int, FlatD [] (AM.hp [.cells ca 1 w1, .cells cb 1 w2, .cells (eC (iE .i64) F) 1 true]) := fun F => FlatD.hp ⟨hA.flat, hB.flat, eC_flat flat_i F, trivial⟩
    have hfl := List.length_filter_le (fun x => hasL x b == inn) a
    obtain ⟨r1, r2⟩ := own_is (l := a.filter fun x => hasL x b == inn) (fun x hx => hA.ok x (List.mem_filter.1 hx).1) (by omega)
    have hL : Loops Try.prog body215 2 (cutLK [⟨[0,1,0,1,1], T215 (.slice (some ⟨0,o1,s1⟩) a.length k1) (.slice (some ⟨1,o2,s2⟩) b.length k2) inn 0 0, AM.hp [.cells ca 1 w1, .cells cb 1 w2, .cells [] 1 true], fun K => K (.exit 0) (tmps 32 [(7, .slice (some ⟨2,0,some 1⟩) (a.filter fun x => hasL x b == inn).length (a.filter fun x => hasL x b == inn).length)]) (AM.hp [.cells ca 1 w1, .cells cb 1 w2, .cells (eC (iE .i64) (a.filter fun x => hasL x b == inn)) 1 true])⟩]) := Loops.none.more _ fun K hK => by
      show LSays Try.prog _ (sub body215 [0,0,1,0,1,1]) _ _ _
      exact both_loop hmix a b ca cb w1 w2 o1 o2 s1 s2 k1 k2 inn hc2 hA hB hk K a [] 0 rfl (Nat.le_refl _) (Nat.zero_le _) (by simpa using hK)
    refine (sure102 hmix).funX F215 body215 [] [] Try.func17 rfl (hL.gcX (at0 []) (at0 [.tmp 7 1])) ?_
    rw [w215, intsAt_eq r1]
    exact ⟨hF [], rfl, rfl, ⟨eC_flat flat_i _, trivial⟩, ⟨r2, Need_iff.2 ⟨leN_iff.2 (by omega), trivial⟩⟩, hF _, rfl, rfl, rfl⟩
  · exact hp.elim
theorem sure103 (hmix : Try.prog.follows .mixedOrders = true) : Sure Try.prog S103 := ⟨hmix, plain, bookOf_ok (l := [(10, orC), (18, anNC)]) ⟨or_says hmix, anN_says hmix, trivial⟩⟩
/-- a row and a number; a row told of a row and a number -/
noncomputable def rnC (F : List Int → Int → List Int) (G : List Int → Int → List Value) (c : List Int → Nat) : Ctr where
  pre := fun args blks => match args, blks with
    | [.slice (some ⟨0, o1, _⟩) l1 c1, .int .i64 n], [.cells ca 1 _] => IsI ca o1 l1 c1 ∧ IsN [.int .i64 n] ∧ Need (leN l1 1000) (Need (leN o1 ca.length) True)
    | _, _ => False
  val := fun args blks => match args, blks with
    | [.slice (some ⟨0, o1, _⟩) l1 _, .int .i64 n], [.cells ca 1 _] => .slice (some ⟨1,0,some 3⟩) (F (intsAt ca o1 l1) n).length (c (intsAt ca o1 l1))
    | _, _ => undef
  new := fun args blks => match args, blks with
    | [.slice (some ⟨0, o1, _⟩) l1 _, .int .i64 n], [.cells ca 1 _] => [.cells (G (intsAt ca o1 l1) n) 1 true]
    | _, _ => []
noncomputable def putC : Ctr := rnC (fun l n => ddL (l ++ [n])) (fun l n => mkC (l ++ [n])) fun l => l.length + 1
noncomputable def cutNC : Ctr := rnC (fun l n => (ddL l).filter (kpN [n])) (fun l n => delC (kpN [n]) (ddL l).length (mkC l)) fun l => l.length
theorem put_says (hmix : Try.prog.follows .mixedOrders = true) : putC.Holds Try.prog 19 := by
  intro args blks hf hp
  simp only [putC, rnC] at hp ⊢
  split at hp
  · rename_i o1 s1 l1 k1 n ca w1
    obtain ⟨hI, ⟨_, hn⟩, hk⟩ := hp
    have hI' := hI
    obtain ⟨a, rfl, hc, hA⟩ := hI
    obtain ⟨n1, n2, n3⟩ := one_is hn
    simp only [intsAt_eq hA]
    refine ⟨⟨eC_flat flat_i _, trivial⟩, ?_⟩
    refine (sure103 hmix).funX F217 body217 [] [] Try.func19 rfl noLoops ?_
    rw [w217, intsAt_eq hA, n2]
    exact ⟨⟨hA.flat, n1.flat, trivial⟩, ⟨hI', n3, hk⟩, FlatD.hp ⟨hA.flat, eC_flat flat_i _, trivial⟩, rfl, rfl, rfl⟩
  · exact hp.elim
theorem cutN_says (hmix : Try.prog.follows .mixedOrders = true) : cutNC.Holds Try.prog 20 := by
  intro args blks hf hp
  simp only [cutNC, rnC] at hp ⊢
  split at hp
  · rename_i o1 s1 l1 k1 n ca w1
    obtain ⟨hI, ⟨_, hn⟩, hk⟩ := hp
    have hI' := hI
    obtain ⟨a, rfl, hc, hA⟩ := hI
    obtain ⟨n1, n2, n3⟩ := one_is hn
    simp only [Alt_iff, Need_iff, ltI_eq, leI_eq, eqI_eq, leN_eq, eqN_eq, decide_eq_true_eq, decide_eq_false_iff_not, decide_true, decide_false, true_and, and_true, Bool.true_eq_false, Bool.false_eq_true, false_implies, true_implies, implies_true, not_true_eq_false, not_false_eq_true, Bool.not_eq_true', Bool.not_eq_false'] at hk
    obtain ⟨m1, m2, m3⟩ := mkC_is hA.ok (by omega)
    simp only [intsAt_eq hA]
    refine ⟨⟨delC_flat m3, trivial⟩, ?_⟩
    refine (sure103 hmix).funX F218 body218 [] [] Try.func20 rfl noLoops ?_
    rw [w218, intsAt_eq hA, n2]
    exact ⟨⟨hA.flat, n1.flat, trivial⟩, ⟨hI', n3, Need_iff.2 ⟨leN_iff.2 (by omega), Need_iff.2 ⟨leN_iff.2 hk.2, trivial⟩⟩⟩, FlatD.hp ⟨hA.flat, delC_flat m3, trivial⟩, rfl, rfl, rfl⟩
  · exact hp.elim
noncomputable def S104 : Book := bookOf [(17, boC)]
theorem sure104 (hmix : Try.prog.follows .mixedOrders = true) : Sure Try.prog S104 := ⟨hmix, plain, bookOf_ok (l := [(17, boC)]) ⟨bo_says hmix, trivial⟩⟩

theorem w219 (ca : List Value) (w1 : Bool) (o1 : Nat) (s1 : Option Nat) (l1 k1 : Nat) (n : Int) (K : Value → Heap → Prop) :
  funX Try.prog S104 noLoop F219 body219 Try.f21 [] [] [.slice (some ⟨0,o1,s1⟩) l1 k1, .int .i64 n] (hp [.cells ca 1 w1]) K = (
(FlatL ca ∧ FlatL [Value.int IntKind.i64 n] ∧ True) ∧
  (IsE (iE IntKind.i64) (ZP IntKind.i64) ca o1 l1 k1 ∧
      IsE (iE IntKind.i64) (ZP IntKind.i64) [Value.int IntKind.i64 n] 0 1 1 ∧ Need (leN l1 1000000) True) ∧
    K
      (Value.slice (some { block := 1, off := 0, spot := some 1 : Addr })
        (bothL false (intsAt ca o1 l1) (intsAt [Value.int IntKind.i64 n] 0 1)).length
        (bothL false (intsAt ca o1 l1) (intsAt [Value.int IntKind.i64 n] 0 1)).length)
      (hp
        [Blk.cells ca 1 w1,
          Blk.cells (eC (iE IntKind.i64) (bothL false (intsAt ca o1 l1) (intsAt [Value.int IntKind.i64 n] 0 1))) 1
            true])) := by kernel_rfl

noncomputable def rcutC : Ctr where
  pre := fun args blks => match args, blks with
    | [.slice (some ⟨0, o1, _⟩) l1 c1, .int .i64 n], [.cells ca 1 _] => IsI ca o1 l1 c1 ∧ IsN [.int .i64 n] ∧ Need (leN l1 1000000) True
    | _, _ => False
  val := fun args blks => match args, blks with
    | [.slice (some ⟨0, o1, _⟩) l1 _, .int .i64 n], [.cells ca 1 _] => .slice (some ⟨1,0,some 1⟩) (bothL false (intsAt ca o1 l1) [n]).length (bothL false (intsAt ca o1 l1) [n]).length
    | _, _ => undef
  new := fun args blks => match args, blks with
    | [.slice (some ⟨0, o1, _⟩) l1 _, .int .i64 n], [.cells ca 1 _] => [.cells (eC (iE .i64) (bothL false (intsAt ca o1 l1) [n])) 1 true]
    | _, _ => []
theorem rcut_says (hmix : Try.prog.follows .mixedOrders = true) : rcutC.Holds Try.prog 21 := by
  intro args blks hf hp
  simp only [rcutC] at hp ⊢
  split at hp
  · rename_i o1 s1 l1 k1 n ca w1
    obtain ⟨hI, ⟨_, hn⟩, hk⟩ := hp
    have hI' := hI
    obtain ⟨a, rfl, hc, hA⟩ := hI
    obtain ⟨n1, n2, n3⟩ := one_is hn
    simp only [intsAt_eq hA]
    refine ⟨⟨eC_flat flat_i _, trivial⟩, ?_⟩
    refine (sure104 hmix).funX F219 body219 [] [] Try.func21 rfl noLoops ?_
    rw [w219, intsAt_eq hA, n2]
    exact ⟨⟨hA.flat, n1.flat, trivial⟩, ⟨hI', n3, hk⟩, FlatD.hp ⟨hA.flat, eC_flat flat_i _, trivial⟩, rfl, rfl, rfl⟩
  · exact hp.elim
noncomputable def body203 : Code := (Try.f5.body).getD .skip
def F203 : List Nat → Option (List Nat) := fun p => match p with
  | [1] => some [0, 1]
  | [1, 0, 1] => some [0, 1, 12]
  | [1, 0, 1, 0, 1] => some [4]
  | [1, 1] => some [0, 1]
  | [1, 1, 1] => some [4]
  | _ => none
noncomputable def body205 : Code := (Try.f7.body).getD .skip
def F205 : List Nat → Option (List Nat) := fun p => match p with
  | [1] => some [0, 1]
  | [1, 0, 1] => some [0, 1, 7]
  | [1, 0, 1, 0, 1] => some [4]
  | [1, 1] => some [0, 1]
  | [1, 1, 1] => some [4]
  | _ => none
noncomputable def S105 : Book := bookOf [(3, trueC), (9, sameC), (10, orC), (11, isC), (12, hasC), (13, riseC), (14, makeC), (16, anAC), (17, boC), (18, anNC), (19, putC), (20, cutNC), (21, rcutC)]
theorem sure105 (hmix : Try.prog.follows .mixedOrders = true) : Sure Try.prog S105 := ⟨hmix, plain, bookOf_ok (l := [(3, trueC), (9, sameC), (10, orC), (11, isC), (12, hasC), (13, riseC), (14, makeC), (16, anAC), (17, boC), (18, anNC), (19, putC), (20, cutNC), (21, rcutC)]) ⟨runs_holds hmix, same_says hmix, or_says hmix, is_says hmix, rhas_says hmix, rise_says hmix, make_says hmix, anA_says hmix, bo_says hmix, anN_says hmix, put_says hmix, cutN_says hmix, rcut_says hmix, trivial⟩⟩

end Go.Proofs.Ytkigkmjmbegmhaa

namespace Go.Proofs.Ytkigkmjmbegmhaa
open Go.RowKit Go.Proofs.Ytkigkmjmbegmhaa.AM
set_option maxRecDepth 100000
set_option maxHeartbeats 4000000
/-! ### rows that are told by what they hold -/
abbrev Rw := List Int × List Value × Nat
structure RowR (F : List Int) (x : Rw) : Prop where
  eq : x.1 = F
  row : ISl x.2.1 0 x.1
  le : x.1.length ≤ x.2.2
theorem RowR.at {F : List Int} {x : Rw} (h : RowR F x) : intsAt x.2.1 0 x.1.length = F := by rw [intsAt_eq h.row, h.eq]
theorem RowR.is {F : List Int} {x : Rw} (h : RowR F x) : IsI x.2.1 0 x.1.length x.2.2 := .mk x.1 rfl h.le h.row
theorem RowR.len {F : List Int} {x : Rw} (h : RowR F x) : x.1.length = F.length := by rw [h.eq]
theorem RowR.flat {F : List Int} {x : Rw} (h : RowR F x) : FlatL x.2.1 := h.row.flat
theorem RowR.ok {F : List Int} {x : Rw} (h : RowR F x) : ∀ y ∈ F, ZP .i64 y := by rw [← h.eq]; exact h.row.ok
noncomputable def twoX (F : List Int → List Int → List Int) (sp : Option Nat) : CtrX Rw where
  D := []
  W := []
  E := []
  pre := fun args blks => match args, blks with
    | [.slice (some ⟨0, o1, _⟩) l1 c1, .slice (some ⟨1, o2, _⟩) l2 c2], [.cells ca 1 _, .cells cb 1 _] => IsI ca o1 l1 c1 ∧ IsI cb o2 l2 c2 ∧ Need (leN l1 1000) (Need (leN l2 1000) (Need (leN o1 ca.length) (Need (leN o2 cb.length) True)))
    | _, _ => False
  rel := fun args blks x => match args, blks with
    | [.slice (some ⟨0, o1, _⟩) l1 c1, .slice (some ⟨1, o2, _⟩) l2 c2], [.cells ca 1 _, .cells cb 1 _] => RowR (F (intsAt ca o1 l1) (intsAt cb o2 l2)) x
    | _, _ => False
  val := fun args blks x => .slice (some ⟨2,0,sp⟩) x.1.length x.2.2
  out := fun args blks x => blks ++ [.cells x.2.1 1 true]
noncomputable def oneX (F : List Int → List Int) (sp : Option Nat) : CtrX Rw where
  D := []
  W := []
  E := []
  pre := fun args blks => match args, blks with
    | [.slice (some ⟨0, o1, _⟩) l1 c1], [.cells ca 1 _] => IsI ca o1 l1 c1 ∧ Need (leN l1 1000) (Need (leN o1 ca.length) True)
    | _, _ => False
  rel := fun args blks x => match args, blks with
    | [.slice (some ⟨0, o1, _⟩) l1 c1], [.cells ca 1 _] => RowR (F (intsAt ca o1 l1)) x
    | _, _ => False
  val := fun args blks x => .slice (some ⟨1,0,sp⟩) x.1.length x.2.2
  out := fun args blks x => blks ++ [.cells x.2.1 1 true]
noncomputable def numX (F : List Int → Int → List Int) (sp : Option Nat) : CtrX Rw where
  D := []
  W := []
  E := []
  pre := fun args blks => match args, blks with
    | [.slice (some ⟨0, o1, _⟩) l1 c1, .int .i64 n], [.cells ca 1 _] => IsI ca o1 l1 c1 ∧ IsN [.int .i64 n] ∧ Need (leN l1 1000) (Need (leN o1 ca.length) True)
    | _, _ => False
  rel := fun args blks x => match args, blks with
    | [.slice (some ⟨0, o1, _⟩) l1 c1, .int .i64 n], [.cells ca 1 _] => RowR (F (intsAt ca o1 l1) n) x
    | _, _ => False
  val := fun args blks x => .slice (some ⟨1,0,sp⟩) x.1.length x.2.2
  out := fun args blks x => blks ++ [.cells x.2.1 1 true]
def andF (a b : List Int) : List Int := (riseL a).filter (kpA b)
def notF (a b : List Int) : List Int := (riseL a).filter (kpN b)
def orF (a b : List Int) : List Int := riseL (a ++ b)
def cutF (a : List Int) (n : Int) : List Int := notF a [n]
def putF (a : List Int) (n : Int) : List Int := riseL (a ++ [n])
def rcutF (a : List Int) (n : Int) : List Int := bothL false a [n]
theorem rowR_del {a : List Int} {kp : Int → Bool} (hz : ∀ x ∈ a, ZP .i64 x) (hl : a.length ≤ 1000000) : RowR ((riseL a).filter kp) ((ddL a).filter kp, delC kp (ddL a).length (mkC a), a.length) := by
  obtain ⟨d1, d2⟩ := del_is kp hz hl
  exact ⟨by rw [← dd_rise], d1, Nat.le_trans (List.length_filter_le _ _) (ddL_len a)⟩
theorem rowR_mk {a : List Int} (hz : ∀ x ∈ a, ZP .i64 x) (hl : a.length ≤ 1000000) : RowR (riseL a) (ddL a, mkC a, a.length) := by
  obtain ⟨d1, d2, d3⟩ := mkC_is hz hl
  exact ⟨dd_rise a, d1, ddL_len a⟩
theorem rowR_own {a : List Int} (hz : ∀ x ∈ a, ZP .i64 x) (hl : a.length ≤ 1000000) : RowR a (a, eC (iE .i64) a, a.length) := by
  obtain ⟨d1, d2⟩ := own_is hz hl
  exact ⟨rfl, d1, Nat.le_refl _⟩
noncomputable def andX : CtrX Rw := twoX andF (some 3)
noncomputable def notX : CtrX Rw := twoX notF (some 3)
noncomputable def orX : CtrX Rw := twoX orF (some 3)
noncomputable def makeX : CtrX Rw := oneX riseL (some 3)
noncomputable def riseX : CtrX Rw := oneX riseL (some 1)
noncomputable def putX : CtrX Rw := numX putF (some 3)
noncomputable def cutX : CtrX Rw := numX cutF (some 3)
noncomputable def rcutX : CtrX Rw := numX rcutF (some 1)
theorem and_x (hmix : Try.prog.follows .mixedOrders = true) : andX.Holds Try.prog 16 := (anA_says hmix).x rfl rfl rfl fun args blks hf hp => by
  simp only [andX, twoX, anAC] at hp ⊢
  split at hp
  · rename_i o1 s1 l1 c1 o2 s2 l2 c2 ca w1 cb w2
    obtain ⟨hI, hJ, hk⟩ := hp
    have hI' := hI
    have hJ' := hJ
    obtain ⟨a, rfl, hc, hA⟩ := hI
    obtain ⟨b, rfl, hc2, hB⟩ := hJ
    simp only [Alt_iff, Need_iff, ltI_eq, leI_eq, eqI_eq, leN_eq, eqN_eq, decide_eq_true_eq, decide_eq_false_iff_not, decide_true, decide_false, true_and, and_true, Bool.true_eq_false, Bool.false_eq_true, false_implies, true_implies, implies_true, not_true_eq_false, not_false_eq_true, Bool.not_eq_true', Bool.not_eq_false'] at hk
    refine ⟨⟨hI', hJ', Need_iff.2 ⟨leN_iff.2 (by omega), Need_iff.2 ⟨leN_iff.2 hk.2.2.1, trivial⟩⟩⟩, ((ddL a).filter (kpA b), delC (kpA b) (ddL a).length (mkC a), a.length), ?_, by simp only [intsAt_eq hA, intsAt_eq hB], by simp only [intsAt_eq hA, intsAt_eq hB]⟩
    have := rowR_del (a := a) (kp := kpA b) hA.ok (by omega)
    simp only [intsAt_eq hA, intsAt_eq hB]
    exact this
  · exact hp.elim
theorem not_x (hmix : Try.prog.follows .mixedOrders = true) : notX.Holds Try.prog 18 := (anN_says hmix).x rfl rfl rfl fun args blks hf hp => by
  simp only [notX, twoX, anNC] at hp ⊢
  split at hp
  · rename_i o1 s1 l1 c1 o2 s2 l2 c2 ca w1 cb w2
    obtain ⟨hI, hJ, hk⟩ := hp
    have hI' := hI
    have hJ' := hJ
    obtain ⟨a, rfl, hc, hA⟩ := hI
    obtain ⟨b, rfl, hc2, hB⟩ := hJ
    simp only [Alt_iff, Need_iff, ltI_eq, leI_eq, eqI_eq, leN_eq, eqN_eq, decide_eq_true_eq, decide_eq_false_iff_not, decide_true, decide_false, true_and, and_true, Bool.true_eq_false, Bool.false_eq_true, false_implies, true_implies, implies_true, not_true_eq_false, not_false_eq_true, Bool.not_eq_true', Bool.not_eq_false'] at hk
    refine ⟨⟨hI', hJ', Need_iff.2 ⟨leN_iff.2 (by omega), Need_iff.2 ⟨leN_iff.2 hk.2.2.1, trivial⟩⟩⟩, ((ddL a).filter (kpN b), delC (kpN b) (ddL a).length (mkC a), a.length), ?_, by simp only [intsAt_eq hA, intsAt_eq hB], by simp only [intsAt_eq hA, intsAt_eq hB]⟩
    have := rowR_del (a := a) (kp := kpN b) hA.ok (by omega)
    simp only [intsAt_eq hA, intsAt_eq hB]
    exact this
  · exact hp.elim
theorem or_x (hmix : Try.prog.follows .mixedOrders = true) : orX.Holds Try.prog 10 := (or_says hmix).x rfl rfl rfl fun args blks hf hp => by
  simp only [orX, twoX, orC] at hp ⊢
  split at hp
  · rename_i o1 s1 l1 c1 o2 s2 l2 c2 ca w1 cb w2
    have hp' := hp
    obtain ⟨hI, hJ, hk⟩ := hp
    obtain ⟨a, rfl, hc, hA⟩ := hI
    obtain ⟨b, rfl, hc2, hB⟩ := hJ
    simp only [Alt_iff, Need_iff, ltI_eq, leI_eq, eqI_eq, leN_eq, eqN_eq, decide_eq_true_eq, decide_eq_false_iff_not, decide_true, decide_false, true_and, and_true, Bool.true_eq_false, Bool.false_eq_true, false_implies, true_implies, implies_true, not_true_eq_false, not_false_eq_true, Bool.not_eq_true', Bool.not_eq_false'] at hk
    refine ⟨hp', (ddL (a ++ b), mkC (a ++ b), a.length + b.length), ?_, by simp only [intsAt_eq hA, intsAt_eq hB], by simp only [intsAt_eq hA, intsAt_eq hB]⟩
    have := rowR_mk (a := a ++ b) (fun x hx => (List.mem_append.1 hx).elim (hA.ok x) (hB.ok x)) (by simp; omega)
    rw [List.length_append] at this
    simp only [intsAt_eq hA, intsAt_eq hB]
    exact this
  · exact hp.elim
theorem make_x (hmix : Try.prog.follows .mixedOrders = true) : makeX.Holds Try.prog 14 := (make_says hmix).x rfl rfl rfl fun args blks hf hp => by
  simp only [makeX, oneX, makeC] at hp ⊢
  split at hp
  · rename_i o1 s1 l1 c1 ca w1
    obtain ⟨hI, hk⟩ := hp
    have hI' := hI
    obtain ⟨a, rfl, hc, hA⟩ := hI
    simp only [Alt_iff, Need_iff, ltI_eq, leI_eq, eqI_eq, leN_eq, eqN_eq, decide_eq_true_eq, decide_eq_false_iff_not, decide_true, decide_false, true_and, and_true, Bool.true_eq_false, Bool.false_eq_true, false_implies, true_implies, implies_true, not_true_eq_false, not_false_eq_true, Bool.not_eq_true', Bool.not_eq_false'] at hk
    refine ⟨⟨hI', Need_iff.2 ⟨leN_iff.2 (by omega), Need_iff.2 ⟨leN_iff.2 hk.2, trivial⟩⟩⟩, (ddL a, mkC a, a.length), ?_, by simp only [intsAt_eq hA], by simp only [intsAt_eq hA]⟩
    simp only [intsAt_eq hA]
    exact rowR_mk (a := a) hA.ok (by omega)
  · exact hp.elim
theorem rise_x (hmix : Try.prog.follows .mixedOrders = true) : riseX.Holds Try.prog 13 := (rise_says hmix).x rfl rfl rfl fun args blks hf hp => by
  simp only [riseX, oneX, riseC] at hp ⊢
  split at hp
  · rename_i o1 s1 l1 c1 ca w1
    obtain ⟨hI, hk⟩ := hp
    have hI' := hI
    obtain ⟨a, rfl, hc, hA⟩ := hI
    simp only [Alt_iff, Need_iff, ltI_eq, leI_eq, eqI_eq, leN_eq, eqN_eq, decide_eq_true_eq, decide_eq_false_iff_not, decide_true, decide_false, true_and, and_true, Bool.true_eq_false, Bool.false_eq_true, false_implies, true_implies, implies_true, not_true_eq_false, not_false_eq_true, Bool.not_eq_true', Bool.not_eq_false'] at hk
    have hle := riseL_len a
    refine ⟨⟨hI', Need_iff.2 ⟨leN_iff.2 (by omega), trivial⟩⟩, (riseL a, eC (iE .i64) (riseL a), (riseL a).length), ?_, by simp only [intsAt_eq hA], by simp only [intsAt_eq hA]⟩
    simp only [intsAt_eq hA]
    exact rowR_own (fun x hx => hA.ok x (riseL_mem.1 hx)) (by omega)
  · exact hp.elim
theorem put_x (hmix : Try.prog.follows .mixedOrders = true) : putX.Holds Try.prog 19 := (put_says hmix).x rfl rfl rfl fun args blks hf hp => by
  simp only [putX, numX, putC, rnC] at hp ⊢
  split at hp
  · rename_i o1 s1 l1 c1 n ca w1
    have hp' := hp
    obtain ⟨hI, ⟨_, hn⟩, hk⟩ := hp
    obtain ⟨a, rfl, hc, hA⟩ := hI
    simp only [Alt_iff, Need_iff, ltI_eq, leI_eq, eqI_eq, leN_eq, eqN_eq, decide_eq_true_eq, decide_eq_false_iff_not, decide_true, decide_false, true_and, and_true, Bool.true_eq_false, Bool.false_eq_true, false_implies, true_implies, implies_true, not_true_eq_false, not_false_eq_true, Bool.not_eq_true', Bool.not_eq_false'] at hk
    refine ⟨hp', (ddL (a ++ [n]), mkC (a ++ [n]), a.length + 1), ?_, by simp only [intsAt_eq hA], by simp only [intsAt_eq hA]⟩
    simp only [intsAt_eq hA]
    have := rowR_mk (a := a ++ [n]) (fun x hx => (List.mem_append.1 hx).elim (hA.ok x) (fun h => by simp at h; rw [h]; exact hn)) (by simp; omega)
    rw [List.length_append] at this
    exact this
  · exact hp.elim
theorem cut_x (hmix : Try.prog.follows .mixedOrders = true) : cutX.Holds Try.prog 20 := (cutN_says hmix).x rfl rfl rfl fun args blks hf hp => by
  simp only [cutX, numX, cutNC, rnC] at hp ⊢
  split at hp
  · rename_i o1 s1 l1 c1 n ca w1
    have hp' := hp
    obtain ⟨hI, ⟨_, hn⟩, hk⟩ := hp
    obtain ⟨a, rfl, hc, hA⟩ := hI
    simp only [Alt_iff, Need_iff, ltI_eq, leI_eq, eqI_eq, leN_eq, eqN_eq, decide_eq_true_eq, decide_eq_false_iff_not, decide_true, decide_false, true_and, and_true, Bool.true_eq_false, Bool.false_eq_true, false_implies, true_implies, implies_true, not_true_eq_false, not_false_eq_true, Bool.not_eq_true', Bool.not_eq_false'] at hk
    refine ⟨hp', ((ddL a).filter (kpN [n]), delC (kpN [n]) (ddL a).length (mkC a), a.length), ?_, by simp only [intsAt_eq hA], by simp only [intsAt_eq hA]⟩
    simp only [intsAt_eq hA]
    exact rowR_del (a := a) (kp := kpN [n]) hA.ok (by omega)
  · exact hp.elim
theorem rcut_x (hmix : Try.prog.follows .mixedOrders = true) : rcutX.Holds Try.prog 21 := (rcut_says hmix).x rfl rfl rfl fun args blks hf hp => by
  simp only [rcutX, numX, rcutC] at hp ⊢
  split at hp
  · rename_i o1 s1 l1 c1 n ca w1
    obtain ⟨hI, hN, hk⟩ := hp
    have hI' := hI
    obtain ⟨a, rfl, hc, hA⟩ := hI
    simp only [Alt_iff, Need_iff, ltI_eq, leI_eq, eqI_eq, leN_eq, eqN_eq, decide_eq_true_eq, decide_eq_false_iff_not, decide_true, decide_false, true_and, and_true, Bool.true_eq_false, Bool.false_eq_true, false_implies, true_implies, implies_true, not_true_eq_false, not_false_eq_true, Bool.not_eq_true', Bool.not_eq_false'] at hk
    refine ⟨⟨hI', hN, Need_iff.2 ⟨leN_iff.2 (by omega), trivial⟩⟩, (rcutF a n, eC (iE .i64) (rcutF a n), (rcutF a n).length), ?_, by simp only [intsAt_eq hA]; rfl, by simp only [intsAt_eq hA]; rfl⟩
    simp only [intsAt_eq hA]
    have hle : (rcutF a n).length ≤ a.length := Nat.le_trans (riseL_len _) (List.length_filter_le _ _)
    exact rowR_own (fun x hx => hA.ok x (List.mem_filter.1 (riseL_mem.1 hx)).1) (by omega)
  · exact hp.elim
noncomputable def bothX : CtrX Rw where
  D := []
  W := []
  E := []
  pre := fun args blks => match args, blks with
    | [.slice (some ⟨0, o1, _⟩) l1 c1, .slice (some ⟨1, o2, _⟩) l2 c2, .bool _], [.cells ca 1 _, .cells cb 1 _] => IsI ca o1 l1 c1 ∧ IsI cb o2 l2 c2 ∧ Need (leN l1 1000) True
    | _, _ => False
  rel := fun args blks x => match args, blks with
    | [.slice (some ⟨0, o1, _⟩) l1 c1, .slice (some ⟨1, o2, _⟩) l2 c2, .bool inn], [.cells ca 1 _, .cells cb 1 _] => RowR (bothL inn (intsAt ca o1 l1) (intsAt cb o2 l2)) x
    | _, _ => False
  val := fun args blks x => .slice (some ⟨2,0,some 1⟩) x.1.length x.2.2
  out := fun args blks x => blks ++ [.cells x.2.1 1 true]
theorem both_x (hmix : Try.prog.follows .mixedOrders = true) : bothX.Holds Try.prog 17 := (bo_says hmix).x rfl rfl rfl fun args blks hf hp => by
  simp only [bothX, boC] at hp ⊢
  split at hp
  · rename_i o1 s1 l1 c1 o2 s2 l2 c2 inn ca w1 cb w2
    obtain ⟨hI, hJ, hk⟩ := hp
    have hI' := hI
    have hJ' := hJ
    obtain ⟨a, rfl, hc, hA⟩ := hI
    obtain ⟨b, rfl, hc2, hB⟩ := hJ
    simp only [Alt_iff, Need_iff, ltI_eq, leI_eq, eqI_eq, leN_eq, eqN_eq, decide_eq_true_eq, decide_eq_false_iff_not, decide_true, decide_false, true_and, and_true, Bool.true_eq_false, Bool.false_eq_true, false_implies, true_implies, implies_true, not_true_eq_false, not_false_eq_true, Bool.not_eq_true', Bool.not_eq_false'] at hk
    refine ⟨⟨hI', hJ', Need_iff.2 ⟨leN_iff.2 (by omega), trivial⟩⟩, (bothL inn a b, eC (iE .i64) (bothL inn a b), (bothL inn a b).length), ?_, by simp only [intsAt_eq hA, intsAt_eq hB], by simp only [intsAt_eq hA, intsAt_eq hB]⟩
    simp only [intsAt_eq hA, intsAt_eq hB]
    have hle : (bothL inn a b).length ≤ a.length := Nat.le_trans (riseL_len _) (List.length_filter_le _ _)
    exact rowR_own (fun x hx => hA.ok x (List.mem_filter.1 (riseL_mem.1 hx)).1) (by omega)
  · exact hp.elim
end Go.Proofs.Ytkigkmjmbegmhaa

namespace Go.Proofs.Ytkigkmjmbegmhaa
open Go.RowKit Go.Proofs.Ytkigkmjmbegmhaa.AM
set_option maxRecDepth 100000
set_option maxHeartbeats 4000000
noncomputable def S106 (hm : Try.prog.follows .mixedOrders = true) : Book := bookS [(10, orX.summ (or_x hm)), (13, riseX.summ (rise_x hm)), (14, makeX.summ (make_x hm)), (16, andX.summ (and_x hm)), (17, bothX.summ (both_x hm)), (18, notX.summ (not_x hm)), (19, putX.summ (put_x hm)), (20, cutX.summ (cut_x hm)), (21, rcutX.summ (rcut_x hm))] (bookOf [(3, trueC), (9, sameC), (11, isC), (12, hasC)])
theorem sure106 (hm : Try.prog.follows .mixedOrders = true) : Sure Try.prog (S106 hm) := Sure.withS ⟨hm, plain, bookOf_ok (l := [(3, trueC), (9, sameC), (11, isC), (12, hasC)]) ⟨runs_holds hm, same_says hm, is_says hm, rhas_says hm, trivial⟩⟩
  (l := [(10, orX.summ (or_x hm)), (13, riseX.summ (rise_x hm)), (14, makeX.summ (make_x hm)), (16, andX.summ (and_x hm)), (17, bothX.summ (both_x hm)), (18, notX.summ (not_x hm)), (19, putX.summ (put_x hm)), (20, cutX.summ (cut_x hm)), (21, rcutX.summ (rcut_x hm))])
  ⟨orX.sum_ok (or_x hm), riseX.sum_ok (rise_x hm), makeX.sum_ok (make_x hm), andX.sum_ok (and_x hm), bothX.sum_ok (both_x hm), notX.sum_ok (not_x hm), putX.sum_ok (put_x hm), cutX.sum_ok (cut_x hm), rcutX.sum_ok (rcut_x hm), trivial⟩

theorem x205 (hm : Try.prog.follows .mixedOrders = true) (ca : List Value) (s1 : Option Nat) (l1 k1 : Nat) (n : Int) (K : Value → Heap → Prop) :
  funX Try.prog (S106 hm) noLoop F205 body205 Try.f7 [] [] [.slice (some ⟨0,0,s1⟩) l1 k1, .int .i64 n] (hp [.cells ca 1 false]) K = (
Alt (ltI 100 (↑l1 : Int)) (True ∧ True ∧ K (Value.bool true) (hp [Blk.cells ca 1 false]))
  ((FlatL ca ∧ True) ∧
    (IsE (iE IntKind.i64) (ZP IntKind.i64) ca 0 l1 k1 ∧ IsN [Value.int IntKind.i64 n] ∧ Need (leN l1 1000) True) ∧
      ∀ (x : Rw),
        RowR (putF (intsAt ca 0 l1) n) x →
          Need (leN (0 + l1 * 1) ca.length)
            (Need (leN (l1 * 8) 1099511627776)
              (Need (leN l1 1099511627776)
                (Need (leN (0 + l1 * 1) (List.take (l1 * 1) (List.drop 0 ca)).length)
                  (Need (leN ((l1 + 1) * 8) 1099511627776)
                    (Need (leN (l1 + 1) 1099511627776)
                      ((FlatL
                            (List.take (l1 * 1) (List.drop 0 (List.take (l1 * 1) (List.drop 0 ca))) ++
                              [Value.int IntKind.i64 n]) ∧
                          True) ∧
                        (IsE (iE IntKind.i64) (ZP IntKind.i64)
                              (List.take (l1 * 1) (List.drop 0 (List.take (l1 * 1) (List.drop 0 ca))) ++
                                [Value.int IntKind.i64 n])
                              0 (l1 + 1) (l1 + 1) ∧
                            Need (leN (l1 + 1) 1000) True) ∧
                          ∀ (x_1 : Rw),
                            RowR
                                (riseL
                                  (intsAt
                                    (List.take (l1 * 1) (List.drop 0 (List.take (l1 * 1) (List.drop 0 ca))) ++
                                      [Value.int IntKind.i64 n])
                                    0 (l1 + 1)))
                                x_1 →
                              (FlatL x.snd.fst ∧ FlatL x_1.snd.fst ∧ True) ∧
                                (IsE (iE IntKind.i64) (ZP IntKind.i64) x.snd.fst 0 x.fst.length x.snd.snd ∧
                                    IsE (iE IntKind.i64) (ZP IntKind.i64) x_1.snd.fst 0 x_1.fst.length x_1.snd.snd) ∧
                                  Alt (sameI (intsAt x.snd.fst 0 x.fst.length) (intsAt x_1.snd.fst 0 x_1.fst.length))
                                    ((FlatL ca ∧ True) ∧
                                      (IsE (iE IntKind.i64) (ZP IntKind.i64) ca 0 l1 k1 ∧
                                          IsN [Value.int IntKind.i64 n] ∧ Need (leN l1 1000) True) ∧
                                        ∀ (x : Rw),
                                          RowR (cutF (intsAt ca 0 l1) n) x →
                                            (FlatL ca ∧ True) ∧
                                              (IsE (iE IntKind.i64) (ZP IntKind.i64) ca 0 l1 k1 ∧
                                                  IsN [Value.int IntKind.i64 n] ∧ Need (leN l1 1000) True) ∧
                                                ∀ (x_2 : Rw),
                                                  RowR (rcutF (intsAt ca 0 l1) n) x_2 →
                                                    (FlatL x.snd.fst ∧ FlatL x_2.snd.fst ∧ True) ∧
                                                      (IsE (iE IntKind.i64) (ZP IntKind.i64) x.snd.fst 0 x.fst.length
                                                            x.snd.snd ∧
                                                          IsE (iE IntKind.i64) (ZP IntKind.i64) x_2.snd.fst 0
                                                            x_2.fst.length x_2.snd.snd) ∧
                                                        Alt
                                                          (sameI (intsAt x.snd.fst 0 x.fst.length)
                                                            (intsAt x_2.snd.fst 0 x_2.fst.length))
                                                          (True ∧
                                                            True ∧ K (Value.bool true) (hp [Blk.cells ca 1 false]))
                                                          (K (Value.bool false) (hp [Blk.cells ca 1 false])))
                                    (K (Value.bool false) (hp [Blk.cells ca 1 false])))))))))) := by kernel_rfl

theorem x203 (hm : Try.prog.follows .mixedOrders = true) (ca cb : List Value) (s1 s2 : Option Nat) (l1 k1 l2 k2 : Nat) (K : Value → Heap → Prop) :
  funX Try.prog (S106 hm) noLoop F203 body203 Try.f5 [] [] [.slice (some ⟨0,0,s1⟩) l1 k1, .slice (some ⟨1,0,s2⟩) l2 k2] (hp [.cells ca 1 false, .cells cb 1 false]) K = (
Alt (ltI 100 (↑l1 : Int)) (True ∧ True ∧ K (Value.bool true) (hp [Blk.cells ca 1 false, Blk.cells cb 1 false]))
  (Alt (ltI 100 (↑l2 : Int)) (True ∧ True ∧ K (Value.bool true) (hp [Blk.cells ca 1 false, Blk.cells cb 1 false]))
    ((FlatL ca ∧ FlatL cb ∧ True) ∧
      (IsE (iE IntKind.i64) (ZP IntKind.i64) ca 0 l1 k1 ∧
          IsE (iE IntKind.i64) (ZP IntKind.i64) cb 0 l2 k2 ∧ Need (leN l1 1000) (Need (leN l2 1000) True)) ∧
        ∀ (x : Rw),
          RowR (andF (intsAt ca 0 l1) (intsAt cb 0 l2)) x →
            (FlatL ca ∧ FlatL cb ∧ True) ∧
              (IsE (iE IntKind.i64) (ZP IntKind.i64) ca 0 l1 k1 ∧
                  IsE (iE IntKind.i64) (ZP IntKind.i64) cb 0 l2 k2 ∧ Need (leN l1 1000) True) ∧
                ∀ (x_1 : Rw),
                  RowR (bothL true (intsAt ca 0 l1) (intsAt cb 0 l2)) x_1 →
                    (FlatL x.snd.fst ∧ FlatL x_1.snd.fst ∧ True) ∧
                      (IsE (iE IntKind.i64) (ZP IntKind.i64) x.snd.fst 0 x.fst.length x.snd.snd ∧
                          IsE (iE IntKind.i64) (ZP IntKind.i64) x_1.snd.fst 0 x_1.fst.length x_1.snd.snd) ∧
                        Alt (sameI (intsAt x.snd.fst 0 x.fst.length) (intsAt x_1.snd.fst 0 x_1.fst.length))
                          ((FlatL ca ∧ FlatL cb ∧ True) ∧
                            (IsE (iE IntKind.i64) (ZP IntKind.i64) ca 0 l1 k1 ∧
                                IsE (iE IntKind.i64) (ZP IntKind.i64) cb 0 l2 k2 ∧
                                  Need (leN l1 1000) (Need (leN l2 1000) True)) ∧
                              ∀ (x : Rw),
                                RowR (orF (intsAt ca 0 l1) (intsAt cb 0 l2)) x →
                                  Need (leN (0 + l1 * 1) ca.length)
                                    (Need (leN (l1 * 8) 1099511627776)
                                      (Need (leN l1 1099511627776)
                                        (Need (leN (0 + l2 * 1) cb.length)
                                          (Need (leN (0 + l1 * 1) (List.take (l1 * 1) (List.drop 0 ca)).length)
                                            (Need (leN ((l1 + l2) * 8) 1099511627776)
                                              (Need (leN (l1 + l2) 1099511627776)
                                                (Need ((List.take (l2 * 1) (List.drop 0 cb)).all oneV)
                                                  ((FlatL
                                                        (List.take (l1 * 1)
                                                            (List.drop 0 (List.take (l1 * 1) (List.drop 0 ca))) ++
                                                          List.take (l2 * 1) (List.drop 0 cb)) ∧
                                                      True) ∧
                                                    (IsE (iE IntKind.i64) (ZP IntKind.i64)
                                                          (List.take (l1 * 1)
                                                              (List.drop 0 (List.take (l1 * 1) (List.drop 0 ca))) ++
                                                            List.take (l2 * 1) (List.drop 0 cb))
                                                          0 (l1 + l2) (l1 + l2) ∧
                                                        Need (leN (l1 + l2) 1000) True) ∧
                                                      ∀ (x_2 : Rw),
                                                        RowR
                                                            (riseL
                                                              (intsAt
                                                                (List.take (l1 * 1)
                                                                    (List.drop 0
                                                                      (List.take (l1 * 1) (List.drop 0 ca))) ++
                                                                  List.take (l2 * 1) (List.drop 0 cb))
                                                                0 (l1 + l2)))
                                                            x_2 →
                                                          (FlatL x.snd.fst ∧ FlatL x_2.snd.fst ∧ True) ∧
                                                            (IsE (iE IntKind.i64) (ZP IntKind.i64) x.snd.fst 0
                                                                  x.fst.length x.snd.snd ∧
                                                                IsE (iE IntKind.i64) (ZP IntKind.i64) x_2.snd.fst 0
                                                                  x_2.fst.length x_2.snd.snd) ∧
                                                              Alt
                                                                (sameI (intsAt x.snd.fst 0 x.fst.length)
                                                                  (intsAt x_2.snd.fst 0 x_2.fst.length))
                                                                ((FlatL ca ∧ FlatL cb ∧ True) ∧
                                                                  (IsE (iE IntKind.i64) (ZP IntKind.i64) ca 0 l1 k1 ∧
                                                                      IsE (iE IntKind.i64) (ZP IntKind.i64) cb 0 l2 k2 ∧
                                                                        Need (leN l1 1000) (Need (leN l2 1000) True)) ∧
                                                                    ∀ (x : Rw),
                                                                      RowR (notF (intsAt ca 0 l1) (intsAt cb 0 l2)) x →
                                                                        (FlatL ca ∧ FlatL cb ∧ True) ∧
                                                                          (IsE (iE IntKind.i64) (ZP IntKind.i64) ca 0 l1
                                                                                k1 ∧
                                                                              IsE (iE IntKind.i64) (ZP IntKind.i64) cb 0
                                                                                  l2 k2 ∧
                                                                                Need (leN l1 1000) True) ∧
                                                                            ∀ (x_3 : Rw),
                                                                              RowR
                                                                                  (bothL false (intsAt ca 0 l1)
                                                                                    (intsAt cb 0 l2))
                                                                                  x_3 →
                                                                                (FlatL x.snd.fst ∧
                                                                                    FlatL x_3.snd.fst ∧ True) ∧
                                                                                  (IsE (iE IntKind.i64) (ZP IntKind.i64)
                                                                                        x.snd.fst 0 x.fst.length
                                                                                        x.snd.snd ∧
                                                                                      IsE (iE IntKind.i64)
                                                                                        (ZP IntKind.i64) x_3.snd.fst 0
                                                                                        x_3.fst.length x_3.snd.snd) ∧
                                                                                    Alt
                                                                                      (sameI
                                                                                        (intsAt x.snd.fst 0
                                                                                          x.fst.length)
                                                                                        (intsAt x_3.snd.fst 0
                                                                                          x_3.fst.length))
                                                                                      (True ∧
                                                                                        True ∧
                                                                                          K (Value.bool true)
                                                                                            (hp
                                                                                              [Blk.cells ca 1 false,
                                                                                                Blk.cells cb 1 false]))
                                                                                      (K (Value.bool false)
                                                                                        (hp
                                                                                          [Blk.cells ca 1 false,
                                                                                            Blk.cells cb 1 false])))
                                                                (K (Value.bool false)
                                                                  (hp
                                                                    [Blk.cells ca 1 false,
                                                                      Blk.cells cb 1 false])))))))))))
                          (K (Value.bool false) (hp [Blk.cells ca 1 false, Blk.cells cb 1 false]))))) := by kernel_rfl

noncomputable def body204 : Code := (Try.f6.body).getD .skip
def F204 : List Nat → Option (List Nat) := fun p => match p with
  | [1] => some [0, 1]
  | [1, 0, 1] => some [0, 1, 16]
  | [1, 0, 1, 0, 1] => some [4]
  | [1, 1] => some [0, 1]
  | [1, 1, 1] => some [0, 1, 5, 6, 7]
  | [1, 1, 1, 1] => some [1000000, 0, 1, 5, 6, 7, 8]
  | [1, 1, 1, 1, 1] => some [4]
  | _ => none
noncomputable def body206 : Code := (Try.f8.body).getD .skip
def F206 : List Nat → Option (List Nat) := fun p => match p with
  | [1] => some [0, 1, 2]
  | [1, 0, 1] => some [0, 1, 2, 19]
  | [1, 0, 1, 0, 1] => some [6]
  | [1, 1] => some [0, 1, 2]
  | [1, 1, 1] => some [0, 1, 2, 7, 8]
  | [1, 1, 1, 1] => some [1000000, 0, 1, 2, 7, 8, 9, 10, 11]
  | [1, 0, 1, 1, 1, 1] => some [1, 2, 9, 10, 11, 79]
  | [1, 0, 1, 0, 1, 1, 1, 1] => some [6]
  | [1, 1, 1, 1, 1] => some [1000000, 1, 2, 9, 10, 11]
  | [1, 1, 1, 1, 1, 1] => some [6]
  | _ => none
noncomputable def sB (b : Nat) (x : Rw) : Value := .slice (some ⟨b,0,some 3⟩) x.1.length x.2.2
noncomputable def T204 (s1 s2 : Option Nat) (l1 k1 l2 k2 : Nat) (x1 x2 x3 x4 : Rw) : List Value := tmps 68 [(0, .slice (some ⟨0,0,s1⟩) l1 k1), (1, .slice (some ⟨1,0,s2⟩) l2 k2), (5, sB 2 x1), (6, sB 3 x2), (7, sB 4 x3), (8, sB 5 x4)]
noncomputable def H204 (ca cb : List Value) (x1 x2 x3 x4 : Rw) : Heap := hp [.cells ca 1 false, .cells cb 1 false, .cells x1.2.1 1 true, .cells x2.2.1 1 true, .cells x3.2.1 1 true, .cells x4.2.1 1 true]

theorem y204 (hm : Try.prog.follows .mixedOrders = true) (ca cb : List Value) (s1 s2 : Option Nat) (l1 k1 l2 k2 : Nat) (x1 x2 x3 x4 : Rw) (K : Post) :
  roundX Try.prog (S106 hm) noLoop F204 body204 2 [] [] [] [] [] [1,1,1,1] (T204 s1 s2 l1 k1 l2 k2 x1 x2 x3 x4) (H204 ca cb x1 x2 x3 x4) K = (
(FlatL cb ∧ FlatL ca ∧ True) ∧
  (IsE (iE IntKind.i64) (ZP IntKind.i64) cb 0 l2 k2 ∧
      IsE (iE IntKind.i64) (ZP IntKind.i64) ca 0 l1 k1 ∧ Need (leN l2 1000) (Need (leN l1 1000) True)) ∧
    ∀ (x : Rw),
      RowR (orF (intsAt cb 0 l2) (intsAt ca 0 l1)) x →
        (FlatL x4.snd.fst ∧ FlatL x.snd.fst ∧ True) ∧
          (IsE (iE IntKind.i64) (ZP IntKind.i64) x4.snd.fst 0 x4.fst.length x4.snd.snd ∧
              IsE (iE IntKind.i64) (ZP IntKind.i64) x.snd.fst 0 x.fst.length x.snd.snd) ∧
            Alt (sameI (intsAt x4.snd.fst 0 x4.fst.length) (intsAt x.snd.fst 0 x.fst.length))
              (Alt
                (eqI (↑x4.fst.length : Int)
                  (wr IntKind.i64
                    (wr IntKind.i64 ((↑x1.fst.length : Int) + (↑x2.fst.length : Int)) + (↑x3.fst.length : Int))))
                ((FlatL x2.snd.fst ∧ FlatL x1.snd.fst ∧ True) ∧
                  (IsE (iE IntKind.i64) (ZP IntKind.i64) x2.snd.fst 0 x2.fst.length x2.snd.snd ∧
                      IsE (iE IntKind.i64) (ZP IntKind.i64) x1.snd.fst 0 x1.fst.length x1.snd.snd ∧
                        Need (leN x2.fst.length 1000) (Need (leN x1.fst.length 1000) True)) ∧
                    ∀ (x : Rw),
                      RowR (orF (intsAt x2.snd.fst 0 x2.fst.length) (intsAt x1.snd.fst 0 x1.fst.length)) x →
                        (FlatL ca ∧ True) ∧
                          (IsE (iE IntKind.i64) (ZP IntKind.i64) ca 0 l1 k1 ∧ Need (leN l1 1000) True) ∧
                            ∀ (x_1 : Rw),
                              RowR (riseL (intsAt ca 0 l1)) x_1 →
                                (FlatL x.snd.fst ∧ FlatL x_1.snd.fst ∧ True) ∧
                                  (IsE (iE IntKind.i64) (ZP IntKind.i64) x.snd.fst 0 x.fst.length x.snd.snd ∧
                                      IsE (iE IntKind.i64) (ZP IntKind.i64) x_1.snd.fst 0 x_1.fst.length x_1.snd.snd) ∧
                                    Alt (sameI (intsAt x.snd.fst 0 x.fst.length) (intsAt x_1.snd.fst 0 x_1.fst.length))
                                      ((FlatL x2.snd.fst ∧ FlatL cb ∧ True) ∧
                                        (IsE (iE IntKind.i64) (ZP IntKind.i64) x2.snd.fst 0 x2.fst.length x2.snd.snd ∧
                                            IsE (iE IntKind.i64) (ZP IntKind.i64) cb 0 l2 k2 ∧
                                              Need (leN x2.fst.length 1000) (Need (leN l2 1000) True)) ∧
                                          ∀ (x : Rw),
                                            RowR (andF (intsAt x2.snd.fst 0 x2.fst.length) (intsAt cb 0 l2)) x →
                                              Alt (eqI (↑x.fst.length : Int) 0)
                                                (True ∧
                                                  True ∧
                                                    K AE.ret (tmps 68 [(4, Value.bool true)])
                                                      (hp [Blk.cells ca 1 false, Blk.cells cb 1 false]))
                                                (K AE.ret (tmps 68 [(4, Value.bool false)])
                                                  (hp [Blk.cells ca 1 false, Blk.cells cb 1 false])))
                                      (K AE.ret (tmps 68 [(4, Value.bool false)])
                                        (hp [Blk.cells ca 1 false, Blk.cells cb 1 false])))
                (K AE.ret (tmps 68 [(4, Value.bool false)]) (hp [Blk.cells ca 1 false, Blk.cells cb 1 false])))
              (K AE.ret (tmps 68 [(4, Value.bool false)]) (hp [Blk.cells ca 1 false, Blk.cells cb 1 false]))) := by kernel_rfl

noncomputable def cut204 (ca cb : List Value) (s1 s2 : Option Nat) (l1 k1 l2 k2 : Nat) (a b : List Int) : CutE where
  β := Rw × Rw × Rw × Rw
  p := [1,1,1,1]
  t := fun x => T204 s1 s2 l1 k1 l2 k2 x.1 x.2.1 x.2.2.1 x.2.2.2
  h := fun x => H204 ca cb x.1 x.2.1 x.2.2.1 x.2.2.2
  Q := fun x K => a.length ≤ 100 ∧ b.length ≤ 100 ∧ RowR (andF a b) x.1 ∧ RowR (notF a b) x.2.1 ∧ RowR (notF b a) x.2.2.1 ∧ RowR (orF (orF (notF a b) (notF b a)) (andF a b)) x.2.2.2 ∧ K .ret (tmps 68 [(4, .bool true)]) (hp [.cells ca 1 false, .cells cb 1 false])

theorem z204 (hm : Try.prog.follows .mixedOrders = true) (ca cb : List Value) (s1 s2 : Option Nat) (l1 k1 l2 k2 : Nat) (a b : List Int) (K : Value → Heap → Prop) :
  funX Try.prog (S106 hm) (gcLKX (at0 []) (at0 []) 2 (cutE [cut204 ca cb s1 s2 l1 k1 l2 k2 a b])) F204 body204 Try.f6 [] [] [.slice (some ⟨0,0,s1⟩) l1 k1, .slice (some ⟨1,0,s2⟩) l2 k2] (hp [.cells ca 1 false, .cells cb 1 false]) K = (
Alt (ltI 100 (↑l1 : Int)) (True ∧ True ∧ K (Value.bool true) (hp [Blk.cells ca 1 false, Blk.cells cb 1 false]))
  (Alt (ltI 100 (↑l2 : Int)) (True ∧ True ∧ K (Value.bool true) (hp [Blk.cells ca 1 false, Blk.cells cb 1 false]))
    ((FlatL ca ∧ FlatL cb ∧ True) ∧
      (IsE (iE IntKind.i64) (ZP IntKind.i64) ca 0 l1 k1 ∧
          IsE (iE IntKind.i64) (ZP IntKind.i64) cb 0 l2 k2 ∧ Need (leN l1 1000) (Need (leN l2 1000) True)) ∧
        ∀ (x : Rw),
          RowR (andF (intsAt ca 0 l1) (intsAt cb 0 l2)) x →
            (FlatL ca ∧ FlatL cb ∧ True) ∧
              (IsE (iE IntKind.i64) (ZP IntKind.i64) ca 0 l1 k1 ∧
                  IsE (iE IntKind.i64) (ZP IntKind.i64) cb 0 l2 k2 ∧ Need (leN l1 1000) (Need (leN l2 1000) True)) ∧
                ∀ (x_1 : Rw),
                  RowR (notF (intsAt ca 0 l1) (intsAt cb 0 l2)) x_1 →
                    (FlatL cb ∧ FlatL ca ∧ True) ∧
                      (IsE (iE IntKind.i64) (ZP IntKind.i64) cb 0 l2 k2 ∧
                          IsE (iE IntKind.i64) (ZP IntKind.i64) ca 0 l1 k1 ∧
                            Need (leN l2 1000) (Need (leN l1 1000) True)) ∧
                        ∀ (x_2 : Rw),
                          RowR (notF (intsAt cb 0 l2) (intsAt ca 0 l1)) x_2 →
                            (FlatL x_1.snd.fst ∧ FlatL x_2.snd.fst ∧ True) ∧
                              (IsE (iE IntKind.i64) (ZP IntKind.i64) x_1.snd.fst 0 x_1.fst.length x_1.snd.snd ∧
                                  IsE (iE IntKind.i64) (ZP IntKind.i64) x_2.snd.fst 0 x_2.fst.length x_2.snd.snd ∧
                                    Need (leN x_1.fst.length 1000) (Need (leN x_2.fst.length 1000) True)) ∧
                                ∀ (x_3 : Rw),
                                  RowR (orF (intsAt x_1.snd.fst 0 x_1.fst.length) (intsAt x_2.snd.fst 0 x_2.fst.length))
                                      x_3 →
                                    (FlatL x_3.snd.fst ∧ FlatL x.snd.fst ∧ True) ∧
                                      (IsE (iE IntKind.i64) (ZP IntKind.i64) x_3.snd.fst 0 x_3.fst.length x_3.snd.snd ∧
                                          IsE (iE IntKind.i64) (ZP IntKind.i64) x.snd.fst 0 x.fst.length x.snd.snd ∧
                                            Need (leN x_3.fst.length 1000) (Need (leN x.fst.length 1000) True)) ∧
                                        ∀ (x_4 : Rw),
                                          RowR
                                              (orF (intsAt x_3.snd.fst 0 x_3.fst.length)
                                                (intsAt x.snd.fst 0 x.fst.length))
                                              x_4 →
                                            FlatD []
                                                (hp
                                                  [Blk.cells ca 1 false, Blk.cells cb 1 false,
                                                    Blk.cells x.snd.fst 1 true, Blk.cells x_1.snd.fst 1 true,
                                                    Blk.cells x_2.snd.fst 1 true, Blk.cells x_4.snd.fst 1 true]) ∧
                                              ∃ (b_1 : Rw × Rw × Rw × Rw),
                                                tmps 68
                                                      [(0,
                                                          Value.slice (some { block := 0, off := 0, spot := s1 : Addr })
                                                            l1 k1),
                                                        (1,
                                                          Value.slice (some { block := 1, off := 0, spot := s2 : Addr })
                                                            l2 k2),
                                                        (5,
                                                          Value.slice
                                                            (some { block := 2, off := 0, spot := some 3 : Addr })
                                                            x.fst.length x.snd.snd),
                                                        (6,
                                                          Value.slice
                                                            (some { block := 3, off := 0, spot := some 3 : Addr })
                                                            x_1.fst.length x_1.snd.snd),
                                                        (7,
                                                          Value.slice
                                                            (some { block := 4, off := 0, spot := some 3 : Addr })
                                                            x_2.fst.length x_2.snd.snd),
                                                        (8,
                                                          Value.slice
                                                            (some { block := 5, off := 0, spot := some 3 : Addr })
                                                            x_4.fst.length x_4.snd.snd)] =
                                                    tmps 68
                                                      [(0,
                                                          Value.slice (some { block := 0, off := 0, spot := s1 : Addr })
                                                            l1 k1),
                                                        (1,
                                                          Value.slice (some { block := 1, off := 0, spot := s2 : Addr })
                                                            l2 k2),
                                                        (5,
                                                          Value.slice
                                                            (some { block := 2, off := 0, spot := some 3 : Addr })
                                                            b_1.fst.fst.length b_1.fst.snd.snd),
                                                        (6,
                                                          Value.slice
                                                            (some { block := 3, off := 0, spot := some 3 : Addr })
                                                            b_1.snd.fst.fst.length b_1.snd.fst.snd.snd),
                                                        (7,
                                                          Value.slice
                                                            (some { block := 4, off := 0, spot := some 3 : Addr })
                                                            b_1.snd.snd.fst.fst.length b_1.snd.snd.fst.snd.snd),
                                                        (8,
                                                          Value.slice
                                                            (some { block := 5, off := 0, spot := some 3 : Addr })
                                                            b_1.snd.snd.snd.fst.length b_1.snd.snd.snd.snd.snd)] ∧
                                                  hp
                                                        [Blk.cells ca 1 false, Blk.cells cb 1 false,
                                                          Blk.cells x.snd.fst 1 true, Blk.cells x_1.snd.fst 1 true,
                                                          Blk.cells x_2.snd.fst 1 true, Blk.cells x_4.snd.fst 1 true] =
                                                      hp
                                                        [Blk.cells ca 1 false, Blk.cells cb 1 false,
                                                          Blk.cells b_1.fst.snd.fst 1 true,
                                                          Blk.cells b_1.snd.fst.snd.fst 1 true,
                                                          Blk.cells b_1.snd.snd.fst.snd.fst 1 true,
                                                          Blk.cells b_1.snd.snd.snd.snd.fst 1 true] ∧
                                                    a.length.le 100 ∧
                                                      b.length.le 100 ∧
                                                        RowR (andF a b) b_1.fst ∧
                                                          RowR (notF a b) b_1.snd.fst ∧
                                                            RowR (notF b a) b_1.snd.snd.fst ∧
                                                              RowR (orF (orF (notF a b) (notF b a)) (andF a b))
                                                                  b_1.snd.snd.snd ∧
                                                                K (Value.bool true)
                                                                  (hp [Blk.cells ca 1 false, Blk.cells cb 1 false])))) := by kernel_rfl

noncomputable def T206 (s1 s2 : Option Nat) (l1 k1 l2 k2 : Nat) (n : Int) (bx bY : Bool) (x1 x2 x3 : Rw) : List Value := tmps 105 [(0, .slice (some ⟨0,0,s1⟩) l1 k1), (1, .slice (some ⟨1,0,s2⟩) l2 k2), (2, .int .i64 n), (7, .bool bx), (8, .bool bY), (9, sB 2 x1), (10, sB 3 x2), (11, sB 4 x3)]
noncomputable def H206 (ca cb : List Value) (x1 x2 x3 : Rw) : Heap := hp [.cells ca 1 false, .cells cb 1 false, .cells x1.2.1 1 true, .cells x2.2.1 1 true, .cells x3.2.1 1 true]
noncomputable def T206b (s2 : Option Nat) (l2 k2 : Nat) (n : Int) (x1 x2 x3 : Rw) : List Value := tmps 105 [(1, .slice (some ⟨1,0,s2⟩) l2 k2), (2, .int .i64 n), (9, sB 2 x1), (10, sB 3 x2), (11, sB 4 x3)]
noncomputable def cut206b (ca cb : List Value) (s2 : Option Nat) (l2 k2 : Nat) (n : Int) (x1 x2 x3 : Rw) : CutE where
  β := Nat
  p := [1,1,1,1,1]
  t := fun _ => T206b s2 l2 k2 n x1 x2 x3
  h := fun _ => H206 ca cb x1 x2 x3
  Q := fun _ K => K .ret (tmps 105 [(6, .bool true)]) (hp [.cells ca 1 false, .cells cb 1 false])
noncomputable def cut206 (ca cb : List Value) (s1 s2 : Option Nat) (l1 k1 l2 k2 : Nat) (n : Int) (a b : List Int) : CutE where
  β := Rw × Rw × Rw × Bool × Bool
  p := [1,1,1,1]
  t := fun x => T206 s1 s2 l1 k1 l2 k2 n x.2.2.2.1 x.2.2.2.2 x.1 x.2.1 x.2.2.1
  h := fun x => H206 ca cb x.1 x.2.1 x.2.2.1
  Q := fun x K => a.length ≤ 100 ∧ b.length ≤ 100 ∧ x.2.2.2.1 = hasL n a ∧ x.2.2.2.2 = hasL n b ∧ RowR (andF a b) x.1 ∧ RowR (orF a b) x.2.1 ∧ RowR (notF a b) x.2.2.1 ∧ K .ret (tmps 105 [(6, .bool true)]) (hp [.cells ca 1 false, .cells cb 1 false])

theorem y206b (hm : Try.prog.follows .mixedOrders = true) (ca cb : List Value) (s2 : Option Nat) (l2 k2 : Nat) (n : Int) (x1 x2 x3 : Rw) (K : Post) :
  roundX Try.prog (S106 hm) noLoop F206 body206 2 [] [] [] [] [] [1,1,1,1,1] (T206b s2 l2 k2 n x1 x2 x3) (H206 ca cb x1 x2 x3) K = (
(FlatL x1.snd.fst ∧ True) ∧
  (IsE (iE IntKind.i64) (ZP IntKind.i64) x1.snd.fst 0 x1.fst.length x1.snd.snd ∧ IsO []) ∧
    Alt (upI (intsAt x1.snd.fst 0 x1.fst.length))
      ((FlatL x2.snd.fst ∧ True) ∧
        (IsE (iE IntKind.i64) (ZP IntKind.i64) x2.snd.fst 0 x2.fst.length x2.snd.snd ∧ IsO []) ∧
          Alt (upI (intsAt x2.snd.fst 0 x2.fst.length))
            ((FlatL x3.snd.fst ∧ True) ∧
              (IsE (iE IntKind.i64) (ZP IntKind.i64) x3.snd.fst 0 x3.fst.length x3.snd.snd ∧ IsO []) ∧
                Alt (upI (intsAt x3.snd.fst 0 x3.fst.length))
                  ((FlatL cb ∧ True) ∧
                    (IsE (iE IntKind.i64) (ZP IntKind.i64) cb 0 l2 k2 ∧
                        IsN [Value.int IntKind.i64 n] ∧ Need (leN l2 1000) True) ∧
                      ∀ (x : Rw),
                        RowR (putF (intsAt cb 0 l2) n) x →
                          (FlatL x.snd.fst ∧ True) ∧
                            (IsE (iE IntKind.i64) (ZP IntKind.i64) x.snd.fst 0 x.fst.length x.snd.snd ∧ IsO []) ∧
                              Alt (upI (intsAt x.snd.fst 0 x.fst.length))
                                ((FlatL cb ∧ True) ∧
                                  (IsE (iE IntKind.i64) (ZP IntKind.i64) cb 0 l2 k2 ∧
                                      IsN [Value.int IntKind.i64 n] ∧ Need (leN l2 1000) True) ∧
                                    ∀ (x : Rw),
                                      RowR (cutF (intsAt cb 0 l2) n) x →
                                        (FlatL x.snd.fst ∧ True) ∧
                                          (IsE (iE IntKind.i64) (ZP IntKind.i64) x.snd.fst 0 x.fst.length x.snd.snd ∧
                                              IsO []) ∧
                                            Alt (upI (intsAt x.snd.fst 0 x.fst.length))
                                              (True ∧
                                                True ∧
                                                  K AE.ret (tmps 105 [(6, Value.bool true)])
                                                    (hp [Blk.cells ca 1 false, Blk.cells cb 1 false]))
                                              (K AE.ret (tmps 105 [(6, Value.bool false)])
                                                (hp [Blk.cells ca 1 false, Blk.cells cb 1 false])))
                                (K AE.ret (tmps 105 [(6, Value.bool false)])
                                  (hp [Blk.cells ca 1 false, Blk.cells cb 1 false])))
                  (K AE.ret (tmps 105 [(6, Value.bool false)]) (hp [Blk.cells ca 1 false, Blk.cells cb 1 false])))
            (K AE.ret (tmps 105 [(6, Value.bool false)]) (hp [Blk.cells ca 1 false, Blk.cells cb 1 false])))
      (K AE.ret (tmps 105 [(6, Value.bool false)]) (hp [Blk.cells ca 1 false, Blk.cells cb 1 false]))) := by kernel_rfl

theorem y206 (hm : Try.prog.follows .mixedOrders = true) (ca cb : List Value) (s1 s2 : Option Nat) (l1 k1 l2 k2 : Nat) (n : Int) (bx bY : Bool) (x1 x2 x3 : Rw) (K : Post) :
  roundX Try.prog (S106 hm) (gcLKX (at0 []) (at0 []) 2 (cutE [cut206b ca cb s2 l2 k2 n x1 x2 x3])) F206 body206 2 [] [] [] [] [] [1,1,1,1] (T206 s1 s2 l1 k1 l2 k2 n bx bY x1 x2 x3) (H206 ca cb x1 x2 x3) K = (
(FlatL x1.snd.fst ∧ True) ∧
  (IsE (iE IntKind.i64) (ZP IntKind.i64) x1.snd.fst 0 x1.fst.length x1.snd.snd ∧ IsN [Value.int IntKind.i64 n]) ∧
    Alt bx
      (Alt (!hasL n (intsAt x1.snd.fst 0 x1.fst.length) == bY)
        (K AE.ret (tmps 105 [(6, Value.bool false)]) (hp [Blk.cells ca 1 false, Blk.cells cb 1 false]))
        ((FlatL x2.snd.fst ∧ True) ∧
          (IsE (iE IntKind.i64) (ZP IntKind.i64) x2.snd.fst 0 x2.fst.length x2.snd.snd ∧
              IsN [Value.int IntKind.i64 n]) ∧
            Alt bx
              (Alt (!hasL n (intsAt x2.snd.fst 0 x2.fst.length) == true)
                (K AE.ret (tmps 105 [(6, Value.bool false)]) (hp [Blk.cells ca 1 false, Blk.cells cb 1 false]))
                ((FlatL x3.snd.fst ∧ True) ∧
                  (IsE (iE IntKind.i64) (ZP IntKind.i64) x3.snd.fst 0 x3.fst.length x3.snd.snd ∧
                      IsN [Value.int IntKind.i64 n]) ∧
                    Alt bx
                      (Alt (!hasL n (intsAt x3.snd.fst 0 x3.fst.length) == !bY)
                        (K AE.ret (tmps 105 [(6, Value.bool false)]) (hp [Blk.cells ca 1 false, Blk.cells cb 1 false]))
                        ((FlatL ca ∧ True) ∧
                          (IsE (iE IntKind.i64) (ZP IntKind.i64) ca 0 l1 k1 ∧
                              IsN [Value.int IntKind.i64 n] ∧ Need (leN l1 1000) True) ∧
                            ∀ (x : Rw),
                              RowR (cutF (intsAt ca 0 l1) n) x →
                                (FlatL x.snd.fst ∧ True) ∧
                                  (IsE (iE IntKind.i64) (ZP IntKind.i64) x.snd.fst 0 x.fst.length x.snd.snd ∧
                                      IsN [Value.int IntKind.i64 n]) ∧
                                    Alt (hasL n (intsAt x.snd.fst 0 x.fst.length))
                                      (K AE.ret (tmps 105 [(6, Value.bool false)])
                                        (hp [Blk.cells ca 1 false, Blk.cells cb 1 false]))
                                      ((FlatL ca ∧ True) ∧
                                        (IsE (iE IntKind.i64) (ZP IntKind.i64) ca 0 l1 k1 ∧
                                            IsN [Value.int IntKind.i64 n] ∧ Need (leN l1 1000) True) ∧
                                          ∀ (x : Rw),
                                            RowR (putF (intsAt ca 0 l1) n) x →
                                              (FlatL x.snd.fst ∧ True) ∧
                                                (IsE (iE IntKind.i64) (ZP IntKind.i64) x.snd.fst 0 x.fst.length
                                                      x.snd.snd ∧
                                                    IsN [Value.int IntKind.i64 n]) ∧
                                                  Alt (!hasL n (intsAt x.snd.fst 0 x.fst.length))
                                                    (K AE.ret (tmps 105 [(6, Value.bool false)])
                                                      (hp [Blk.cells ca 1 false, Blk.cells cb 1 false]))
                                                    (FlatD []
                                                        (hp
                                                          [Blk.cells ca 1 false, Blk.cells cb 1 false,
                                                            Blk.cells x1.snd.fst 1 true, Blk.cells x2.snd.fst 1 true,
                                                            Blk.cells x3.snd.fst 1 true]) ∧
                                                      ∃ (b : Nat),
                                                        tmps 105
                                                              [(1,
                                                                  Value.slice
                                                                    (some { block := 1, off := 0, spot := s2 : Addr })
                                                                    l2 k2),
                                                                (2, Value.int IntKind.i64 n),
                                                                (9,
                                                                  Value.slice
                                                                    (some
                                                                      { block := 2, off := 0, spot := some 3 : Addr })
                                                                    x1.fst.length x1.snd.snd),
                                                                (10,
                                                                  Value.slice
                                                                    (some
                                                                      { block := 3, off := 0, spot := some 3 : Addr })
                                                                    x2.fst.length x2.snd.snd),
                                                                (11,
                                                                  Value.slice
                                                                    (some
                                                                      { block := 4, off := 0, spot := some 3 : Addr })
                                                                    x3.fst.length x3.snd.snd)] =
                                                            tmps 105
                                                              [(1,
                                                                  Value.slice
                                                                    (some { block := 1, off := 0, spot := s2 : Addr })
                                                                    l2 k2),
                                                                (2, Value.int IntKind.i64 n),
                                                                (9,
                                                                  Value.slice
                                                                    (some
                                                                      { block := 2, off := 0, spot := some 3 : Addr })
                                                                    x1.fst.length x1.snd.snd),
                                                                (10,
                                                                  Value.slice
                                                                    (some
                                                                      { block := 3, off := 0, spot := some 3 : Addr })
                                                                    x2.fst.length x2.snd.snd),
                                                                (11,
                                                                  Value.slice
                                                                    (some
                                                                      { block := 4, off := 0, spot := some 3 : Addr })
                                                                    x3.fst.length x3.snd.snd)] ∧
                                                          hp
                                                                [Blk.cells ca 1 false, Blk.cells cb 1 false,
                                                                  Blk.cells x1.snd.fst 1 true,
                                                                  Blk.cells x2.snd.fst 1 true,
                                                                  Blk.cells x3.snd.fst 1 true] =
                                                              hp
                                                                [Blk.cells ca 1 false, Blk.cells cb 1 false,
                                                                  Blk.cells x1.snd.fst 1 true,
                                                                  Blk.cells x2.snd.fst 1 true,
                                                                  Blk.cells x3.snd.fst 1 true] ∧
                                                            K AE.ret (tmps 105 [(6, Value.bool true)])
                                                              (hp [Blk.cells ca 1 false, Blk.cells cb 1 false])))))
                      (Alt (!hasL n (intsAt x3.snd.fst 0 x3.fst.length) == false)
                        (K AE.ret (tmps 105 [(6, Value.bool false)]) (hp [Blk.cells ca 1 false, Blk.cells cb 1 false]))
                        ((FlatL ca ∧ True) ∧
                          (IsE (iE IntKind.i64) (ZP IntKind.i64) ca 0 l1 k1 ∧
                              IsN [Value.int IntKind.i64 n] ∧ Need (leN l1 1000) True) ∧
                            ∀ (x : Rw),
                              RowR (cutF (intsAt ca 0 l1) n) x →
                                (FlatL x.snd.fst ∧ True) ∧
                                  (IsE (iE IntKind.i64) (ZP IntKind.i64) x.snd.fst 0 x.fst.length x.snd.snd ∧
                                      IsN [Value.int IntKind.i64 n]) ∧
                                    Alt (hasL n (intsAt x.snd.fst 0 x.fst.length))
                                      (K AE.ret (tmps 105 [(6, Value.bool false)])
                                        (hp [Blk.cells ca 1 false, Blk.cells cb 1 false]))
                                      ((FlatL ca ∧ True) ∧
                                        (IsE (iE IntKind.i64) (ZP IntKind.i64) ca 0 l1 k1 ∧
                                            IsN [Value.int IntKind.i64 n] ∧ Need (leN l1 1000) True) ∧
                                          ∀ (x : Rw),
                                            RowR (putF (intsAt ca 0 l1) n) x →
                                              (FlatL x.snd.fst ∧ True) ∧
                                                (IsE (iE IntKind.i64) (ZP IntKind.i64) x.snd.fst 0 x.fst.length
                                                      x.snd.snd ∧
                                                    IsN [Value.int IntKind.i64 n]) ∧
                                                  Alt (!hasL n (intsAt x.snd.fst 0 x.fst.length))
                                                    (K AE.ret (tmps 105 [(6, Value.bool false)])
                                                      (hp [Blk.cells ca 1 false, Blk.cells cb 1 false]))
                                                    (FlatD []
                                                        (hp
                                                          [Blk.cells ca 1 false, Blk.cells cb 1 false,
                                                            Blk.cells x1.snd.fst 1 true, Blk.cells x2.snd.fst 1 true,
                                                            Blk.cells x3.snd.fst 1 true]) ∧
                                                      ∃ (b : Nat),
                                                        tmps 105
                                                              [(1,
                                                                  Value.slice
                                                                    (some { block := 1, off := 0, spot := s2 : Addr })
                                                                    l2 k2),
                                                                (2, Value.int IntKind.i64 n),
                                                                (9,
                                                                  Value.slice
                                                                    (some
                                                                      { block := 2, off := 0, spot := some 3 : Addr })
                                                                    x1.fst.length x1.snd.snd),
                                                                (10,
                                                                  Value.slice
                                                                    (some
                                                                      { block := 3, off := 0, spot := some 3 : Addr })
                                                                    x2.fst.length x2.snd.snd),
                                                                (11,
                                                                  Value.slice
                                                                    (some
                                                                      { block := 4, off := 0, spot := some 3 : Addr })
                                                                    x3.fst.length x3.snd.snd)] =
                                                            tmps 105
                                                              [(1,
                                                                  Value.slice
                                                                    (some { block := 1, off := 0, spot := s2 : Addr })
                                                                    l2 k2),
                                                                (2, Value.int IntKind.i64 n),
                                                                (9,
                                                                  Value.slice
                                                                    (some
                                                                      { block := 2, off := 0, spot := some 3 : Addr })
                                                                    x1.fst.length x1.snd.snd),
                                                                (10,
                                                                  Value.slice
                                                                    (some
                                                                      { block := 3, off := 0, spot := some 3 : Addr })
                                                                    x2.fst.length x2.snd.snd),
                                                                (11,
                                                                  Value.slice
                                                                    (some
                                                                      { block := 4, off := 0, spot := some 3 : Addr })
                                                                    x3.fst.length x3.snd.snd)] ∧
                                                          hp
                                                                [Blk.cells ca 1 false, Blk.cells cb 1 false,
                                                                  Blk.cells x1.snd.fst 1 true,
                                                                  Blk.cells x2.snd.fst 1 true,
                                                                  Blk.cells x3.snd.fst 1 true] =
                                                              hp
                                                                [Blk.cells ca 1 false, Blk.cells cb 1 false,
                                                                  Blk.cells x1.snd.fst 1 true,
                                                                  Blk.cells x2.snd.fst 1 true,
                                                                  Blk.cells x3.snd.fst 1 true] ∧
                                                            K AE.ret (tmps 105 [(6, Value.bool true)])
                                                              (hp [Blk.cells ca 1 false, Blk.cells cb 1 false])))))))
              (Alt (!hasL n (intsAt x2.snd.fst 0 x2.fst.length) == bY)
                (K AE.ret (tmps 105 [(6, Value.bool false)]) (hp [Blk.cells ca 1 false, Blk.cells cb 1 false]))
                ((FlatL x3.snd.fst ∧ True) ∧
                  (IsE (iE IntKind.i64) (ZP IntKind.i64) x3.snd.fst 0 x3.fst.length x3.snd.snd ∧
                      IsN [Value.int IntKind.i64 n]) ∧
                    Alt bx
                      (Alt (!hasL n (intsAt x3.snd.fst 0 x3.fst.length) == !bY)
                        (K AE.ret (tmps 105 [(6, Value.bool false)]) (hp [Blk.cells ca 1 false, Blk.cells cb 1 false]))
                        ((FlatL ca ∧ True) ∧
                          (IsE (iE IntKind.i64) (ZP IntKind.i64) ca 0 l1 k1 ∧
                              IsN [Value.int IntKind.i64 n] ∧ Need (leN l1 1000) True) ∧
                            ∀ (x : Rw),
                              RowR (cutF (intsAt ca 0 l1) n) x →
                                (FlatL x.snd.fst ∧ True) ∧
                                  (IsE (iE IntKind.i64) (ZP IntKind.i64) x.snd.fst 0 x.fst.length x.snd.snd ∧
                                      IsN [Value.int IntKind.i64 n]) ∧
                                    Alt (hasL n (intsAt x.snd.fst 0 x.fst.length))
                                      (K AE.ret (tmps 105 [(6, Value.bool false)])
                                        (hp [Blk.cells ca 1 false, Blk.cells cb 1 false]))
                                      ((FlatL ca ∧ True) ∧
                                        (IsE (iE IntKind.i64) (ZP IntKind.i64) ca 0 l1 k1 ∧
                                            IsN [Value.int IntKind.i64 n] ∧ Need (leN l1 1000) True) ∧
                                          ∀ (x : Rw),
                                            RowR (putF (intsAt ca 0 l1) n) x →
                                              (FlatL x.snd.fst ∧ True) ∧
                                                (IsE (iE IntKind.i64) (ZP IntKind.i64) x.snd.fst 0 x.fst.length
                                                      x.snd.snd ∧
                                                    IsN [Value.int IntKind.i64 n]) ∧
                                                  Alt (!hasL n (intsAt x.snd.fst 0 x.fst.length))
                                                    (K AE.ret (tmps 105 [(6, Value.bool false)])
                                                      (hp [Blk.cells ca 1 false, Blk.cells cb 1 false]))
                                                    (FlatD []
                                                        (hp
                                                          [Blk.cells ca 1 false, Blk.cells cb 1 false,
                                                            Blk.cells x1.snd.fst 1 true, Blk.cells x2.snd.fst 1 true,
                                                            Blk.cells x3.snd.fst 1 true]) ∧
                                                      ∃ (b : Nat),
                                                        tmps 105
                                                              [(1,
                                                                  Value.slice
                                                                    (some { block := 1, off := 0, spot := s2 : Addr })
                                                                    l2 k2),
                                                                (2, Value.int IntKind.i64 n),
                                                                (9,
                                                                  Value.slice
                                                                    (some
                                                                      { block := 2, off := 0, spot := some 3 : Addr })
                                                                    x1.fst.length x1.snd.snd),
                                                                (10,
                                                                  Value.slice
                                                                    (some
                                                                      { block := 3, off := 0, spot := some 3 : Addr })
                                                                    x2.fst.length x2.snd.snd),
                                                                (11,
                                                                  Value.slice
                                                                    (some
                                                                      { block := 4, off := 0, spot := some 3 : Addr })
                                                                    x3.fst.length x3.snd.snd)] =
                                                            tmps 105
                                                              [(1,
                                                                  Value.slice
                                                                    (some { block := 1, off := 0, spot := s2 : Addr })
                                                                    l2 k2),
                                                                (2, Value.int IntKind.i64 n),
                                                                (9,
                                                                  Value.slice
                                                                    (some
                                                                      { block := 2, off := 0, spot := some 3 : Addr })
                                                                    x1.fst.length x1.snd.snd),
                                                                (10,
                                                                  Value.slice
                                                                    (some
                                                                      { block := 3, off := 0, spot := some 3 : Addr })
                                                                    x2.fst.length x2.snd.snd),
                                                                (11,
                                                                  Value.slice
                                                                    (some
                                                                      { block := 4, off := 0, spot := some 3 : Addr })
                                                                    x3.fst.length x3.snd.snd)] ∧
                                                          hp
                                                                [Blk.cells ca 1 false, Blk.cells cb 1 false,
                                                                  Blk.cells x1.snd.fst 1 true,
                                                                  Blk.cells x2.snd.fst 1 true,
                                                                  Blk.cells x3.snd.fst 1 true] =
                                                              hp
                                                                [Blk.cells ca 1 false, Blk.cells cb 1 false,
                                                                  Blk.cells x1.snd.fst 1 true,
                                                                  Blk.cells x2.snd.fst 1 true,
                                                                  Blk.cells x3.snd.fst 1 true] ∧
                                                            K AE.ret (tmps 105 [(6, Value.bool true)])
                                                              (hp [Blk.cells ca 1 false, Blk.cells cb 1 false])))))
                      (Alt (!hasL n (intsAt x3.snd.fst 0 x3.fst.length) == false)
                        (K AE.ret (tmps 105 [(6, Value.bool false)]) (hp [Blk.cells ca 1 false, Blk.cells cb 1 false]))
                        ((FlatL ca ∧ True) ∧
                          (IsE (iE IntKind.i64) (ZP IntKind.i64) ca 0 l1 k1 ∧
                              IsN [Value.int IntKind.i64 n] ∧ Need (leN l1 1000) True) ∧
                            ∀ (x : Rw),
                              RowR (cutF (intsAt ca 0 l1) n) x →
                                (FlatL x.snd.fst ∧ True) ∧
                                  (IsE (iE IntKind.i64) (ZP IntKind.i64) x.snd.fst 0 x.fst.length x.snd.snd ∧
                                      IsN [Value.int IntKind.i64 n]) ∧
                                    Alt (hasL n (intsAt x.snd.fst 0 x.fst.length))
                                      (K AE.ret (tmps 105 [(6, Value.bool false)])
                                        (hp [Blk.cells ca 1 false, Blk.cells cb 1 false]))
                                      ((FlatL ca ∧ True) ∧
                                        (IsE (iE IntKind.i64) (ZP IntKind.i64) ca 0 l1 k1 ∧
                                            IsN [Value.int IntKind.i64 n] ∧ Need (leN l1 1000) True) ∧
                                          ∀ (x : Rw),
                                            RowR (putF (intsAt ca 0 l1) n) x →
                                              (FlatL x.snd.fst ∧ True) ∧
                                                (IsE (iE IntKind.i64) (ZP IntKind.i64) x.snd.fst 0 x.fst.length
                                                      x.snd.snd ∧
                                                    IsN [Value.int IntKind.i64 n]) ∧
                                                  Alt (!hasL n (intsAt x.snd.fst 0 x.fst.length))
                                                    (K AE.ret (tmps 105 [(6, Value.bool false)])
                                                      (hp [Blk.cells ca 1 false, Blk.cells cb 1 false]))
                                                    (FlatD []
                                                        (hp
                                                          [Blk.cells ca 1 false, Blk.cells cb 1 false,
                                                            Blk.cells x1.snd.fst 1 true, Blk.cells x2.snd.fst 1 true,
                                                            Blk.cells x3.snd.fst 1 true]) ∧
                                                      ∃ (b : Nat),
                                                        tmps 105
                                                              [(1,
                                                                  Value.slice
                                                                    (some { block := 1, off := 0, spot := s2 : Addr })
                                                                    l2 k2),
                                                                (2, Value.int IntKind.i64 n),
                                                                (9,
                                                                  Value.slice
                                                                    (some
                                                                      { block := 2, off := 0, spot := some 3 : Addr })
                                                                    x1.fst.length x1.snd.snd),
                                                                (10,
                                                                  Value.slice
                                                                    (some
                                                                      { block := 3, off := 0, spot := some 3 : Addr })
                                                                    x2.fst.length x2.snd.snd),
                                                                (11,
                                                                  Value.slice
                                                                    (some
                                                                      { block := 4, off := 0, spot := some 3 : Addr })
                                                                    x3.fst.length x3.snd.snd)] =
                                                            tmps 105
                                                              [(1,
                                                                  Value.slice
                                                                    (some { block := 1, off := 0, spot := s2 : Addr })
                                                                    l2 k2),
                                                                (2, Value.int IntKind.i64 n),
                                                                (9,
                                                                  Value.slice
                                                                    (some
                                                                      { block := 2, off := 0, spot := some 3 : Addr })
                                                                    x1.fst.length x1.snd.snd),
                                                                (10,
                                                                  Value.slice
                                                                    (some
                                                                      { block := 3, off := 0, spot := some 3 : Addr })
                                                                    x2.fst.length x2.snd.snd),
                                                                (11,
                                                                  Value.slice
                                                                    (some
                                                                      { block := 4, off := 0, spot := some 3 : Addr })
                                                                    x3.fst.length x3.snd.snd)] ∧
                                                          hp
                                                                [Blk.cells ca 1 false, Blk.cells cb 1 false,
                                                                  Blk.cells x1.snd.fst 1 true,
                                                                  Blk.cells x2.snd.fst 1 true,
                                                                  Blk.cells x3.snd.fst 1 true] =
                                                              hp
                                                                [Blk.cells ca 1 false, Blk.cells cb 1 false,
                                                                  Blk.cells x1.snd.fst 1 true,
                                                                  Blk.cells x2.snd.fst 1 true,
                                                                  Blk.cells x3.snd.fst 1 true] ∧
                                                            K AE.ret (tmps 105 [(6, Value.bool true)])
                                                              (hp [Blk.cells ca 1 false, Blk.cells cb 1 false])))))))))
      (Alt (!hasL n (intsAt x1.snd.fst 0 x1.fst.length) == false)
        (K AE.ret (tmps 105 [(6, Value.bool false)]) (hp [Blk.cells ca 1 false, Blk.cells cb 1 false]))
        ((FlatL x2.snd.fst ∧ True) ∧
          (IsE (iE IntKind.i64) (ZP IntKind.i64) x2.snd.fst 0 x2.fst.length x2.snd.snd ∧
              IsN [Value.int IntKind.i64 n]) ∧
            Alt bx
              (Alt (!hasL n (intsAt x2.snd.fst 0 x2.fst.length) == true)
                (K AE.ret (tmps 105 [(6, Value.bool false)]) (hp [Blk.cells ca 1 false, Blk.cells cb 1 false]))
                ((FlatL x3.snd.fst ∧ True) ∧
                  (IsE (iE IntKind.i64) (ZP IntKind.i64) x3.snd.fst 0 x3.fst.length x3.snd.snd ∧
                      IsN [Value.int IntKind.i64 n]) ∧
                    Alt bx
                      (Alt (!hasL n (intsAt x3.snd.fst 0 x3.fst.length) == !bY)
                        (K AE.ret (tmps 105 [(6, Value.bool false)]) (hp [Blk.cells ca 1 false, Blk.cells cb 1 false]))
                        ((FlatL ca ∧ True) ∧
                          (IsE (iE IntKind.i64) (ZP IntKind.i64) ca 0 l1 k1 ∧
                              IsN [Value.int IntKind.i64 n] ∧ Need (leN l1 1000) True) ∧
                            ∀ (x : Rw),
                              RowR (cutF (intsAt ca 0 l1) n) x →
                                (FlatL x.snd.fst ∧ True) ∧
                                  (IsE (iE IntKind.i64) (ZP IntKind.i64) x.snd.fst 0 x.fst.length x.snd.snd ∧
                                      IsN [Value.int IntKind.i64 n]) ∧
                                    Alt (hasL n (intsAt x.snd.fst 0 x.fst.length))
                                      (K AE.ret (tmps 105 [(6, Value.bool false)])
                                        (hp [Blk.cells ca 1 false, Blk.cells cb 1 false]))
                                      ((FlatL ca ∧ True) ∧
                                        (IsE (iE IntKind.i64) (ZP IntKind.i64) ca 0 l1 k1 ∧
                                            IsN [Value.int IntKind.i64 n] ∧ Need (leN l1 1000) True) ∧
                                          ∀ (x : Rw),
                                            RowR (putF (intsAt ca 0 l1) n) x →
                                              (FlatL x.snd.fst ∧ True) ∧
                                                (IsE (iE IntKind.i64) (ZP IntKind.i64) x.snd.fst 0 x.fst.length
                                                      x.snd.snd ∧
                                                    IsN [Value.int IntKind.i64 n]) ∧
                                                  Alt (!hasL n (intsAt x.snd.fst 0 x.fst.length))
                                                    (K AE.ret (tmps 105 [(6, Value.bool false)])
                                                      (hp [Blk.cells ca 1 false, Blk.cells cb 1 false]))
                                                    (FlatD []
                                                        (hp
                                                          [Blk.cells ca 1 false, Blk.cells cb 1 false,
                                                            Blk.cells x1.snd.fst 1 true, Blk.cells x2.snd.fst 1 true,
                                                            Blk.cells x3.snd.fst 1 true]) ∧
                                                      ∃ (b : Nat),
                                                        tmps 105
                                                              [(1,
                                                                  Value.slice
                                                                    (some { block := 1, off := 0, spot := s2 : Addr })
                                                                    l2 k2),
                                                                (2, Value.int IntKind.i64 n),
                                                                (9,
                                                                  Value.slice
                                                                    (some
                                                                      { block := 2, off := 0, spot := some 3 : Addr })
                                                                    x1.fst.length x1.snd.snd),
                                                                (10,
                                                                  Value.slice
                                                                    (some
                                                                      { block := 3, off := 0, spot := some 3 : Addr })
                                                                    x2.fst.length x2.snd.snd),
                                                                (11,
                                                                  Value.slice
                                                                    (some
                                                                      { block := 4, off := 0, spot := some 3 : Addr })
                                                                    x3.fst.length x3.snd.snd)] =
                                                            tmps 105
                                                              [(1,
                                                                  Value.slice
                                                                    (some { block := 1, off := 0, spot := s2 : Addr })
                                                                    l2 k2),
                                                                (2, Value.int IntKind.i64 n),
                                                                (9,
                                                                  Value.slice
                                                                    (some
                                                                      { block := 2, off := 0, spot := some 3 : Addr })
                                                                    x1.fst.length x1.snd.snd),
                                                                (10,
                                                                  Value.slice
                                                                    (some
                                                                      { block := 3, off := 0, spot := some 3 : Addr })
                                                                    x2.fst.length x2.snd.snd),
                                                                (11,
                                                                  Value.slice
                                                                    (some
                                                                      { block := 4, off := 0, spot := some 3 : Addr })
                                                                    x3.fst.length x3.snd.snd)] ∧
                                                          hp
                                                                [Blk.cells ca 1 false, Blk.cells cb 1 false,
                                                                  Blk.cells x1.snd.fst 1 true,
                                                                  Blk.cells x2.snd.fst 1 true,
                                                                  Blk.cells x3.snd.fst 1 true] =
                                                              hp
                                                                [Blk.cells ca 1 false, Blk.cells cb 1 false,
                                                                  Blk.cells x1.snd.fst 1 true,
                                                                  Blk.cells x2.snd.fst 1 true,
                                                                  Blk.cells x3.snd.fst 1 true] ∧
                                                            K AE.ret (tmps 105 [(6, Value.bool true)])
                                                              (hp [Blk.cells ca 1 false, Blk.cells cb 1 false])))))
                      (Alt (!hasL n (intsAt x3.snd.fst 0 x3.fst.length) == false)
                        (K AE.ret (tmps 105 [(6, Value.bool false)]) (hp [Blk.cells ca 1 false, Blk.cells cb 1 false]))
                        ((FlatL ca ∧ True) ∧
                          (IsE (iE IntKind.i64) (ZP IntKind.i64) ca 0 l1 k1 ∧
                              IsN [Value.int IntKind.i64 n] ∧ Need (leN l1 1000) True) ∧
                            ∀ (x : Rw),
                              RowR (cutF (intsAt ca 0 l1) n) x →
                                (FlatL x.snd.fst ∧ True) ∧
                                  (IsE (iE IntKind.i64) (ZP IntKind.i64) x.snd.fst 0 x.fst.length x.snd.snd ∧
                                      IsN [Value.int IntKind.i64 n]) ∧
                                    Alt (hasL n (intsAt x.snd.fst 0 x.fst.length))
                                      (K AE.ret (tmps 105 [(6, Value.bool false)])
                                        (hp [Blk.cells ca 1 false, Blk.cells cb 1 false]))
                                      ((FlatL ca ∧ True) ∧
                                        (IsE (iE IntKind.i64) (ZP IntKind.i64) ca 0 l1 k1 ∧
                                            IsN [Value.int IntKind.i64 n] ∧ Need (leN l1 1000) True) ∧
                                          ∀ (x : Rw),
                                            RowR (putF (intsAt ca 0 l1) n) x →
                                              (FlatL x.snd.fst ∧ True) ∧
                                                (IsE (iE IntKind.i64) (ZP IntKind.i64) x.snd.fst 0 x.fst.length
                                                      x.snd.snd ∧
                                                    IsN [Value.int IntKind.i64 n]) ∧
                                                  Alt (!hasL n (intsAt x.snd.fst 0 x.fst.length))
                                                    (K AE.ret (tmps 105 [(6, Value.bool false)])
                                                      (hp [Blk.cells ca 1 false, Blk.cells cb 1 false]))
                                                    (FlatD []
                                                        (hp
                                                          [Blk.cells ca 1 false, Blk.cells cb 1 false,
                                                            Blk.cells x1.snd.fst 1 true, Blk.cells x2.snd.fst 1 true,
                                                            Blk.cells x3.snd.fst 1 true]) ∧
                                                      ∃ (b : Nat),
                                                        tmps 105
                                                              [(1,
                                                                  Value.slice
                                                                    (some { block := 1, off := 0, spot := s2 : Addr })
                                                                    l2 k2),
                                                                (2, Value.int IntKind.i64 n),
                                                                (9,
                                                                  Value.slice
                                                                    (some
                                                                      { block := 2, off := 0, spot := some 3 : Addr })
                                                                    x1.fst.length x1.snd.snd),
                                                                (10,
                                                                  Value.slice
                                                                    (some
                                                                      { block := 3, off := 0, spot := some 3 : Addr })
                                                                    x2.fst.length x2.snd.snd),
                                                                (11,
                                                                  Value.slice
                                                                    (some
                                                                      { block := 4, off := 0, spot := some 3 : Addr })
                                                                    x3.fst.length x3.snd.snd)] =
                                                            tmps 105
                                                              [(1,
                                                                  Value.slice
                                                                    (some { block := 1, off := 0, spot := s2 : Addr })
                                                                    l2 k2),
                                                                (2, Value.int IntKind.i64 n),
                                                                (9,
                                                                  Value.slice
                                                                    (some
                                                                      { block := 2, off := 0, spot := some 3 : Addr })
                                                                    x1.fst.length x1.snd.snd),
                                                                (10,
                                                                  Value.slice
                                                                    (some
                                                                      { block := 3, off := 0, spot := some 3 : Addr })
                                                                    x2.fst.length x2.snd.snd),
                                                                (11,
                                                                  Value.slice
                                                                    (some
                                                                      { block := 4, off := 0, spot := some 3 : Addr })
                                                                    x3.fst.length x3.snd.snd)] ∧
                                                          hp
                                                                [Blk.cells ca 1 false, Blk.cells cb 1 false,
                                                                  Blk.cells x1.snd.fst 1 true,
                                                                  Blk.cells x2.snd.fst 1 true,
                                                                  Blk.cells x3.snd.fst 1 true] =
                                                              hp
                                                                [Blk.cells ca 1 false, Blk.cells cb 1 false,
                                                                  Blk.cells x1.snd.fst 1 true,
                                                                  Blk.cells x2.snd.fst 1 true,
                                                                  Blk.cells x3.snd.fst 1 true] ∧
                                                            K AE.ret (tmps 105 [(6, Value.bool true)])
                                                              (hp [Blk.cells ca 1 false, Blk.cells cb 1 false])))))))
              (Alt (!hasL n (intsAt x2.snd.fst 0 x2.fst.length) == bY)
                (K AE.ret (tmps 105 [(6, Value.bool false)]) (hp [Blk.cells ca 1 false, Blk.cells cb 1 false]))
                ((FlatL x3.snd.fst ∧ True) ∧
                  (IsE (iE IntKind.i64) (ZP IntKind.i64) x3.snd.fst 0 x3.fst.length x3.snd.snd ∧
                      IsN [Value.int IntKind.i64 n]) ∧
                    Alt bx
                      (Alt (!hasL n (intsAt x3.snd.fst 0 x3.fst.length) == !bY)
                        (K AE.ret (tmps 105 [(6, Value.bool false)]) (hp [Blk.cells ca 1 false, Blk.cells cb 1 false]))
                        ((FlatL ca ∧ True) ∧
                          (IsE (iE IntKind.i64) (ZP IntKind.i64) ca 0 l1 k1 ∧
                              IsN [Value.int IntKind.i64 n] ∧ Need (leN l1 1000) True) ∧
                            ∀ (x : Rw),
                              RowR (cutF (intsAt ca 0 l1) n) x →
                                (FlatL x.snd.fst ∧ True) ∧
                                  (IsE (iE IntKind.i64) (ZP IntKind.i64) x.snd.fst 0 x.fst.length x.snd.snd ∧
                                      IsN [Value.int IntKind.i64 n]) ∧
                                    Alt (hasL n (intsAt x.snd.fst 0 x.fst.length))
                                      (K AE.ret (tmps 105 [(6, Value.bool false)])
                                        (hp [Blk.cells ca 1 false, Blk.cells cb 1 false]))
                                      ((FlatL ca ∧ True) ∧
                                        (IsE (iE IntKind.i64) (ZP IntKind.i64) ca 0 l1 k1 ∧
                                            IsN [Value.int IntKind.i64 n] ∧ Need (leN l1 1000) True) ∧
                                          ∀ (x : Rw),
                                            RowR (putF (intsAt ca 0 l1) n) x →
                                              (FlatL x.snd.fst ∧ True) ∧
                                                (IsE (iE IntKind.i64) (ZP IntKind.i64) x.snd.fst 0 x.fst.length
                                                      x.snd.snd ∧
                                                    IsN [Value.int IntKind.i64 n]) ∧
                                                  Alt (!hasL n (intsAt x.snd.fst 0 x.fst.length))
                                                    (K AE.ret (tmps 105 [(6, Value.bool false)])
                                                      (hp [Blk.cells ca 1 false, Blk.cells cb 1 false]))
                                                    (FlatD []
                                                        (hp
                                                          [Blk.cells ca 1 false, Blk.cells cb 1 false,
                                                            Blk.cells x1.snd.fst 1 true, Blk.cells x2.snd.fst 1 true,
                                                            Blk.cells x3.snd.fst 1 true]) ∧
                                                      ∃ (b : Nat),
                                                        tmps 105
                                                              [(1,
                                                                  Value.slice
                                                                    (some { block := 1, off := 0, spot := s2 : Addr })
                                                                    l2 k2),
                                                                (2, Value.int IntKind.i64 n),
                                                                (9,
                                                                  Value.slice
                                                                    (some
                                                                      { block := 2, off := 0, spot := some 3 : Addr })
                                                                    x1.fst.length x1.snd.snd),
                                                                (10,
                                                                  Value.slice
                                                                    (some
                                                                      { block := 3, off := 0, spot := some 3 : Addr })
                                                                    x2.fst.length x2.snd.snd),
                                                                (11,
                                                                  Value.slice
                                                                    (some
                                                                      { block := 4, off := 0, spot := some 3 : Addr })
                                                                    x3.fst.length x3.snd.snd)] =
                                                            tmps 105
                                                              [(1,
                                                                  Value.slice
                                                                    (some { block := 1, off := 0, spot := s2 : Addr })
                                                                    l2 k2),
                                                                (2, Value.int IntKind.i64 n),
                                                                (9,
                                                                  Value.slice
                                                                    (some
                                                                      { block := 2, off := 0, spot := some 3 : Addr })
                                                                    x1.fst.length x1.snd.snd),
                                                                (10,
                                                                  Value.slice
                                                                    (some
                                                                      { block := 3, off := 0, spot := some 3 : Addr })
                                                                    x2.fst.length x2.snd.snd),
                                                                (11,
                                                                  Value.slice
                                                                    (some
                                                                      { block := 4, off := 0, spot := some 3 : Addr })
                                                                    x3.fst.length x3.snd.snd)] ∧
                                                          hp
                                                                [Blk.cells ca 1 false, Blk.cells cb 1 false,
                                                                  Blk.cells x1.snd.fst 1 true,
                                                                  Blk.cells x2.snd.fst 1 true,
                                                                  Blk.cells x3.snd.fst 1 true] =
                                                              hp
                                                                [Blk.cells ca 1 false, Blk.cells cb 1 false,
                                                                  Blk.cells x1.snd.fst 1 true,
                                                                  Blk.cells x2.snd.fst 1 true,
                                                                  Blk.cells x3.snd.fst 1 true] ∧
                                                            K AE.ret (tmps 105 [(6, Value.bool true)])
                                                              (hp [Blk.cells ca 1 false, Blk.cells cb 1 false])))))
                      (Alt (!hasL n (intsAt x3.snd.fst 0 x3.fst.length) == false)
                        (K AE.ret (tmps 105 [(6, Value.bool false)]) (hp [Blk.cells ca 1 false, Blk.cells cb 1 false]))
                        ((FlatL ca ∧ True) ∧
                          (IsE (iE IntKind.i64) (ZP IntKind.i64) ca 0 l1 k1 ∧
                              IsN [Value.int IntKind.i64 n] ∧ Need (leN l1 1000) True) ∧
                            ∀ (x : Rw),
                              RowR (cutF (intsAt ca 0 l1) n) x →
                                (FlatL x.snd.fst ∧ True) ∧
                                  (IsE (iE IntKind.i64) (ZP IntKind.i64) x.snd.fst 0 x.fst.length x.snd.snd ∧
                                      IsN [Value.int IntKind.i64 n]) ∧
                                    Alt (hasL n (intsAt x.snd.fst 0 x.fst.length))
                                      (K AE.ret (tmps 105 [(6, Value.bool false)])
                                        (hp [Blk.cells ca 1 false, Blk.cells cb 1 false]))
                                      ((FlatL ca ∧ True) ∧
                                        (IsE (iE IntKind.i64) (ZP IntKind.i64) ca 0 l1 k1 ∧
                                            IsN [Value.int IntKind.i64 n] ∧ Need (leN l1 1000) True) ∧
                                          ∀ (x : Rw),
                                            RowR (putF (intsAt ca 0 l1) n) x →
                                              (FlatL x.snd.fst ∧ True) ∧
                                                (IsE (iE IntKind.i64) (ZP IntKind.i64) x.snd.fst 0 x.fst.length
                                                      x.snd.snd ∧
                                                    IsN [Value.int IntKind.i64 n]) ∧
                                                  Alt (!hasL n (intsAt x.snd.fst 0 x.fst.length))
                                                    (K AE.ret (tmps 105 [(6, Value.bool false)])
                                                      (hp [Blk.cells ca 1 false, Blk.cells cb 1 false]))
                                                    (FlatD []
                                                        (hp
                                                          [Blk.cells ca 1 false, Blk.cells cb 1 false,
                                                            Blk.cells x1.snd.fst 1 true, Blk.cells x2.snd.fst 1 true,
                                                            Blk.cells x3.snd.fst 1 true]) ∧
                                                      ∃ (b : Nat),
                                                        tmps 105
                                                              [(1,
                                                                  Value.slice
                                                                    (some { block := 1, off := 0, spot := s2 : Addr })
                                                                    l2 k2),
                                                                (2, Value.int IntKind.i64 n),
                                                                (9,
                                                                  Value.slice
                                                                    (some
                                                                      { block := 2, off := 0, spot := some 3 : Addr })
                                                                    x1.fst.length x1.snd.snd),
                                                                (10,
                                                                  Value.slice
                                                                    (some
                                                                      { block := 3, off := 0, spot := some 3 : Addr })
                                                                    x2.fst.length x2.snd.snd),
                                                                (11,
                                                                  Value.slice
                                                                    (some
                                                                      { block := 4, off := 0, spot := some 3 : Addr })
                                                                    x3.fst.length x3.snd.snd)] =
                                                            tmps 105
                                                              [(1,
                                                                  Value.slice
                                                                    (some { block := 1, off := 0, spot := s2 : Addr })
                                                                    l2 k2),
                                                                (2, Value.int IntKind.i64 n),
                                                                (9,
                                                                  Value.slice
                                                                    (some
                                                                      { block := 2, off := 0, spot := some 3 : Addr })
                                                                    x1.fst.length x1.snd.snd),
                                                                (10,
                                                                  Value.slice
                                                                    (some
                                                                      { block := 3, off := 0, spot := some 3 : Addr })
                                                                    x2.fst.length x2.snd.snd),
                                                                (11,
                                                                  Value.slice
                                                                    (some
                                                                      { block := 4, off := 0, spot := some 3 : Addr })
                                                                    x3.fst.length x3.snd.snd)] ∧
                                                          hp
                                                                [Blk.cells ca 1 false, Blk.cells cb 1 false,
                                                                  Blk.cells x1.snd.fst 1 true,
                                                                  Blk.cells x2.snd.fst 1 true,
                                                                  Blk.cells x3.snd.fst 1 true] =
                                                              hp
                                                                [Blk.cells ca 1 false, Blk.cells cb 1 false,
                                                                  Blk.cells x1.snd.fst 1 true,
                                                                  Blk.cells x2.snd.fst 1 true,
                                                                  Blk.cells x3.snd.fst 1 true] ∧
                                                            K AE.ret (tmps 105 [(6, Value.bool true)])
                                                              (hp [Blk.cells ca 1 false, Blk.cells cb 1 false])))))))))) := by kernel_rfl

theorem z206 (hm : Try.prog.follows .mixedOrders = true) (ca cb : List Value) (s1 s2 : Option Nat) (l1 k1 l2 k2 : Nat) (n : Int) (a b : List Int) (K : Value → Heap → Prop) :
  funX Try.prog (S106 hm) (gcLKX (at0 []) (at0 []) 2 (cutE [cut206 ca cb s1 s2 l1 k1 l2 k2 n a b])) F206 body206 Try.f8 [] [] [.slice (some ⟨0,0,s1⟩) l1 k1, .slice (some ⟨1,0,s2⟩) l2 k2, .int .i64 n] (hp [.cells ca 1 false, .cells cb 1 false]) K = (
Alt (ltI 100 (↑l1 : Int)) (True ∧ True ∧ K (Value.bool true) (hp [Blk.cells ca 1 false, Blk.cells cb 1 false]))
  (Alt (ltI 100 (↑l2 : Int)) (True ∧ True ∧ K (Value.bool true) (hp [Blk.cells ca 1 false, Blk.cells cb 1 false]))
    ((FlatL ca ∧ True) ∧
      (IsE (iE IntKind.i64) (ZP IntKind.i64) ca 0 l1 k1 ∧ IsN [Value.int IntKind.i64 n]) ∧
        (FlatL cb ∧ True) ∧
          (IsE (iE IntKind.i64) (ZP IntKind.i64) cb 0 l2 k2 ∧ IsN [Value.int IntKind.i64 n]) ∧
            (FlatL ca ∧ FlatL cb ∧ True) ∧
              (IsE (iE IntKind.i64) (ZP IntKind.i64) ca 0 l1 k1 ∧
                  IsE (iE IntKind.i64) (ZP IntKind.i64) cb 0 l2 k2 ∧ Need (leN l1 1000) (Need (leN l2 1000) True)) ∧
                ∀ (x : Rw),
                  RowR (andF (intsAt ca 0 l1) (intsAt cb 0 l2)) x →
                    (FlatL ca ∧ FlatL cb ∧ True) ∧
                      (IsE (iE IntKind.i64) (ZP IntKind.i64) ca 0 l1 k1 ∧
                          IsE (iE IntKind.i64) (ZP IntKind.i64) cb 0 l2 k2 ∧
                            Need (leN l1 1000) (Need (leN l2 1000) True)) ∧
                        ∀ (x_1 : Rw),
                          RowR (orF (intsAt ca 0 l1) (intsAt cb 0 l2)) x_1 →
                            (FlatL ca ∧ FlatL cb ∧ True) ∧
                              (IsE (iE IntKind.i64) (ZP IntKind.i64) ca 0 l1 k1 ∧
                                  IsE (iE IntKind.i64) (ZP IntKind.i64) cb 0 l2 k2 ∧
                                    Need (leN l1 1000) (Need (leN l2 1000) True)) ∧
                                ∀ (x_2 : Rw),
                                  RowR (notF (intsAt ca 0 l1) (intsAt cb 0 l2)) x_2 →
                                    FlatD []
                                        (hp
                                          [Blk.cells ca 1 false, Blk.cells cb 1 false, Blk.cells x.snd.fst 1 true,
                                            Blk.cells x_1.snd.fst 1 true, Blk.cells x_2.snd.fst 1 true]) ∧
                                      ∃ (b_1 : Rw × Rw × Rw × Bool × Bool),
                                        tmps 105
                                              [(0,
                                                  Value.slice (some { block := 0, off := 0, spot := s1 : Addr }) l1 k1),
                                                (1,
                                                  Value.slice (some { block := 1, off := 0, spot := s2 : Addr }) l2 k2),
                                                (2, Value.int IntKind.i64 n), (7, Value.bool (hasL n (intsAt ca 0 l1))),
                                                (8, Value.bool (hasL n (intsAt cb 0 l2))),
                                                (9,
                                                  Value.slice (some { block := 2, off := 0, spot := some 3 : Addr })
                                                    x.fst.length x.snd.snd),
                                                (10,
                                                  Value.slice (some { block := 3, off := 0, spot := some 3 : Addr })
                                                    x_1.fst.length x_1.snd.snd),
                                                (11,
                                                  Value.slice (some { block := 4, off := 0, spot := some 3 : Addr })
                                                    x_2.fst.length x_2.snd.snd)] =
                                            tmps 105
                                              [(0,
                                                  Value.slice (some { block := 0, off := 0, spot := s1 : Addr }) l1 k1),
                                                (1,
                                                  Value.slice (some { block := 1, off := 0, spot := s2 : Addr }) l2 k2),
                                                (2, Value.int IntKind.i64 n), (7, Value.bool b_1.snd.snd.snd.fst),
                                                (8, Value.bool b_1.snd.snd.snd.snd),
                                                (9,
                                                  Value.slice (some { block := 2, off := 0, spot := some 3 : Addr })
                                                    b_1.fst.fst.length b_1.fst.snd.snd),
                                                (10,
                                                  Value.slice (some { block := 3, off := 0, spot := some 3 : Addr })
                                                    b_1.snd.fst.fst.length b_1.snd.fst.snd.snd),
                                                (11,
                                                  Value.slice (some { block := 4, off := 0, spot := some 3 : Addr })
                                                    b_1.snd.snd.fst.fst.length b_1.snd.snd.fst.snd.snd)] ∧
                                          hp
                                                [Blk.cells ca 1 false, Blk.cells cb 1 false, Blk.cells x.snd.fst 1 true,
                                                  Blk.cells x_1.snd.fst 1 true, Blk.cells x_2.snd.fst 1 true] =
                                              hp
                                                [Blk.cells ca 1 false, Blk.cells cb 1 false,
                                                  Blk.cells b_1.fst.snd.fst 1 true,
                                                  Blk.cells b_1.snd.fst.snd.fst 1 true,
                                                  Blk.cells b_1.snd.snd.fst.snd.fst 1 true] ∧
                                            a.length.le 100 ∧
                                              b.length.le 100 ∧
                                                b_1.snd.snd.snd.fst = hasL n a ∧
                                                  b_1.snd.snd.snd.snd = hasL n b ∧
                                                    RowR (andF a b) b_1.fst ∧
                                                      RowR (orF a b) b_1.snd.fst ∧
                                                        RowR (notF a b) b_1.snd.snd.fst ∧
                                                          K (Value.bool true)
                                                            (hp [Blk.cells ca 1 false, Blk.cells cb 1 false])))) := by kernel_rfl

end Go.Proofs.Ytkigkmjmbegmhaa

namespace Go.Proofs.Ytkigkmjmbegmhaa
open Go.RowKit Go.Proofs.Ytkigkmjmbegmhaa.AM
set_option maxRecDepth 100000
set_option maxHeartbeats 4000000
theorem RowR.atL {F : List Int} {x : Rw} (h : RowR F x) : intsAt x.2.1 0 F.length = F := by rw [← h.len]; exact h.at
theorem RowR.isL {F : List Int} {x : Rw} (h : RowR F x) : IsI x.2.1 0 F.length x.2.2 := by rw [← h.len]; exact h.is
theorem ltI_no {a b : Int} (h : ltI a b = false) : ¬ a < b := fun hh => by rw [ltI_iff.2 hh] at h; cases h
theorem mem_andF {a b : List Int} {y : Int} : y ∈ andF a b ↔ y ∈ a ∧ y ∈ b := by unfold andF kpA; rw [List.mem_filter, riseL_mem, hasL_iff]
theorem mem_notF {a b : List Int} {y : Int} : y ∈ notF a b ↔ y ∈ a ∧ ¬ y ∈ b := by unfold notF kpN; rw [List.mem_filter, riseL_mem, Bool.not_eq_true', Bool.eq_false_iff, Ne, hasL_iff]
theorem mem_orF {a b : List Int} {y : Int} : y ∈ orF a b ↔ y ∈ a ∨ y ∈ b := by unfold orF; rw [riseL_mem, List.mem_append]
theorem mem_bothL {a b : List Int} {inn : Bool} {y : Int} : y ∈ bothL inn a b ↔ y ∈ a ∧ (y ∈ b ↔ inn = true) := by
  unfold bothL; rw [riseL_mem, List.mem_filter, beq_iff_eq]
  cases h : hasL y b <;> cases inn <;> simp [← hasL_iff, h]
theorem up_filter {l : List Int} (h : Up l) (kp : Int → Bool) : Up (l.filter kp) := List.Pairwise.filter _ h
theorem up_andF (a b : List Int) : Up (andF a b) := up_filter (riseL_up a) _
theorem up_notF (a b : List Int) : Up (notF a b) := up_filter (riseL_up a) _
theorem up_orF (a b : List Int) : Up (orF a b) := riseL_up _
theorem up_bothL (inn : Bool) (a b : List Int) : Up (bothL inn a b) := riseL_up _
theorem up_nodup {l : List Int} (h : Up l) : l.Nodup := List.Pairwise.imp (fun {a b} h => by omega) h
theorem len_andF (a b : List Int) : (andF a b).length ≤ a.length := Nat.le_trans (List.length_filter_le _ _) (riseL_len a)
theorem len_notF (a b : List Int) : (notF a b).length ≤ a.length := Nat.le_trans (List.length_filter_le _ _) (riseL_len a)
theorem len_orF (a b : List Int) : (orF a b).length ≤ a.length + b.length := by have := riseL_len (a ++ b); rw [List.length_append] at this; exact this
theorem law205 (hmix : Try.prog.follows .mixedOrders = true) (cs : List Value) (sp : Option Nat) (cap : Nat) (n : Int) (l : List Int) (hc : l.length ≤ cap) (hB : ISl cs 0 l) (hn : ZP .i64 n) (hsz : l.length ≤ cs.length) :
    FunSays Try.prog 7 [.slice (some ⟨0,0,sp⟩) l.length cap, .int .i64 n] (hp [.cells cs 1 false]) fun v _ => v = .bool true := by
  refine (sure106 hmix).funX F205 body205 [] [] Try.func7 rfl noLoops ?_
  rw [x205]
  have hF := hf1 (own := false) hB.flat
  rw [Alt_iff]
  refine ⟨fun h => ⟨trivial, trivial, hF, rfl, rfl⟩, fun h => ?_⟩
  have hw : l.length ≤ 100 := by have := ltI_no h; omega
  have hI : IsI cs 0 l.length cap := .mk l rfl hc hB
  have hN : IsN [Value.int IntKind.i64 n] := ⟨n, hn⟩
  obtain ⟨t1, t2⟩ := hB.whole
  rw [List.drop_zero] at t1
  have ht2 : List.take (l.length * 1) (List.drop 0 (List.take (l.length * 1) (List.drop 0 cs))) ++ [Value.int .i64 n] = eC (iE .i64) (l ++ [n]) := by
    rw [Nat.mul_one, List.drop_zero, List.drop_zero, t1, List.take_of_length_le (by rw [eC_len]; exact Nat.le_refl _), eC_append]; rfl
  have hz : ∀ x ∈ l ++ [n], ZP .i64 x := fun x hx => (List.mem_append.1 hx).elim (hB.ok x) (fun h => by simp at h; rw [h]; exact hn)
  obtain ⟨r1, r2⟩ := own_is hz (by simp; omega)
  rw [List.length_append, List.length_singleton] at r2
  have r3 := intsAt_eq r1
  rw [List.length_append, List.length_singleton] at r3
  rw [ht2]
  simp only [intsAt_eq hB, r3, hB.flat, hI, hN, r1.flat, r2, show l.length ≤ 1000 by omega, show l.length + 1 ≤ 1000 by omega, Alt_iff, Need_iff, ltI_eq, leI_eq, eqI_eq, leN_eq, eqN_eq, decide_eq_true_eq, decide_eq_false_iff_not, decide_true, decide_false, true_and, and_true, Bool.true_eq_false, Bool.false_eq_true, false_implies, true_implies, implies_true, not_true_eq_false, not_false_eq_true, Bool.not_eq_true', Bool.not_eq_false', Nat.zero_add, Nat.add_zero, Nat.sub_zero, Nat.zero_mul, Nat.mul_one, Int.toNat_natCast, List.drop_zero, beqV_int, beqV_sl, beqV_str, beqV_bool, beqV_ptr, beqV_flt, beqV_agg, beqV_tuple, List.all_cons, List.all_nil, Bool.and_self, Bool.and_true, Bool.true_and, Nat.le_refl, Int.le_refl, Nat.zero_le, Option.getD_some, isStr, strV, isInt, intV, isBool, boolV, kindEq, at0, isJunk, Option.isSome_some, Option.isSome_none, if_true, if_false, Nat.add_sub_cancel_left, Nat.add_sub_cancel]
  refine fun x hx => ⟨hsz, by omega, by omega, by rw [t1, eC_len]; exact Nat.le_refl _, by omega, by omega, fun x1 hx1 => ?_⟩
  simp only [hx.flat, hx1.flat, hx.is, hx1.is, hx.at, hx1.at, show sameI (putF l n) (riseL (l ++ [n])) = true from sameI_iff.2 rfl, Alt_iff, Need_iff, ltI_eq, leI_eq, eqI_eq, leN_eq, eqN_eq, decide_eq_true_eq, decide_eq_false_iff_not, decide_true, decide_false, true_and, and_true, Bool.true_eq_false, Bool.false_eq_true, false_implies, true_implies, implies_true, not_true_eq_false, not_false_eq_true, Bool.not_eq_true', Bool.not_eq_false', Nat.zero_add, Nat.add_zero, Nat.sub_zero, Nat.zero_mul, Nat.mul_one, Int.toNat_natCast, List.drop_zero, beqV_int, beqV_sl, beqV_str, beqV_bool, beqV_ptr, beqV_flt, beqV_agg, beqV_tuple, List.all_cons, List.all_nil, Bool.and_self, Bool.and_true, Bool.true_and, Nat.le_refl, Int.le_refl, Nat.zero_le, Option.getD_some, isStr, strV, isInt, intV, isBool, boolV, kindEq, at0, isJunk, Option.isSome_some, Option.isSome_none, if_true, if_false, Nat.add_sub_cancel_left, Nat.add_sub_cancel]
  refine fun x2 hx2 x3 hx3 => ?_
  simp only [hx2.flat, hx3.flat, hx2.is, hx3.is, hx2.at, hx3.at, show sameI (cutF l n) (rcutF l n) = true from sameI_iff.2 (up_ext (up_notF _ _) (up_bothL _ _ _) fun y => by unfold cutF rcutF; rw [mem_notF, mem_bothL]; simp), hF, Alt_iff, Need_iff, ltI_eq, leI_eq, eqI_eq, leN_eq, eqN_eq, decide_eq_true_eq, decide_eq_false_iff_not, decide_true, decide_false, true_and, and_true, Bool.true_eq_false, Bool.false_eq_true, false_implies, true_implies, implies_true, not_true_eq_false, not_false_eq_true, Bool.not_eq_true', Bool.not_eq_false', Nat.zero_add, Nat.add_zero, Nat.sub_zero, Nat.zero_mul, Nat.mul_one, Int.toNat_natCast, List.drop_zero, beqV_int, beqV_sl, beqV_str, beqV_bool, beqV_ptr, beqV_flt, beqV_agg, beqV_tuple, List.all_cons, List.all_nil, Bool.and_self, Bool.and_true, Bool.true_and, Nat.le_refl, Int.le_refl, Nat.zero_le, Option.getD_some, isStr, strV, isInt, intV, isBool, boolV, kindEq, at0, isJunk, Option.isSome_some, Option.isSome_none, if_true, if_false, Nat.add_sub_cancel_left, Nat.add_sub_cancel]
theorem law203 (hmix : Try.prog.follows .mixedOrders = true) (ca cb : List Value) (s1 s2 : Option Nat) (k1 k2 : Nat) (a b : List Int) (hc1 : a.length ≤ k1) (hc2 : b.length ≤ k2) (hA : ISl ca 0 a) (hB : ISl cb 0 b) (hs1 : a.length ≤ ca.length) (hs2 : b.length ≤ cb.length) :
    FunSays Try.prog 5 [.slice (some ⟨0,0,s1⟩) a.length k1, .slice (some ⟨1,0,s2⟩) b.length k2] (hp [.cells ca 1 false, .cells cb 1 false]) fun v _ => v = .bool true := by
  refine (sure106 hmix).funX F203 body203 [] [] Try.func5 rfl noLoops ?_
  rw [x203]
  have hF : FlatD [] (hp [.cells ca 1 false, .cells cb 1 false]) := FlatD.hp ⟨hA.flat, hB.flat, trivial⟩
  rw [Alt_iff]
  refine ⟨fun h => ⟨trivial, trivial, hF, rfl, rfl⟩, fun h => ?_⟩
  rw [Alt_iff]
  refine ⟨fun h => ⟨trivial, trivial, hF, rfl, rfl⟩, fun h2 => ?_⟩
  have hw : a.length ≤ 100 := by have := ltI_no h; omega
  have hw2 : b.length ≤ 100 := by have := ltI_no h2; omega
  have hI : IsI ca 0 a.length k1 := .mk a rfl hc1 hA
  have hJ : IsI cb 0 b.length k2 := .mk b rfl hc2 hB
  obtain ⟨t1, _⟩ := hA.whole
  obtain ⟨t2, _⟩ := hB.whole
  rw [List.drop_zero] at t1 t2
  have ht : List.take (a.length * 1) (List.drop 0 (List.take (a.length * 1) (List.drop 0 ca))) ++ List.take (b.length * 1) (List.drop 0 cb) = eC (iE .i64) (a ++ b) := by
    rw [Nat.mul_one, Nat.mul_one, List.drop_zero, List.drop_zero, List.drop_zero, t1, t2, List.take_of_length_le (by rw [eC_len]; exact Nat.le_refl _), eC_append]
  have hz : ∀ x ∈ a ++ b, ZP .i64 x := fun x hx => (List.mem_append.1 hx).elim (hA.ok x) (hB.ok x)
  obtain ⟨r1, r2⟩ := own_is hz (by simp; omega)
  rw [List.length_append] at r2
  have r3 := intsAt_eq r1
  rw [List.length_append] at r3
  rw [ht]
  simp only [intsAt_eq hA, intsAt_eq hB, r3, hA.flat, hB.flat, hI, hJ, r1.flat, r2, show a.length ≤ 1000 by omega, show b.length ≤ 1000 by omega, show a.length + b.length ≤ 1000 by omega, Alt_iff, Need_iff, ltI_eq, leI_eq, eqI_eq, leN_eq, eqN_eq, decide_eq_true_eq, decide_eq_false_iff_not, decide_true, decide_false, true_and, and_true, Bool.true_eq_false, Bool.false_eq_true, false_implies, true_implies, implies_true, not_true_eq_false, not_false_eq_true, Bool.not_eq_true', Bool.not_eq_false', Nat.zero_add, Nat.add_zero, Nat.sub_zero, Nat.zero_mul, Nat.mul_one, Int.toNat_natCast, List.drop_zero, beqV_int, beqV_sl, beqV_str, beqV_bool, beqV_ptr, beqV_flt, beqV_agg, beqV_tuple, List.all_cons, List.all_nil, Bool.and_self, Bool.and_true, Bool.true_and, Nat.le_refl, Int.le_refl, Nat.zero_le, Option.getD_some, isStr, strV, isInt, intV, isBool, boolV, kindEq, at0, isJunk, Option.isSome_some, Option.isSome_none, if_true, if_false, Nat.add_sub_cancel_left, Nat.add_sub_cancel]
  refine fun x hx x1 hx1 => ?_
  simp only [hx.flat, hx1.flat, hx.is, hx1.is, hx.at, hx1.at, show sameI (andF a b) (bothL true a b) = true from sameI_iff.2 (up_ext (up_andF _ _) (up_bothL _ _ _) fun y => by rw [mem_andF, mem_bothL]; simp), Alt_iff, Need_iff, ltI_eq, leI_eq, eqI_eq, leN_eq, eqN_eq, decide_eq_true_eq, decide_eq_false_iff_not, decide_true, decide_false, true_and, and_true, Bool.true_eq_false, Bool.false_eq_true, false_implies, true_implies, implies_true, not_true_eq_false, not_false_eq_true, Bool.not_eq_true', Bool.not_eq_false', Nat.zero_add, Nat.add_zero, Nat.sub_zero, Nat.zero_mul, Nat.mul_one, Int.toNat_natCast, List.drop_zero, beqV_int, beqV_sl, beqV_str, beqV_bool, beqV_ptr, beqV_flt, beqV_agg, beqV_tuple, List.all_cons, List.all_nil, Bool.and_self, Bool.and_true, Bool.true_and, Nat.le_refl, Int.le_refl, Nat.zero_le, Option.getD_some, isStr, strV, isInt, intV, isBool, boolV, kindEq, at0, isJunk, Option.isSome_some, Option.isSome_none, if_true, if_false, Nat.add_sub_cancel_left, Nat.add_sub_cancel]
  refine fun x2 hx2 => ⟨hs1, by omega, by omega, hs2, by rw [t1, eC_len]; exact Nat.le_refl _, by omega, by omega, by rw [t2]; exact eC_one one_i _, fun x3 hx3 => ?_⟩
  simp only [hx2.flat, hx3.flat, hx2.is, hx3.is, hx2.at, hx3.at, show sameI (orF a b) (riseL (a ++ b)) = true from sameI_iff.2 rfl, Alt_iff, Need_iff, ltI_eq, leI_eq, eqI_eq, leN_eq, eqN_eq, decide_eq_true_eq, decide_eq_false_iff_not, decide_true, decide_false, true_and, and_true, Bool.true_eq_false, Bool.false_eq_true, false_implies, true_implies, implies_true, not_true_eq_false, not_false_eq_true, Bool.not_eq_true', Bool.not_eq_false', Nat.zero_add, Nat.add_zero, Nat.sub_zero, Nat.zero_mul, Nat.mul_one, Int.toNat_natCast, List.drop_zero, beqV_int, beqV_sl, beqV_str, beqV_bool, beqV_ptr, beqV_flt, beqV_agg, beqV_tuple, List.all_cons, List.all_nil, Bool.and_self, Bool.and_true, Bool.true_and, Nat.le_refl, Int.le_refl, Nat.zero_le, Option.getD_some, isStr, strV, isInt, intV, isBool, boolV, kindEq, at0, isJunk, Option.isSome_some, Option.isSome_none, if_true, if_false, Nat.add_sub_cancel_left, Nat.add_sub_cancel]
  refine fun x4 hx4 x5 hx5 => ?_
  simp only [hx4.flat, hx5.flat, hx4.is, hx5.is, hx4.at, hx5.at, show sameI (notF a b) (bothL false a b) = true from sameI_iff.2 (up_ext (up_notF _ _) (up_bothL _ _ _) fun y => by rw [mem_notF, mem_bothL]; simp), hF, Alt_iff, Need_iff, ltI_eq, leI_eq, eqI_eq, leN_eq, eqN_eq, decide_eq_true_eq, decide_eq_false_iff_not, decide_true, decide_false, true_and, and_true, Bool.true_eq_false, Bool.false_eq_true, false_implies, true_implies, implies_true, not_true_eq_false, not_false_eq_true, Bool.not_eq_true', Bool.not_eq_false', Nat.zero_add, Nat.add_zero, Nat.sub_zero, Nat.zero_mul, Nat.mul_one, Int.toNat_natCast, List.drop_zero, beqV_int, beqV_sl, beqV_str, beqV_bool, beqV_ptr, beqV_flt, beqV_agg, beqV_tuple, List.all_cons, List.all_nil, Bool.and_self, Bool.and_true, Bool.true_and, Nat.le_refl, Int.le_refl, Nat.zero_le, Option.getD_some, isStr, strV, isInt, intV, isBool, boolV, kindEq, at0, isJunk, Option.isSome_some, Option.isSome_none, if_true, if_false, Nat.add_sub_cancel_left, Nat.add_sub_cancel]
theorem nodup_len {a b : List Int} (ha : a.Nodup) (hb : b.Nodup) (h : ∀ y, y ∈ a ↔ y ∈ b) : a.length = b.length := ((List.perm_ext_iff_of_nodup ha hb).2 h).length_eq
theorem part_len (a b : List Int) : (orF (orF (notF a b) (notF b a)) (andF a b)).length = (andF a b).length + (notF a b).length + (notF b a).length := by
  rw [← List.length_append, ← List.length_append]
  refine nodup_len (up_nodup (up_orF _ _)) ?_ fun y => ?_
  · rw [List.nodup_append, List.nodup_append]
    refine ⟨⟨up_nodup (up_andF _ _), up_nodup (up_notF _ _), fun x hx y hy => ?_⟩, up_nodup (up_notF _ _), fun x hx y hy => ?_⟩
    · rintro rfl; exact (mem_notF.1 hy).2 (mem_andF.1 hx).2
    · rintro rfl
      rcases List.mem_append.1 hx with hx | hx
      · exact (mem_notF.1 hy).2 (mem_andF.1 hx).1
      · exact (mem_notF.1 hy).2 (mem_notF.1 hx).1
  · simp only [mem_orF, List.mem_append, mem_andF, mem_notF]
    constructor <;> (intro h; rcases h with (h | h) | h <;> simp [h])
theorem law204 (hmix : Try.prog.follows .mixedOrders = true) (ca cb : List Value) (s1 s2 : Option Nat) (k1 k2 : Nat) (a b : List Int) (hc1 : a.length ≤ k1) (hc2 : b.length ≤ k2) (hA : ISl ca 0 a) (hB : ISl cb 0 b) :
    FunSays Try.prog 6 [.slice (some ⟨0,0,s1⟩) a.length k1, .slice (some ⟨1,0,s2⟩) b.length k2] (hp [.cells ca 1 false, .cells cb 1 false]) fun v _ => v = .bool true := by
  have hF : FlatD [] (hp [.cells ca 1 false, .cells cb 1 false]) := FlatD.hp ⟨hA.flat, hB.flat, trivial⟩
  have hI : IsI ca 0 a.length k1 := .mk a rfl hc1 hA
  have hJ : IsI cb 0 b.length k2 := .mk b rfl hc2 hB
  have l1 := len_andF a b
  have l2 := len_notF a b
  have l3 := len_notF b a
  have l4 := len_orF (notF a b) (notF b a)
  have l5 := part_len a b
  have hL : Loops Try.prog body204 2 (cutE [cut204 ca cb s1 s2 a.length k1 b.length k2 a b]) := Loops.noneE.moreE _ fun x K hQ => by
    obtain ⟨x1, x2, x3, x4⟩ := x
    obtain ⟨hw, hw2, h1, h2, h3, h4, hK⟩ := hQ
    simp only [cut204] at h1 h2 h3 h4 ⊢
    show Says Try.prog 2 (sub body204 [1,1,1,1]) _ _ _
    refine (sure106 hmix).cutX F204 noLoops [] [] ?_
    rw [y204]
    simp only [h1.flat, h2.flat, h3.flat, h4.flat, h1.isL, h2.isL, h3.isL, h4.isL, h1.atL, h2.atL, h3.atL, h4.atL, intsAt_eq hA, intsAt_eq hB, hA.flat, hB.flat, hI, hJ, h1.len, h2.len, h3.len, h4.len,
      show a.length ≤ 1000 by omega, show b.length ≤ 1000 by omega, show (andF a b).length ≤ 1000 by omega, show (notF a b).length ≤ 1000 by omega, Alt_iff, Need_iff, ltI_eq, leI_eq, eqI_eq, leN_eq, eqN_eq, decide_eq_true_eq, decide_eq_false_iff_not, decide_true, decide_false, true_and, and_true, Bool.true_eq_false, Bool.false_eq_true, false_implies, true_implies, implies_true, not_true_eq_false, not_false_eq_true, Bool.not_eq_true', Bool.not_eq_false', Nat.zero_add, Nat.add_zero, Nat.sub_zero, Nat.zero_mul, Nat.mul_one, Int.toNat_natCast, List.drop_zero, beqV_int, beqV_sl, beqV_str, beqV_bool, beqV_ptr, beqV_flt, beqV_agg, beqV_tuple, List.all_cons, List.all_nil, Bool.and_self, Bool.and_true, Bool.true_and, Nat.le_refl, Int.le_refl, Nat.zero_le, Option.getD_some, isStr, strV, isInt, intV, isBool, boolV, kindEq, at0, isJunk, Option.isSome_some, Option.isSome_none, if_true, if_false, Nat.add_sub_cancel_left, Nat.add_sub_cancel]
    refine fun x hx => ?_
    have hw3 : wr .i64 (wr .i64 (((andF a b).length : Int) + ((notF a b).length : Int)) + ((notF b a).length : Int)) = ((orF (orF (notF a b) (notF b a)) (andF a b)).length : Int) := by
      rw [wr_i64 (((andF a b).length : Int) + ((notF a b).length : Int)) (by omega) (by omega), wr_i64 _ (by omega) (by omega)]; omega
    simp only [hx.flat, hx.isL, hx.atL, hx.len, hw3, show sameI (orF (orF (notF a b) (notF b a)) (andF a b)) (orF b a) = true from sameI_iff.2 (up_ext (up_orF _ _) (up_orF _ _) fun y => by
      simp only [mem_orF, mem_notF, mem_andF]
      by_cases p : y ∈ a <;> by_cases q : y ∈ b <;> simp [p, q]), Alt_iff, Need_iff, ltI_eq, leI_eq, eqI_eq, leN_eq, eqN_eq, decide_eq_true_eq, decide_eq_false_iff_not, decide_true, decide_false, true_and, and_true, Bool.true_eq_false, Bool.false_eq_true, false_implies, true_implies, implies_true, not_true_eq_false, not_false_eq_true, Bool.not_eq_true', Bool.not_eq_false', Nat.zero_add, Nat.add_zero, Nat.sub_zero, Nat.zero_mul, Nat.mul_one, Int.toNat_natCast, List.drop_zero, beqV_int, beqV_sl, beqV_str, beqV_bool, beqV_ptr, beqV_flt, beqV_agg, beqV_tuple, List.all_cons, List.all_nil, Bool.and_self, Bool.and_true, Bool.true_and, Nat.le_refl, Int.le_refl, Nat.zero_le, Option.getD_some, isStr, strV, isInt, intV, isBool, boolV, kindEq, at0, isJunk, Option.isSome_some, Option.isSome_none, if_true, if_false, Nat.add_sub_cancel_left, Nat.add_sub_cancel]
    refine fun x hx x1 hx1 => ?_
    simp only [hx.flat, hx.isL, hx.atL, hx1.flat, hx1.isL, hx1.atL, hx.len, hx1.len, show sameI (orF (notF a b) (andF a b)) (riseL a) = true from sameI_iff.2 (up_ext (up_orF _ _) (riseL_up _) fun y => by
      simp only [mem_orF, mem_notF, mem_andF, riseL_mem]
      by_cases p : y ∈ a <;> by_cases q : y ∈ b <;> simp [p, q]), Alt_iff, Need_iff, ltI_eq, leI_eq, eqI_eq, leN_eq, eqN_eq, decide_eq_true_eq, decide_eq_false_iff_not, decide_true, decide_false, true_and, and_true, Bool.true_eq_false, Bool.false_eq_true, false_implies, true_implies, implies_true, not_true_eq_false, not_false_eq_true, Bool.not_eq_true', Bool.not_eq_false', Nat.zero_add, Nat.add_zero, Nat.sub_zero, Nat.zero_mul, Nat.mul_one, Int.toNat_natCast, List.drop_zero, beqV_int, beqV_sl, beqV_str, beqV_bool, beqV_ptr, beqV_flt, beqV_agg, beqV_tuple, List.all_cons, List.all_nil, Bool.and_self, Bool.and_true, Bool.true_and, Nat.le_refl, Int.le_refl, Nat.zero_le, Option.getD_some, isStr, strV, isInt, intV, isBool, boolV, kindEq, at0, isJunk, Option.isSome_some, Option.isSome_none, if_true, if_false, Nat.add_sub_cancel_left, Nat.add_sub_cancel]
    refine fun x hx => ?_
    have h0 : (andF (notF a b) b) = [] := List.eq_nil_iff_forall_not_mem.2 fun y hy => (mem_notF.1 (mem_andF.1 hy).1).2 (mem_andF.1 hy).2
    simp only [hx.len, h0, List.length_nil, hF, Int.natCast_zero, show ((0 : Nat) : Int) = 0 from rfl, Alt_iff, Need_iff, ltI_eq, leI_eq, eqI_eq, leN_eq, eqN_eq, decide_eq_true_eq, decide_eq_false_iff_not, decide_true, decide_false, true_and, and_true, Bool.true_eq_false, Bool.false_eq_true, false_implies, true_implies, implies_true, not_true_eq_false, not_false_eq_true, Bool.not_eq_true', Bool.not_eq_false', Nat.zero_add, Nat.add_zero, Nat.sub_zero, Nat.zero_mul, Nat.mul_one, Int.toNat_natCast, List.drop_zero, beqV_int, beqV_sl, beqV_str, beqV_bool, beqV_ptr, beqV_flt, beqV_agg, beqV_tuple, List.all_cons, List.all_nil, Bool.and_self, Bool.and_true, Bool.true_and, Nat.le_refl, Int.le_refl, Nat.zero_le, Option.getD_some, isStr, strV, isInt, intV, isBool, boolV, kindEq, at0, isJunk, Option.isSome_some, Option.isSome_none, if_true, if_false, Nat.add_sub_cancel_left, Nat.add_sub_cancel]
    exact hK
  refine (sure106 hmix).funX F204 body204 [] [] Try.func6 rfl (hL.gcX (at0 []) (at0 [])) ?_
  rw [z204]
  rw [Alt_iff]
  refine ⟨fun h => ⟨trivial, trivial, hF, rfl, rfl⟩, fun h => ?_⟩
  rw [Alt_iff]
  refine ⟨fun h => ⟨trivial, trivial, hF, rfl, rfl⟩, fun h2 => ?_⟩
  have hw : a.length ≤ 100 := by have := ltI_no h; omega
  have hw2 : b.length ≤ 100 := by have := ltI_no h2; omega
  simp only [intsAt_eq hA, intsAt_eq hB, hA.flat, hB.flat, hI, hJ, show a.length ≤ 1000 by omega, show b.length ≤ 1000 by omega, Alt_iff, Need_iff, ltI_eq, leI_eq, eqI_eq, leN_eq, eqN_eq, decide_eq_true_eq, decide_eq_false_iff_not, decide_true, decide_false, true_and, and_true, Bool.true_eq_false, Bool.false_eq_true, false_implies, true_implies, implies_true, not_true_eq_false, not_false_eq_true, Bool.not_eq_true', Bool.not_eq_false', Nat.zero_add, Nat.add_zero, Nat.sub_zero, Nat.zero_mul, Nat.mul_one, Int.toNat_natCast, List.drop_zero, beqV_int, beqV_sl, beqV_str, beqV_bool, beqV_ptr, beqV_flt, beqV_agg, beqV_tuple, List.all_cons, List.all_nil, Bool.and_self, Bool.and_true, Bool.true_and, Nat.le_refl, Int.le_refl, Nat.zero_le, Option.getD_some, isStr, strV, isInt, intV, isBool, boolV, kindEq, at0, isJunk, Option.isSome_some, Option.isSome_none, if_true, if_false, Nat.add_sub_cancel_left, Nat.add_sub_cancel]
  refine fun x hx x1 hx1 x2 hx2 => ?_
  simp only [hx.flat, hx.isL, hx.atL, hx1.flat, hx1.isL, hx1.atL, hx2.flat, hx2.isL, hx2.atL, hx1.len, hx2.len, show (notF a b).length ≤ 1000 by omega, show (notF b a).length ≤ 1000 by omega, Alt_iff, Need_iff, ltI_eq, leI_eq, eqI_eq, leN_eq, eqN_eq, decide_eq_true_eq, decide_eq_false_iff_not, decide_true, decide_false, true_and, and_true, Bool.true_eq_false, Bool.false_eq_true, false_implies, true_implies, implies_true, not_true_eq_false, not_false_eq_true, Bool.not_eq_true', Bool.not_eq_false', Nat.zero_add, Nat.add_zero, Nat.sub_zero, Nat.zero_mul, Nat.mul_one, Int.toNat_natCast, List.drop_zero, beqV_int, beqV_sl, beqV_str, beqV_bool, beqV_ptr, beqV_flt, beqV_agg, beqV_tuple, List.all_cons, List.all_nil, Bool.and_self, Bool.and_true, Bool.true_and, Nat.le_refl, Int.le_refl, Nat.zero_le, Option.getD_some, isStr, strV, isInt, intV, isBool, boolV, kindEq, at0, isJunk, Option.isSome_some, Option.isSome_none, if_true, if_false, Nat.add_sub_cancel_left, Nat.add_sub_cancel]
  refine fun x3 hx3 => ?_
  simp only [hx3.flat, hx3.isL, hx3.atL, hx.flat, hx.isL, hx.atL, hx3.len, hx.len, show (andF a b).length ≤ 1000 by omega, show (orF (notF a b) (notF b a)).length ≤ 1000 by omega, Alt_iff, Need_iff, ltI_eq, leI_eq, eqI_eq, leN_eq, eqN_eq, decide_eq_true_eq, decide_eq_false_iff_not, decide_true, decide_false, true_and, and_true, Bool.true_eq_false, Bool.false_eq_true, false_implies, true_implies, implies_true, not_true_eq_false, not_false_eq_true, Bool.not_eq_true', Bool.not_eq_false', Nat.zero_add, Nat.add_zero, Nat.sub_zero, Nat.zero_mul, Nat.mul_one, Int.toNat_natCast, List.drop_zero, beqV_int, beqV_sl, beqV_str, beqV_bool, beqV_ptr, beqV_flt, beqV_agg, beqV_tuple, List.all_cons, List.all_nil, Bool.and_self, Bool.and_true, Bool.true_and, Nat.le_refl, Int.le_refl, Nat.zero_le, Option.getD_some, isStr, strV, isInt, intV, isBool, boolV, kindEq, at0, isJunk, Option.isSome_some, Option.isSome_none, if_true, if_false, Nat.add_sub_cancel_left, Nat.add_sub_cancel]
  refine fun x4 hx4 => ⟨FlatD.hp ⟨hA.flat, hB.flat, hx.flat, hx1.flat, hx2.flat, hx4.flat, trivial⟩, (x, x1, x2, x4), by rw [hx.len, hx1.len, hx2.len], rfl, hw, hw2, hx, hx1, hx2, hx4, hF⟩
theorem has_eq {n : Int} {l : List Int} {b : Bool} (h : n ∈ l ↔ b = true) : hasL n l = b := by
  cases b with
  | true => exact hasL_iff.2 (h.2 rfl)
  | false => exact Bool.eq_false_iff.2 fun hh => by have := h.1 (hasL_iff.1 hh); cases this
theorem law206 (hmix : Try.prog.follows .mixedOrders = true) (ca cb : List Value) (s1 s2 : Option Nat) (k1 k2 : Nat) (n : Int) (a b : List Int) (hn : ZP .i64 n) (hc1 : a.length ≤ k1) (hc2 : b.length ≤ k2) (hA : ISl ca 0 a) (hB : ISl cb 0 b) :
    FunSays Try.prog 8 [.slice (some ⟨0,0,s1⟩) a.length k1, .slice (some ⟨1,0,s2⟩) b.length k2, .int .i64 n] (hp [.cells ca 1 false, .cells cb 1 false]) fun v _ => v = .bool true := by
  have hF : FlatD [] (hp [.cells ca 1 false, .cells cb 1 false]) := FlatD.hp ⟨hA.flat, hB.flat, trivial⟩
  have hI : IsI ca 0 a.length k1 := .mk a rfl hc1 hA
  have hJ : IsI cb 0 b.length k2 := .mk b rfl hc2 hB
  have hN : IsN [Value.int .i64 n] := ⟨n, hn⟩
  have hO : IsO [] := ⟨⟩
  have hL : Loops Try.prog body206 2 (cutE [cut206 ca cb s1 s2 a.length k1 b.length k2 n a b]) := Loops.noneE.moreE _ fun x K hQ => by
    obtain ⟨x1, x2, x3, bx, bY⟩ := x
    obtain ⟨hw, hw2, hbx, hby, h1, h2, h3, hK⟩ := hQ
    simp only [cut206] at h1 h2 h3 hbx hby ⊢
    show Says Try.prog 2 (sub body206 [1,1,1,1]) _ _ _
    have hL2 : Loops Try.prog body206 2 (cutE [cut206b ca cb s2 b.length k2 n x1 x2 x3]) := Loops.noneE.moreE _ fun x K hQ => by
      simp only [cut206b] at hQ ⊢
      show Says Try.prog 2 (sub body206 [1,1,1,1,1]) _ _ _
      refine (sure106 hmix).cutX F206 noLoops [] [] ?_
      rw [y206b]
      simp only [h1.flat, h2.flat, h3.flat, h1.isL, h2.isL, h3.isL, h1.atL, h2.atL, h3.atL, h1.len, h2.len, h3.len, intsAt_eq hB, hB.flat, hJ, hN, hO,
        show b.length ≤ 1000 by omega, show upI (andF a b) = true from upI_iff.2 (up_andF _ _), show upI (orF a b) = true from upI_iff.2 (up_orF _ _), show upI (notF a b) = true from upI_iff.2 (up_notF _ _), Alt_iff, Need_iff, ltI_eq, leI_eq, eqI_eq, leN_eq, eqN_eq, decide_eq_true_eq, decide_eq_false_iff_not, decide_true, decide_false, true_and, and_true, Bool.true_eq_false, Bool.false_eq_true, false_implies, true_implies, implies_true, not_true_eq_false, not_false_eq_true, Bool.not_eq_true', Bool.not_eq_false', Nat.zero_add, Nat.add_zero, Nat.sub_zero, Nat.zero_mul, Nat.mul_one, Int.toNat_natCast, List.drop_zero, beqV_int, beqV_sl, beqV_str, beqV_bool, beqV_ptr, beqV_flt, beqV_agg, beqV_tuple, List.all_cons, List.all_nil, Bool.and_self, Bool.and_true, Bool.true_and, Nat.le_refl, Int.le_refl, Nat.zero_le, Option.getD_some, isStr, strV, isInt, intV, isBool, boolV, kindEq, at0, isJunk, Option.isSome_some, Option.isSome_none, if_true, if_false, Nat.add_sub_cancel_left, Nat.add_sub_cancel]
      refine fun x hx => ?_
      simp only [hx.flat, hx.isL, hx.atL, hx.len, show upI (putF b n) = true from upI_iff.2 (riseL_up _), Alt_iff, Need_iff, ltI_eq, leI_eq, eqI_eq, leN_eq, eqN_eq, decide_eq_true_eq, decide_eq_false_iff_not, decide_true, decide_false, true_and, and_true, Bool.true_eq_false, Bool.false_eq_true, false_implies, true_implies, implies_true, not_true_eq_false, not_false_eq_true, Bool.not_eq_true', Bool.not_eq_false', Nat.zero_add, Nat.add_zero, Nat.sub_zero, Nat.zero_mul, Nat.mul_one, Int.toNat_natCast, List.drop_zero, beqV_int, beqV_sl, beqV_str, beqV_bool, beqV_ptr, beqV_flt, beqV_agg, beqV_tuple, List.all_cons, List.all_nil, Bool.and_self, Bool.and_true, Bool.true_and, Nat.le_refl, Int.le_refl, Nat.zero_le, Option.getD_some, isStr, strV, isInt, intV, isBool, boolV, kindEq, at0, isJunk, Option.isSome_some, Option.isSome_none, if_true, if_false, Nat.add_sub_cancel_left, Nat.add_sub_cancel]
      refine fun x hx => ?_
      simp only [hx.flat, hx.isL, hx.atL, hx.len, show upI (cutF b n) = true from upI_iff.2 (up_notF _ _), hF, Alt_iff, Need_iff, ltI_eq, leI_eq, eqI_eq, leN_eq, eqN_eq, decide_eq_true_eq, decide_eq_false_iff_not, decide_true, decide_false, true_and, and_true, Bool.true_eq_false, Bool.false_eq_true, false_implies, true_implies, implies_true, not_true_eq_false, not_false_eq_true, Bool.not_eq_true', Bool.not_eq_false', Nat.zero_add, Nat.add_zero, Nat.sub_zero, Nat.zero_mul, Nat.mul_one, Int.toNat_natCast, List.drop_zero, beqV_int, beqV_sl, beqV_str, beqV_bool, beqV_ptr, beqV_flt, beqV_agg, beqV_tuple, List.all_cons, List.all_nil, Bool.and_self, Bool.and_true, Bool.true_and, Nat.le_refl, Int.le_refl, Nat.zero_le, Option.getD_some, isStr, strV, isInt, intV, isBool, boolV, kindEq, at0, isJunk, Option.isSome_some, Option.isSome_none, if_true, if_false, Nat.add_sub_cancel_left, Nat.add_sub_cancel]
      exact hQ
    refine (sure106 hmix).cutX F206 (hL2.gcX (at0 []) (at0 [])) [] [] ?_
    rw [y206]
    have e1 : hasL n (andF a b) = (bx && bY) := has_eq (by rw [mem_andF, hbx, hby, Bool.and_eq_true, hasL_iff, hasL_iff])
    have e2 : hasL n (orF a b) = (bx || bY) := has_eq (by rw [mem_orF, hbx, hby, Bool.or_eq_true, hasL_iff, hasL_iff])
    have e3 : hasL n (notF a b) = (bx && !bY) := has_eq (by rw [mem_notF, hbx, hby, Bool.and_eq_true, Bool.not_eq_true', Bool.eq_false_iff, Ne, hasL_iff, hasL_iff])
    have hS : FlatD [] (hp [.cells ca 1 false, .cells cb 1 false, .cells x1.2.1 1 true, .cells x2.2.1 1 true, .cells x3.2.1 1 true]) := FlatD.hp ⟨hA.flat, hB.flat, h1.flat, h2.flat, h3.flat, trivial⟩
    simp only [h1.flat, h2.flat, h3.flat, h1.isL, h2.isL, h3.isL, h1.atL, h2.atL, h3.atL, h1.len, h2.len, h3.len, e1, e2, e3, intsAt_eq hA, hA.flat, hI, hN, hS, show a.length ≤ 1000 by omega, Alt_iff, Need_iff, ltI_eq, leI_eq, eqI_eq, leN_eq, eqN_eq, decide_eq_true_eq, decide_eq_false_iff_not, decide_true, decide_false, true_and, and_true, Bool.true_eq_false, Bool.false_eq_true, false_implies, true_implies, implies_true, not_true_eq_false, not_false_eq_true, Bool.not_eq_true', Bool.not_eq_false', Nat.zero_add, Nat.add_zero, Nat.sub_zero, Nat.zero_mul, Nat.mul_one, Int.toNat_natCast, List.drop_zero, beqV_int, beqV_sl, beqV_str, beqV_bool, beqV_ptr, beqV_flt, beqV_agg, beqV_tuple, List.all_cons, List.all_nil, Bool.and_self, Bool.and_true, Bool.true_and, Nat.le_refl, Int.le_refl, Nat.zero_le, Option.getD_some, isStr, strV, isInt, intV, isBool, boolV, kindEq, at0, isJunk, Option.isSome_some, Option.isSome_none, if_true, if_false, Nat.add_sub_cancel_left, Nat.add_sub_cancel]
    clear hbx hby e1 e2 e3
    have f1 : hasL n (cutF a n) = false := has_eq (by unfold cutF; rw [mem_notF]; simp)
    have f2 : hasL n (putF a n) = true := has_eq (by unfold putF; rw [riseL_mem]; simp)
    have fin : ∀ x : Rw, RowR (cutF a n) x → (FlatL x.2.1 ∧ IsI x.2.1 0 x.1.length x.2.2 ∧ hasL n (intsAt x.2.1 0 x.1.length) = false) := fun x hx => ⟨hx.flat, hx.is, by rw [hx.at, f1]⟩
    have fin2 : ∀ x : Rw, RowR (putF a n) x → (FlatL x.2.1 ∧ IsI x.2.1 0 x.1.length x.2.2 ∧ hasL n (intsAt x.2.1 0 x.1.length) = true) := fun x hx => ⟨hx.flat, hx.is, by rw [hx.at, f2]⟩
    cases bx <;> cases bY
    all_goals
      simp only [Bool.and_true, Bool.and_false, Bool.or_true, Bool.or_false, Bool.true_or, Bool.false_or, Bool.true_and, Bool.false_and, Bool.not_true, Bool.not_false, beq_self_eq_true, Alt_iff, Need_iff, ltI_eq, leI_eq, eqI_eq, leN_eq, eqN_eq, decide_eq_true_eq, decide_eq_false_iff_not, decide_true, decide_false, true_and, and_true, Bool.true_eq_false, Bool.false_eq_true, false_implies, true_implies, implies_true, not_true_eq_false, not_false_eq_true, Bool.not_eq_true', Bool.not_eq_false', Nat.zero_add, Nat.add_zero, Nat.sub_zero, Nat.zero_mul, Nat.mul_one, Int.toNat_natCast, List.drop_zero, beqV_int, beqV_sl, beqV_str, beqV_bool, beqV_ptr, beqV_flt, beqV_agg, beqV_tuple, List.all_cons, List.all_nil, Bool.and_self, Bool.and_true, Bool.true_and, Nat.le_refl, Int.le_refl, Nat.zero_le, Option.getD_some, isStr, strV, isInt, intV, isBool, boolV, kindEq, at0, isJunk, Option.isSome_some, Option.isSome_none, if_true, if_false, Nat.add_sub_cancel_left, Nat.add_sub_cancel]
      intro x hx; obtain ⟨p1, p2, p3⟩ := fin x hx; simp only [p1, p2, p3, Alt_iff, Need_iff, ltI_eq, leI_eq, eqI_eq, leN_eq, eqN_eq, decide_eq_true_eq, decide_eq_false_iff_not, decide_true, decide_false, true_and, and_true, Bool.true_eq_false, Bool.false_eq_true, false_implies, true_implies, implies_true, not_true_eq_false, not_false_eq_true, Bool.not_eq_true', Bool.not_eq_false', Nat.zero_add, Nat.add_zero, Nat.sub_zero, Nat.zero_mul, Nat.mul_one, Int.toNat_natCast, List.drop_zero, beqV_int, beqV_sl, beqV_str, beqV_bool, beqV_ptr, beqV_flt, beqV_agg, beqV_tuple, List.all_cons, List.all_nil, Bool.and_self, Bool.and_true, Bool.true_and, Nat.le_refl, Int.le_refl, Nat.zero_le, Option.getD_some, isStr, strV, isInt, intV, isBool, boolV, kindEq, at0, isJunk, Option.isSome_some, Option.isSome_none, if_true, if_false, Nat.add_sub_cancel_left, Nat.add_sub_cancel]; intro x hx; obtain ⟨p1, p2, p3⟩ := fin2 x hx; simp only [p1, p2, p3, Bool.not_true, Alt_iff, Need_iff, ltI_eq, leI_eq, eqI_eq, leN_eq, eqN_eq, decide_eq_true_eq, decide_eq_false_iff_not, decide_true, decide_false, true_and, and_true, Bool.true_eq_false, Bool.false_eq_true, false_implies, true_implies, implies_true, not_true_eq_false, not_false_eq_true, Bool.not_eq_true', Bool.not_eq_false', Nat.zero_add, Nat.add_zero, Nat.sub_zero, Nat.zero_mul, Nat.mul_one, Int.toNat_natCast, List.drop_zero, beqV_int, beqV_sl, beqV_str, beqV_bool, beqV_ptr, beqV_flt, beqV_agg, beqV_tuple, List.all_cons, List.all_nil, Bool.and_self, Bool.and_true, Bool.true_and, Nat.le_refl, Int.le_refl, Nat.zero_le, Option.getD_some, isStr, strV, isInt, intV, isBool, boolV, kindEq, at0, isJunk, Option.isSome_some, Option.isSome_none, if_true, if_false, Nat.add_sub_cancel_left, Nat.add_sub_cancel]; exact ⟨0, hF, hK⟩
  refine (sure106 hmix).funX F206 body206 [] [] Try.func8 rfl (hL.gcX (at0 []) (at0 [])) ?_
  rw [z206]
  rw [Alt_iff]
  refine ⟨fun h => ⟨trivial, trivial, hF, rfl, rfl⟩, fun h => ?_⟩
  rw [Alt_iff]
  refine ⟨fun h => ⟨trivial, trivial, hF, rfl, rfl⟩, fun h2 => ?_⟩
  have hw : a.length ≤ 100 := by have := ltI_no h; omega
  have hw2 : b.length ≤ 100 := by have := ltI_no h2; omega
  simp only [intsAt_eq hA, intsAt_eq hB, hA.flat, hB.flat, hI, hJ, hN, show a.length ≤ 1000 by omega, show b.length ≤ 1000 by omega, Alt_iff, Need_iff, ltI_eq, leI_eq, eqI_eq, leN_eq, eqN_eq, decide_eq_true_eq, decide_eq_false_iff_not, decide_true, decide_false, true_and, and_true, Bool.true_eq_false, Bool.false_eq_true, false_implies, true_implies, implies_true, not_true_eq_false, not_false_eq_true, Bool.not_eq_true', Bool.not_eq_false', Nat.zero_add, Nat.add_zero, Nat.sub_zero, Nat.zero_mul, Nat.mul_one, Int.toNat_natCast, List.drop_zero, beqV_int, beqV_sl, beqV_str, beqV_bool, beqV_ptr, beqV_flt, beqV_agg, beqV_tuple, List.all_cons, List.all_nil, Bool.and_self, Bool.and_true, Bool.true_and, Nat.le_refl, Int.le_refl, Nat.zero_le, Option.getD_some, isStr, strV, isInt, intV, isBool, boolV, kindEq, at0, isJunk, Option.isSome_some, Option.isSome_none, if_true, if_false, Nat.add_sub_cancel_left, Nat.add_sub_cancel]
  refine fun x hx x1 hx1 x2 hx2 => ?_
  exact ⟨FlatD.hp ⟨hA.flat, hB.flat, hx.flat, hx1.flat, hx2.flat, trivial⟩, (x, x1, x2, hasL n a, hasL n b), rfl, rfl, hw, hw2, rfl, rfl, hx, hx1, hx2, hF⟩
end Go.Proofs.Ytkigkmjmbegmhaa
