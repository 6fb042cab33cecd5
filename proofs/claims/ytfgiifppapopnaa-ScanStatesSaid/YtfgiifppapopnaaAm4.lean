/- Proved: contracts of functions as summaries; a call from outside out of a function's contract. Conditions: those that each theorem states. -/
import Derived.Test.YtfgiifppapopnaaAm3
import Derived.OpenShut
import Derived.ShutString
import Derived.ChangeOld
import Derived.SizedLaws
import Derived.SliceStrings
import Derived.Laws.Externs
set_option linter.unusedVariables false
set_option linter.unusedSimpArgs false
namespace Go.Proofs.Ytfgiifppapopnaa.AM
/-! ### a state under other numbers, as it is reckoned -/
def ix : List Nat → Nat → Option Nat
  | [], _ => none
  | b :: bs, B => cond (Nat.beq b B) (some 0) ((ix bs B).map (· + 1))
theorem ix_some {bs : List Nat} : ∀ {B i : Nat}, ix bs B = some i → bs[i]? = some B := by
  induction bs with
  | nil => intro B i h; cases h
  | cons b bs ih =>
    intro B i h
    simp only [ix] at h
    cases hb : Nat.beq b B with
    | true => rw [hb, cond_true] at h; injection h with h; subst h; rw [Nat.eq_of_beq_eq_true hb]; rfl
    | false =>
      rw [hb, cond_false] at h
      cases hi : ix bs B with
      | none => rw [hi] at h; cases h
      | some j => rw [hi, Option.map_some] at h; injection h with h; subst h; rw [List.getElem?_cons_succ]; exact ih hi
noncomputable def rn0 (bs : List Nat) (v : Value) : Option Value := match v with
  | .pointer (some ⟨B, o, none⟩) => (ix bs B).map fun i => .pointer (some ⟨i, o, none⟩)
  | .slice (some ⟨B, o, sp⟩) len cap => (ix bs B).map fun i => .slice (some ⟨i, o, sp⟩) len cap
  | .map (some B) => (ix bs B).map fun i => .map (some i)
  | v => cond (fz v) (some v) none
noncomputable def rnL (bs : List Nat) : List Value → Option (List Value)
  | [] => some []
  | v :: t => match rn0 bs v with
    | some x => match rnL bs t with
      | some l => some (x :: l)
      | none => none
    | none => none
noncomputable def rnV (bs : List Nat) (v : Value) : Value := match rn0 bs v with
  | some x => x
  | none => match v with
    | .tuple cs => match rnL bs cs.toList with
      | some l => .tuple l.toArray
      | none => junk
    | .agg cs => match rnL bs cs.toList with
      | some l => .agg l.toArray
      | none => junk
    | .func fn f c => match rnL bs f.toList, rnL bs c.toList with
      | some l, some m => .func fn l.toArray m.toArray
      | _, _ => junk
    | _ => junk
noncomputable def rnT (bs : List Nat) : List Value → List Value
  | [] => []
  | v :: t => rnV bs v :: rnT bs t
theorem isJunk_flat {v : Value} (h : fz v = true) : isJunk v = false := by
  cases v <;> first | rfl | skip
  all_goals (rename_i a; cases a <;> first | rfl | (exact absurd h (by decide)) | (simp [fz, fzN] at h))
/-- the numbers g, as bs has them -/
def Nums (bs : List Nat) (g : Nat → Nat) (n : Nat) : Prop := ∀ i B, bs[i]? = some B → i < n ∧ g i = B
theorem rn0_ok {bs : List Nat} {g : Nat → Nat} {n : Nat} (hg : Nums bs g n) {v x : Value} (hx : rn0 bs v = some x) :
    isJunk v = false ∧ isJunk x = false ∧ ∀ ρ ρ2 : Rho, ρ2.z = ρ.z → (∀ B, B < n → ρ2 B = ρ (g B)) → Mv ρ ρ2 v x := by
  unfold rn0 at hx
  split at hx
  · rename_i B o
    obtain ⟨i, hi, rfl⟩ := Option.map_eq_some_iff.1 hx
    obtain ⟨q1, q2⟩ := hg i B (ix_some hi)
    exact ⟨rfl, rfl, fun ρ ρ2 hz hρ => Mv.ptr (by rw [hρ i q1, q2]) o⟩
  · rename_i B o sp len cap
    obtain ⟨i, hi, rfl⟩ := Option.map_eq_some_iff.1 hx
    obtain ⟨q1, q2⟩ := hg i B (ix_some hi)
    exact ⟨rfl, rfl, fun ρ ρ2 hz hρ => Mv.sl (by rw [hρ i q1, q2]) o sp len cap⟩
  · rename_i B
    obtain ⟨i, hi, rfl⟩ := Option.map_eq_some_iff.1 hx
    obtain ⟨q1, q2⟩ := hg i B (ix_some hi)
    exact ⟨rfl, rfl, fun ρ ρ2 hz hρ => Mv.map (by rw [hρ i q1, q2])⟩
  · cases hf : fz v with
    | true =>
      rw [hf, cond_true] at hx
      injection hx with hx
      subst hx
      exact ⟨isJunk_flat hf, isJunk_flat hf, fun ρ ρ2 hz _ => Mv.fz hz hf⟩
    | false => rw [hf] at hx; cases hx
theorem rnL_ok {bs : List Nat} {g : Nat → Nat} {n : Nat} (hg : Nums bs g n) : ∀ {xs ys : List Value}, rnL bs xs = some ys → ∀ ρ ρ2 : Rho, ρ2.z = ρ.z → (∀ B, B < n → ρ2 B = ρ (g B)) → Mvs ρ ρ2 xs ys := by
  intro xs
  induction xs with
  | nil => intro ys h ρ ρ2 _ _; injection h with h; subst h; exact Mvs.nil
  | cons v t ih =>
    intro ys h ρ ρ2 hz hρ
    simp only [rnL] at h
    cases h0 : rn0 bs v with
    | none => rw [h0] at h; cases h
    | some x =>
      rw [h0] at h
      simp only at h
      cases h1 : rnL bs t with
      | none => rw [h1] at h; cases h
      | some l =>
        rw [h1] at h
        injection h with h
        subst h
        exact Mvs.cons ((rn0_ok hg h0).2.2 ρ ρ2 hz hρ) (ih h1 ρ ρ2 hz hρ)
theorem Mvs.arr {ρ ρ2 : Rho} {xs : Array Value} {ys : List Value} (h : Mvs ρ ρ2 xs.toList ys) : xs.size = ys.toArray.size ∧ ∀ zs : Array Value, xs.size = zs.size → (∀ (i : Nat) x y, xs[i]? = some x → zs[i]? = some y → VR ρ x y) → ∀ (i : Nat) x y, ys.toArray[i]? = some x → zs[i]? = some y → VR ρ2 x y := by
  refine ⟨by simpa using h.1, fun zs hs hz i x y hx hy => ?_⟩
  have hi : i < xs.size := by
    have h1 := h.1
    have h2 : i < ys.length := by simpa using (Array.getElem?_eq_some_iff.1 hx).1
    simp only [Array.length_toList] at h1; omega
  exact h.2 i xs[i] x (by simp [hi]) (by simpa using hx) y (hz i xs[i] y (by simp [hi]) hy)
theorem Mv.tuple {ρ ρ2 : Rho} {xs : Array Value} {ys : List Value} (h : Mvs ρ ρ2 xs.toList ys) : Mv ρ ρ2 (.tuple xs) (.tuple ys.toArray) := fun v' hv => by
  obtain ⟨h1, h2⟩ := h.arr
  cases hv with
  | atom _ hh => cases hh
  | tuple _ zs hs hz => exact .tuple _ _ (by rw [← h1]; exact hs) (h2 zs hs hz)
theorem Mv.agg {ρ ρ2 : Rho} {xs : Array Value} {ys : List Value} (h : Mvs ρ ρ2 xs.toList ys) : Mv ρ ρ2 (.agg xs) (.agg ys.toArray) := fun v' hv => by
  obtain ⟨h1, h2⟩ := h.arr
  cases hv with
  | atom _ hh => cases hh
  | agg _ zs hs hz => exact .agg _ _ (by rw [← h1]; exact hs) (h2 zs hs hz)
theorem Mv.func {ρ ρ2 : Rho} {fn : Fn} {xs us : Array Value} {ys vs : List Value} (h : Mvs ρ ρ2 xs.toList ys) (k : Mvs ρ ρ2 us.toList vs) : Mv ρ ρ2 (.func fn xs us) (.func fn ys.toArray vs.toArray) := fun v' hv => by
  obtain ⟨h1, h2⟩ := h.arr
  obtain ⟨k1, k2⟩ := k.arr
  cases hv with
  | atom _ hh => cases hh
  | func _ _ _ zs ws hs ht hz hw => exact .func _ _ _ _ _ (by rw [← h1]; exact hs) (by rw [← k1]; exact ht) (h2 zs hs hz) (k2 ws ht hw)
theorem rnV_ok {bs : List Nat} {g : Nat → Nat} {n : Nat} (hg : Nums bs g n) (v : Value) :
    isJunk (rnV bs v) = true ∨ (isJunk v = false ∧ ∀ ρ ρ2 : Rho, ρ2.z = ρ.z → (∀ B, B < n → ρ2 B = ρ (g B)) → Mv ρ ρ2 v (rnV bs v)) := by
  unfold rnV
  split
  · rename_i x hx
    obtain ⟨a, _, b⟩ := rn0_ok hg hx
    exact .inr ⟨a, b⟩
  · split
    · rename_i cs
      split
      · rename_i l hl; exact .inr ⟨rfl, fun ρ ρ2 hz hρ => Mv.tuple (rnL_ok hg hl ρ ρ2 hz hρ)⟩
      · exact .inl rfl
    · rename_i cs
      split
      · rename_i l hl; exact .inr ⟨rfl, fun ρ ρ2 hz hρ => Mv.agg (rnL_ok hg hl ρ ρ2 hz hρ)⟩
      · exact .inl rfl
    · rename_i fn f c
      split
      · rename_i l m hl hm; exact .inr ⟨rfl, fun ρ ρ2 hz hρ => Mv.func (rnL_ok hg hl ρ ρ2 hz hρ) (rnL_ok hg hm ρ ρ2 hz hρ)⟩
      · exact .inl rfl
    · exact .inl rfl
theorem rnT_ok {bs : List Nat} {g : Nat → Nat} {n : Nat} (hg : Nums bs g n) : ∀ t : List Value, Tm g n t (rnT bs t) := by
  intro t
  induction t with
  | nil => trivial
  | cons v t ih => exact ⟨rnV_ok hg v, ih⟩
/-- these blocks are there, and hold no address -/
def Holds (l : List Blk) : List Nat → List Blk → Prop
  | [], [] => True
  | b :: bs, .cells c e o :: l2 => (l[b]? = some (.cells c e o) ∧ ∀ x ∈ c, fz x = true) ∧ Holds l bs l2
  | _, _ => False
theorem Holds.get {l : List Blk} : ∀ {bs : List Nat} {l2 : List Blk}, Holds l bs l2 → bs.length = l2.length ∧ ∀ (i : Nat) c e o, l2[i]? = some (.cells c e o) → ∃ b, bs[i]? = some b ∧ l[b]? = some (.cells c e o) ∧ ∀ x ∈ c, fz x = true := by
  intro bs
  induction bs with
  | nil => intro l2 h; cases l2 with
    | nil => exact ⟨rfl, fun i c e o hi => by simp at hi⟩
    | cons => exact h.elim
  | cons b bs ih =>
    intro l2 h
    cases l2 with
    | nil => exact h.elim
    | cons x l2 =>
      cases x with
      | cells c e o =>
        obtain ⟨q1, q2⟩ := h
        obtain ⟨r1, r2⟩ := ih q2
        refine ⟨by simp [r1], fun i c' e' o' hi => ?_⟩
        cases i with
        | zero => simp at hi; obtain ⟨rfl, rfl, rfl⟩ := hi; exact ⟨b, rfl, q1⟩
        | succ i => exact r2 i c' e' o' (by simpa using hi)
      | _ => exact h.elim
def nodupN : List Nat → Bool
  | [] => true
  | b :: bs => (ix bs b).isNone && nodupN bs
theorem nodupN_ok : ∀ {bs : List Nat}, nodupN bs = true → ∀ (i j b : Nat), bs[i]? = some b → bs[j]? = some b → i = j := by
  intro bs
  have ixn : ∀ (l : List Nat) (b : Nat), (ix l b).isNone = true → ∀ j : Nat, l[j]? ≠ some b := by
    intro l
    induction l with
    | nil => intro b _ j h; simp at h
    | cons x l ih =>
      intro b h j hj
      simp only [ix] at h
      cases hb : Nat.beq x b with
      | true => rw [hb] at h; cases h
      | false =>
        rw [hb, cond_false] at h
        cases j with
        | zero => simp at hj; subst hj; rw [Nat.beq_refl] at hb; cases hb
        | succ j => exact ih b (by cases hi : ix l b <;> rw [hi] at h <;> first | rfl | cases h) j (by simpa using hj)
  induction bs with
  | nil => intro _ i j b h; simp at h
  | cons x bs ih =>
    intro h i j b hi hj
    simp only [nodupN, Bool.and_eq_true] at h
    cases i with
    | zero =>
      cases j with
      | zero => rfl
      | succ j => simp at hi hj; subst hi; exact absurd hj (ixn _ _ h.1 j)
    | succ i =>
      cases j with
      | zero => simp at hi hj; subst hj; exact absurd hi (ixn _ _ h.1 i)
      | succ j => rw [ih h.2 i j b (by simpa using hi) (by simpa using hj)]
def lowN : Nat → Nat → List Nat → Bool
  | 0, _, _ => true
  | k + 1, i, b :: bs => Nat.beq b i && lowN k (i + 1) bs
  | _, _, [] => false
theorem lowN_ok : ∀ {k i : Nat} {bs : List Nat}, lowN k i bs = true → k ≤ bs.length ∧ ∀ j, j < k → bs[j]? = some (i + j) := by
  intro k
  induction k with
  | zero => intro i bs _; exact ⟨Nat.zero_le _, fun j hj => by omega⟩
  | succ k ih =>
    intro i bs h
    cases bs with
    | nil => cases h
    | cons b bs =>
      simp only [lowN, Bool.and_eq_true] at h
      obtain ⟨a, c⟩ := ih h.2
      refine ⟨by simp; omega, fun j hj => ?_⟩
      cases j with
      | zero => rw [Nat.eq_of_beq_eq_true h.1]; rfl
      | succ j => rw [List.getElem?_cons_succ, c j (by omega)]; congr 1; omega
theorem Ren.gc {k : Nat} {t : List Value} {l : List Blk} (bs : List Nat) (l2 : List Blk) (hc : (nodupN bs && lowN k 0 bs) = true) (hh : Holds l bs l2) : Ren k (fun i => bs.getD i i) t (Go.Proofs.Ytfgiifppapopnaa.AM.hp l) (rnT bs t) (Go.Proofs.Ytfgiifppapopnaa.AM.hp l2) := by
  simp only [Bool.and_eq_true] at hc
  obtain ⟨h1, h2⟩ := hh.get
  obtain ⟨h3, h4⟩ := lowN_ok hc.2
  have hg : ∀ i B, bs[i]? = some B → i < l2.length ∧ bs.getD i i = B := fun i B hi => ⟨by rw [← h1]; exact (List.getElem?_eq_some_iff.1 hi).1, by rw [List.getD_eq_getElem?_getD, hi]; rfl⟩
  obtain ⟨t1, t2⟩ := (rnT_ok (g := fun i => bs.getD i i) hg t).ok
  refine Ren.hp (by omega) (fun B hB => ?_) (fun B c e o hB => ?_) (fun B B' c e o c' e' o' hB hB' he => ?_) t1 t2
  · rw [List.getD_eq_getElem?_getD, h4 B hB]; simp
  · obtain ⟨b, q1, q2, q3⟩ := h2 B c e o hB
    refine ⟨c, by rw [(hg B b q1).2]; exact q2, fun ρ ρ2 hz _ => Mvs.fz hz q3⟩
  · obtain ⟨b, q1, _⟩ := h2 B c e o hB
    obtain ⟨b', q1', _⟩ := h2 B' c' e' o' hB'
    simp only [(hg B b q1).2, (hg B' b' q1').2] at he
    subst he
    exact nodupN_ok hc.1 B B' _ q1 q1'
theorem LSays.gc {P : Program} {k : Nat} {b : Code} {t t2 : List Value} {l : List Blk} {K : Post} (bs : List Nat) (l2 : List Blk) (hc : (nodupN bs && lowN k 0 bs) = true) (hh : Holds l bs l2) (ht : Wk t2 (rnT bs t))
    (hb : LSays P k b t2 (hp l2) K) : LSays P k b t (hp l) K := LSays.ren (Ren.gc bs l2 hc hh) (hb.wk ht)
theorem FunSays.gc {P : Program} {f : FuncId} {args : List Value} {l0 : List Blk} {K K2 : Value → Heap → Prop} (hs : FunSays P f args (hp l0) K)
    (hK : ∀ v h', K v h' → ∃ l bs l2, h' = hp l ∧ (nodupN bs && lowN l0.length 0 bs) = true ∧ Holds l bs l2 ∧ isJunk (rnV bs v) = false ∧ K2 (rnV bs v) (hp l2)) : FunSays P f args (hp l0) K2 := by
  refine hs.ren fun v h' hk => ?_
  obtain ⟨l, bs, l2, rfl, q1, q2, q3, q4⟩ := hK v h' hk
  refine ⟨fun i => bs.getD i i, rnV bs v, hp l2, ?_, q3, q4⟩
  rw [hp_size]
  exact Ren.gc (t := [v]) bs l2 q1 q2
end Go.Proofs.Ytfgiifppapopnaa.AM

namespace Go.Proofs.Ytfgiifppapopnaa.AM
/-! ### the numbers that a state needs, found by itself -/
noncomputable def ad0 (v : Value) : Option Nat := match v with
  | .pointer (some ⟨B, _, none⟩) => some B
  | .slice (some ⟨B, _, _⟩) _ _ => some B
  | .map (some B) => some B
  | _ => none
noncomputable def addL (acc : List Nat) : List Value → List Nat
  | [] => acc
  | v :: t => match ad0 v with
    | some B => addL (cond (ix acc B).isSome acc (acc ++ [B])) t
    | none => addL acc t
noncomputable def adV (acc : List Nat) (v : Value) : List Nat := match v with
  | .tuple cs => addL acc cs.toList
  | .agg cs => addL acc cs.toList
  | .func _ f c => addL (addL acc f.toList) c.toList
  | v => addL acc [v]
noncomputable def adT (acc : List Nat) : List Value → List Nat
  | [] => acc
  | v :: t => adT (adV acc v) t
def uptoN : Nat → Nat → List Nat
  | 0, _ => []
  | k + 1, i => i :: uptoN k (i + 1)
theorem lowN_upto : ∀ k i, lowN k i (uptoN k i) = true := by
  intro k
  induction k with
  | zero => intro i; rfl
  | succ k ih => intro i; simp only [uptoN, lowN, Nat.beq_refl, ih, Bool.and_self]
theorem ix_upto : ∀ k i b, b < i → ix (uptoN k i) b = none := by
  intro k
  induction k with
  | zero => intro i b _; rfl
  | succ k ih =>
    intro i b h
    have hne : Nat.beq i b = false := by
      cases hh : Nat.beq i b with
      | false => rfl
      | true => have := Nat.eq_of_beq_eq_true hh; omega
    simp only [uptoN, ix, hne, cond_false, ih (i + 1) b (by omega), Option.map_none]
theorem nodupN_upto : ∀ k i, nodupN (uptoN k i) = true := by
  intro k
  induction k with
  | zero => intro i; rfl
  | succ k ih => intro i; simp only [uptoN, nodupN, ix_upto k (i + 1) i (by omega), ih, Option.isNone_none, Bool.and_self]
noncomputable def gcB (k : Nat) (t : List Value) : List Nat := cond (nodupN (adT (uptoN k 0) t) && lowN k 0 (adT (uptoN k 0) t)) (adT (uptoN k 0) t) (uptoN k 0)
theorem gcB_ok (k : Nat) (t : List Value) : nodupN (gcB k t) = true ∧ lowN k 0 (gcB k t) = true := by
  unfold gcB
  cases h : (nodupN (adT (uptoN k 0) t) && lowN k 0 (adT (uptoN k 0) t)) with
  | true => simpa using h
  | false => exact ⟨nodupN_upto k 0, lowN_upto k 0⟩
noncomputable def blkOf (h : Heap) (b : Nat) : Blk := (h.get b).getD .dead
noncomputable def gcT (k : Nat) (live : Option (List Nat)) (t : List Value) : List Value := rnT (gcB k (forget live t)) (forget live t)
noncomputable def gcH (k : Nat) (live : Option (List Nat)) (t : List Value) (h : Heap) : Heap := hp ((gcB k (forget live t)).map (blkOf h))
/-- nothing in it holds an address -/
structure FlatH (h : Heap) : Prop where
  get : ∀ B c e o, h.get B = some (.cells c e o) → ∀ x ∈ c, fz x = true
inductive FlatL (c : List Value) : Prop
  | mk (h : ∀ x ∈ c, fz x = true) : FlatL c
def FlatBs : List Blk → Prop
  | [] => True
  | .cells c _ _ :: l => FlatL c ∧ FlatBs l
  | _ :: l => FlatBs l
theorem FlatBs.get : ∀ {l : List Blk}, FlatBs l → ∀ (B : Nat) c e o, l[B]? = some (.cells c e o) → ∀ x ∈ c, fz x = true := by
  intro l
  induction l with
  | nil => intro _ B c e o h; simp at h
  | cons b l ih =>
    intro hf B c e o h
    cases B with
    | zero =>
      simp at h
      subst h
      obtain ⟨⟨q⟩, _⟩ := hf
      exact q
    | succ B =>
      simp at h
      cases b with
      | cells => exact ih hf.2 B c e o h
      | _ => exact ih hf B c e o h
theorem FlatH.hp {l : List Blk} (h : FlatBs l) : FlatH (Go.Proofs.Ytfgiifppapopnaa.AM.hp l) := ⟨fun B c e o hb => by rw [hp_get] at hb; exact h.get B c e o hb⟩
theorem FlatH.empty : FlatH (Go.Proofs.Ytfgiifppapopnaa.AM.hp []) := FlatH.hp trivial

theorem blkOf_cells {h : Heap} {b : Nat} {c : List Value} {e : Nat} {o : Bool} (hb : blkOf h b = .cells c e o) : h.get b = some (.cells c e o) := by
  unfold blkOf at hb
  cases hg : h.get b with
  | none => rw [hg] at hb; cases hb
  | some x => rw [hg] at hb; rw [← hb]; rfl
theorem Ren.bs {k : Nat} {t : List Value} {h : Heap} {bs : List Nat} (h1 : nodupN bs = true) (h2 : lowN k 0 bs = true) (hf : FlatH (Go.Proofs.Ytfgiifppapopnaa.AM.hp (bs.map (blkOf h)))) :
    Ren k (fun i => bs.getD i i) t h (rnT bs t) (Go.Proofs.Ytfgiifppapopnaa.AM.hp (bs.map (blkOf h))) := by
  obtain ⟨h3, h4⟩ := lowN_ok h2
  have hg : Nums bs (fun i => bs.getD i i) bs.length := fun i B hi => ⟨(List.getElem?_eq_some_iff.1 hi).1, by
    show bs.getD i i = B
    rw [List.getD_eq_getElem?_getD, hi]; rfl⟩
  obtain ⟨t1, t2⟩ := (rnT_ok (g := fun i => bs.getD i i) hg t).ok
  have hsz : (Go.Proofs.Ytfgiifppapopnaa.AM.hp (bs.map (blkOf h))).size = bs.length := by rw [hp_size, List.length_map]
  have hget : ∀ (B : Nat) c e o, (Go.Proofs.Ytfgiifppapopnaa.AM.hp (bs.map (blkOf h))).get B = some (.cells c e o) → ∃ b, bs[B]? = some b ∧ h.get b = some (.cells c e o) := fun B c e o hB => by
    rw [hp_get, List.getElem?_map] at hB
    obtain ⟨b, hb, he⟩ := Option.map_eq_some_iff.1 hB
    exact ⟨b, hb, blkOf_cells he⟩
  refine ⟨by rw [hsz]; exact h3, fun B hB => ?_, fun B c e o hB => ?_, fun B B' c e o c' e' o' hB hB' he => ?_, t1, fun i x y hx hy => ?_⟩
  · show bs.getD B B = B
    rw [List.getD_eq_getElem?_getD, h4 B hB]; simp
  · obtain ⟨b, q1, q2⟩ := hget B c e o hB
    refine ⟨c, by rw [show bs.getD B B = b from (hg B b q1).2]; exact q2, fun ρ ρ2 hz _ => Mvs.fz hz (hf.get B c e o hB)⟩
  · obtain ⟨b, q1, _⟩ := hget B c e o hB
    obtain ⟨b', q1', _⟩ := hget B' c' e' o' hB'
    simp only [(hg B b q1).2, (hg B' b' q1').2] at he
    subst he
    exact nodupN_ok h1 B B' _ q1 q1'
  · rw [hsz]; exact t2 i x y hx hy

/-- what holds behind, in the numbers that are needed -/
noncomputable def autoK (k : Nat) (live : List Nat) (K : Post) : Post := fun e t h => match e with
  | .normal => K .normal (gcT k (some live) t) (gcH k (some live) t h)
  | e => K e (gcT k none t) (gcH k none t h)
theorem Says.forget {P : Program} {k : Nat} {c : Code} {t : List Value} {h : Heap} {K : Post} {l : Option (List Nat)} (hb : Says P k c (Go.Proofs.Ytfgiifppapopnaa.AM.forget l t) h K) : Says P k c t h K :=
  fun ρ a w Q hk ht r hs hQ => hb ρ a w Q hk ht r hs.forget hQ
theorem LSays.forget {P : Program} {k : Nat} {c : Code} {t : List Value} {h : Heap} {K : Post} {l : Option (List Nat)} (hb : LSays P k c (Go.Proofs.Ytfgiifppapopnaa.AM.forget l t) h K) : LSays P k c t h K :=
  fun ρ a w Q hk ht r hs hQ => hb ρ a w Q hk ht r hs.forget hQ
theorem LSays.auto {P : Program} {k : Nat} {c : Code} {t : List Value} {h : Heap} {K : Post} {l : Option (List Nat)} (hf : FlatH (gcH k l t h)) (hb : LSays P k c (gcT k l t) (gcH k l t h) K) : LSays P k c t h K :=
  LSays.forget (l := l) (LSays.ren (Ren.bs (gcB_ok k _).1 (gcB_ok k _).2 hf) hb)
theorem Says.auto {P : Program} {k : Nat} {c : Code} {t : List Value} {h : Heap} {K : Post} {l : Option (List Nat)} (hf : FlatH (gcH k l t h)) (hb : Says P k c (gcT k l t) (gcH k l t h) K) : Says P k c t h K :=
  Says.forget (l := l) (Says.ren (Ren.bs (gcB_ok k _).1 (gcB_ok k _).2 hf) hb)
/-- one round of a loop -/
theorem LSays.round {P : Program} {S : Book} {LK : LoopK} {F : List Nat → Option (List Nat)} {root : Code} {k : Nat} (live : List Nat) (hm : P.follows .mixedOrders = true) (hpl : Plain P) (hS : SumsOk P S.sums)
    (hL : Loops P root k LK) {n : Nat} {p : List Nat} {c : Code} {t : List Value} {h : Heap} {K : Post} (hsub : sub root p = c)
    (hk : codeK P S LK F n p c t h (autoK k live fun e t' h' => FlatH h' ∧ match e with | .normal => LSays P k c t' h' K | e => K e t' h')) : LSays P k c t h K := by
  have h0 := codeK_ok hm hpl hS hL n p c t h _ hsub hk
  refine LSays.step fun ρ a w Q hkh ht r hs hQ => ?_
  refine h0 ρ a w Q hkh ht r hs fun e t1 h1 ρ1 a1 w1 hK ht1 r1 f1 hs1 hd1 => ?_
  cases e with
  | normal =>
    obtain ⟨hf, hK⟩ := hK
    exact hQ .normal t1 h1 ρ1 a1 w1 (LSays.auto (l := some live) hf hK) ht1 r1 f1 hs1 hd1
  | exit id =>
    obtain ⟨hf, hK⟩ := hK
    obtain ⟨ρ2, q1, q2, q3, q4⟩ := (Ren.bs (k := k) (t := t1) (gcB_ok k _).1 (gcB_ok k _).2 hf).move ht1 r1 hs1
    exact hQ (.exit id) _ _ ρ2 a1 w1 hK q1 q2 (f1.trans q3) q4 hd1
  | ret =>
    obtain ⟨hf, hK⟩ := hK
    obtain ⟨ρ2, q1, q2, q3, q4⟩ := (Ren.bs (k := k) (t := t1) (gcB_ok k _).1 (gcB_ok k _).2 hf).move ht1 r1 hs1
    exact hQ .ret _ _ ρ2 a1 w1 hK q1 q2 (f1.trans q3) q4 hd1
/-- a function's results, in the numbers that are needed -/
noncomputable def resAuto (k : Nat) (P : Program) (fn : Func) (K : Value → Heap → Prop) : Post := resK P fn fun v h => K (rnV (gcB k [v]) v) (hp ((gcB k [v]).map (blkOf h)))
theorem FunSays.auto {P : Program} {f : FuncId} {fn : Func} {root : Code} {S : Book} {LK : LoopK} {F : List Nat → Option (List Nat)} {args : List Value} {h : Heap} {K : Value → Heap → Prop} (hf : P.funcs[f]? = some fn) (hb : fn.body = some root)
    (hm : P.follows .mixedOrders = true) (hpl : Plain P) (hS : SumsOk P S.sums) (hL : Loops P root h.size LK) {n : Nat}
    (hk : codeK P S LK F n [] root (args ++ List.replicate (fn.ntmps - args.length) undef) h (resAuto h.size P fn fun v h' => isJunk v = false ∧ FlatH h' ∧ K v h')) : FunSays P f args h K := by
  refine FunSays.ren (FunSays.of hf hb (codeK_ok hm hpl hS hL n [] root _ h _ rfl hk)) fun v h' hv => ?_
  obtain ⟨q1, q2, q3⟩ := hv
  exact ⟨_, _, _, Ren.bs (t := [v]) (gcB_ok _ _).1 (gcB_ok _ _).2 q2, q1, q3⟩

/-! ### the same, for texts -/
noncomputable def roundK (P : Program) (S : Book) (LK : LoopK) (F : List Nat → Option (List Nat)) (root : Code) (k : Nat) (live : List Nat) (p : List Nat) (t : List Value) (h : Heap) (K : Post) : Prop :=
  codeK P S LK F 200 p (sub root p) t h (autoK k live K)
noncomputable def funK (P : Program) (S : Book) (LK : LoopK) (F : List Nat → Option (List Nat)) (root : Code) (fn : Func) (args : List Value) (h : Heap) (K : Value → Heap → Prop) : Prop :=
  codeK P S LK F 200 [] root (args ++ List.replicate (fn.ntmps - args.length) undef) h (resAuto h.size P fn K)
noncomputable def noLoop : LoopK := fun _ _ _ _ => False
theorem noLoops {P : Program} {root : Code} {k : Nat} : Loops P root k noLoop := fun _ _ _ _ h => h.elim
/-- loops whose states are named in the numbers that they need -/
noncomputable def gcLK (k : Nat) (LK : LoopK) : LoopK := fun p t h K => FlatH (gcH k none t h) ∧ LK p (gcT k none t) (gcH k none t h) K
theorem Loops.gc {P : Program} {root : Code} {k : Nat} {LK : LoopK} (hl : Loops P root k LK) : Loops P root k (gcLK k LK) := fun p t h K hk => by
  have := hl p _ _ K hk.2
  unfold LoopOr at this ⊢
  split at this
  · exact LSays.auto (l := none) hk.1 this
  · exact Says.auto (l := none) hk.1 this
structure Sure (P : Program) (S : Book) : Prop where
  mixed : P.follows .mixedOrders = true
  plain : Plain P
  sums : SumsOk P S.sums
section
variable {P : Program} {S : Book} {LK : LoopK} {root : Code} {k : Nat}
theorem Sure.round (s : Sure P S) (F : List Nat → Option (List Nat)) (hL : Loops P root k LK) (live : List Nat) {p : List Nat} {t : List Value} {h : Heap} {K : Post}
    (hk : roundK P S LK F root k live p t h (fun e t' h' => FlatH h' ∧ match e with | .normal => LSays P k (sub root p) t' h' K | e => K e t' h')) : LSays P k (sub root p) t h K :=
  LSays.round live s.mixed s.plain s.sums hL rfl hk
/-- a part of a function, from a cut on -/
theorem Sure.part (s : Sure P S) (F : List Nat → Option (List Nat)) (hL : Loops P root k LK) {p : List Nat} {t : List Value} {h : Heap} {K : Post} (hk : codeK P S LK F 200 p (sub root p) t h K) : Says P k (sub root p) t h K :=
  codeK_ok s.mixed s.plain s.sums hL 200 p _ t h K rfl hk
theorem Sure.fun (s : Sure P S) (F : List Nat → Option (List Nat)) (root : Code) {f : FuncId} {fn : Func} {args : List Value} {h : Heap} {K : Value → Heap → Prop} (hf : P.funcs[f]? = some fn) (hb : fn.body = some root) (hL : Loops P root h.size LK)
    (hk : funK P S LK F root fn args h (fun v h' => isJunk v = false ∧ FlatH h' ∧ K v h')) : FunSays P f args h K := FunSays.auto hf hb s.mixed s.plain s.sums hL hk
end
/-- temporaries, those that are named; the others are junk -/
noncomputable def tmps (n : Nat) (l : List (Nat × Value)) : List Value := l.foldl (fun t p => setL t p.1 p.2) (List.replicate n junk)
end Go.Proofs.Ytfgiifppapopnaa.AM

namespace Go.Proofs.Ytfgiifppapopnaa.AM
/-! ### contracts of functions that turn nothing of what they are handed: a summary, and that it holds -/
structure Ctr where
  pre : List Value → List Blk → Prop
  val : List Value → List Blk → Value
  new : List Value → List Blk → List Blk
def Ctr.Holds (P : Program) (f : FuncId) (c : Ctr) : Prop := ∀ args blks, FlatBs blks → c.pre args blks →
  FlatBs (c.new args blks) ∧ FunSays P f args (hp blks) fun v h' => v = c.val args blks ∧ h' = hp (blks ++ c.new args blks)
noncomputable def unB (n : Nat) : List Nat → Nat → Nat
  | [], B => n + B
  | b :: bs, B => match B with
    | 0 => b
    | B + 1 => unB n bs B
noncomputable def un0 (n : Nat) (bs : List Nat) (v : Value) : Value := match v with
  | .pointer (some ⟨B, o, none⟩) => .pointer (some ⟨unB n bs B, o, none⟩)
  | .slice (some ⟨B, o, sp⟩) len cap => .slice (some ⟨unB n bs B, o, sp⟩) len cap
  | .map (some B) => .map (some (unB n bs B))
  | v => v
noncomputable def unL (n : Nat) (bs : List Nat) : List Value → List Value
  | [] => []
  | v :: t => un0 n bs v :: unL n bs t
noncomputable def unV (n : Nat) (bs : List Nat) (v : Value) : Value := match v with
  | .tuple cs => .tuple (unL n bs cs.toList).toArray
  | v => un0 n bs v
/-- its addresses are below m -/
noncomputable def in0 (m : Nat) (v : Value) : Bool := match v with
  | .pointer (some ⟨B, _, none⟩) => Nat.blt B m
  | .slice (some ⟨B, _, _⟩) _ _ => Nat.blt B m
  | .map (some B) => Nat.blt B m
  | v => fz v
noncomputable def inL (m : Nat) : List Value → Bool
  | [] => true
  | v :: t => in0 m v && inL m t
noncomputable def inV (m : Nat) (v : Value) : Bool := match v with
  | .tuple cs => inL m cs.toList
  | v => in0 m v
theorem unB_lt {n : Nat} : ∀ {bs : List Nat} {B b : Nat}, bs[B]? = some b → unB n bs B = b := by
  intro bs
  induction bs with
  | nil => intro B b h; simp at h
  | cons x bs ih =>
    intro B b h
    cases B with
    | zero => simp at h; exact h
    | succ B => exact ih (by simpa using h)
theorem unB_ge {n : Nat} : ∀ {bs : List Nat} {B : Nat}, bs.length ≤ B → unB n bs B = n + (B - bs.length) := by
  intro bs
  induction bs with
  | nil => intro B _; simp [unB]
  | cons x bs ih =>
    intro B h
    cases B with
    | zero => simp at h
    | succ B => simp only [unB, List.length_cons]; rw [ih (by simpa using h)]; congr 1; omega
theorem un0_ok {n m : Nat} {bs : List Nat} {v : Value} (hi : in0 m v = true) {ρ ρ2 : Rho} (hz : ρ2.z = ρ.z) (h1 : ∀ B b, bs[B]? = some b → ρ2 b = ρ B) (h2 : ∀ B, bs.length ≤ B → B < m → ρ2 (n + (B - bs.length)) = ρ B) : Mv ρ ρ2 v (un0 n bs v) := by
  have hb : ∀ B, Nat.blt B m = true → ρ2 (unB n bs B) = ρ B := fun B hB => by
    have hlt : B < m := Nat.le_of_ble_eq_true hB
    cases hg : bs[B]? with
    | some b => rw [unB_lt hg]; exact h1 B b hg
    | none => have := List.getElem?_eq_none_iff.1 hg; rw [unB_ge this]; exact h2 B this hlt
  unfold in0 at hi
  unfold un0
  split at hi
  · exact Mv.ptr (hb _ hi) _
  · exact Mv.sl (hb _ hi) _ _ _ _
  · exact Mv.map (hb _ hi)
  · rename_i h3 h4
    exact Mv.fz hz hi
theorem unL_ok {n m : Nat} {bs : List Nat} {ρ ρ2 : Rho} (hz : ρ2.z = ρ.z) (h1 : ∀ B b, bs[B]? = some b → ρ2 b = ρ B) (h2 : ∀ B, bs.length ≤ B → B < m → ρ2 (n + (B - bs.length)) = ρ B) : ∀ {xs : List Value}, inL m xs = true → Mvs ρ ρ2 xs (unL n bs xs) := by
  intro xs
  induction xs with
  | nil => intro _; exact Mvs.nil
  | cons v t ih => intro h; simp only [inL, Bool.and_eq_true] at h; exact Mvs.cons (un0_ok h.1 hz h1 h2) (ih h.2)
theorem unV_ok {n m : Nat} {bs : List Nat} {v : Value} (hi : inV m v = true) {ρ ρ2 : Rho} (hz : ρ2.z = ρ.z) (h1 : ∀ B b, bs[B]? = some b → ρ2 b = ρ B) (h2 : ∀ B, bs.length ≤ B → B < m → ρ2 (n + (B - bs.length)) = ρ B) : Mv ρ ρ2 v (unV n bs v) := by
  unfold inV at hi
  unfold unV
  split at hi
  · exact Mv.tuple (unL_ok hz h1 h2 hi)
  · exact un0_ok hi hz h1 h2
def cellsB : List Blk → Bool
  | [] => true
  | .cells _ _ _ :: l => cellsB l
  | _ :: _ => false
noncomputable def liveL : List Value → Bool
  | [] => true
  | v :: t => !isJunk v && liveL t
noncomputable def pushL (h : Heap) : List Blk → Heap
  | [] => h
  | b :: l => pushL (h.push b) l
theorem pushL_size : ∀ {l : List Blk} {h : Heap}, (pushL h l).size = h.size + l.length := by
  intro l
  induction l with
  | nil => intro h; rfl
  | cons b l ih => intro h; simp only [pushL, ih, Heap.size_push, List.length_cons]; omega
theorem pushL_get : ∀ {l : List Blk} {h : Heap} {B : Nat}, (pushL h l).get B = if B < h.size then h.get B else l[B - h.size]? := by
  intro l
  induction l with
  | nil =>
    intro h B
    simp only [pushL]
    split
    · rfl
    · rw [Heap.get_ge (by omega)]; rfl
  | cons b l ih =>
    intro h B
    simp only [pushL, ih, Heap.size_push, Heap.get_push]
    by_cases h1 : B < h.size
    · rw [if_pos (by omega), if_neg (by omega), if_pos h1]
    · by_cases h2 : B = h.size
      · subst h2; rw [if_pos (by omega), if_pos rfl, if_neg h1, Nat.sub_self]; rfl
      · rw [if_neg (by omega), if_neg h1, show B - h.size = (B - (h.size + 1)) + 1 by omega, List.getElem?_cons_succ]
noncomputable def Ctr.K (c : Ctr) (args : List Value) (h : Heap) (K : Value → Heap → Prop) : Prop :=
  Need (cellsB ((gcB 0 args).map (blkOf h)) && liveL (rnT (gcB 0 args) args) && inV ((gcB 0 args).length + (c.new (rnT (gcB 0 args) args) ((gcB 0 args).map (blkOf h))).length) (c.val (rnT (gcB 0 args) args) ((gcB 0 args).map (blkOf h))))
    (FlatBs ((gcB 0 args).map (blkOf h)) ∧ c.pre (rnT (gcB 0 args) args) ((gcB 0 args).map (blkOf h)) ∧
      K (unV h.size (gcB 0 args) (c.val (rnT (gcB 0 args) args) ((gcB 0 args).map (blkOf h)))) (pushL h (c.new (rnT (gcB 0 args) args) ((gcB 0 args).map (blkOf h)))))
open Classical in
noncomputable def Ctr.summ (c : Ctr) : Summ where
  f := fun args h => if c.K args h fun _ _ => True then
    some (unV h.size (gcB 0 args) (c.val (rnT (gcB 0 args) args) ((gcB 0 args).map (blkOf h))), pushL h (c.new (rnT (gcB 0 args) args) ((gcB 0 args).map (blkOf h)))) else none
  K := c.K
  ok := by
    intro args h K' hk
    unfold Ctr.K at hk
    obtain ⟨q1, q2, q3, q4⟩ := Need_iff.1 hk
    exact ⟨_, _, if_pos (Need_iff.2 ⟨q1, q2, q3, trivial⟩), q4⟩
theorem Ctr.sum_ok {P : Program} {f : FuncId} {c : Ctr} (hc : c.Holds P f) : ∀ args h v h', c.summ.f args h = some (v, h') → ∀ ρ w args', Free ρ h.size h'.size → WR ρ h w → VRs ρ args args' →
    ∃ fn : Func, P.funcs[f]? = some fn ∧ fn.body.isSome = true ∧ Calls P f args'.toArray w (After P ρ h w v h') := by
  intro args h v h' e
  simp only [Ctr.summ] at e
  split at e
  case isFalse => cases e
  rename_i hk
  injection e with e
  injection e with e1 e2
  subst e1 e2
  unfold Ctr.K at hk
  generalize hbs : gcB 0 args = bs at *
  have hbo := gcB_ok 0 args
  rw [hbs] at hbo
  generalize hla : rnT bs args = la at *
  generalize hlb : bs.map (blkOf h) = lb at *
  obtain ⟨q1, q2, q3, _⟩ := Need_iff.1 hk
  simp only [Bool.and_eq_true] at q1
  obtain ⟨⟨p1, p2⟩, p3⟩ := q1
  obtain ⟨r1, r2⟩ := hc la lb q2 q3
  have hlen : lb.length = bs.length := by rw [← hlb, List.length_map]
  have hcel : ∀ B, B < bs.length → ∃ b c e o, bs[B]? = some b ∧ lb[B]? = some (.cells c e o) ∧ h.get b = some (.cells c e o) ∧ ∀ x ∈ c, fz x = true := fun B hB => by
    have hb : bs[B]? = some bs[B] := List.getElem?_eq_getElem hB
    have hl : lb[B]? = some (blkOf h bs[B]) := by rw [← hlb, List.getElem?_map, hb]; rfl
    have hall : ∀ (l : List Blk), cellsB l = true → ∀ (i : Nat) x, l[i]? = some x → ∃ c e o, x = .cells c e o := by
      intro l
      induction l with
      | nil => intro _ i x hx; simp at hx
      | cons y l ih =>
        intro hh i x hx
        cases y with
        | cells c e o =>
          cases i with
          | zero => simp at hx; exact ⟨c, e, o, hx.symm⟩
          | succ i => exact ih hh i x (by simpa using hx)
        | _ => cases hh
    obtain ⟨c, e, o, hx⟩ := hall lb p1 B _ hl
    rw [hx] at hl
    exact ⟨bs[B], c, e, o, hb, hl, blkOf_cells hx, q2.get B c e o hl⟩
  have hnd := nodupN_ok hbo.1
  have hargs : ∀ (xs : List Value), liveL (rnT bs xs) = true → ∀ ρ ρ2 : Rho, ρ2.z = ρ.z → (∀ B, B < bs.length → ρ2 B = ρ (bs.getD B B)) → Mvs ρ ρ2 xs (rnT bs xs) := by
    have hg : Nums bs (fun i => bs.getD i i) bs.length := fun i B hi => ⟨(List.getElem?_eq_some_iff.1 hi).1, by
      show bs.getD i i = B
      rw [List.getD_eq_getElem?_getD, hi]; rfl⟩
    intro xs
    induction xs with
    | nil => intro _ ρ ρ2 _ _; exact Mvs.nil
    | cons v t ih =>
      intro hh ρ ρ2 hz hρ
      simp only [rnT, liveL, Bool.and_eq_true, Bool.not_eq_true'] at hh
      rcases rnV_ok hg v with hj | ⟨_, hm⟩
      · rw [hj] at hh; cases hh.1
      · exact Mvs.cons (hm ρ ρ2 hz hρ) (ih hh.2 ρ ρ2 hz hρ)
  have hix : ∀ B b, bs[B]? = some b → (ix bs b).getD bs.length = B := fun B b hb => by
    have : ∀ (l : List Nat) (B b : Nat), l[B]? = some b → (ix l b).isSome = true := by
      intro l
      induction l with
      | nil => intro B b hh; simp at hh
      | cons x l ih =>
        intro B b hh
        simp only [ix]
        cases hxb : Nat.beq x b with
        | true => rfl
        | false =>
          cases B with
          | zero => simp at hh; subst hh; rw [Nat.beq_refl] at hxb; cases hxb
          | succ B => simpa using ih B b (by simpa using hh)
    obtain ⟨i, hi⟩ := Option.isSome_iff_exists.1 (this bs B b hb)
    rw [hi]
    exact hnd i B b (ix_some hi) hb
  refine r2.call (g := fun B => bs.getD B B) (gi := fun b => (ix bs b).getD bs.length) ⟨fun B hB => ?_, fun ρ ρ2 hz hρ => ?_⟩ ?_
  · rw [hp_size, hlen] at hB
    obtain ⟨b, c', e', o', s1, s2, s3, s4⟩ := hcel B hB
    have hgB : bs.getD B B = b := by rw [List.getD_eq_getElem?_getD, s1]; rfl
    refine ⟨?_, c', e', o', c', by rw [hp_get]; exact s2, by rw [hgB]; exact s3, fun ρ ρ2 hz _ => Mvs.fz hz s4⟩
    show (ix bs (bs.getD B B)).getD bs.length = B
    rw [hgB]; exact hix B b s1
  · rw [← hla]
    refine hargs args (by rw [hla]; exact p2) ρ ρ2 hz fun B hB => hρ B (by rw [hp_size, hlen]; exact hB)
  · rintro vl hl' ⟨rfl, rfl⟩
    refine ⟨by rw [pushL_size, hp_size, hp_size, List.length_append]; omega, by rw [hp_size, hp_size, List.length_append]; omega, fun B c' e' o' hB => ?_, fun ρ ρ2 hz h1 h2 => ?_⟩
    · rw [pushL_get] at hB
      split at hB
      · rename_i hlt
        cases hi : ix bs B with
        | some i =>
          have hbi := ix_some hi
          have hil : i < bs.length := (List.getElem?_eq_some_iff.1 hbi).1
          obtain ⟨b, c2, e2, o2, s1, s2, s3, s4⟩ := hcel i hil
          rw [hbi] at s1
          injection s1 with s1
          subst s1
          rw [hB] at s3
          injection s3 with s3
          injection s3 with t1 t2 t3
          subst t1 t2 t3
          refine .inr (.inl ⟨hlt, ?_, ?_, c', ?_, fun ρ ρ2 hz _ _ => Mvs.fz hz s4⟩)
          · show i < _
            rw [hp_size, hlen]; exact hil
          · show bs.getD i i = B
            rw [List.getD_eq_getElem?_getD, hbi]; rfl
          · show (hp _).get i = _
            rw [hp_get, List.getElem?_append_left (by omega)]; exact s2
        | none =>
          refine .inr (.inr ⟨hlt, hB, fun B0 c0 e0 o0 h0 hBB => ?_⟩)
          have hB0 := Heap.get_lt h0
          rw [hp_size, hlen] at hB0
          have hb : bs[B0]? = some B := by
            rw [← hBB, List.getElem?_eq_getElem hB0, List.getD_eq_getElem?_getD, List.getElem?_eq_getElem hB0]; rfl
          have := hix B0 B hb
          rw [hi, Option.getD_none] at this
          omega
      · rename_i hge
        refine .inl ⟨by omega, c', ?_, fun ρ ρ2 hz _ _ => Mvs.fz hz (r1.get _ c' e' o' hB)⟩
        rw [hp_get, hp_size, List.getElem?_append_right (by omega)]
        rw [show B - h.size + lb.length - lb.length = B - h.size by omega]; exact hB
    · refine unV_ok p3 hz (fun B b hb => ?_) (fun B hB hlt => ?_)
      · have hBl : B < bs.length := (List.getElem?_eq_some_iff.1 hb).1
        have := h1 B (by rw [hp_size, hlen]; exact hBl)
        rw [show bs.getD B B = b by rw [List.getD_eq_getElem?_getD, hb]; rfl] at this
        exact this
      · have := h2 B (by rw [hp_size, hlen]; exact hB) (by rw [hp_size, List.length_append, hlen]; exact hlt)
        rw [hp_size, hlen] at this
        rw [Nat.add_comm]; exact this

theorem beqV_int (n : Nat) (k : IntKind) (x : Int) : beqV (n + 1) (.int k x) (.int k x) = true := by cases k <;> simp [beqV, kindEq]
theorem beqV_if (n t : Nat) (x : Value) : beqV (n + 1) (.iface t x) (.iface t x) = true := by simp [beqV, eqvV]
theorem beqV_str (n : Nat) (s : ByteArray) : beqV (n + 1) (.string s) (.string s) = true := by simp [beqV]
theorem beqV_bool (n : Nat) (b : Bool) : beqV (n + 1) (.bool b) (.bool b) = true := by simp [beqV]
theorem beqV_flt (n : Nat) (k : FloatKind) (b : Nat) : beqV (n + 1) (.float k b) (.float k b) = true := by simp [beqV]
theorem beqAddr_rfl (a : Option Addr) : beqAddr a a = true := by
  cases a with
  | none => rfl
  | some a =>
    obtain ⟨b, o, s⟩ := a
    cases s <;> simp [beqAddr]
theorem beqV_ptr (n : Nat) (a : Option Addr) : beqV (n + 1) (.pointer a) (.pointer a) = true := by simp [beqV, beqAddr_rfl]
theorem beqV_sl (n : Nat) (a : Option Addr) (l c : Nat) : beqV (n + 1) (.slice a l c) (.slice a l c) = true := by simp [beqV, beqAddr_rfl]
theorem eqS_rfl (a : ByteArray) : eqS a a = true := by simp [eqS]
theorem eqS_iff {a b : ByteArray} : eqS a b = true ↔ a = b := by
  unfold eqS
  rw [beq_iff_eq]
  exact ⟨fun h => by
    obtain ⟨⟨a⟩⟩ := a
    obtain ⟨⟨b⟩⟩ := b
    simp at h; rw [h], fun h => by rw [h]⟩

/-- a book out of contracts -/
noncomputable def bookOf : List (FuncId × Ctr) → Book
  | [], _ => none
  | (g, c) :: l, f => cond (Nat.beq g f) (some c.summ) (bookOf l f)
def AllHold (P : Program) : List (FuncId × Ctr) → Prop
  | [] => True
  | (g, c) :: l => c.Holds P g ∧ AllHold P l
theorem bookOf_ok {P : Program} : ∀ {l : List (FuncId × Ctr)}, AllHold P l → SumsOk P (bookOf l).sums := by
  intro l hl f s hs
  have : ∀ {l : List (FuncId × Ctr)}, AllHold P l → ∀ x : Summ, bookOf l f = some x → ∃ c : Ctr, c.Holds P f ∧ x = c.summ := by
    intro l
    induction l with
    | nil => intro _ x hx; cases hx
    | cons p l ih =>
      obtain ⟨g, c⟩ := p
      intro hh x hx
      simp only [bookOf] at hx
      cases hb : Nat.beq g f with
      | true =>
        rw [hb, cond_true] at hx
        injection hx with hx
        obtain rfl := Nat.eq_of_beq_eq_true hb
        exact ⟨c, hh.1, hx.symm⟩
      | false => rw [hb, cond_false] at hx; exact ih hh.2 x hx
  unfold Book.sums at hs
  cases hx : bookOf l f with
  | none => rw [hx] at hs; cases hs
  | some x =>
    rw [hx] at hs
    injection hs with hs
    obtain ⟨c, hc, rfl⟩ := this hl x hx
    subst hs
    exact fun args h v h' e ρ w args' q1 q2 q3 => .inl (c.sum_ok hc args h v h' e ρ w args' q1 q2 q3)
end Go.Proofs.Ytfgiifppapopnaa.AM

namespace Go.Proofs.Ytfgiifppapopnaa.AM
/-! ### places where a state is named: cuts and loops -/
def beqL : List Nat → List Nat → Bool
  | [], [] => true
  | a :: l, b :: m => Nat.beq a b && beqL l m
  | _, _ => false
theorem beqL_eq : ∀ {l m : List Nat}, beqL l m = true → l = m := by
  intro l
  induction l with
  | nil => intro m h; cases m with
    | nil => rfl
    | cons => cases h
  | cons a l ih =>
    intro m h
    cases m with
    | nil => cases h
    | cons b m => simp only [beqL, Bool.and_eq_true] at h; rw [Nat.eq_of_beq_eq_true h.1, ih h.2]
structure Cut where
  p : List Nat
  t : List Value
  h : Heap
  Q : Post → Prop
noncomputable def cutLK : List Cut → LoopK
  | [], _, _, _, _ => False
  | c :: r, p, t, h, K => cond (beqL p c.p) (t = c.t ∧ h = c.h ∧ c.Q K) (cutLK r p t h K)
theorem Loops.none {P : Program} {root : Code} {k : Nat} : Loops P root k (cutLK []) := fun _ _ _ _ h => h.elim
theorem Loops.more {P : Program} {root : Code} {k : Nat} {r : List Cut} (hr : Loops P root k (cutLK r)) (c : Cut) (hs : ∀ K, c.Q K → LoopOr P k (sub root c.p) c.t c.h K) : Loops P root k (cutLK (c :: r)) := fun p t h K hk => by
  simp only [cutLK] at hk
  cases hb : beqL p c.p with
  | true =>
    rw [hb, cond_true] at hk
    obtain ⟨rfl, rfl, hq⟩ := hk
    rw [beqL_eq hb]
    exact hs K hq
  | false => rw [hb, cond_false] at hk; exact hr p t h K hk
/-- from a cut on -/
theorem Sure.cut {P : Program} {S : Book} {LK : LoopK} {root : Code} {k : Nat} (s : Sure P S) (F : List Nat → Option (List Nat)) (hL : Loops P root k LK) {p : List Nat} {t : List Value} {h : Heap} {K : Post}
    (hk : roundK P S LK F root k [] p t h (fun e t' h' => FlatH h' ∧ match e with | .normal => False | e => K e t' h')) : Says P k (sub root p) t h K := by
  have h0 := codeK_ok s.mixed s.plain s.sums hL 200 p _ t h _ rfl hk
  intro ρ a w Q hkh ht r hs0 hQ
  refine h0 ρ a w Q hkh ht r hs0 fun e t1 h1 ρ1 a1 w1 hK ht1 r1 f1 hs1 hd1 => ?_
  have main : FlatH (gcH k none t1 h1) ∧ K e (gcT k none t1) (gcH k none t1 h1) → Q (exitOf e) a1 w1 := fun ⟨hf, hK⟩ => by
    obtain ⟨ρ2, q1, q2, q3, q4⟩ := (Ren.bs (k := k) (t := t1) (gcB_ok k _).1 (gcB_ok k _).2 hf).move ht1 r1 hs1
    exact hQ e _ _ ρ2 a1 w1 hK q1 q2 (f1.trans q3) q4 hd1
  cases e with
  | normal => exact hK.2.elim
  | exit id => exact main hK
  | ret => exact main hK
end Go.Proofs.Ytfgiifppapopnaa.AM

namespace Go.Proofs.Ytfgiifppapopnaa.AM
open Go.RowKit
/-! ### a closed run as a contract -/
noncomputable def isTrueR : Option (Value × Heap) → Bool
  | some (.bool true, _) => true
  | _ => false
theorem isTrueR_ok {r : Option (Value × Heap)} (h : isTrueR r = true) : ∃ h', r = some (.bool true, h') := by
  unfold isTrueR at h
  split at h
  · exact ⟨_, rfl⟩
  · cases h
theorem FunSays.of_run {P : Program} (hm : P.follows .mixedOrders = true) (hp0 : Plain P) {n : Nat} {f : FuncId} {fn : Func} (hf : P.funcs[f]? = some fn) (hb : fn.body.isSome = true) (hr : isTrueR (acall P (fun _ => none) n f [] Heap.empty) = true) :
    FunSays P f [] (hp []) fun v h' => v = .bool true ∧ h' = hp [] := by
  obtain ⟨h1, h2⟩ := isTrueR_ok hr
  refine FunSays.ren (K := fun v h' => v = .bool true) ⟨fn, hf, hb, fun ρ w args' ht r ha => ?_⟩ fun v h' hv => ?_
  · have hargs : args' = [] := by
      have := ha.1
      cases args' with
      | nil => rfl
      | cons => simp at this
    subst hargs
    have hρ : ∀ B, ρ B = none := fun B => ht B (by rw [hp_size]; exact Nat.zero_le _)
    rcases acall_ok hm hp0 (S := fun _ => none) (fun f s hs => by cases hs) n f [] Heap.empty (.bool true) h1 h2 ρ w [] (fun B _ _ => hρ B) (by
      have := WR.empty w
      refine ⟨fun B cs e own hb => ?_, fun B1 B2 c1 e1 c2 e2 w2 l1 l2 hb => ?_, fun b o hz => ⟨(r.zok b o hz).1, ⟨fun ⟨B, l, cs, e, h1, _, _⟩ => (by rw [Heap.get_ge (Nat.zero_le _)] at h1; cases h1), fun _ ⟨B, l, cs, e, o, h1, _, _⟩ => by rw [Heap.get_ge (Nat.zero_le _)] at h1; cases h1⟩⟩⟩
      · rw [Heap.get_ge (Nat.zero_le _)] at hb; cases hb
      · rw [Heap.get_ge (Nat.zero_le _)] at hb; cases hb) (VRs.nil _) with ⟨fn', _, _, hc⟩ | ⟨_, _, hq⟩
    · refine hc.mono ?_
      rintro e w' ⟨ρ', v', rfl, r', f', hv'⟩
      refine ⟨.bool true, h1, ρ', v', rfl, rfl, fun B hB => ?_, r', ?_, hv'⟩
      · rw [f'.new B hB]; exact hρ B
      · exact Frk.of f' (by rw [hp_size]; exact Nat.zero_le _)
    · exfalso
      have := hq
      rw [run_callFunc_enter hp0 hf hb] at this
      cases this
  · subst hv
    have := Ren.bs (k := 0) (t := [.bool true]) (h := h') (bs := []) rfl rfl FlatH.empty
    exact ⟨_, _, _, this, rfl, rfl, rfl⟩
end Go.Proofs.Ytfgiifppapopnaa.AM

namespace Go.Proofs.Ytfgiifppapopnaa.AM
open Go.RowKit
/-! ### a call from outside: its arguments as blocks that are not ours -/
/-- all that is there is told as frozen -/
def rhoL (W : World) (locs : List (Option Loc)) : Rho := ⟨fun B => (locs[B]?).getD none, fun b => (W.heap[b]?).map .obj⟩
theorem rhoL_at (W : World) (locs : List (Option Loc)) (B : Nat) : rhoL W locs B = (locs[B]?).getD none := rfl
/-- where the slices stand that are handed in (none: a nil slice) -/
def Stands (W : World) (locs : List (Option Loc)) (blks : List Blk) : Prop := locs.length = blks.length ∧ ∀ (i : Nat) b, blks[i]? = some b → ∃ cs e, b = .cells cs e false ∧ ((cs = [] ∧ rhoL W locs i = none) ∨ ∃ l, rhoL W locs i = some l ∧ CR (rhoL W locs) W l cs e false)
theorem Stands.nil {W : World} : Stands W [] [] := ⟨rfl, fun i b h => by simp at h⟩
/-- a slice's row in the world -/
structure Row (W : World) (x : Addr) (cs : List Value) : Prop where
  spot : x.spot = none
  blk : ∃ c ty fr, W.heap[x.block]? = some (.cells c ty fr) ∧ ∀ (i : Nat) v, cs[i]? = some v → c[x.off + i]? = some v
  flat : FlatL cs
  hard : ∀ v ∈ cs, Go.Proofs.Ytfgiifppapopnaa.AM.flat v = true
theorem rhoL_sub (W : World) (locs : List (Option Loc)) (o : Option Loc) : Sub (rhoL W locs) (rhoL W (locs ++ [o])) := ⟨fun B l hl => by
  rw [rhoL_at] at hl ⊢
  cases hg : locs[B]? with
  | none => rw [hg] at hl; cases hl
  | some q => rw [hg] at hl; rw [List.getElem?_append_left (List.getElem?_eq_some_iff.1 hg).1, hg]; exact hl, fun _ _ h => h⟩
theorem rhoL_last (W : World) (locs : List (Option Loc)) (o : Option Loc) : rhoL W (locs ++ [o]) locs.length = o := by
  unfold rhoL; simp
theorem rhoL_old (W : World) (locs : List (Option Loc)) (o : Option Loc) {B : Nat} (hB : B < locs.length) : rhoL W (locs ++ [o]) B = rhoL W locs B := by
  rw [rhoL_at, rhoL_at, List.getElem?_append_left hB]
theorem VRs.more {W : World} {locs : List (Option Loc)} {xs ys : List Value} (h : VRs (rhoL W locs) xs ys) (o : Option Loc) : VRs (rhoL W (locs ++ [o])) xs ys := h.mono (rhoL_sub W locs o)
theorem VR.more {W : World} {locs : List (Option Loc)} {xs ys : Value} (h : VR (rhoL W locs) xs ys) (o : Option Loc) : VR (rhoL W (locs ++ [o])) xs ys := h.mono (rhoL_sub W locs o)
theorem Stands.arg {W : World} {locs : List (Option Loc)} {blks : List Blk} (s : Stands W locs blks) {a : Option Addr} {len cap : Nat} {cs : List Value} (e : Nat) (h : (a = none ∧ len = 0 ∧ cap = 0 ∧ cs = []) ∨ ∃ x, a = some x ∧ len ≤ cap ∧ Row W x cs) (he : e ≠ 0 := by decide) :
    ∃ o : Option Loc, Stands W (locs ++ [o]) (blks ++ [.cells cs e false]) ∧ VR (rhoL W (locs ++ [o])) (.slice (some ⟨blks.length, 0, some 2⟩) len cap) (.slice a len cap) := by
  obtain ⟨h1, h2⟩ := s
  have old : ∀ (o : Option Loc) (i : Nat) b, i < blks.length → blks[i]? = some b → ∃ cs e, b = .cells cs e false ∧ ((cs = [] ∧ rhoL W (locs ++ [o]) i = none) ∨ ∃ l, rhoL W (locs ++ [o]) i = some l ∧ CR (rhoL W (locs ++ [o])) W l cs e false) := fun o i b hi hb => by
    obtain ⟨cs', e', rfl, q⟩ := h2 i b hb
    refine ⟨cs', e', rfl, ?_⟩
    rw [rhoL_old W locs o (by omega)]
    rcases q with q | ⟨l, q, c⟩
    · exact .inl q
    · exact .inr ⟨l, q, c.mono (rhoL_sub W locs o) rfl⟩
  have last : ∀ (i : Nat) b, ¬ i < blks.length → (blks ++ [(.cells cs e false : Blk)])[i]? = some b → i = locs.length ∧ b = .cells cs e false := fun i b hi hb => by
    rw [List.getElem?_append_right (by omega)] at hb
    have := (List.getElem?_eq_some_iff.1 hb).1
    simp at this
    have hi0 : i - blks.length = 0 := by omega
    rw [hi0] at hb
    simp at hb
    exact ⟨by omega, hb.symm⟩
  rcases h with ⟨rfl, rfl, rfl, rfl⟩ | ⟨x, rfl, hl, r⟩
  · refine ⟨none, ⟨by simp [h1], fun i b hb => ?_⟩, .nl _ _ _ _ rfl (fun h => by cases h)⟩
    by_cases hlt : i < blks.length
    · rw [List.getElem?_append_left hlt] at hb; exact old none i b hlt hb
    · obtain ⟨rfl, rfl⟩ := last i b hlt hb
      exact ⟨[], e, rfl, .inl ⟨rfl, rhoL_last W locs none⟩⟩
  · obtain ⟨c, ty, fr, q1, q2⟩ := r.blk
    have hf := r.hard
    refine ⟨some ⟨x.block, x.off, c.size, e, false⟩, ⟨by simp [h1], fun i b hb => ?_⟩, ?_⟩
    · by_cases hlt : i < blks.length
      · rw [List.getElem?_append_left hlt] at hb; exact old _ i b hlt hb
      · obtain ⟨rfl, rfl⟩ := last i b hlt hb
        refine ⟨cs, e, rfl, .inr ⟨_, rhoL_last W locs _, rfl, rfl, fun _ => ⟨c, ty, fr, q1, rfl, fun hh => (by cases hh), fun i v hv => ?_⟩, fun h0 => absurd h0 he⟩⟩
        exact ⟨v, q2 i v hv, flat_refl (hf v (List.mem_of_getElem? hv))⟩
    · obtain ⟨xb, xo, xs⟩ := x
      obtain rfl : xs = none := r.spot
      rw [← h1]
      exact .sl _ _ _ _ _ cap _ _ (rhoL_last W locs _) (.inl rfl) (Nat.le_refl _) (fun _ => rfl) (fun hh => by cases hh) hl
theorem FunSays.entry {P : Program} {f : FuncId} {args : List Value} {blks : List Blk} {v : Value} (hv : atom v = true) (hs : FunSays P f args (hp blks) fun r _ => r = v) {W : World} {args' : List Value} {locs : List (Option Loc)} (st : Stands W locs blks)
    (ha : VRs (rhoL W locs) args args') : Calls P f args'.toArray W (fun e W' => e = .returned v ∧ Below W.heap.size W W') := by
  obtain ⟨fn, _, _, h3⟩ := hs
  obtain ⟨s1, s2⟩ := st
  have hno : ∀ b, ¬ Own (rhoL W locs) (hp blks) b := fun b ⟨B, l, cs, e, hb, _, _⟩ => by
    rw [hp_get] at hb
    obtain ⟨cs', e', hh, _⟩ := s2 B _ hb
    cases hh
  have wr : WR (rhoL W locs) (hp blks) W := by
    refine ⟨fun B cs e own hb => ?_, fun B1 B2 c1 e1 c2 e2 w2 l1 l2 hb1 hb2 hl1 hl2 he => ?_, fun b q hz => ?_⟩
    · rw [hp_get] at hb
      obtain ⟨cs', e', hh, q⟩ := s2 B _ hb
      injection hh with a b c
      subst a b c
      exact q
    · exact absurd ⟨B1, l1, c1, e1, hb1, hl1, rfl⟩ (hno l1.blk)
    · obtain ⟨o, ho, rfl⟩ := Option.map_eq_some_iff.1 (show (W.heap[b]?).map Zb.obj = some q from hz)
      exact ⟨ho, hno b, fun ⟨T, m⟩ => by rw [show (rhoL W locs).z b = some (.obj o) from hz] at m; cases m⟩
  refine (h3 (rhoL W locs) W args' (fun B hB => ?_) wr ha).mono ?_
  · rw [hp_size] at hB
    rw [rhoL_at, List.getElem?_eq_none (by omega)]; rfl
  · rintro e w' ⟨r, h', ρ', v', rfl, rfl, ht', r', f', hv'⟩
    refine ⟨?_, f'.os, f'.tape, f'.output, f'.ws, fun k hk => (f'.keep k hk (hno k)).1.resolve_right fun ⟨T, m⟩ => by
      obtain ⟨o, ho, hh⟩ := Option.map_eq_some_iff.1 (show (W.heap[k]?).map Zb.obj = some (.memo T) from m)
      cases hh⟩
    cases hv' <;> first | rfl | (cases hv)
end Go.Proofs.Ytfgiifppapopnaa.AM

namespace Go.Proofs.Ytfgiifppapopnaa.AM
open Go.ChangeShapes Go.WideShapes Go.RowKit
/-! ### slices that are handed in, as rows -/
theorem row_of {P : Program} {W : World} {r : Reach} {b0 : Nat} {t e : TypeId} {x : Addr} {len cap : Nat} (ht : P.underlying t = some (.slice e)) (hval : Value.okWide P W r b0 t (.slice (some x) len cap)) :
    x.spot = none ∧ len ≤ cap ∧ ∃ c ty fr, W.heap[x.block]? = some (.cells c ty fr) := by
  simp only [Value.okWide, ht, Cell.okWide, Cell.ok] at hval
  obtain ⟨h1, _, _, h2, row, cells, h3, _⟩ := hval
  refine ⟨h2, h1, ?_⟩
  unfold World.shape? at h3
  split at h3
  · rename_i c ty fr hh; exact ⟨c, ty, fr, hh⟩
  · cases h3
theorem Row.of {W : World} {x : Addr} {cs : List Value} (h1 : x.spot = none) (h2 : ∃ c ty fr, W.heap[x.block]? = some (.cells c ty fr)) (hc : ∀ (i : Nat) v, cs[i]? = some v → W.cell? (x.add i) = some v) (hf : ∀ v ∈ cs, Go.Proofs.Ytfgiifppapopnaa.AM.flat v = true) : Row W x cs := by
  obtain ⟨c, ty, fr, hh⟩ := h2
  refine ⟨h1, ⟨c, ty, fr, hh, fun i v hv => ?_⟩, ⟨fun v hv => flat_fz (hf v hv)⟩, hf⟩
  have := hc i v hv
  have hs : (x.add i).spot = none := by unfold Addr.add; split <;> first | exact h1 | rfl
  have hb : (x.add i).block = x.block := by unfold Addr.add; split <;> rfl
  have ho : (x.add i).off = x.off + i := by unfold Addr.add; split <;> simp_all
  unfold World.cell? at this
  rw [hb, hh] at this
  simp only [hs, Option.isSome_none, Bool.false_eq_true, if_false, ho] at this
  exact this
theorem row_ints {P : Program} {W : World} {H : Type} {enc : TypeId × Value → H} {r : Reach} {b0 : Nat} {t e : TypeId} {k : IntKind} {a : Option Addr} {len cap : Nat} {d : DataW H} {ps : List MemPlace} (ht : P.underlying t = some (.slice e)) (he : P.underlying e = some (.int k)) (hc : P.cellsOf e = 1)
    (hval : Value.okWide P W r b0 t (.slice a len cap)) (hd : DataW.Trod enc P W 0 (fun _ => true) true t (.slice a len cap) d ps) :
    (a = none ∧ len = 0 ∧ cap = 0) ∨ ∃ (x : Addr) (zs : List Int), a = some x ∧ len ≤ cap ∧ zs.length = cap ∧ (∀ n ∈ zs, (Lit.int k n).wf = true) ∧ cap ≤ maxLen ∧ Row W x (zs.map (Value.int k)) := by
  obtain ⟨fuel, hf⟩ := hd
  rcases open_ints ht he hc hf with ⟨hcs, _⟩ | ⟨x, l, c, zs, hcs, _, hl, hm, hz, _, hcell, hwz⟩
  · simp [Value.cells] at hcs
    exact .inl hcs
  · simp [Value.cells] at hcs
    obtain ⟨rfl, rfl, rfl⟩ := hcs
    obtain ⟨q1, q2, q3⟩ := row_of ht hval
    refine .inr ⟨x, zs, rfl, q2, by simpa using hz, hwz, hm, Row.of q1 q3 (fun i v hv => ?_) fun v hv => ?_⟩
    · rw [List.getElem?_map] at hv
      obtain ⟨n, hn, rfl⟩ := Option.map_eq_some_iff.1 hv
      rw [hcell i (List.getElem?_eq_some_iff.1 hn).1, List.getD_eq_getElem?_getD, hn]; rfl
    · obtain ⟨n, _, rfl⟩ := List.mem_map.1 hv; rfl
theorem row_strs {P : Program} {W : World} {H : Type} {enc : TypeId × Value → H} {r : Reach} {b0 : Nat} {t e : TypeId} {a : Option Addr} {len cap : Nat} {d : DataW H} {ps : List MemPlace} (ht : P.underlying t = some (.slice e)) (he : P.underlying e = some .string) (hc : P.cellsOf e = 1)
    (hval : Value.okWide P W r b0 t (.slice a len cap)) (hd : DataW.Trod enc P W 0 (fun _ => true) true t (.slice a len cap) d ps) :
    (a = none ∧ len = 0 ∧ cap = 0) ∨ ∃ (x : Addr) (ss : List ByteArray), a = some x ∧ len ≤ cap ∧ ss.length = cap ∧ (∀ s ∈ ss, s.size ≤ maxLen) ∧ cap ≤ maxLen ∧ Row W x (ss.map Value.string) := by
  obtain ⟨fuel, hf⟩ := hd
  rcases open_strings ht he hc hf with ⟨hcs, _⟩ | ⟨x, l, c, zs, hcs, _, hl, hm, hz, _, hcell, hwz⟩
  · simp [Value.cells] at hcs
    exact .inl hcs
  · simp [Value.cells] at hcs
    obtain ⟨rfl, rfl, rfl⟩ := hcs
    obtain ⟨q1, q2, q3⟩ := row_of ht hval
    refine .inr ⟨x, zs, rfl, q2, by simpa using hz, hwz, hm, Row.of q1 q3 (fun i v hv => ?_) fun v hv => ?_⟩
    · rw [List.getElem?_map] at hv
      obtain ⟨n, hn, rfl⟩ := Option.map_eq_some_iff.1 hv
      rw [hcell i (List.getElem?_eq_some_iff.1 hn).1, List.getD_eq_getElem?_getD, hn]; rfl
    · obtain ⟨n, _, rfl⟩ := List.mem_map.1 hv; rfl
end Go.Proofs.Ytfgiifppapopnaa.AM
namespace Go.Proofs.Ytfgiifppapopnaa.AM
open Go.ChangeShapes Go.WideShapes Go.RowKit
theorem Addr.add_add {a : Addr} (h : a.spot = none) (m k : Nat) : (a.add m).add k = a.add (m + k) := by
  obtain ⟨b, o, s⟩ := a
  simp only at h
  subst h
  unfold Addr.add
  by_cases hm : m = 0 <;> by_cases hk : k = 0 <;> simp [hm, hk, Nat.add_assoc]
theorem flatten_get {n : Nat} : ∀ {L : List (List Value)}, (∀ c ∈ L, c.length = n) → ∀ (i : Nat) v, L.flatten[i]? = some v → 0 < n → ∃ c, L[i / n]? = some c ∧ c[i % n]? = some v := by
  intro L
  induction L with
  | nil => intro _ i v h; simp at h
  | cons c L ih =>
    intro hL i v h hn
    have hc := hL c (by simp)
    rw [List.flatten_cons] at h
    by_cases hi : i < n
    · rw [List.getElem?_append_left (by omega)] at h
      exact ⟨c, by rw [Nat.div_eq_of_lt hi]; rfl, by rw [Nat.mod_eq_of_lt hi]; exact h⟩
    · rw [List.getElem?_append_right (by omega), hc] at h
      obtain ⟨d, h1, h2⟩ := ih (fun c hc => hL c (by simp [hc])) (i - n) v h hn
      have e1 : i / n = (i - n) / n + 1 := by rw [← Nat.sub_add_cancel (show n ≤ i by omega), Nat.add_div_right _ hn]; simp
      have e2 : i % n = (i - n) % n := by rw [← Nat.sub_add_cancel (show n ≤ i by omega), Nat.add_mod_right]; simp
      exact ⟨d, by rw [e1, List.getElem?_cons_succ]; exact h1, by rw [e2]; exact h2⟩
theorem mapM_get {α β : Type} {f : α → Option β} : ∀ {l : List α} {r : List β}, l.mapM f = some r → r.length = l.length ∧ ∀ (j : Nat) a, l[j]? = some a → f a = r[j]? := by
  intro l
  induction l with
  | nil => intro r h; simp at h; subst h; exact ⟨rfl, fun j a hj => by simp at hj⟩
  | cons x l ih =>
    intro r h
    rw [List.mapM_cons] at h
    simp only [Option.bind_eq_bind, Option.bind_eq_some_iff] at h
    obtain ⟨y, hy, ys, hys, he⟩ := h
    injection he with he
    subst he
    obtain ⟨h1, h2⟩ := ih hys
    refine ⟨by simp [h1], fun j a hj => ?_⟩
    cases j with
    | zero => simp at hj; subst hj; simpa using hy
    | succ j => simpa using h2 j a (by simpa using hj)
/-- a slice of elements of n cells each, none of which holds an address -/
theorem row_elems {P : Program} {W : World} {H : Type} {enc : TypeId × Value → H} {r : Reach} {b0 : Nat} {t e : TypeId} {a : Option Addr} {len cap n : Nat} {d : DataW H} {ps : List MemPlace} (Good : List Value → Prop) (ht : P.underlying t = some (.slice e)) (hn0 : 0 < n) (hc : P.cellsOf e = n)
    (hg : ∀ fuel cs y, DataW.trod enc P W 0 (fun _ => true) true fuel e cs = some y → cs.length = n → Good cs ∧ ∀ x ∈ cs, flat x = true)
    (hval : Value.okWide P W r b0 t (.slice a len cap)) (hd : DataW.Trod enc P W 0 (fun _ => true) true t (.slice a len cap) d ps) :
    (a = none ∧ len = 0 ∧ cap = 0) ∨ ∃ (x : Addr) (L : List (List Value)), a = some x ∧ len ≤ cap ∧ cap ≤ maxLen ∧ L.length = cap ∧ (∀ c ∈ L, c.length = n ∧ Good c) ∧ Row W x L.flatten := by
  obtain ⟨fuel, hf⟩ := hd
  rcases DataW.trod_slice ht hf with ⟨hcs, _⟩ | ⟨x, l, c, elems, rest, m, _, hcs, _, _, hl, hm, hlen, hel, hsp, _⟩
  · simp [Value.cells] at hcs
    exact .inl hcs
  · simp [Value.cells] at hcs
    obtain ⟨rfl, rfl, rfl⟩ := hcs
    obtain ⟨q1, q2, q3⟩ := row_of ht hval
    obtain ⟨s1, s2⟩ := hsp rfl
    have each : ∀ i, i < cap → ∃ cs y, W.cells? 0 (x.add (i * n)) n = some cs ∧ DataW.trod enc P W 0 (fun _ => true) true m e cs = some y := fun i hi => by
      by_cases hlt : i < len
      · have := hel i hlt
        rw [hc, List.getElem?_eq_getElem (by omega), Option.bind_eq_some_iff] at this
        obtain ⟨cs, h1, h2⟩ := this
        exact ⟨cs, _, h1, h2⟩
      · have := s2 (i - len) (by omega)
        rw [hc, show len + (i - len) = i by omega, List.getElem?_eq_getElem (by omega), Option.bind_eq_some_iff] at this
        obtain ⟨cs, h1, h2⟩ := this
        exact ⟨cs, _, h1, h2⟩
    have hcl : ∀ i cs, W.cells? 0 (x.add (i * n)) n = some cs → cs.length = n ∧ ∀ j v, cs[j]? = some v → W.cell? (x.add (i * n + j)) = some v := fun i cs h => by
      unfold World.cells? at h
      rw [if_pos (Nat.zero_le _)] at h
      obtain ⟨hlen, hget⟩ := mapM_get h
      rw [List.length_range] at hlen
      refine ⟨hlen, fun j v hj => ?_⟩
      have hjn : j < n := by rw [← hlen]; exact (List.getElem?_eq_some_iff.1 hj).1
      have := hget j j (by rw [List.getElem?_range hjn])
      rw [Addr.add_add q1] at this
      rw [this, hj]
    have choose : ∃ L : List (List Value), L.length = cap ∧ ∀ i, i < cap → ∃ cs y, L[i]? = some cs ∧ W.cells? 0 (x.add (i * n)) n = some cs ∧ DataW.trod enc P W 0 (fun _ => true) true m e cs = some y := by
      refine ⟨(List.range cap).map fun i => (W.cells? 0 (x.add (i * n)) n).getD [], by simp, fun i hi => ?_⟩
      obtain ⟨cs, y, h1, h2⟩ := each i hi
      exact ⟨cs, y, by rw [List.getElem?_map, List.getElem?_range hi, Option.map_some, h1]; rfl, h1, h2⟩
    obtain ⟨L, hL, hL2⟩ := choose
    have hgood : ∀ c ∈ L, c.length = n ∧ Good c ∧ ∀ x ∈ c, flat x = true := fun c hcm => by
      obtain ⟨i, hi⟩ := List.getElem?_of_mem hcm
      have hlt := (List.getElem?_eq_some_iff.1 hi).1
      obtain ⟨cs, y, h1, h2, h3⟩ := hL2 i (by omega)
      rw [hi] at h1; injection h1 with h1; subst h1
      obtain ⟨z1, z2⟩ := hcl i c h2
      exact ⟨z1, hg _ _ _ h3 z1⟩
    refine .inr ⟨x, L, rfl, q2, hm, hL, fun c hcm => ⟨(hgood c hcm).1, (hgood c hcm).2.1⟩, Row.of q1 q3 (fun i v hv => ?_) fun v hv => ?_⟩
    · obtain ⟨c, h1, h2⟩ := flatten_get (fun c hcm => (hgood c hcm).1) i v hv hn0
      have hlt := (List.getElem?_eq_some_iff.1 h1).1
      obtain ⟨cs, y, h3, h4, _⟩ := hL2 (i / n) (by omega)
      rw [h1] at h3; injection h3 with h3; subst h3
      have := (hcl _ _ h4).2 (i % n) v h2
      rw [Nat.mul_comm, Nat.div_add_mod] at this
      exact this
    · obtain ⟨c, h1, h2⟩ := List.mem_flatten.1 hv
      exact (hgood c h1).2.2 v h2
end Go.Proofs.Ytfgiifppapopnaa.AM

namespace Go.Proofs.Ytfgiifppapopnaa.AM
/-! ### blocks that hold addresses: a state under other numbers, where it is told which blocks are to be looked into (D: their new numbers) -/
noncomputable def deepB (h : Heap) : List Nat → List Nat → List Nat
  | [], bs => bs
  | d :: D, bs => deepB h D (match getO bs d with
    | some b => match h.get b with
      | some (.cells c _ _) => adT bs c
      | _ => bs
    | none => bs)
noncomputable def gcBD (D : List Nat) (k : Nat) (t : List Value) (h : Heap) : List Nat := cond (nodupN (deepB h D (adT (uptoN k 0) t)) && lowN k 0 (deepB h D (adT (uptoN k 0) t))) (deepB h D (adT (uptoN k 0) t)) (uptoN k 0)
theorem gcBD_ok (D : List Nat) (k : Nat) (t : List Value) (h : Heap) : nodupN (gcBD D k t h) = true ∧ lowN k 0 (gcBD D k t h) = true := by
  unfold gcBD
  cases hc : (nodupN (deepB h D (adT (uptoN k 0) t)) && lowN k 0 (deepB h D (adT (uptoN k 0) t))) with
  | true => simpa using hc
  | false => exact ⟨nodupN_upto k 0, lowN_upto k 0⟩
def memN (D : List Nat) (i : Nat) : Bool := (ix D i).isSome
noncomputable def rnBk (bs : List Nat) (b : Blk) : Blk := match b with
  | .cells c e o => .cells (rnT bs c) e o
  | .dead => .dead
noncomputable def rnBs (D bs : List Nat) : Nat → List Blk → List Blk
  | _, [] => []
  | i, b :: l => cond (memN D i) (rnBk bs b) b :: rnBs D bs (i + 1) l
theorem rnBs_get {D bs : List Nat} : ∀ {l : List Blk} {i j : Nat}, (rnBs D bs i l)[j]? = (l[j]?).map fun b => cond (memN D (i + j)) (rnBk bs b) b := by
  intro l
  induction l with
  | nil => intro i j; simp [rnBs]
  | cons b l ih =>
    intro i j
    cases j with
    | zero => simp [rnBs]
    | succ j => simp only [rnBs, List.getElem?_cons_succ, ih]; rw [show i + 1 + j = i + (j + 1) by omega]
theorem rnBs_len {D bs : List Nat} : ∀ {l : List Blk} {i : Nat}, (rnBs D bs i l).length = l.length := by
  intro l
  induction l with
  | nil => intro i; rfl
  | cons b l ih => intro i; simp [rnBs, ih]
noncomputable def nojL : List Value → Bool
  | [] => true
  | v :: t => !isJunk v && nojL t
theorem nojL_get : ∀ {l : List Value}, nojL l = true → ∀ x ∈ l, isJunk x = false := by
  intro l
  induction l with
  | nil => intro _ x hx; simp at hx
  | cons v t ih =>
    intro h x hx
    simp only [nojL, Bool.and_eq_true, Bool.not_eq_true'] at h
    rcases List.mem_cons.1 hx with rfl | hx
    · exact h.1
    · exact ih h.2 x hx
/-- the blocks in D hold no junk, the others no address -/
def FlatBD (D : List Nat) : Nat → List Blk → Prop
  | _, [] => True
  | i, .cells c _ _ :: l => cond (memN D i) (nojL c = true) (FlatL c) ∧ FlatBD D (i + 1) l
  | i, .dead :: l => FlatBD D (i + 1) l
theorem FlatBD.get {D : List Nat} : ∀ {l : List Blk} {i : Nat}, FlatBD D i l → ∀ (B : Nat) c e o, l[B]? = some (.cells c e o) → (memN D (i + B) = true → ∀ x ∈ c, isJunk x = false) ∧ (memN D (i + B) = false → ∀ x ∈ c, fz x = true) := by
  intro l
  induction l with
  | nil => intro i _ B c e o h; simp at h
  | cons b l ih =>
    intro i hf B c e o h
    cases B with
    | zero =>
      simp at h
      subst h
      obtain ⟨q, _⟩ := hf
      refine ⟨fun hm => ?_, fun hm => ?_⟩
      · rw [Nat.add_zero] at hm; rw [hm, cond_true] at q; exact nojL_get q
      · rw [Nat.add_zero] at hm; rw [hm, cond_false] at q; exact q.1
    | succ B =>
      simp at h
      rw [show i + (B + 1) = i + 1 + B by omega]
      cases b with
      | cells => exact ih hf.2 B c e o h
      | dead => exact ih hf B c e o h
structure FlatD (D : List Nat) (h : Heap) : Prop where
  get : ∀ B c e o, h.get B = some (.cells c e o) → (memN D B = true → ∀ x ∈ c, isJunk x = false) ∧ (memN D B = false → ∀ x ∈ c, fz x = true)
theorem FlatD.hp {D : List Nat} {l : List Blk} (h : FlatBD D 0 l) : FlatD D (Go.Proofs.Ytfgiifppapopnaa.AM.hp l) := ⟨fun B c e o hb => by
  rw [hp_get] at hb
  have := h.get B c e o hb
  rw [Nat.zero_add] at this; exact this⟩
theorem nums_of (bs : List Nat) : Nums bs (fun i => bs.getD i i) bs.length := fun i B hi => ⟨(List.getElem?_eq_some_iff.1 hi).1, by
  show bs.getD i i = B
  rw [List.getD_eq_getElem?_getD, hi]; rfl⟩
theorem rnT_mvs {bs : List Nat} {g : Nat → Nat} {n : Nat} (hg : Nums bs g n) : ∀ (xs : List Value), (∀ x ∈ rnT bs xs, isJunk x = false) → ∀ ρ ρ2 : Rho, ρ2.z = ρ.z → (∀ B, B < n → ρ2 B = ρ (g B)) → Mvs ρ ρ2 xs (rnT bs xs) := by
  intro xs
  induction xs with
  | nil => intro _ ρ ρ2 _ _; exact Mvs.nil
  | cons v t ih =>
    intro hh ρ ρ2 hz hρ
    rcases rnV_ok hg v with hj | ⟨_, hm⟩
    · rw [hh _ (List.mem_cons_self)] at hj; cases hj
    · exact Mvs.cons (hm ρ ρ2 hz hρ) (ih (fun x hx => hh x (List.mem_cons_of_mem _ hx)) ρ ρ2 hz hρ)
/-- .. and back again -/
theorem rn0_back {bs : List Nat} {g : Nat → Nat} {n : Nat} (hg : Nums bs g n) {v x : Value} (hx : rn0 bs v = some x) : ∀ ρ ρ2 : Rho, ρ2.z = ρ.z → (∀ B, B < n → ρ2 (g B) = ρ B) → Mv ρ ρ2 x v := by
  unfold rn0 at hx
  split at hx
  · rename_i B o
    obtain ⟨i, hi, rfl⟩ := Option.map_eq_some_iff.1 hx
    obtain ⟨q1, q2⟩ := hg i B (ix_some hi)
    exact fun ρ ρ2 hz hρ => Mv.ptr (by rw [← hρ i q1, q2]) o
  · rename_i B o sp len cap
    obtain ⟨i, hi, rfl⟩ := Option.map_eq_some_iff.1 hx
    obtain ⟨q1, q2⟩ := hg i B (ix_some hi)
    exact fun ρ ρ2 hz hρ => Mv.sl (by rw [← hρ i q1, q2]) o sp len cap
  · rename_i B
    obtain ⟨i, hi, rfl⟩ := Option.map_eq_some_iff.1 hx
    obtain ⟨q1, q2⟩ := hg i B (ix_some hi)
    exact fun ρ ρ2 hz hρ => Mv.map (by rw [← hρ i q1, q2])
  · cases hf : fz v with
    | true =>
      rw [hf, cond_true] at hx
      injection hx with hx
      subst hx
      exact fun ρ ρ2 hz _ => Mv.fz hz hf
    | false => rw [hf] at hx; cases hx
theorem rnL_back {bs : List Nat} {g : Nat → Nat} {n : Nat} (hg : Nums bs g n) : ∀ {xs ys : List Value}, rnL bs xs = some ys → ∀ ρ ρ2 : Rho, ρ2.z = ρ.z → (∀ B, B < n → ρ2 (g B) = ρ B) → Mvs ρ ρ2 ys xs := by
  intro xs
  induction xs with
  | nil => intro ys h ρ ρ2 _ _; injection h with h; subst h; exact Mvs.nil
  | cons v t ih =>
    intro ys h ρ ρ2 hz hρ
    simp only [rnL] at h
    cases h0 : rn0 bs v with
    | none => rw [h0] at h; cases h
    | some x =>
      rw [h0] at h
      simp only at h
      cases h1 : rnL bs t with
      | none => rw [h1] at h; cases h
      | some l =>
        rw [h1] at h
        injection h with h
        subst h
        exact Mvs.cons (rn0_back hg h0 ρ ρ2 hz hρ) (ih h1 ρ ρ2 hz hρ)
theorem rnV_back {bs : List Nat} {g : Nat → Nat} {n : Nat} (hg : Nums bs g n) (v : Value) : isJunk (rnV bs v) = true ∨ ∀ ρ ρ2 : Rho, ρ2.z = ρ.z → (∀ B, B < n → ρ2 (g B) = ρ B) → Mv ρ ρ2 (rnV bs v) v := by
  unfold rnV
  split
  · rename_i x hx
    exact .inr (rn0_back hg hx)
  · split
    · rename_i cs _
      split
      · rename_i l hl
        refine .inr fun ρ ρ2 hz hρ => ?_
        have := Mv.tuple (xs := l.toArray) (ys := cs.toList) (by simpa using rnL_back hg hl ρ ρ2 hz hρ)
        simpa using this
      · exact .inl rfl
    · rename_i cs _
      split
      · rename_i l hl
        refine .inr fun ρ ρ2 hz hρ => ?_
        have := Mv.agg (xs := l.toArray) (ys := cs.toList) (by simpa using rnL_back hg hl ρ ρ2 hz hρ)
        simpa using this
      · exact .inl rfl
    · rename_i fn f c _
      split
      · rename_i l m hl hm
        refine .inr fun ρ ρ2 hz hρ => ?_
        have := Mv.func (fn := fn) (xs := l.toArray) (us := m.toArray) (ys := f.toList) (vs := c.toList) (by simpa using rnL_back hg hl ρ ρ2 hz hρ) (by simpa using rnL_back hg hm ρ ρ2 hz hρ)
        simpa using this
      · exact .inl rfl
    · exact .inl rfl
theorem rnT_back {bs : List Nat} {g : Nat → Nat} {n : Nat} (hg : Nums bs g n) : ∀ (xs : List Value), (∀ x ∈ rnT bs xs, isJunk x = false) → ∀ ρ ρ2 : Rho, ρ2.z = ρ.z → (∀ B, B < n → ρ2 (g B) = ρ B) → Mvs ρ ρ2 (rnT bs xs) xs := by
  intro xs
  induction xs with
  | nil => intro _ ρ ρ2 _ _; exact Mvs.nil
  | cons v t ih =>
    intro hh ρ ρ2 hz hρ
    rcases rnV_back hg v with hj | hm
    · rw [hh _ (List.mem_cons_self)] at hj; cases hj
    · exact Mvs.cons (hm ρ ρ2 hz hρ) (ih (fun x hx => hh x (List.mem_cons_of_mem _ hx)) ρ ρ2 hz hρ)
/-- what stands in the new state's block -/
theorem rnBs_cells {D bs : List Nat} {h : Heap} {B : Nat} {c : List Value} {e : Nat} {o : Bool} (hb : (rnBs D bs 0 (bs.map (blkOf h)))[B]? = some (.cells c e o)) :
    ∃ b c0, bs[B]? = some b ∧ h.get b = some (.cells c0 e o) ∧ c = cond (memN D B) (rnT bs c0) c0 := by
  rw [rnBs_get, List.getElem?_map, Nat.zero_add] at hb
  cases hbs : bs[B]? with
  | none => rw [hbs] at hb; cases hb
  | some b =>
    rw [hbs] at hb
    simp only [Option.map_some, Option.some.injEq] at hb
    cases hm : memN D B with
    | true =>
      rw [hm, cond_true] at hb
      cases hx : blkOf h b with
      | dead => rw [hx] at hb; cases hb
      | cells c0 e0 o0 =>
        rw [hx] at hb
        simp only [rnBk, Blk.cells.injEq] at hb
        obtain ⟨rfl, rfl, rfl⟩ := hb
        exact ⟨b, c0, rfl, blkOf_cells hx, rfl⟩
    | false => rw [hm, cond_false] at hb; exact ⟨b, c, rfl, blkOf_cells hb, rfl⟩
theorem Ren.bsD {D : List Nat} {k : Nat} {t : List Value} {h : Heap} {bs : List Nat} (h1 : nodupN bs = true) (h2 : lowN k 0 bs = true) (hf : FlatD D (Go.Proofs.Ytfgiifppapopnaa.AM.hp (rnBs D bs 0 (bs.map (blkOf h))))) :
    Ren k (fun i => bs.getD i i) t h (rnT bs t) (Go.Proofs.Ytfgiifppapopnaa.AM.hp (rnBs D bs 0 (bs.map (blkOf h)))) := by
  obtain ⟨h3, h4⟩ := lowN_ok h2
  have hg := nums_of bs
  obtain ⟨t1, t2⟩ := (rnT_ok (g := fun i => bs.getD i i) hg t).ok
  have hsz : (Go.Proofs.Ytfgiifppapopnaa.AM.hp (rnBs D bs 0 (bs.map (blkOf h)))).size = bs.length := by rw [hp_size, rnBs_len, List.length_map]
  refine ⟨by rw [hsz]; exact h3, fun B hB => ?_, fun B c e o hB => ?_, fun B B' c e o c' e' o' hB hB' he => ?_, t1, fun i x y hx hy => ?_⟩
  · show bs.getD B B = B
    rw [List.getD_eq_getElem?_getD, h4 B hB]; simp
  · have hfl := hf.get B c e o hB
    rw [hp_get] at hB
    obtain ⟨b, c0, q1, q2, q3⟩ := rnBs_cells hB
    refine ⟨c0, by rw [show bs.getD B B = b from (hg B b q1).2]; exact q2, fun ρ ρ2 hz hρ => ?_⟩
    rw [hsz] at hρ
    subst q3
    cases hm : memN D B with
    | true =>
      rw [hm] at hfl
      simp only [cond_true] at hfl ⊢
      exact rnT_mvs hg c0 (hfl.1 trivial) ρ ρ2 hz hρ
    | false =>
      rw [hm] at hfl
      simp only [cond_false] at hfl ⊢
      exact Mvs.fz hz (hfl.2 trivial)
  · rw [hp_get] at hB hB'
    obtain ⟨b, _, q1, _⟩ := rnBs_cells hB
    obtain ⟨b', _, q1', _⟩ := rnBs_cells hB'
    simp only [(hg B b q1).2, (hg B' b' q1').2] at he
    subst he
    exact nodupN_ok h1 B B' _ q1 q1'
  · rw [hsz]; exact t2 i x y hx hy

noncomputable def gcTD (D : List Nat) (k : Nat) (live : Option (List Nat)) (t : List Value) (h : Heap) : List Value := rnT (gcBD D k (forget live t) h) (forget live t)
noncomputable def gcHD (D : List Nat) (k : Nat) (live : Option (List Nat)) (t : List Value) (h : Heap) : Heap := hp (rnBs D (gcBD D k (forget live t) h) 0 ((gcBD D k (forget live t) h).map (blkOf h)))
/-- D: the deep blocks of a round's end; E: those where it is left -/
noncomputable def autoKD (D E : List Nat) (k : Nat) (live : List Nat) (K : Post) : Post := fun e t h => match e with
  | .normal => K .normal (gcTD D k (some live) t h) (gcHD D k (some live) t h)
  | e => K e (gcTD E k none t h) (gcHD E k none t h)
theorem LSays.autoD {P : Program} {k : Nat} {c : Code} {t : List Value} {h : Heap} {K : Post} {l : Option (List Nat)} {D : List Nat} (hf : FlatD D (gcHD D k l t h)) (hb : LSays P k c (gcTD D k l t h) (gcHD D k l t h) K) : LSays P k c t h K :=
  LSays.forget (l := l) (LSays.ren (Ren.bsD (gcBD_ok D k _ h).1 (gcBD_ok D k _ h).2 hf) hb)
theorem Says.autoD {P : Program} {k : Nat} {c : Code} {t : List Value} {h : Heap} {K : Post} {l : Option (List Nat)} {D : List Nat} (hf : FlatD D (gcHD D k l t h)) (hb : Says P k c (gcTD D k l t h) (gcHD D k l t h) K) : Says P k c t h K :=
  Says.forget (l := l) (Says.ren (Ren.bsD (gcBD_ok D k _ h).1 (gcBD_ok D k _ h).2 hf) hb)
noncomputable def roundKD (P : Program) (S : Book) (LK : LoopK) (F : List Nat → Option (List Nat)) (root : Code) (k : Nat) (D E live : List Nat) (p : List Nat) (t : List Value) (h : Heap) (K : Post) : Prop :=
  codeK P S LK F 200 p (sub root p) t h (autoKD D E k live K)
noncomputable def resAutoD (D : List Nat) (k : Nat) (P : Program) (fn : Func) (K : Value → Heap → Prop) : Post := resK P fn fun v h => K (rnV (gcBD D k [v] h) v) (hp (rnBs D (gcBD D k [v] h) 0 ((gcBD D k [v] h).map (blkOf h))))
noncomputable def funKD (P : Program) (S : Book) (LK : LoopK) (F : List Nat → Option (List Nat)) (root : Code) (fn : Func) (D : List Nat) (args : List Value) (h : Heap) (K : Value → Heap → Prop) : Prop :=
  codeK P S LK F 200 [] root (args ++ List.replicate (fn.ntmps - args.length) undef) h (resAutoD D h.size P fn K)
/-- loops and cuts, the states in the numbers that they need (Dp: a place's deep blocks) -/
noncomputable def gcLKD (Dp : List Nat → List Nat) (k : Nat) (LK : LoopK) : LoopK := fun p t h K => FlatD (Dp p) (gcHD (Dp p) k none t h) ∧ LK p (gcTD (Dp p) k none t h) (gcHD (Dp p) k none t h) K
theorem Loops.gcD {Dp : List Nat → List Nat} {P : Program} {root : Code} {k : Nat} {LK : LoopK} (hl : Loops P root k LK) : Loops P root k (gcLKD Dp k LK) := fun p t h K hk => by
  have := hl p _ _ K hk.2
  unfold LoopOr at this ⊢
  split at this
  · exact LSays.autoD (l := Option.none) hk.1 this
  · exact Says.autoD (l := Option.none) hk.1 this
section
variable {P : Program} {S : Book} {LK : LoopK} {root : Code} {k : Nat}
theorem Sure.roundD (s : Sure P S) (F : List Nat → Option (List Nat)) (hL : Loops P root k LK) (D E live : List Nat) {p : List Nat} {t : List Value} {h : Heap} {K : Post}
    (hk : roundKD P S LK F root k D E live p t h (fun e t' h' => match e with | .normal => FlatD D h' ∧ LSays P k (sub root p) t' h' K | e => FlatD E h' ∧ K e t' h')) : LSays P k (sub root p) t h K := by
  have h0 := codeK_ok s.mixed s.plain s.sums hL 200 p _ t h _ rfl hk
  refine LSays.step fun ρ a w Q hkh ht r hs hQ => ?_
  refine h0 ρ a w Q hkh ht r hs fun e t1 h1 ρ1 a1 w1 hK ht1 r1 f1 hs1 hd1 => ?_
  cases e with
  | normal =>
    obtain ⟨hf, hK⟩ := hK
    exact hQ .normal t1 h1 ρ1 a1 w1 (LSays.autoD (l := some live) hf hK) ht1 r1 f1 hs1 hd1
  | exit id =>
    obtain ⟨hf, hK⟩ := hK
    obtain ⟨ρ2, q1, q2, q3, q4⟩ := (Ren.bsD (k := k) (t := t1) (gcBD_ok E k _ h1).1 (gcBD_ok E k _ h1).2 hf).move ht1 r1 hs1
    exact hQ (.exit id) _ _ ρ2 a1 w1 hK q1 q2 (f1.trans q3) q4 hd1
  | ret =>
    obtain ⟨hf, hK⟩ := hK
    obtain ⟨ρ2, q1, q2, q3, q4⟩ := (Ren.bsD (k := k) (t := t1) (gcBD_ok E k _ h1).1 (gcBD_ok E k _ h1).2 hf).move ht1 r1 hs1
    exact hQ .ret _ _ ρ2 a1 w1 hK q1 q2 (f1.trans q3) q4 hd1
theorem Sure.cutD (s : Sure P S) (F : List Nat → Option (List Nat)) (hL : Loops P root k LK) (E : List Nat) {p : List Nat} {t : List Value} {h : Heap} {K : Post}
    (hk : roundKD P S LK F root k [] E [] p t h (fun e t' h' => match e with | .normal => False | e => FlatD E h' ∧ K e t' h')) : Says P k (sub root p) t h K := by
  have h0 := codeK_ok s.mixed s.plain s.sums hL 200 p _ t h _ rfl hk
  intro ρ a w Q hkh ht r hs0 hQ
  refine h0 ρ a w Q hkh ht r hs0 fun e t1 h1 ρ1 a1 w1 hK ht1 r1 f1 hs1 hd1 => ?_
  have main : FlatD E (gcHD E k none t1 h1) ∧ K e (gcTD E k none t1 h1) (gcHD E k none t1 h1) → Q (exitOf e) a1 w1 := fun ⟨hf, hK⟩ => by
    obtain ⟨ρ2, q1, q2, q3, q4⟩ := (Ren.bsD (k := k) (t := t1) (gcBD_ok E k _ h1).1 (gcBD_ok E k _ h1).2 hf).move ht1 r1 hs1
    exact hQ e _ _ ρ2 a1 w1 hK q1 q2 (f1.trans q3) q4 hd1
  cases e with
  | normal => exact hK.elim
  | exit id => exact main hK
  | ret => exact main hK
theorem Sure.funD (s : Sure P S) (F : List Nat → Option (List Nat)) (root : Code) (D : List Nat) {f : FuncId} {fn : Func} {args : List Value} {h : Heap} {K : Value → Heap → Prop} (hf : P.funcs[f]? = some fn) (hb : fn.body = some root) (hL : Loops P root h.size LK)
    (hk : funKD P S LK F root fn D args h (fun v h' => isJunk v = false ∧ FlatD D h' ∧ K v h')) : FunSays P f args h K := by
  refine FunSays.ren (FunSays.of hf hb (codeK_ok s.mixed s.plain s.sums hL 200 [] root _ h _ rfl hk)) fun v h' hv => ?_
  obtain ⟨q1, q2, q3⟩ := hv
  exact ⟨_, _, _, Ren.bsD (t := [v]) (gcBD_ok D _ _ h').1 (gcBD_ok D _ _ h').2 q2, q1, q3⟩
end
end Go.Proofs.Ytfgiifppapopnaa.AM

namespace Go.Proofs.Ytfgiifppapopnaa.AM
/-! ### contracts of functions that turn blocks which they are handed, or are handed blocks that hold addresses -/
structure CtrW where
  /-- handed blocks that hold addresses -/
  D : List Nat
  /-- handed blocks that are turned -/
  W : List Nat
  /-- turned and new blocks that hold addresses -/
  E : List Nat
  pre : List Value → List Blk → Prop
  val : List Value → List Blk → Value
  out : List Value → List Blk → List Blk
/-- E's blocks hold addresses below m, the others none -/
def OutOk (E : List Nat) (m : Nat) : Nat → List Blk → Prop
  | _, [] => True
  | i, .cells c _ _ :: l => cond (memN E i) (inL m c = true) (FlatL c) ∧ OutOk E m (i + 1) l
  | i, .dead :: l => OutOk E m (i + 1) l
theorem OutOk.get {E : List Nat} {m : Nat} : ∀ {l : List Blk} {i : Nat}, OutOk E m i l → ∀ (B : Nat) c e o, l[B]? = some (.cells c e o) → (memN E (i + B) = true → inL m c = true) ∧ (memN E (i + B) = false → ∀ x ∈ c, fz x = true) := by
  intro l
  induction l with
  | nil => intro i _ B c e o h; simp at h
  | cons b l ih =>
    intro i hf B c e o h
    cases B with
    | zero =>
      simp at h
      subst h
      obtain ⟨q, _⟩ := hf
      refine ⟨fun hm => ?_, fun hm => ?_⟩
      · rw [Nat.add_zero] at hm; rw [hm, cond_true] at q; exact q
      · rw [Nat.add_zero] at hm; rw [hm, cond_false] at q; exact q.1
    | succ B =>
      simp at h
      rw [show i + (B + 1) = i + 1 + B by omega]
      cases b with
      | cells => exact ih hf.2 B c e o h
      | dead => exact ih hf B c e o h
/-- the handed blocks that are not turned are as they were -/
def SameBut (W : List Nat) : Nat → List Blk → List Blk → Prop
  | _, [], _ => True
  | _, _ :: _, [] => False
  | i, b :: l, b' :: l' => (cond (memN W i) True (b' = b)) ∧ SameBut W (i + 1) l l'
theorem SameBut.get {W : List Nat} : ∀ {l l' : List Blk} {i : Nat}, SameBut W i l l' → l.length ≤ l'.length ∧ ∀ (B : Nat) b, l[B]? = some b → memN W (i + B) = false → l'[B]? = some b := by
  intro l
  induction l with
  | nil => intro l' i _; exact ⟨Nat.zero_le _, fun B b h => by simp at h⟩
  | cons b l ih =>
    intro l' i h
    cases l' with
    | nil => exact h.elim
    | cons b' l' =>
      obtain ⟨q1, q2⟩ := h
      obtain ⟨r1, r2⟩ := ih q2
      refine ⟨by simp; omega, fun B x hx hm => ?_⟩
      cases B with
      | zero =>
        rw [Nat.add_zero] at hm
        rw [hm, cond_false] at q1
        simp at hx ⊢; rw [q1, hx]
      | succ B => simp at hx ⊢; exact r2 B x hx (by rw [show i + 1 + B = i + (B + 1) by omega]; exact hm)
/-- handed blocks that are not turned are not looked at -/
def maskW (W : List Nat) (n : Nat) : Nat → List Blk → List Blk
  | _, [] => []
  | i, b :: l => cond (Nat.blt i n && !memN W i) .dead b :: maskW W n (i + 1) l
theorem maskW_get {W : List Nat} {n : Nat} : ∀ {l : List Blk} {i j : Nat}, (maskW W n i l)[j]? = (l[j]?).map fun b => cond (Nat.blt (i + j) n && !memN W (i + j)) .dead b := by
  intro l
  induction l with
  | nil => intro i j; simp [maskW]
  | cons b l ih =>
    intro i j
    cases j with
    | zero => simp [maskW]
    | succ j => simp only [maskW, List.getElem?_cons_succ, ih]; rw [show i + 1 + j = i + (j + 1) by omega]
def CtrW.Holds (P : Program) (f : FuncId) (c : CtrW) : Prop := ∀ args blks, FlatBD c.D 0 blks → c.pre args blks →
  SameBut c.W 0 blks (c.out args blks) ∧ OutOk c.E (c.out args blks).length 0 (maskW c.W blks.length 0 (c.out args blks)) ∧
    FunSays P f args (hp blks) fun v h' => v = c.val args blks ∧ h' = hp (c.out args blks)
noncomputable def unBk (n : Nat) (bs : List Nat) (b : Blk) : Blk := match b with
  | .cells c e o => .cells (unL n bs c) e o
  | .dead => .dead
noncomputable def unOut (E : List Nat) (n : Nat) (bs : List Nat) : Nat → List Blk → List Blk
  | _, [] => []
  | i, b :: l => cond (memN E i) (unBk n bs b) b :: unOut E n bs (i + 1) l
theorem unOut_get {E : List Nat} {n : Nat} {bs : List Nat} : ∀ {l : List Blk} {i j : Nat}, (unOut E n bs i l)[j]? = (l[j]?).map fun b => cond (memN E (i + j)) (unBk n bs b) b := by
  intro l
  induction l with
  | nil => intro i j; simp [unOut]
  | cons b l ih =>
    intro i j
    cases j with
    | zero => simp [unOut]
    | succ j => simp only [unOut, List.getElem?_cons_succ, ih]; rw [show i + 1 + j = i + (j + 1) by omega]
theorem unOut_len {E : List Nat} {n : Nat} {bs : List Nat} : ∀ {l : List Blk} {i : Nat}, (unOut E n bs i l).length = l.length := by
  intro l
  induction l with
  | nil => intro i; rfl
  | cons b l ih => intro i; simp [unOut, ih]
noncomputable def turnL (bs : List Nat) (xs : List Blk) : List Nat → Heap → Heap
  | [], h => h
  | w :: W, h => turnL bs xs W (match getO bs w with
    | some b => match getO xs w with
      | some x => h.set b x
      | none => h
    | none => h)
theorem turnL_size {bs : List Nat} {xs : List Blk} : ∀ {W : List Nat} {h : Heap}, (turnL bs xs W h).size = h.size := by
  intro W
  induction W with
  | nil => intro h; rfl
  | cons w W ih =>
    intro h
    simp only [turnL, ih]
    split
    · split
      · rfl
      · rfl
    · rfl
theorem turnL_get {bs : List Nat} {xs : List Blk} : ∀ {W : List Nat} {h : Heap}, (∀ (i : Nat) b, bs[i]? = some b → b < h.size) → ∀ B,
    (∃ w x, memN W w = true ∧ bs[w]? = some B ∧ xs[w]? = some x ∧ (turnL bs xs W h).get B = some x) ∨ ((turnL bs xs W h).get B = h.get B ∧ ∀ w x, w ∈ W → bs[w]? = some B → xs[w]? = some x → False) := by
  intro W
  induction W with
  | nil => intro h _ B; exact .inr ⟨rfl, fun w x hw => by simp at hw⟩
  | cons w W ih =>
    intro h hb B
    have hmem : ∀ v, memN W v = true → memN (w :: W) v = true := fun v hv => by
      unfold memN at hv ⊢
      simp only [ix]
      cases Nat.beq w v with
      | true => rfl
      | false => simpa using hv
    have hself : memN (w :: W) w = true := by
      unfold memN
      simp only [ix, Nat.beq_refl, cond_true, Option.isSome_some]
    simp only [turnL, getO_eq]
    cases h1 : bs[w]? with
    | none =>
      rcases ih hb B with ⟨v, x, q1, q2, q3, q4⟩ | ⟨q1, q2⟩
      · exact .inl ⟨v, x, hmem v q1, q2, q3, q4⟩
      · refine .inr ⟨q1, fun v x hv hv1 hv2 => ?_⟩
        rcases List.mem_cons.1 hv with rfl | hv
        · rw [h1] at hv1; cases hv1
        · exact q2 v x hv hv1 hv2
    | some b =>
      cases h2 : xs[w]? with
      | none =>
        rcases ih hb B with ⟨v, x, q1, q2, q3, q4⟩ | ⟨q1, q2⟩
        · exact .inl ⟨v, x, hmem v q1, q2, q3, q4⟩
        · refine .inr ⟨q1, fun v x hv hv1 hv2 => ?_⟩
          rcases List.mem_cons.1 hv with rfl | hv
          · rw [h2] at hv2; cases hv2
          · exact q2 v x hv hv1 hv2
      | some y =>
        simp only
        rcases ih (h := h.set b y) (fun i b' hi => hb i b' hi) B with ⟨v, x, q1, q2, q3, q4⟩ | ⟨q1, q2⟩
        · exact .inl ⟨v, x, hmem v q1, q2, q3, q4⟩
        · rw [Heap.get_set (hb w b h1)] at q1
          by_cases hB : B = b
          · subst hB
            rw [if_pos rfl] at q1
            exact .inl ⟨w, y, hself, h1, h2, q1⟩
          · rw [if_neg hB] at q1
            refine .inr ⟨q1, fun v x hv hv1 hv2 => ?_⟩
            rcases List.mem_cons.1 hv with rfl | hv
            · rw [h1] at hv1; injection hv1 with hv1; exact hB hv1.symm
            · exact q2 v x hv hv1 hv2
noncomputable def dropL {α : Type} : Nat → List α → List α
  | 0, l => l
  | _, [] => []
  | n + 1, _ :: l => dropL n l
theorem dropL_get {α : Type} : ∀ {n : Nat} {l : List α} {i : Nat}, (dropL n l)[i]? = l[n + i]? := by
  intro n
  induction n with
  | zero => intro l i; rw [Nat.zero_add]; cases l <;> rfl
  | succ n ih =>
    intro l i
    cases l with
    | nil => simp [dropL]
    | cons a l => simp only [dropL, ih]; rw [show n + 1 + i = (n + i) + 1 by omega, List.getElem?_cons_succ]
theorem dropL_len {α : Type} : ∀ {n : Nat} {l : List α}, (dropL n l).length = l.length - n := by
  intro n
  induction n with
  | zero => intro l; cases l <;> rfl
  | succ n ih =>
    intro l
    cases l with
    | nil => simp [dropL]
    | cons a l => simp only [dropL, ih, List.length_cons]; omega
noncomputable def CtrW.bs (c : CtrW) (args : List Value) (h : Heap) : List Nat := gcBD c.D 0 args h
noncomputable def CtrW.go (c : CtrW) (h : Heap) (bs : List Nat) (la : List Value) (lb : List Blk) (K : Value → Heap → Prop) : Prop :=
  Need (cellsB lb && nojL la && inV (c.out la lb).length (c.val la lb))
    (FlatBD c.D 0 lb ∧ c.pre la lb ∧
      K (unV h.size bs (c.val la lb)) (pushL (turnL bs (unOut c.E h.size bs 0 (c.out la lb)) c.W h) (dropL bs.length (unOut c.E h.size bs 0 (c.out la lb)))))
noncomputable def CtrW.K (c : CtrW) (args : List Value) (h : Heap) (K : Value → Heap → Prop) : Prop :=
  c.go h (c.bs args h) (rnT (c.bs args h) args) (rnBs c.D (c.bs args h) 0 ((c.bs args h).map (blkOf h))) K
noncomputable def CtrW.res (c : CtrW) (h : Heap) (bs : List Nat) (la : List Value) (lb : List Blk) : Value × Heap :=
  (unV h.size bs (c.val la lb), pushL (turnL bs (unOut c.E h.size bs 0 (c.out la lb)) c.W h) (dropL bs.length (unOut c.E h.size bs 0 (c.out la lb))))
open Classical in
noncomputable def CtrW.summ (c : CtrW) : Summ where
  f := fun args h => if c.K args h fun _ _ => True then some (c.res h (c.bs args h) (rnT (c.bs args h) args) (rnBs c.D (c.bs args h) 0 ((c.bs args h).map (blkOf h)))) else none
  K := c.K
  ok := by
    intro args h K' hk
    unfold CtrW.K CtrW.go at hk
    obtain ⟨q1, q2, q3, q4⟩ := Need_iff.1 hk
    exact ⟨_, _, if_pos (Need_iff.2 ⟨q1, q2, q3, trivial⟩), q4⟩
theorem ix_of {bs : List Nat} (hnd : ∀ (i j b : Nat), bs[i]? = some b → bs[j]? = some b → i = j) : ∀ B b, bs[B]? = some b → (ix bs b).getD bs.length = B := fun B b hb => by
  have : ∀ (l : List Nat) (B b : Nat), l[B]? = some b → (ix l b).isSome = true := by
    intro l
    induction l with
    | nil => intro B b hh; simp at hh
    | cons x l ih =>
      intro B b hh
      simp only [ix]
      cases hxb : Nat.beq x b with
      | true => rfl
      | false =>
        cases B with
        | zero => simp at hh; subst hh; rw [Nat.beq_refl] at hxb; cases hxb
        | succ B => simpa using ih B b (by simpa using hh)
  obtain ⟨i, hi⟩ := Option.isSome_iff_exists.1 (this bs B b hb)
  rw [hi]
  exact hnd i B b (ix_some hi) hb
theorem cellsB_get : ∀ {l : List Blk}, cellsB l = true → ∀ (i : Nat) x, l[i]? = some x → ∃ c e o, x = .cells c e o := by
  intro l
  induction l with
  | nil => intro _ i x hx; simp at hx
  | cons y l ih =>
    intro hh i x hx
    cases y with
    | cells c e o =>
      cases i with
      | zero => simp at hx; exact ⟨c, e, o, hx.symm⟩
      | succ i => exact ih hh i x (by simpa using hx)
    | _ => cases hh
theorem CtrW.sum_ok {P : Program} {f : FuncId} {c : CtrW} (hc : c.Holds P f) : ∀ args h v h', c.summ.f args h = some (v, h') → ∀ ρ w args', Free ρ h.size h'.size → WR ρ h w → VRs ρ args args' →
    ∃ fn : Func, P.funcs[f]? = some fn ∧ fn.body.isSome = true ∧ Calls P f args'.toArray w (After P ρ h w v h') := by
  intro args h v h' e
  simp only [CtrW.summ] at e
  split at e
  case isFalse => cases e
  rename_i hk
  injection e with e
  unfold CtrW.res at e
  injection e with e1 e2
  subst e1 e2
  unfold CtrW.K CtrW.go at hk
  have hbo := gcBD_ok c.D 0 args h
  generalize hbs : c.bs args h = bs at *
  unfold CtrW.bs at hbs
  rw [hbs] at hbo
  generalize hla : rnT bs args = la at *
  generalize hlb : rnBs c.D bs 0 (bs.map (blkOf h)) = lb at *
  obtain ⟨q1, q2, q3, _⟩ := Need_iff.1 hk
  simp only [Bool.and_eq_true] at q1
  obtain ⟨⟨p1, p2⟩, p3⟩ := q1
  obtain ⟨r0, r1, r2⟩ := hc la lb q2 q3
  generalize hout : c.out la lb = out at *
  have hlen : lb.length = bs.length := by rw [← hlb, rnBs_len, List.length_map]
  have hnd := nodupN_ok hbo.1
  have hg := nums_of bs
  have hix := ix_of hnd
  have hcel : ∀ B, B < bs.length → ∃ b cc e o c0, bs[B]? = some b ∧ lb[B]? = some (.cells cc e o) ∧ h.get b = some (.cells c0 e o) ∧ cc = cond (memN c.D B) (rnT bs c0) c0 ∧
      (∀ ρ ρ2 : Rho, ρ2.z = ρ.z → (∀ B, B < bs.length → ρ2 B = ρ (bs.getD B B)) → Mvs ρ ρ2 c0 cc) ∧ (∀ ρ ρ2 : Rho, ρ2.z = ρ.z → (∀ B, B < bs.length → ρ2 (bs.getD B B) = ρ B) → Mvs ρ ρ2 cc c0) := fun B hB => by
    have hB' : B < lb.length := by omega
    have hl : lb[B]? = some lb[B] := List.getElem?_eq_getElem hB'
    obtain ⟨cc, e, o, hx⟩ := cellsB_get p1 B _ hl
    rw [hx] at hl
    have hfl := q2.get B cc e o hl
    rw [Nat.zero_add] at hfl
    have hl2 := hl
    rw [← hlb] at hl2
    obtain ⟨b, c0, s1, s2, s3⟩ := rnBs_cells hl2
    refine ⟨b, cc, e, o, c0, s1, hl, s2, s3, fun ρ ρ2 hz hρ => ?_, fun ρ ρ2 hz hρ => ?_⟩
    · subst s3
      cases hm : memN c.D B with
      | true =>
        rw [hm] at hfl
        simp only [cond_true] at hfl ⊢
        exact rnT_mvs hg c0 (hfl.1 trivial) ρ ρ2 hz hρ
      | false =>
        rw [hm] at hfl
        simp only [cond_false] at hfl ⊢
        exact Mvs.fz hz (hfl.2 trivial)
    · subst s3
      cases hm : memN c.D B with
      | true =>
        rw [hm] at hfl
        simp only [cond_true] at hfl ⊢
        exact rnT_back hg c0 (hfl.1 trivial) ρ ρ2 hz hρ
      | false =>
        rw [hm] at hfl
        simp only [cond_false] at hfl ⊢
        exact Mvs.fz hz (hfl.2 trivial)
  obtain ⟨t1, t2⟩ := r0.get
  have hblt : ∀ (i : Nat) b, bs[i]? = some b → b < h.size := fun i b hi => by
    obtain ⟨b', _, _, _, _, s1, _, s3, _⟩ := hcel i (List.getElem?_eq_some_iff.1 hi).1
    rw [hi] at s1; injection s1 with s1; subst s1
    exact Heap.get_lt s3
  have hgD : ∀ B b, bs[B]? = some b → bs.getD B B = b := fun B b hb => by rw [List.getD_eq_getElem?_getD, hb]; rfl
  -- what is turned or new, under the caller's numbers
  have hun : ∀ (i : Nat) cc e o, (memN c.W i = true ∨ bs.length ≤ i) → (unOut c.E h.size bs 0 out)[i]? = some (.cells cc e o) → ∃ c0, out[i]? = some (.cells c0 e o) ∧
      ∀ ρ ρ2 : Rho, ρ2.z = ρ.z → (∀ B, B < lb.length → ρ2 (bs.getD B B) = ρ B) → (∀ B, lb.length ≤ B → B < out.length → ρ2 (B - lb.length + h.size) = ρ B) → Mvs ρ ρ2 c0 cc := fun i cc e o hw hi => by
    rw [unOut_get, Nat.zero_add] at hi
    cases ho : out[i]? with
    | none => rw [ho] at hi; cases hi
    | some b =>
      rw [ho] at hi
      simp only [Option.map_some, Option.some.injEq] at hi
      have hok := fun cc e o (hb : b = .cells cc e o) => r1.get i cc e o (by
        rw [maskW_get, Nat.zero_add, ho, Option.map_some, hb]
        have : (Nat.blt i lb.length && !memN c.W i) = false := by
          rcases hw with hw | hw
          · rw [hw]; simp
          · have : Nat.blt i lb.length = false := by
              cases hh : Nat.blt i lb.length with
              | false => rfl
              | true => have := Nat.le_of_ble_eq_true hh; omega
            rw [this]; rfl
        rw [this, cond_false])
      rw [Nat.zero_add] at hok
      cases hm : memN c.E i with
      | true =>
        rw [hm, cond_true] at hi
        cases b with
        | dead => cases hi
        | cells c0 e0 o0 =>
          simp only [unBk, Blk.cells.injEq] at hi
          obtain ⟨rfl, rfl, rfl⟩ := hi
          refine ⟨c0, rfl, fun ρ ρ2 hz h1 h2 => unL_ok (m := out.length) hz (fun B b hb => ?_) (fun B hB hlt => ?_) ((hok c0 e0 o0 rfl).1 hm)⟩
          · have := h1 B (by rw [hlen]; exact (List.getElem?_eq_some_iff.1 hb).1)
            rw [hgD B b hb] at this; exact this
          · have := h2 B (by omega) hlt
            rw [hlen] at this
            rw [Nat.add_comm]; exact this
      | false =>
        rw [hm, cond_false] at hi
        subst hi
        exact ⟨cc, rfl, fun ρ ρ2 hz _ _ => Mvs.fz hz ((hok cc e o rfl).2 hm)⟩
  refine r2.call (g := fun B => bs.getD B B) (gi := fun b => (ix bs b).getD bs.length) ⟨fun B hB => ?_, fun ρ ρ2 hz hρ => ?_⟩ ?_
  · rw [hp_size, hlen] at hB
    obtain ⟨b, cc, e', o', c0, s1, s2, s3, s4, s5, s6⟩ := hcel B hB
    refine ⟨?_, cc, e', o', c0, by rw [hp_get]; exact s2, by rw [hgD B b s1]; exact s3, fun ρ ρ2 hz hρ => s5 ρ ρ2 hz fun B hB => hρ B (by rw [hp_size, hlen]; exact hB)⟩
    show (ix bs (bs.getD B B)).getD bs.length = B
    rw [hgD B b s1]; exact hix B b s1
  · rw [← hla]
    refine rnT_mvs hg args (fun x hx => nojL_get p2 x (by rw [← hla]; exact hx)) ρ ρ2 hz fun B hB => hρ B (by rw [hp_size, hlen]; exact hB)
  · rintro vl hl' ⟨rfl, rfl⟩
    refine ⟨by rw [pushL_size, turnL_size, dropL_len, unOut_len, hp_size, hp_size]; omega, by rw [hp_size, hp_size]; exact t1, fun B c' e' o' hB => ?_, fun ρ ρ2 hz h1 h2 => ?_⟩
    · rw [pushL_get, turnL_size] at hB
      split at hB
      · rename_i hlt
        rcases turnL_get (xs := unOut c.E h.size bs 0 out) (W := c.W) hblt B with ⟨i, x, m1, m2, m3, m4⟩ | ⟨m1, m2⟩
        · rw [m4] at hB
          injection hB with hB
          subst hB
          obtain ⟨c0, n1, n2⟩ := hun i c' e' o' (.inl m1) m3
          have hix' := hix i B m2
          refine .inr (.inl ⟨hlt, ?_, ?_, c0, ?_, fun ρ ρ2 hz h1 h2 => n2 ρ ρ2 hz (fun B hB => h1 B (by rw [hp_size]; exact hB)) fun B hB hB2 => ?_⟩)
          · show (ix bs B).getD bs.length < _
            rw [hix', hp_size, hlen]; exact (List.getElem?_eq_some_iff.1 m2).1
          · show bs.getD ((ix bs B).getD bs.length) _ = B
            rw [hix']; exact hgD i B m2
          · show (hp out).get ((ix bs B).getD bs.length) = _
            rw [hix', hp_get]; exact n1
          · have := h2 B (by rw [hp_size]; exact hB) (by rw [hp_size]; exact hB2)
            rw [hp_size] at this; exact this
        · rw [m1] at hB
          cases hi : ix bs B with
          | some i =>
            have hbi := ix_some hi
            have hil : i < bs.length := (List.getElem?_eq_some_iff.1 hbi).1
            obtain ⟨b, c2, e2, o2, c0, s1, s2, s3, s4, s5, s6⟩ := hcel i hil
            rw [hbi] at s1
            injection s1 with s1
            subst s1
            rw [hB] at s3
            injection s3 with s3
            injection s3 with t1' t2' t3'
            subst t1' t2' t3'
            have hnw : memN c.W i = false := by
              cases hm : memN c.W i with
              | false => rfl
              | true =>
                exfalso
                have hiw : i ∈ c.W := by
                  unfold memN at hm
                  obtain ⟨j, hj⟩ := Option.isSome_iff_exists.1 hm
                  exact List.mem_of_getElem? (ix_some hj)
                have hio : i < (unOut c.E h.size bs 0 out).length := by rw [unOut_len]; omega
                exact m2 i _ hiw hbi (List.getElem?_eq_getElem hio)
            refine .inr (.inl ⟨hlt, ?_, ?_, c2, ?_, fun ρ ρ2 hz h1 _ => s6 ρ ρ2 hz fun B hB => h1 B (by rw [hp_size, hlen]; exact hB)⟩)
            · show i < _
              rw [hp_size, hlen]; exact hil
            · show bs.getD i i = B
              exact hgD i B hbi
            · show (hp out).get i = _
              rw [hp_get]; exact t2 i _ s2 (by rw [Nat.zero_add]; exact hnw)
          | none =>
            refine .inr (.inr ⟨hlt, hB, fun B0 c0 e0 o0 h0 hBB => ?_⟩)
            have hB0 := Heap.get_lt h0
            rw [hp_size, hlen] at hB0
            have hb : bs[B0]? = some B := by
              rw [← hBB, List.getElem?_eq_getElem hB0, List.getD_eq_getElem?_getD, List.getElem?_eq_getElem hB0]; rfl
            have := hix B0 B hb
            rw [hi, Option.getD_none] at this
            omega
      · rename_i hge
        rw [dropL_get] at hB
        obtain ⟨c0, n1, n2⟩ := hun _ c' e' o' (.inr (by omega)) hB
        refine .inl ⟨by omega, c0, ?_, fun ρ ρ2 hz h1 h2 => n2 ρ ρ2 hz (fun B hB => h1 B (by rw [hp_size]; exact hB)) fun B hB hB2 => ?_⟩
        · rw [hp_get, hp_size, hlen, Nat.add_comm]; exact n1
        · have := h2 B (by rw [hp_size]; exact hB) (by rw [hp_size]; exact hB2)
          rw [hp_size] at this; exact this
    · refine unV_ok p3 hz (fun B b hb => ?_) (fun B hB hlt => ?_)
      · have hBl : B < bs.length := (List.getElem?_eq_some_iff.1 hb).1
        have := h1 B (by rw [hp_size, hlen]; exact hBl)
        rw [show bs.getD B B = b from hgD B b hb] at this
        exact this
      · have := h2 B (by rw [hp_size, hlen]; exact hB) (by rw [hp_size]; exact hlt)
        rw [hp_size, hlen] at this
        rw [Nat.add_comm]; exact this
/-- a book of these on top of another -/
noncomputable def bookW : List (FuncId × CtrW) → Book → Book
  | [], S => S
  | (g, c) :: l, S => fun f => cond (Nat.beq g f) (some c.summ) (bookW l S f)
def AllHoldW (P : Program) : List (FuncId × CtrW) → Prop
  | [] => True
  | (g, c) :: l => c.Holds P g ∧ AllHoldW P l
theorem bookW_ok {P : Program} {S : Book} (hS : SumsOk P S.sums) : ∀ {l : List (FuncId × CtrW)}, AllHoldW P l → SumsOk P (bookW l S).sums := by
  intro l
  induction l with
  | nil => intro _; exact hS
  | cons p l ih =>
    obtain ⟨g, c⟩ := p
    intro hl f s hs
    unfold Book.sums at hs
    simp only [bookW] at hs
    cases hb : Nat.beq g f with
    | true =>
      rw [hb, cond_true] at hs
      injection hs with hs
      obtain rfl := Nat.eq_of_beq_eq_true hb
      subst hs
      exact fun args h v h' e ρ w args' q1 q2 q3 => .inl (CtrW.sum_ok hl.1 args h v h' e ρ w args' q1 q2 q3)
    | false => rw [hb, cond_false] at hs; exact ih hl.2 f s hs
end Go.Proofs.Ytfgiifppapopnaa.AM

namespace Go.Proofs.Ytfgiifppapopnaa.AM
theorem zip_self_all {α : Type} (f : α → α → Bool) : ∀ l : List α, ((l.zip l).all fun (x, y) => f x y) = l.all fun x => f x x := by
  intro l
  induction l with
  | nil => rfl
  | cons a l ih => simp only [List.zip_cons_cons, List.all_cons]; rw [← ih]
theorem beqV_agg (n : Nat) (xs : Array Value) : beqV (n + 1) (.agg xs) (.agg xs) = xs.toList.all fun x => beqV n x x := by
  simp only [beqV, beq_self_eq_true, Bool.true_and]
  exact zip_self_all (beqV n) xs.toList
theorem beqV_tuple (n : Nat) (xs : Array Value) : beqV (n + 1) (.tuple xs) (.tuple xs) = xs.toList.all fun x => beqV n x x := by
  simp only [beqV, beq_self_eq_true, Bool.true_and]
  exact zip_self_all (beqV n) xs.toList
/-! ### slices that may be nil: a state in which less is known of some slices, so that nil ones and others are told alike -/
/-- a place: within a temporary; within a cell (o beyond its place) of the block that a temporary points to -/
inductive Pl where
  | tmp (i : Nat) (p : List Nat)
  | cell (i o : Nat) (p : List Nat)
/-- what is told without numbers from here on: a slice (cells of an element), a pointer, an empty map (what it will hold) -/
inductive FzK where
  | sl (e : Nat)
  | pt
  | mp (T : List Value)
/-- whose slices: a temporary's; a part of a temporary's tuple; a cell (o beyond its place) of the block that a temporary points to. e: cells of an element -/
inductive May where
  | tmp (i e : Nat)
  | tup (i j e : Nat)
  | cell (i o e : Nat)
  | fz (p : Pl) (k : FzK)
noncomputable def mayV (n e : Nat) (v : Value) : Option (Value × Option Blk) := match v with
  | .slice none 0 0 => some (.slice (some ⟨n, 0, some 1⟩) 0 0, some (.cells [] e true))
  | .slice (some ⟨B, o, sp⟩) len cap => cond (exS sp) (cond (Nat.beq len 0 && Nat.beq cap 0) (some (.slice (some ⟨B, o, some 1⟩) 0 0, none)) none) (some (.slice (some ⟨B, o, some 1⟩) len cap, none))
  | _ => none
noncomputable def pushO (h : Heap) : Option Blk → Heap
  | some b => h.push b
  | none => h
noncomputable def May.app (m : May) (t : List Value) (h : Heap) : List Value × Heap := match m with
  | .tmp i e => match getO t i with
    | some v => match mayV h.size e v with
      | some (v2, o) => (setL t i v2, pushO h o)
      | none => (t, h)
    | none => (t, h)
  | .tup i j e => match getO t i with
    | some (.tuple cs) => match getO cs.toList j with
      | some v => match mayV h.size e v with
        | some (v2, o) => (setL t i (.tuple (setL cs.toList j v2).toArray), pushO h o)
        | none => (t, h)
      | none => (t, h)
    | _ => (t, h)
  | .cell i o e => match getO t i with
    | some (.pointer (some ⟨B, o', none⟩)) => match h.get B with
      | some (.cells cs es own) => match getO cs (o' + o) with
        | some v => match mayV h.size e v with
          | some (v2, ob) => (t, pushO (h.set B (.cells (setL cs (o' + o) v2) es own)) ob)
          | none => (t, h)
        | none => (t, h)
      | _ => (t, h)
    | _ => (t, h)
  | .fz _ _ => (t, h)
noncomputable def getP : List Nat → Value → Option Value
  | [], v => some v
  | j :: p, v => match v with
    | .agg cs => (getO cs.toList j).bind (getP p)
    | .tuple cs => (getO cs.toList j).bind (getP p)
    | _ => none
noncomputable def setP : List Nat → Value → Value → Value
  | [], _, x => x
  | j :: p, v, x => match v with
    | .agg cs => .agg (setL cs.toList j (setP p ((getO cs.toList j).getD undef) x)).toArray
    | .tuple cs => .tuple (setL cs.toList j (setP p ((getO cs.toList j).getD undef) x)).toArray
    | v => v
noncomputable def Pl.get (p : Pl) (t : List Value) (h : Heap) : Option Value := match p with
  | .tmp i q => (getO t i).bind (getP q)
  | .cell i o q => match getO t i with
    | some (.pointer (some ⟨B, o', none⟩)) => match h.get B with
      | some (.cells cs _ _) => (getO cs (o' + o)).bind (getP q)
      | _ => none
    | _ => none
noncomputable def Pl.put (p : Pl) (t : List Value) (h : Heap) (x : Value) (K : List Value → Heap → Prop) : Prop := match p with
  | .tmp i q => match getO t i with
    | some v => cond (isJunk v) False (K (setL t i (setP q v x)) h)
    | none => False
  | .cell i o q => match getO t i with
    | some (.pointer (some ⟨B, o', none⟩)) => match h.get B with
      | some (.cells cs es own) => match getO cs (o' + o) with
        | some v => Need (Nat.blt 0 es) (K t (h.set B (.cells (setL cs (o' + o) (setP q v x)) es own)))
        | none => False
      | _ => False
    | _ => False
noncomputable def FzK.turn (k : FzK) (v : Value) (h : Heap) (K : Value → Heap → Prop) : Prop := match v with
  | .slice none 0 0 => match k with
    | .sl e => K (frV e 0 []) h
    | _ => False
  | .slice (some ⟨B, o, sp⟩) len cap => match k with
    | .sl e => match h.get B with
      | some (.cells cs es own) => Need (own && Nat.beq es e && Nat.blt 0 e) (Need (leN (o + len * e) cs.length) (FlatL ((cs.drop o).take (len * e)) ∧ K (frV e len ((cs.drop o).take (len * e))) (h.set B .dead)))
      | _ => False
    | _ => False
  | .pointer (some ⟨B, o, none⟩) => match k with
    | .pt => match h.get B with
      | some (.cells cs es own) => Need (own && Nat.blt 0 es) (FlatL (cs.drop o) ∧ K (fpV (cs.drop o)) (h.set B .dead))
      | _ => False
    | _ => False
  | .map (some B) => match k with
    | .mp T => match h.get B with
      | some (.cells [] 0 true) => K (.iface 0 (.iface 0 (.agg T.toArray))) (h.set B .dead)
      | _ => False
    | _ => False
  | .iface 0 x => K (.iface 0 x) h
  | _ => False
noncomputable def mayK : List May → List Value → Heap → (List Value → Heap → Prop) → Prop
  | [], t, h, K => K t h
  | m :: l, t, h, K => match m with
    | .fz p k => match p.get t h with
      | some v => k.turn v h fun v2 h2 => p.put t h2 v2 fun t3 h3 => mayK l t3 h3 K
      | none => False
    | m => mayK l (m.app t h).1 (m.app t h).2 K

/-- the second state knows no more than the first -/
def Slack (k : Nat) (t : List Value) (h : Heap) (t2 : List Value) (h2 : Heap) : Prop := ∀ ρ w ys, k ≤ h.size → Tight ρ h → WR ρ h w → SRs ρ t ys → ∃ ρ2, k ≤ h2.size ∧ Tight ρ2 h2 ∧ WR ρ2 h2 w ∧ Frk k ρ h w ρ2 h2 w ∧ SRs ρ2 t2 ys
theorem Slack.refl {k : Nat} {t : List Value} {h : Heap} : Slack k t h t h := fun ρ w ys hk ht r hs => ⟨ρ, hk, ht, r, Frk.refl hk, hs⟩
theorem Slack.trans {k : Nat} {t t2 t3 : List Value} {h h2 h3 : Heap} (a : Slack k t h t2 h2) (b : Slack k t2 h2 t3 h3) : Slack k t h t3 h3 := fun ρ w ys hk ht r hs => by
  obtain ⟨ρ1, q1, q2, q3, q4, q5⟩ := a ρ w ys hk ht r hs
  obtain ⟨ρ2, p1, p2, p3, p4, p5⟩ := b ρ1 w ys q1 q2 q3 q5
  exact ⟨ρ2, p1, p2, p3, q4.trans p4, p5⟩
/-- the second value knows no more than the first -/
def Less (v v2 : Value) : Prop := ∀ ρ v', VR ρ v v' → VR ρ v2 v'
theorem mayV_ok {n e : Nat} {v v2 : Value} {o : Option Blk} (h : mayV n e v = some (v2, o)) : Less v v2 ∧ (o = none ∨ ∃ e, o = some (.cells [] e true)) ∧ isJunk v = false := by
  unfold mayV at h
  split at h
  · injection h with h
    injection h with h1 h2
    subst h1 h2
    refine ⟨fun ρ v' hv => ?_, .inr ⟨_, rfl⟩, rfl⟩
    obtain ⟨rfl, _, _⟩ := hv.nilslice
    exact .nl _ _ _ _ rfl (fun h => by cases h)
  · rename_i B o' sp len cap
    cases hx : exS sp with
    | true =>
      rw [hx, cond_true] at h
      cases hz : (Nat.beq len 0 && Nat.beq cap 0) with
      | false => rw [hz] at h; cases h
      | true =>
        rw [hz, cond_true] at h
        injection h with h
        injection h with h1 h2
        subst h1 h2
        rw [Bool.and_eq_true] at hz
        obtain rfl := Nat.eq_of_beq_eq_true hz.1
        obtain rfl := Nat.eq_of_beq_eq_true hz.2
        refine ⟨fun ρ v' hv => ?_, .inl rfl, rfl⟩
        rcases hv.of_slice with ⟨_, _, _, a, rfl, _⟩ | ⟨cc, l, o', rfl, q1, q2, q3, q4, q5, q6⟩
        · exact .nl _ _ _ _ rfl (fun h => by cases h)
        · obtain rfl := q4 (exC_of hx)
          exact .nl _ _ _ _ rfl (fun h => by cases h)
    | false =>
      rw [hx, cond_false] at h
      injection h with h
      injection h with h1 h2
      subst h1 h2
      refine ⟨fun ρ v' hv => ?_, .inl rfl, rfl⟩
      rcases hv.of_slice with ⟨rfl, rfl, _, a, rfl, _⟩ | ⟨cc, l, o', rfl, q1, q2, q3, q4, q5, q6⟩
      · exact .nl _ _ _ _ rfl (fun h => by cases h)
      · exact .sl _ _ _ _ _ _ l _ q1 q2 q3 (fun hh => by cases hh) (fun _ => q5 hx) q6
  · cases h
theorem Slack.push {k : Nat} {t : List Value} {h : Heap} {o : Option Blk} (ho : o = none ∨ ∃ e, o = some (.cells [] e true)) : Slack k t h t (pushO h o) := by
  rcases ho with rfl | ⟨e, rfl⟩
  · exact Slack.refl
  · intro ρ w ys hk ht r hs
    have hfr := ht h.size (Nat.le_refl _)
    exact ⟨ρ, Nat.le_succ_of_le hk, fun B hB => ht B (Nat.le_of_succ_le hB), r.ghost hfr e true, Frk.of (Fr.ghost hfr) hk, hs⟩
theorem SRs.setV {ρ : Rho} {t ys : List Value} (hs : SRs ρ t ys) {i : Nat} {v v2 : Value} (hi : t[i]? = some v) (hj : isJunk v = false) (hv : ∀ v', VR ρ v v' → VR ρ v2 v') : SRs ρ (t.set i v2) ys := by
  refine ⟨by rw [List.length_set]; exact hs.1, fun j x y hx hy => ?_⟩
  rw [List.getElem?_set] at hx
  split at hx
  · rename_i hij
    subst hij
    split at hx
    · injection hx with hx
      subst hx
      exact .inr (hv y ((hs.2 i v y hi hy).vr hj))
    · cases hx
  · exact hs.2 j x y hx hy
theorem Slack.tmp {k : Nat} {t : List Value} {h : Heap} {i : Nat} {v v2 : Value} (hi : t[i]? = some v) (hj : isJunk v = false) (hv : Less v v2) : Slack k t h (t.set i v2) h := by
  intro ρ w ys hk ht r hs
  exact ⟨ρ, hk, ht, r, Frk.refl hk, hs.setV hi hj (hv ρ)⟩
theorem WR.setV {ρ : Rho} {w : World} {k : Nat} {h : Heap} (hk : k ≤ h.size) (r : WR ρ h w) {B i : Nat} {cs : List Value} {e : Nat} {own : Bool} {v v2 : Value} (hB : h.get B = some (.cells cs e own)) (hi : cs[i]? = some v) (hv : ∀ v', VR ρ v v' → VR ρ v2 v') :
    WR ρ (h.set B (.cells (cs.set i v2) e own)) w ∧ Frk k ρ h w ρ (h.set B (.cells (cs.set i v2) e own)) w := by
  have hlt := Heap.get_lt hB
  have hg : ∀ B' c e' o', (h.set B (.cells (cs.set i v2) e own)).get B' = some (.cells c e' o') → ρ B' = ρ B' ∧ ∃ c0, h.get B' = some (.cells c0 e' o') ∧ Mvs ρ ρ c0 c := fun B' c e' o' hb => by
    rw [Heap.get_set hlt] at hb
    split at hb
    · rename_i hBB
      subst hBB
      simp only [Option.some.injEq, Blk.cells.injEq] at hb
      obtain ⟨rfl, rfl, rfl⟩ := hb
      refine ⟨rfl, cs, hB, by simp, fun j x y hx hy v' hvx => ?_⟩
      rw [List.getElem?_set] at hy
      split at hy
      · rename_i hij
        subst hij
        split at hy
        · injection hy with hy
          subst hy
          rw [hi] at hx; injection hx with hx; subst hx
          exact hv v' hvx
        · cases hy
      · rw [hx] at hy; injection hy with hy; subst hy; exact hvx
    · exact ⟨rfl, c, hb, rfl, fun j x y hx hy v' hvx => by rw [hx] at hy; injection hy with hy; subst hy; exact hvx⟩
  have hg' : ∀ B' c e' o', (h.set B (.cells (cs.set i v2) e own)).get B' = some (.cells c e' o') → ρ B' = ρ B' ∧ ∃ c0, h.get B' = some (.cells c0 e' o') := fun B' c e' o' hb => by
    obtain ⟨a, c0, b, _⟩ := hg B' c e' o' hb; exact ⟨a, c0, b⟩
  exact ⟨r.renum rfl id hg (fun _ _ _ _ _ _ _ _ _ _ hh => hh), ⟨rfl, rfl, rfl, hk, Nat.le_refl _, fun _ _ => rfl, fun b _ hn => ⟨.inl rfl, fun ho => hn (ho.renum (g := id) hg')⟩, fun b _ hn ho => hn (ho.renum (g := id) hg'), fun _ _ h => h, fun _ _ _ => rfl⟩⟩
theorem Slack.cell {k : Nat} {t : List Value} {h : Heap} {B i : Nat} {cs : List Value} {e : Nat} {own : Bool} {v v2 : Value} (hB : h.get B = some (.cells cs e own)) (hi : cs[i]? = some v) (hv : Less v v2) : Slack k t h t (h.set B (.cells (cs.set i v2) e own)) := by
  intro ρ w ys hk ht r hs
  obtain ⟨a, b⟩ := r.setV hk hB hi (hv ρ)
  exact ⟨ρ, hk, ht, a, b, hs⟩
/-- a block of our own is not written any more -/
theorem WR.freeze {ρ : Rho} {w : World} {k : Nat} {h : Heap} (hk : k ≤ h.size) (ht : Tight ρ h) (r : WR ρ h w) {B : Nat} {cs : List Value} {e : Nat} (hb : h.get B = some (.cells cs e true)) {l : Loc} (hl : ρ B = some l) (q : Zb) (hq : Zok ρ.z q w.heap[l.blk]?) :
    ∃ ρ2 : Rho, ρ2.f = ρ.f ∧ ρ2.z l.blk = some q ∧ Sub ρ ρ2 ∧ Tight ρ2 (h.set B .dead) ∧ WR ρ2 (h.set B .dead) w ∧ Frk k ρ h w ρ2 (h.set B .dead) w := by
  have hB := Heap.get_lt hb
  have hno : Own ρ h l.blk := ⟨B, l, cs, e, hb, hl, rfl⟩
  have hzn : ρ.z l.blk = none := by
    cases hz : ρ.z l.blk with
    | none => rfl
    | some q' => exact absurd hno (r.zok _ _ hz).2.own
  have hsub : Sub ρ ⟨ρ.f, fun b => if b = l.blk then some q else ρ.z b⟩ := ⟨fun _ _ h => h, fun b q' hz => by
    show (if b = l.blk then some q else ρ.z b) = some q'
    rw [if_neg (fun hh => by rw [hh, hzn] at hz; cases hz)]; exact hz⟩
  have back : ∀ {B' : Nat} {c e o}, (h.set B .dead).get B' = some (.cells c e o) → B' ≠ B ∧ h.get B' = some (.cells c e o) := fun h1 => by
    rw [Heap.get_set hB] at h1
    split at h1
    · cases h1
    · rename_i hne; exact ⟨hne, h1⟩
  have nl : ∀ B' c e' o' l', B' ≠ B → h.get B' = some (.cells c e' o') → ρ B' = some l' → l'.blk ≠ l.blk := fun B' c e' o' l' hne h1 h2 hh => hne (r.inj B B' _ _ _ _ _ _ _ hb h1 hl h2 hh.symm).symm
  have ob : ∀ b, Own (⟨ρ.f, fun b => if b = l.blk then some q else ρ.z b⟩ : Rho) (h.set B .dead) b → b ≠ l.blk ∧ Own ρ h b := fun b ⟨B', l', c, e', q1, q2, q3⟩ => by
    obtain ⟨p1, p2⟩ := back q1
    exact ⟨q3 ▸ nl B' c e' true l' p1 p2 q2, B', l', c, e', p2, q2, q3⟩
  have lb : ∀ b, Live (⟨ρ.f, fun b => if b = l.blk then some q else ρ.z b⟩ : Rho) (h.set B .dead) b → b ≠ l.blk ∧ Live ρ h b := fun b ⟨B', l', c, e', o', q1, q2, q3⟩ => by
    obtain ⟨p1, p2⟩ := back q1
    exact ⟨q3 ▸ nl B' c e' o' l' p1 p2 q2, B', l', c, e', o', p2, q2, q3⟩
  refine ⟨⟨ρ.f, fun b => if b = l.blk then some q else ρ.z b⟩, rfl, if_pos rfl, hsub, fun B' hB' => ht B' hB', ⟨fun B' c e' o' h1 => ?_, fun B1 B2 c1 e1 c2 e2 w2 l1 l2 hb1 hb2 hl1 hl2 he => r.inj _ _ _ _ _ _ _ _ _ (back hb1).2 (back hb2).2 hl1 hl2 he, fun b q' hz => ?_⟩, ?_⟩
  · rcases r.obj B' c e' o' (back h1).2 with q | ⟨l', q1, q2⟩
    · exact .inl q
    · exact .inr ⟨l', q1, q2.mono hsub rfl⟩
  · replace hz : (if b = l.blk then some q else ρ.z b) = some q' := hz
    split at hz
    · rename_i hbb
      injection hz with hz
      subst hz
      rw [hbb]
      exact ⟨hq.mono hsub.z, fun o => (ob _ o).1 rfl, fun _ o => (lb _ o).1 rfl⟩
    · rename_i hbb
      obtain ⟨z1, z2⟩ := r.zok b q' hz
      exact ⟨z1.mono hsub.z, z2.of (fun o => (ob _ o).2) (fun o => (lb _ o).2) (if_neg hbb)⟩
  · exact ⟨rfl, rfl, rfl, hk, Nat.le_refl _, fun _ _ => rfl, fun b _ hn => ⟨.inl rfl, fun o => hn (ob b o).2⟩, fun b _ hn o => hn (lb b o).2, hsub.z, fun b _ hn => if_neg fun hh => hn (by rw [hh]; exact hno)⟩
/-- a value told without numbers: what it stands for is as it was -/
theorem FzK.turn_ok {fk : FzK} {v : Value} {h : Heap} {K : Value → Heap → Prop} (hk : fk.turn v h K) : ∃ v2 h2, K v2 h2 ∧ isJunk v = false ∧ h2.size = h.size ∧ (∀ B c e o, h2.get B = some (.cells c e o) → h.get B = some (.cells c e o)) ∧ ∀ (k : Nat) ρ w v', k ≤ h.size → Tight ρ h → WR ρ h w → VR ρ v v' →
    ∃ ρ2 : Rho, Tight ρ2 h2 ∧ WR ρ2 h2 w ∧ Frk k ρ h w ρ2 h2 w ∧ Sub ρ ρ2 ∧ ∀ v', VR ρ2 v v' → VR ρ2 v2 v' := by
  have dead : ∀ {B : Nat} {c0 e0 o0}, h.get B = some (.cells c0 e0 o0) → ∀ B' c e o, (h.set B .dead).get B' = some (.cells c e o) → h.get B' = some (.cells c e o) := fun hb B' c e o h1 => by
    rw [Heap.get_set (Heap.get_lt hb)] at h1
    split at h1
    · cases h1
    · exact h1
  unfold FzK.turn at hk
  split at hk
  · split at hk
    · rename_i e
      exact ⟨_, h, hk, rfl, rfl, fun _ _ _ _ hh => hh, fun k ρ w v' hkh ht r hv => ⟨ρ, ht, r, Frk.refl hkh, Sub.refl _, fun v'' hv' => by
        obtain ⟨rfl, _, _⟩ := hv'.nilslice
        exact .frz _ _ (.fz0 e 0 none)⟩⟩
    · exact hk.elim
  · rename_i B o sp len cap
    split at hk
    · rename_i e
      split at hk
      · rename_i cs es own hb
        obtain ⟨q1, hk⟩ := Need_iff.1 hk
        obtain ⟨q2, q3, hkk⟩ := Need_iff.1 hk
        simp only [Bool.and_eq_true] at q1
        obtain ⟨⟨rfl, q1⟩, q0⟩ := q1
        obtain rfl := Nat.eq_of_beq_eq_true q1
        have q0 : 0 < es := Nat.le_of_ble_eq_true q0
        have q2 := leN_iff.1 q2
        refine ⟨_, _, hkk, rfl, rfl, dead hb, fun k ρ w v' hkh ht r hv => ?_⟩
        cases hlb : ρ B with
        | none =>
          have hcs : cs = [] := by
            rcases r.obj _ _ _ _ hb with ⟨a, _⟩ | ⟨l, a, _⟩
            · exact a
            · rw [hlb] at a; cases a
          subst hcs
          have hB := Heap.get_lt hb
          refine ⟨ρ, fun B' h' => ht B' h', r.kill hB, Frk.of (Fr.kill hB) hkh, Sub.refl _, fun v'' hv' => ?_⟩
          rcases hv'.of_slice with ⟨rfl, rfl, _, a, rfl, _⟩ | ⟨cc, l, o', rfl, a1, _⟩
          · rw [Nat.zero_mul, List.take_zero]
            exact .frz _ _ (.fz0 es 0 a)
          · rw [hlb] at a1; cases a1
        | some l =>
          have c := r.at hb hlb
          obtain ⟨cc0, ty, fr, c1, c2, c3, c4⟩ := c.hblk (by omega)
          obtain ⟨ρ2, p0, p1, p2, p3, p4, p5⟩ := r.freeze hkh ht hb hlb (.obj (.cells cc0 ty fr)) c1
          refine ⟨ρ2, p3, p4, p5, p2, fun v'' hv' => ?_⟩
          rcases hv'.of_slice with ⟨rfl, rfl, _, a, rfl, _⟩ | ⟨cc, l', o', rfl, a1, a2, a3, a4, a5, a6⟩
          · rw [Nat.zero_mul, List.take_zero]
            exact .frz _ _ (.fz0 es 0 a)
          · have : ρ2 B = some l := p2.f B l hlb
            rw [this] at a1; injection a1 with a1; subst a1
            rcases Nat.eq_zero_or_pos len with h0 | hpos
            · subst h0
              rw [Nat.zero_mul, List.take_zero]
              exact .frz _ _ (.fz0 es cc _)
            · have ho : o' = l.base + o := by
                rcases a2 with a2 | a2
                · exact a2
                · omega
              subst ho
              have hll : ((cs.drop o).take (len * es)).length = len * es := by rw [List.length_take, List.length_drop]; omega
              have hmul : 0 < len * es := Nat.mul_pos hpos q0
              have hsz : l.base + o + len * es ≤ cc0.size := by
                obtain ⟨_, d, _⟩ := c4 (o + len * es - 1) _ (List.getElem?_eq_getElem (show o + len * es - 1 < cs.length by omega))
                have := (Array.getElem?_eq_some_iff.1 d).1
                omega
              refine .frz _ _ (.fz es len cc l.blk (l.base + o) _ cc0 ty fr p1 hll (by omega) hsz fun i x y hx hy => ?_)
              rw [List.getElem?_take] at hx
              split at hx
              · rw [List.getElem?_drop] at hx
                obtain ⟨y', d1, d2⟩ := c4 (o + i) x hx
                rw [← Nat.add_assoc, hy] at d1; injection d1 with d1; subst d1
                cases q3 with
                | mk q3 =>
                refine (d2.fr (q3 x ?_)).mono p2.z
                rw [← List.getElem?_drop] at hx
                exact List.mem_of_getElem? (i := i) (by rw [List.getElem?_take, if_pos ‹_›]; exact hx)
              · cases hx
      · exact hk.elim
    · exact hk.elim
  · rename_i B o
    split at hk
    · split at hk
      · rename_i cs es own hb
        obtain ⟨q1, q3, hkk⟩ := Need_iff.1 hk
        simp only [Bool.and_eq_true] at q1
        obtain ⟨rfl, q0⟩ := q1
        have q0 : 0 < es := Nat.le_of_ble_eq_true q0
        refine ⟨_, _, hkk, rfl, rfl, dead hb, fun k ρ w v' hkh ht r hv => ?_⟩
        cases hv with
        | atom _ hh => cases hh
        | ptr B o l hlb =>
        have c := r.at hb hlb
        obtain ⟨cc0, ty, fr, c1, c2, c3, c4⟩ := c.hblk (by omega)
        obtain ⟨ρ2, p0, p1, p2, p3, p4, p5⟩ := r.freeze hkh ht hb hlb (.obj (.cells cc0 ty fr)) c1
        refine ⟨ρ2, p3, p4, p5, p2, fun v'' hv' => ?_⟩
        cases hv' with
        | atom _ hh => cases hh
        | ptr B o l' hlb' =>
        rw [p2.f B l hlb] at hlb'; injection hlb' with hlb'; subst hlb'
        refine .frz _ _ (.fp l.blk (l.base + o) _ cc0 ty fr p1 (fun hne => ?_) fun i x y hx hy => ?_)
        · have hlt : o < cs.length := by
            rcases Nat.lt_or_ge o cs.length with q | q
            · exact q
            · exact absurd (List.drop_eq_nil_of_le q) hne
          obtain ⟨_, d, _⟩ := c4 (cs.length - 1) _ (List.getElem?_eq_getElem (show cs.length - 1 < cs.length by omega))
          have := (Array.getElem?_eq_some_iff.1 d).1
          rw [List.length_drop]; omega
        · have hx0 := hx
          rw [List.getElem?_drop] at hx
          obtain ⟨y', d1, d2⟩ := c4 (o + i) x hx
          rw [← Nat.add_assoc, hy] at d1; injection d1 with d1; subst d1
          cases q3 with
          | mk q3 => exact (d2.fr (q3 x (List.mem_of_getElem? hx0))).mono p2.z
      · exact hk.elim
    · exact hk.elim
  · rename_i B
    split at hk
    · rename_i T
      split at hk
      · rename_i hb
        refine ⟨_, _, hk, rfl, rfl, dead hb, fun k ρ w v' hkh ht r hv => ?_⟩
        cases hv with
        | atom _ hh => cases hh
        | mp B l hlb =>
        have c := r.at hb hlb
        obtain ⟨es, clock, c1, c2, c3⟩ := c.hmap rfl
        have hes : es.toList = [] := by
          generalize es.toList = L at c2
          cases c2; rfl
        obtain ⟨ρ2, p0, p1, p2, p3, p4, p5⟩ := r.freeze hkh ht hb hlb (.memo T) ⟨es, clock, c1, c3, fun e he => by rw [hes] at he; simp at he⟩
        refine ⟨ρ2, p3, p4, p5, p2, fun v'' hv' => ?_⟩
        cases hv' with
        | atom _ hh => cases hh
        | mp B l' hlb' =>
        rw [p2.f B l hlb] at hlb'; injection hlb' with hlb'; subst hlb'
        exact .frz _ _ (.mm l.blk T p1)
      · exact hk.elim
    · exact hk.elim
  · rename_i x
    exact ⟨_, h, hk, rfl, rfl, fun _ _ _ _ hh => hh, fun k ρ w v' hkh ht r hv => ⟨ρ, ht, r, Frk.refl hkh, Sub.refl _, fun v'' hv' => hv'⟩⟩
  · exact hk.elim
theorem getP_vr {ρ : Rho} : ∀ {p : List Nat} {v x v' : Value}, getP p v = some x → VR ρ v v' → ∃ x', VR ρ x x' := by
  intro p
  induction p with
  | nil => intro v x v' h hv; injection h with h; subst h; exact ⟨_, hv⟩
  | cons j p ih =>
    intro v x v' h hv
    unfold getP at h
    split at h
    · obtain ⟨ys, rfl, hy⟩ := hv.agg_iff
      obtain ⟨u, h1, h2⟩ := Option.bind_eq_some_iff.1 h
      rw [getO_eq] at h1
      obtain ⟨u', _, g2⟩ := hy.get h1
      exact ih h2 g2
    · obtain ⟨ys, rfl, hy⟩ := hv.tuple_iff
      obtain ⟨u, h1, h2⟩ := Option.bind_eq_some_iff.1 h
      rw [getO_eq] at h1
      obtain ⟨u', _, g2⟩ := hy.get h1
      exact ih h2 g2
    · cases h
theorem setP_vr {ρ : Rho} {x x2 : Value} (hx : ∀ x', VR ρ x x' → VR ρ x2 x') : ∀ {p : List Nat} {v : Value}, getP p v = some x → ∀ v', VR ρ v v' → VR ρ (setP p v x2) v' := by
  intro p
  induction p with
  | nil => intro v h v' hv; injection h with h; subst h; exact hx v' hv
  | cons j p ih =>
    intro v h v' hv
    unfold getP at h
    have main : ∀ (cs ys : Array Value), (getO cs.toList j).bind (getP p) = some x → VRs ρ cs.toList ys.toList → VRs ρ (setL cs.toList j (setP p ((getO cs.toList j).getD undef) x2)) ys.toList := fun cs ys h hy => by
      obtain ⟨u, h1, h2⟩ := Option.bind_eq_some_iff.1 h
      rw [h1, Option.getD_some, setL_eq]
      rw [getO_eq] at h1
      refine ⟨by rw [List.length_set]; exact hy.1, fun i a b ha hb => ?_⟩
      rw [List.getElem?_set] at ha
      split at ha
      · rename_i hij
        subst hij
        split at ha
        · injection ha with ha
          subst ha
          exact ih h2 b (hy.2 _ u b h1 hb)
        · cases ha
      · exact hy.2 i a b ha hb
    split at h
    · obtain ⟨ys, rfl, hy⟩ := hv.agg_iff
      exact .mk_agg (by simpa using main _ ys h hy)
    · obtain ⟨ys, rfl, hy⟩ := hv.tuple_iff
      exact .mk_tuple (by simpa using main _ ys h hy)
    · cases h
theorem getP_junk {p : List Nat} {v x : Value} (h : getP p v = some x) (hx : isJunk x = false) : isJunk v = false := by
  cases p with
  | nil => injection h with h; subst h; exact hx
  | cons j p =>
    unfold getP at h
    split at h <;> first | rfl | cases h
theorem May.fz_slack {p : Pl} {fk : FzK} {t : List Value} {h : Heap} {K : List Value → Heap → Prop} {v : Value} (hg : p.get t h = some v) (hk : fk.turn v h fun v2 h2 => p.put t h2 v2 K) : ∃ t2 h2, K t2 h2 ∧ ∀ k, Slack k t h t2 h2 := by
  obtain ⟨v2, h2, hput, hj, hsz, hbk, H⟩ := FzK.turn_ok hk
  cases p with
  | tmp i q =>
    simp only [Pl.get] at hg
    obtain ⟨u, g1, g2⟩ := Option.bind_eq_some_iff.1 hg
    simp only [Pl.put, g1] at hput
    have hju := getP_junk g2 hj
    rw [hju, cond_false] at hput
    refine ⟨_, _, hput, fun k ρ w ys hkh ht r hs => ?_⟩
    rw [getO_eq] at g1
    have hil : i < t.length := (List.getElem?_eq_some_iff.1 g1).1
    obtain ⟨u', hu'⟩ : ∃ u', ys[i]? = some u' := ⟨_, List.getElem?_eq_getElem (by rw [← hs.1]; exact hil)⟩
    obtain ⟨x', hx'⟩ := getP_vr g2 ((hs.2 i u u' g1 hu').vr hju)
    obtain ⟨ρ2, a1, a2, a3, a4, a5⟩ := H k ρ w x' hkh ht r hx'
    refine ⟨ρ2, by omega, a1, a2, a3, ?_⟩
    rw [setL_eq]
    exact (hs.mono a4).setV g1 hju (setP_vr a5 g2)
  | cell i o q =>
    simp only [Pl.get] at hg
    split at hg
    · rename_i B o' g0
      split at hg
      · rename_i cs es own g1
        obtain ⟨u, g2, g3⟩ := Option.bind_eq_some_iff.1 hg
        simp only [Pl.put, g0] at hput
        split at hput
        · rename_i cs2 es2 own2 g4
          split at hput
          · rename_i u2 g5
            obtain ⟨he, hput⟩ := Need_iff.1 hput
            refine ⟨_, _, hput, fun k ρ w ys hkh ht r hs => ?_⟩
            have g6 := hbk _ _ _ _ g4
            rw [g1] at g6
            simp only [Option.some.injEq, Blk.cells.injEq] at g6
            obtain ⟨rfl, rfl, rfl⟩ := g6
            rw [g2] at g5; injection g5 with g5; subst g5
            rw [getO_eq] at g0 g2
            have hil : i < t.length := (List.getElem?_eq_some_iff.1 g0).1
            obtain ⟨u', hu'⟩ : ∃ u', ys[i]? = some u' := ⟨_, List.getElem?_eq_getElem (by rw [← hs.1]; exact hil)⟩
            have hp := (hs.2 i _ u' g0 hu').vr rfl
            cases hp with
            | atom _ hh => cases hh
            | ptr B o' l hlb =>
            have c := r.at g1 hlb
            have he0 : es ≠ 0 := by have := Nat.le_of_ble_eq_true he; omega
            obtain ⟨cc0, ty, fr, c1, c2, c3, c4⟩ := c.hblk he0
            obtain ⟨x0, _, hx0⟩ := c4 _ u g2
            obtain ⟨x', hx'⟩ := getP_vr g3 hx0
            obtain ⟨ρ2, a1, a2, a3, a4, a5⟩ := H k ρ w x' hkh ht r hx'
            rw [setL_eq]
            obtain ⟨b1, b2⟩ := a2.setV (k := k) (by omega) g4 g2 (setP_vr a5 g3)
            exact ⟨ρ2, by rw [Heap.size_set]; omega, fun B' hB' => a1 B' hB', b1, a3.trans b2, hs.mono a4⟩
          · exact hput.elim
        · exact hput.elim
      · cases hg
    · cases hg
theorem May.slack (m : May) {k : Nat} {t : List Value} {h : Heap} : Slack k t h (m.app t h).1 (m.app t h).2 := by
  unfold May.app
  split
  · split
    · rename_i v hv
      split
      · rename_i v2 o hm
        obtain ⟨a, b, c⟩ := mayV_ok hm
        rw [getO_eq] at hv
        rw [setL_eq]
        exact (Slack.tmp hv c a).trans (Slack.push b)
      · exact Slack.refl
    · exact Slack.refl
  · split
    · rename_i cs hv
      split
      · rename_i v hj
        split
        · rename_i v2 o hm
          obtain ⟨a, b, c⟩ := mayV_ok hm
          rw [getO_eq] at hv hj
          rw [setL_eq, setL_eq]
          refine (Slack.tmp hv rfl fun ρ v' hvv => ?_).trans (Slack.push b)
          obtain ⟨ys, rfl, hy⟩ := hvv.tuple_iff
          refine .mk_tuple ⟨by simpa using hy.1, fun p x y hx hyy => ?_⟩
          simp only [List.toList_toArray] at hx
          rw [List.getElem?_set] at hx
          split at hx
          · rename_i hij
            subst hij
            split at hx
            · injection hx with hx
              subst hx
              exact a ρ y (hy.2 _ v y hj hyy)
            · cases hx
          · exact hy.2 p x y hx hyy
        · exact Slack.refl
      · exact Slack.refl
    · exact Slack.refl
  · split
    · rename_i B o' hv
      split
      · rename_i cs es own hb
        split
        · rename_i v hj
          split
          · rename_i v2 ob hm
            obtain ⟨a, b, c⟩ := mayV_ok hm
            rw [getO_eq] at hj
            rw [setL_eq]
            exact (Slack.cell hb hj a).trans (Slack.push b)
          · exact Slack.refl
        · exact Slack.refl
      · exact Slack.refl
    · exact Slack.refl
  · exact Slack.refl
theorem mayK_ok : ∀ {l : List May} {t : List Value} {h : Heap} {K : List Value → Heap → Prop}, mayK l t h K → ∃ t2 h2, K t2 h2 ∧ ∀ k, Slack k t h t2 h2 := by
  intro l
  induction l with
  | nil => intro t h K hk; exact ⟨t, h, hk, fun k => Slack.refl⟩
  | cons m l ih =>
    intro t h K hk
    have gen : ∀ m : May, mayK l (m.app t h).1 (m.app t h).2 K → ∃ t2 h2, K t2 h2 ∧ ∀ k, Slack k t h t2 h2 := fun m hk => by
      obtain ⟨t2, h2, a, b⟩ := ih hk
      exact ⟨t2, h2, a, fun k => (m.slack).trans (b k)⟩
    cases m with
    | tmp i e => exact gen _ hk
    | tup i j e => exact gen _ hk
    | cell i o e => exact gen _ hk
    | fz p fk =>
      simp only [mayK] at hk
      split at hk
      · rename_i v hg
        obtain ⟨t2, h2, a, b⟩ := May.fz_slack hg hk
        obtain ⟨t3, h3, c, d⟩ := ih a
        exact ⟨t3, h3, c, fun k => (b k).trans (d k)⟩
      · exact hk.elim
/-- a state under the numbers that it needs; D: its blocks that hold addresses; M: slices of which it is not known whether they are nil -/
noncomputable def tidy3 (D bs : List Nat) (p : List Value × Heap) (K : List Value → Heap → Prop) : Prop := K (rnT bs p.1) (hp (rnBs D bs 0 (bs.map (blkOf p.2))))
noncomputable def tidy2 (D : List Nat) (k : Nat) (p : List Value × Heap) (K : List Value → Heap → Prop) : Prop := tidy3 D (gcBD D k p.1 p.2) p K
noncomputable def tidy (D : List Nat) (M : List May) (k : Nat) (live : Option (List Nat)) (t : List Value) (h : Heap) (K : List Value → Heap → Prop) : Prop := mayK M (forget live t) h fun t h => tidy2 D k (t, h) K
theorem tidy_ok {D : List Nat} {M : List May} {k : Nat} {live : Option (List Nat)} {t : List Value} {h : Heap} {K : List Value → Heap → Prop} (hK : tidy D M k live t h fun t' h' => FlatD D h' ∧ K t' h') :
    ∃ t2 h2, K t2 h2 ∧ ∀ ρ w ys, k ≤ h.size → Tight ρ h → WR ρ h w → SRs ρ t ys → ∃ ρ2, k ≤ h2.size ∧ Tight ρ2 h2 ∧ WR ρ2 h2 w ∧ Frk k ρ h w ρ2 h2 w ∧ SRs ρ2 t2 ys := by
  obtain ⟨t1, h1, ⟨hf, hk⟩, hsl⟩ := mayK_ok hK
  refine ⟨_, _, hk, fun ρ w ys hkh ht r hs => ?_⟩
  obtain ⟨ρ1, q1, q2, q3, q4, q5⟩ := hsl k ρ w ys hkh ht r hs.forget
  have R := Ren.bsD (D := D) (k := k) (t := t1) (h := h1) (gcBD_ok D k _ _).1 (gcBD_ok D k _ _).2 hf
  obtain ⟨ρ2, p1, p2, p3, p4⟩ := R.move q2 q3 q5
  exact ⟨ρ2, R.hk, p1, p2, q4.trans p3, p4⟩
theorem FzK.turn_mono {fk : FzK} {v : Value} {h : Heap} {K K' : Value → Heap → Prop} (hm : ∀ v h, K v h → K' v h) (hk : fk.turn v h K) : fk.turn v h K' := by
  unfold FzK.turn at hk ⊢
  split at hk
  · split at hk
    · exact hm _ _ hk
    · exact hk.elim
  · split at hk
    · split at hk
      · obtain ⟨q1, hk⟩ := Need_iff.1 hk
        obtain ⟨q2, q3, hk⟩ := Need_iff.1 hk
        exact Need_iff.2 ⟨q1, Need_iff.2 ⟨q2, q3, hm _ _ hk⟩⟩
      · exact hk.elim
    · exact hk.elim
  · split at hk
    · split at hk
      · obtain ⟨q1, q3, hk⟩ := Need_iff.1 hk
        exact Need_iff.2 ⟨q1, q3, hm _ _ hk⟩
      · exact hk.elim
    · exact hk.elim
  · split at hk
    · split at hk
      · exact hm _ _ hk
      · exact hk.elim
    · exact hk.elim
  · exact hm _ _ hk
  · exact hk.elim
theorem Pl.put_mono {p : Pl} {t : List Value} {h : Heap} {x : Value} {K K' : List Value → Heap → Prop} (hm : ∀ t h, K t h → K' t h) (hk : p.put t h x K) : p.put t h x K' := by
  unfold Pl.put at hk ⊢
  cases p with
  | tmp i q =>
    simp only at hk ⊢
    split at hk
    · rename_i v hv
      cases hj : isJunk v with
      | true => rw [hj] at hk; exact hk.elim
      | false => rw [hj, cond_false] at hk; exact hm _ _ hk
    · exact hk.elim
  | cell i o q =>
    simp only at hk ⊢
    split at hk
    · split at hk
      · split at hk
        · obtain ⟨q1, hk⟩ := Need_iff.1 hk
          exact Need_iff.2 ⟨q1, hm _ _ hk⟩
        · exact hk.elim
      · exact hk.elim
    · exact hk.elim
theorem mayK_mono : ∀ {l : List May} {t : List Value} {h : Heap} {K K' : List Value → Heap → Prop}, (∀ t h, K t h → K' t h) → mayK l t h K → mayK l t h K' := by
  intro l
  induction l with
  | nil => intro t h K K' hm hk; exact hm _ _ hk
  | cons m l ih =>
    intro t h K K' hm hk
    cases m with
    | tmp i e => exact ih hm hk
    | tup i j e => exact ih hm hk
    | cell i o e => exact ih hm hk
    | fz p fk =>
      simp only [mayK] at hk ⊢
      split at hk
      · exact FzK.turn_mono (fun v h hk => Pl.put_mono (fun t h hk => ih hm hk) hk) hk
      · exact hk.elim
theorem tidy_mono {D : List Nat} {M : List May} {k : Nat} {live : Option (List Nat)} {t : List Value} {h : Heap} {K K' : List Value → Heap → Prop} (hm : ∀ t h, K t h → K' t h) (hk : Go.Proofs.Ytfgiifppapopnaa.AM.tidy D M k live t h K) : Go.Proofs.Ytfgiifppapopnaa.AM.tidy D M k live t h K' :=
  mayK_mono (fun _ _ hk => hm _ _ hk) hk
theorem Says.tidy {P : Program} {k : Nat} {c : Code} {t : List Value} {h : Heap} {K : Post} {D : List Nat} {M : List May} {l : Option (List Nat)} (hb : Go.Proofs.Ytfgiifppapopnaa.AM.tidy D M k l t h fun t' h' => FlatD D h' ∧ Says P k c t' h' K) : Says P k c t h K := by
  obtain ⟨t2, h2, hK, hq⟩ := tidy_ok hb
  intro ρ a w Q hk ht r hs hQ
  obtain ⟨ρ2, p1, p2, p3, p4, p5⟩ := hq ρ w _ hk ht r hs
  exact hK ρ2 a w Q p1 p2 p3 p5 fun e t' h' ρ' a' w' hK ht' r' f' => hQ e t' h' ρ' a' w' hK ht' r' (p4.trans f')
theorem LSays.tidy {P : Program} {k : Nat} {c : Code} {t : List Value} {h : Heap} {K : Post} {D : List Nat} {M : List May} {l : Option (List Nat)} (hb : Go.Proofs.Ytfgiifppapopnaa.AM.tidy D M k l t h fun t' h' => FlatD D h' ∧ LSays P k c t' h' K) : LSays P k c t h K := by
  obtain ⟨t2, h2, hK, hq⟩ := tidy_ok hb
  intro ρ a w Q hk ht r hs hQ
  obtain ⟨ρ2, p1, p2, p3, p4, p5⟩ := hq ρ w _ hk ht r hs
  exact hK ρ2 a w Q p1 p2 p3 p5 fun e t' h' ρ' a' w' hK ht' r' f' => hQ e t' h' ρ' a' w' hK ht' r' (p4.trans f')
/-- D, M: of a round's end; E, N: where it is left -/
noncomputable def autoX (D : List Nat) (M : List May) (E : List Nat) (N : List May) (k : Nat) (live : List Nat) (K : Post) : Post := fun e t h => match e with
  | .normal => tidy D M k (some live) t h (K .normal)
  | e => tidy E N k none t h (K e)
noncomputable def roundX (P : Program) (S : Book) (LK : LoopK) (F : List Nat → Option (List Nat)) (root : Code) (k : Nat) (D : List Nat) (M : List May) (E : List Nat) (N : List May) (live : List Nat) (p : List Nat) (t : List Value) (h : Heap) (K : Post) : Prop :=
  codeK P S LK F 200 p (sub root p) t h (autoX D M E N k live K)
noncomputable def one1 (K : Value → Heap → Prop) (t : List Value) (h : Heap) : Prop := match t with
  | [v] => K v h
  | _ => False
noncomputable def resX (D : List Nat) (M : List May) (k : Nat) (P : Program) (fn : Func) (K : Value → Heap → Prop) : Post := resK P fn fun v h => tidy D M k none [v] h (one1 K)
noncomputable def funX (P : Program) (S : Book) (LK : LoopK) (F : List Nat → Option (List Nat)) (root : Code) (fn : Func) (D : List Nat) (M : List May) (args : List Value) (h : Heap) (K : Value → Heap → Prop) : Prop :=
  codeK P S LK F 200 [] root (args ++ List.replicate (fn.ntmps - args.length) undef) h (resX D M h.size P fn K)
/-- loops and cuts, the states in the numbers that they need (Dp: a place's blocks that hold addresses; Mp: its slices that may be nil) -/
noncomputable def gcLKX (Dp : List Nat → List Nat) (Mp : List Nat → List May) (k : Nat) (LK : LoopK) : LoopK := fun p t h K => tidy (Dp p) (Mp p) k none t h fun t' h' => FlatD (Dp p) h' ∧ LK p t' h' K
/-- the same at all places -/
def at0 {α : Type} (l : List α) : List Nat → List α := fun _ => l
theorem Loops.gcX {P : Program} {root : Code} {k : Nat} {LK : LoopK} (hl : Loops P root k LK) (Dp : List Nat → List Nat) (Mp : List Nat → List May) : Loops P root k (gcLKX Dp Mp k LK) := fun p t h K hk => by
  have this : Go.Proofs.Ytfgiifppapopnaa.AM.tidy (Dp p) (Mp p) k Option.none t h fun t' h' => FlatD (Dp p) h' ∧ LoopOr P k (sub root p) t' h' K := tidy_mono (fun t' h' ⟨q1, q2⟩ => ⟨q1, hl p _ _ K q2⟩) hk
  unfold LoopOr at this ⊢
  split
  · rename_i b hb
    simp only [hb] at this
    exact LSays.tidy (D := Dp p) (M := Mp p) (l := Option.none) this
  · exact Says.tidy (D := Dp p) (M := Mp p) (l := Option.none) (by simpa [LoopOr] using this)
section
variable {P : Program} {S : Book} {LK : LoopK} {root : Code} {k : Nat}
theorem Sure.roundX (s : Sure P S) (F : List Nat → Option (List Nat)) (hL : Loops P root k LK) (D : List Nat) (M : List May) (E : List Nat) (N : List May) (live : List Nat) {p : List Nat} {t : List Value} {h : Heap} {K : Post}
    (hk : Go.Proofs.Ytfgiifppapopnaa.AM.roundX P S LK F root k D M E N live p t h (fun e t' h' => match e with | .normal => FlatD D h' ∧ LSays P k (sub root p) t' h' K | e => FlatD E h' ∧ K e t' h')) : LSays P k (sub root p) t h K := by
  have h0 := codeK_ok s.mixed s.plain s.sums hL 200 p _ t h _ rfl hk
  refine LSays.step fun ρ a w Q hkh ht r hs hQ => ?_
  refine h0 ρ a w Q hkh ht r hs fun e t1 h1 ρ1 a1 w1 hK ht1 r1 f1 hs1 hd1 => ?_
  cases e with
  | normal => exact hQ .normal t1 h1 ρ1 a1 w1 (LSays.tidy hK) ht1 r1 f1 hs1 hd1
  | exit id =>
    obtain ⟨t2, h2, hK, hq⟩ := tidy_ok hK
    obtain ⟨ρ2, p1, p2, p3, p4, p5⟩ := hq ρ1 w1 _ f1.hs ht1 r1 hs1
    exact hQ (.exit id) _ _ ρ2 a1 w1 hK p2 p3 (f1.trans p4) p5 hd1
  | ret =>
    obtain ⟨t2, h2, hK, hq⟩ := tidy_ok hK
    obtain ⟨ρ2, p1, p2, p3, p4, p5⟩ := hq ρ1 w1 _ f1.hs ht1 r1 hs1
    exact hQ .ret _ _ ρ2 a1 w1 hK p2 p3 (f1.trans p4) p5 hd1
theorem Sure.cutX (s : Sure P S) (F : List Nat → Option (List Nat)) (hL : Loops P root k LK) (E : List Nat) (N : List May) {p : List Nat} {t : List Value} {h : Heap} {K : Post}
    (hk : Go.Proofs.Ytfgiifppapopnaa.AM.roundX P S LK F root k [] [] E N [] p t h (fun e t' h' => match e with | .normal => False | e => FlatD E h' ∧ K e t' h')) : Says P k (sub root p) t h K := by
  have h0 := codeK_ok s.mixed s.plain s.sums hL 200 p _ t h _ rfl hk
  intro ρ a w Q hkh ht r hs0 hQ
  refine h0 ρ a w Q hkh ht r hs0 fun e t1 h1 ρ1 a1 w1 hK ht1 r1 f1 hs1 hd1 => ?_
  cases e with
  | normal => exact hK.elim
  | exit id =>
    obtain ⟨t2, h2, hK, hq⟩ := tidy_ok hK
    obtain ⟨ρ2, p1, p2, p3, p4, p5⟩ := hq ρ1 w1 _ f1.hs ht1 r1 hs1
    exact hQ (.exit id) _ _ ρ2 a1 w1 hK p2 p3 (f1.trans p4) p5 hd1
  | ret =>
    obtain ⟨t2, h2, hK, hq⟩ := tidy_ok hK
    obtain ⟨ρ2, p1, p2, p3, p4, p5⟩ := hq ρ1 w1 _ f1.hs ht1 r1 hs1
    exact hQ .ret _ _ ρ2 a1 w1 hK p2 p3 (f1.trans p4) p5 hd1
theorem Sure.funX (s : Sure P S) (F : List Nat → Option (List Nat)) (root : Code) (D : List Nat) (M : List May) {f : FuncId} {fn : Func} {args : List Value} {h : Heap} {K : Value → Heap → Prop} (hf : P.funcs[f]? = some fn) (hb : fn.body = some root) (hL : Loops P root h.size LK)
    (hk : Go.Proofs.Ytfgiifppapopnaa.AM.funX P S LK F root fn D M args h (fun v h' => FlatD D h' ∧ isJunk v = false ∧ K v h')) : FunSays P f args h K := by
  obtain ⟨fn', h1, h2, h3⟩ := FunSays.of hf hb (codeK_ok s.mixed s.plain s.sums hL 200 [] root _ h _ rfl hk)
  refine ⟨fn', h1, h2, fun ρ w args' ht r ha => (h3 ρ w args' ht r ha).mono ?_⟩
  rintro e w' ⟨v, h', ρ', v', rfl, hk, ht', r', f', hv⟩
  have hk2 : tidy D M h.size none [v] h' fun t' h'' => FlatD D h'' ∧ ∃ v2, t' = [v2] ∧ isJunk v2 = false ∧ K v2 h'' := by
    refine tidy_mono (fun t' h'' hk => ?_) hk
    unfold one1 at hk
    split at hk
    · exact ⟨hk.1, _, rfl, hk.2⟩
    · exact hk.elim
  obtain ⟨t2, h2', ⟨v2, rfl, hj, hK⟩, hq⟩ := tidy_ok hk2
  obtain ⟨ρ2, p1, p2, p3, p4, p5⟩ := hq ρ' w' [v'] f'.hs ht' r' ⟨rfl, fun i x y hx hy => by
    cases i with
    | zero => simp at hx hy; subst hx; subst hy; exact .inr hv
    | succ i => simp at hx⟩
  exact ⟨v2, h2', ρ2, v', rfl, hK, p2, p3, f'.trans p4, (p5.2 0 v2 v' rfl rfl).vr hj⟩
end
/-! ### a slice that may be nil: nil, or not -/
def wkS (sp : Option Nat) : Option Nat := cond (exS sp) (some 7) (some 8)
theorem VR.wk {ρ : Rho} {B o : Nat} {sp : Option Nat} {len ca : Nat} {v : Value} (h : VR ρ (.slice (some ⟨B, o, sp⟩) len ca) v) : (v = .slice none 0 0 ∧ len = 0 ∧ ca = 0) ∨ VR ρ (.slice (some ⟨B, o, wkS sp⟩) len ca) v := by
  have hex : exS (wkS sp) = exS sp := by unfold wkS; cases exS sp <;> rfl
  have hcx : exC (wkS sp) = true → exC sp = true := fun hh => exC_of (by unfold wkS at hh; cases h : exS sp with | true => rfl | false => rw [h] at hh; cases hh)
  rcases h.of_slice with ⟨rfl, rfl, _, a, rfl, _⟩ | ⟨cc, l, o', rfl, q1, q2, q3, q4, q5, q6⟩
  · cases a with
    | none => exact .inl ⟨rfl, rfl, rfl⟩
    | some a => exact .inr (.nl _ _ _ _ (by unfold wkS; cases exS sp <;> rfl) (fun _ hh => by cases hh))
  · exact .inr (.sl _ _ _ _ _ _ l _ q1 q2 q3 (fun hh => q4 (hcx hh)) (fun hh => q5 (hex ▸ hh)) q6)
theorem FunSays.wk {P : Program} {f : FuncId} {B o : Nat} {sp : Option Nat} {len cap : Nat} {rest : List Value} {h : Heap} {K : Value → Heap → Prop} (h0 : len = 0 → cap = 0 → FunSays P f (.slice none 0 0 :: rest) h K)
    (h1 : FunSays P f (.slice (some ⟨B, o, wkS sp⟩) len cap :: rest) h K) : FunSays P f (.slice (some ⟨B, o, sp⟩) len cap :: rest) h K := by
  obtain ⟨fn, a1, a2, a3⟩ := h1
  refine ⟨fn, a1, a2, fun ρ w args' ht r ha => ?_⟩
  obtain ⟨y, ys, rfl, hy, hys⟩ := ha.of_cons
  rcases hy.wk with ⟨rfl, hl, hc⟩ | hy
  · obtain ⟨fn2, b1, b2, b3⟩ := h0 hl hc
    exact b3 ρ w _ ht r (.cons (.atom _ rfl) hys)
  · exact a3 ρ w _ ht r (.cons hy hys)
end Go.Proofs.Ytfgiifppapopnaa.AM

namespace Go.Proofs.Ytfgiifppapopnaa.AM
/-! ### rows of elements of one cell each -/
section
variable {α : Type}
/-- cells that hold these elements, from a place on -/
structure ESl (enc : α → Value) (P : α → Prop) (cs : List Value) (o : Nat) (l : List α) : Prop where
  cell : ∀ (j : Nat) c, l[j]? = some c → getO cs (o + j) = some (enc c)
  ok : ∀ x ∈ l, P x
  short : l.length ≤ 9223372036854775807
  flat : FlatL cs
inductive IsE (enc : α → Value) (P : α → Prop) (cs : List Value) (o len cap : Nat) : Prop
  | mk (l : List α) (h : l.length = len) (hc : len ≤ cap) (hb : ESl enc P cs o l) : IsE enc P cs o len cap
def elAt (dec : Value → α) (cs : List Value) (o len : Nat) : List α := ((cs.drop o).take len).map dec
theorem ESl.elAt {enc : α → Value} {dec : Value → α} {P : α → Prop} {cs : List Value} {o : Nat} {l : List α} (h : ESl enc P cs o l) (hd : ∀ a, dec (enc a) = a) : elAt dec cs o l.length = l := by
  unfold Go.Proofs.Ytfgiifppapopnaa.AM.elAt
  refine List.ext_getElem? fun j => ?_
  rw [List.getElem?_map, List.getElem?_take]
  cases hj : l[j]? with
  | none =>
    have := List.getElem?_eq_none_iff.1 hj
    rw [if_neg (by omega)]; rfl
  | some c =>
    have hlt : j < l.length := (List.getElem?_eq_some_iff.1 hj).1
    rw [if_pos hlt, List.getElem?_drop, ← getO_eq, h.cell j c hj]
    show some (dec (enc c)) = _
    rw [hd]
/-- these elements as cells -/
def eC (enc : α → Value) (l : List α) : List Value := l.map enc
theorem eC_len (enc : α → Value) (l : List α) : (eC enc l).length = l.length := List.length_map _
theorem eC_append (enc : α → Value) (a b : List α) : eC enc (a ++ b) = eC enc a ++ eC enc b := List.map_append
theorem eC_cons (enc : α → Value) (x : α) (b : List α) : eC enc (x :: b) = enc x :: eC enc b := rfl
theorem eC_nil (enc : α → Value) : eC enc [] = [] := rfl
theorem eC_take (enc : α → Value) (l : List α) (n : Nat) : (eC enc l).take n = eC enc (l.take n) := by unfold eC; rw [List.map_take]
theorem eC_drop (enc : α → Value) (l : List α) (n : Nat) : (eC enc l).drop n = eC enc (l.drop n) := by unfold eC; rw [List.map_drop]
theorem eC_get (enc : α → Value) (l : List α) {j : Nat} {x : α} (h : l[j]? = some x) : getO (eC enc l) j = some (enc x) := by rw [getO_eq]; unfold eC; rw [List.getElem?_map, h]; rfl
theorem eC_flat {enc : α → Value} (hf : ∀ a, Go.Proofs.Ytfgiifppapopnaa.AM.fz (enc a) = true) (l : List α) : FlatL (eC enc l) := ⟨fun x hx => by
  obtain ⟨a, _, rfl⟩ := List.mem_map.1 hx; exact hf a⟩
theorem eC_one {enc : α → Value} (hf : ∀ a, oneV (enc a) = true) (l : List α) : (eC enc l).all oneV = true := by
  rw [List.all_eq_true]
  intro x hx
  obtain ⟨a, _, rfl⟩ := List.mem_map.1 hx; exact hf a
theorem eC_set (enc : α → Value) (l : List α) (j : Nat) (x : α) : (eC enc l).set j (enc x) = eC enc (l.set j x) := by unfold eC; rw [List.map_set]
theorem ESl.own {enc : α → Value} {P : α → Prop} (hf : ∀ a, Go.Proofs.Ytfgiifppapopnaa.AM.fz (enc a) = true) {l : List α} (h : ∀ x ∈ l, P x) (hl : l.length ≤ 9223372036854775807) : ESl enc P (eC enc l) 0 l :=
  ⟨fun j c hj => by rw [Nat.zero_add]; exact eC_get enc l hj, h, hl, eC_flat hf l⟩
theorem IsE.own {enc : α → Value} {P : α → Prop} (hf : ∀ a, Go.Proofs.Ytfgiifppapopnaa.AM.fz (enc a) = true) {l : List α} (h : ∀ x ∈ l, P x) (hl : l.length ≤ 9223372036854775807) : IsE enc P (eC enc l) 0 l.length l.length := ⟨l, rfl, Nat.le_refl _, ESl.own hf h hl⟩
theorem ESl.take {enc : α → Value} {P : α → Prop} {cs : List Value} {o : Nat} {l : List α} (h : ESl enc P cs o l) (a n : Nat) (hn : a + n ≤ l.length) : (cs.drop (o + a)).take n = eC enc ((l.drop a).take n) ∧ o + a + n ≤ max (o + a) cs.length := by
  have hi : ∀ j (hj : j < n), cs[o + a + j]? = some (enc (l[a + j]'(by omega))) := fun j hj => by
    have hlt : a + j < l.length := by omega
    have := h.cell (a + j) l[a + j] (List.getElem?_eq_getElem hlt)
    rw [getO_eq, ← Nat.add_assoc] at this
    exact this
  refine ⟨List.ext_getElem? fun j => ?_, ?_⟩
  · unfold eC
    rw [List.getElem?_map, List.getElem?_take, List.getElem?_take]
    by_cases hj : j < n
    · rw [if_pos hj, if_pos hj, List.getElem?_drop, hi j hj, List.getElem?_drop, List.getElem?_eq_getElem (by omega)]; rfl
    · rw [if_neg hj, if_neg hj]; rfl
  · rcases Nat.eq_zero_or_pos n with rfl | hp
    · omega
    · have := hi (n - 1) (by omega)
      have := (List.getElem?_eq_some_iff.1 this).1
      omega
theorem ESl.sub {enc : α → Value} {P : α → Prop} {cs : List Value} {o : Nat} {l : List α} (h : ESl enc P cs o l) (a n : Nat) (hn : a + n ≤ l.length) : ESl enc P cs (o + a) ((l.drop a).take n) :=
  ⟨fun j c hj => by
    rw [List.getElem?_take] at hj
    split at hj
    · rw [List.getElem?_drop] at hj
      rw [Nat.add_assoc]; exact h.cell (a + j) c hj
    · exact (by cases hj), fun x hx => h.ok x (List.mem_of_mem_drop (List.mem_of_mem_take hx)), by have := h.short; simp; omega, h.flat⟩
theorem ESl.whole {enc : α → Value} {P : α → Prop} {cs : List Value} {o : Nat} {l : List α} (h : ESl enc P cs o l) : (cs.drop o).take l.length = eC enc l ∧ o + l.length ≤ max o cs.length := by
  have := h.take 0 l.length (by omega)
  simpa using this
end
/-- numbers of a kind -/
def ZP (k : IntKind) (x : Int) : Prop := k.wrap x = x
theorem ZP.wr {k : IntKind} {x : Int} (h : ZP k x) : wr k x = x := by rw [wr_eq]; exact h
theorem ZP.i64 {x : Int} : ZP .i64 x ↔ -9223372036854775808 ≤ x ∧ x < 9223372036854775808 := by
  unfold ZP; simp [IntKind.wrap, IntKind.bits, IntKind.signed]; omega
theorem ZP.u64 {x : Int} : ZP .u64 x ↔ 0 ≤ x ∧ x < 18446744073709551616 := by
  unfold ZP; simp [IntKind.wrap, IntKind.bits, IntKind.signed]; omega
theorem ZP.u8 {x : Int} : ZP .u8 x ↔ 0 ≤ x ∧ x < 256 := by
  unfold ZP; simp [IntKind.wrap, IntKind.bits, IntKind.signed]; omega
theorem ZP.of_wf {k : IntKind} {x : Int} (h : (Lit.int k x).wf = true) : ZP k x := by
  cases k <;> (unfold ZP; simp [Lit.wf, IntKind.min, IntKind.max, IntKind.bits, IntKind.signed] at h; simp [IntKind.wrap, IntKind.bits, IntKind.signed]; omega)
abbrev iE (k : IntKind) : Int → Value := .int k
abbrev sE : ByteArray → Value := .string
theorem flat_i {k : IntKind} (a : Int) : fz (iE k a) = true := rfl
theorem flat_s (a : ByteArray) : fz (sE a) = true := rfl
theorem one_i {k : IntKind} (a : Int) : oneV (iE k a) = true := rfl
theorem one_s (a : ByteArray) : oneV (sE a) = true := rfl
/-- what is handed in, as a row -/
theorem ESl.lit {α : Type} {enc : α → Value} {P : α → Prop} (hf : ∀ a, Go.Proofs.Ytfgiifppapopnaa.AM.fz (enc a) = true) (zs : List α) (len : Nat) (hz : ∀ x ∈ zs, P x) (hl : len ≤ zs.length) (hc : zs.length ≤ 9223372036854775807) : ESl enc P (eC enc zs) 0 (zs.take len) :=
  ⟨fun j c hj => by
    rw [List.getElem?_take] at hj
    split at hj
    · rw [Nat.zero_add]; exact eC_get enc zs hj
    · exact (by cases hj), fun x hx => hz x (List.mem_of_mem_take hx), by simp; omega, eC_flat hf zs⟩
/-- small steps of an i64 -/
theorem wr_i64 (x : Int) (h0 : -9223372036854775808 ≤ x) (h1 : x < 9223372036854775808) : wr .i64 x = x := by
  rw [wr_eq]; simp [IntKind.wrap, IntKind.bits, IntKind.signed]; omega
theorem nx (i : Nat) (h : i < 9223372036854775807) : wr .i64 ((i : Int) + 1) = ((i + 1 : Nat) : Int) := by rw [wr_i64 _ (by omega) (by omega)]; rfl
theorem pv (i : Nat) (h : i < 9223372036854775807) : wr .i64 (((i + 1 : Nat) : Int) - 1) = (i : Int) := by rw [wr_i64 _ (by omega) (by omega)]; omega
theorem cons_of_drop {α : Type} {l : List α} {i : Nat} {x : α} {t : List α} (h : l.drop i = x :: t) : i < l.length ∧ l[i]? = some x ∧ l.drop (i + 1) = t := by
  have hlt : i < l.length := by
    rcases Nat.lt_or_ge i l.length with q | q
    · exact q
    · rw [List.drop_eq_nil_of_le q] at h; cases h
  rw [List.drop_eq_getElem_cons hlt] at h
  injection h with h1 h2
  exact ⟨hlt, by rw [List.getElem?_eq_getElem hlt, h1], h2⟩
end Go.Proofs.Ytfgiifppapopnaa.AM

namespace Go.Proofs.Ytfgiifppapopnaa.AM
open Go.ChangeShapes Go.WideShapes Go.RowKit
/-! ### slices that are handed in, nil or not -/
def HArg (W : World) (a : Option Addr) (len cap : Nat) (cs : List Value) : Prop := (a = none ∧ len = 0 ∧ cap = 0 ∧ cs = []) ∨ ∃ x, a = some x ∧ len ≤ cap ∧ Row W x cs
section
variable {P : Program} {W : World} {H : Type} {enc : TypeId × Value → H} {r : Reach} {b0 : Nat} {t e : TypeId} {a : Option Addr} {len cap : Nat} {d : DataW H} {ps : List MemPlace}
theorem arg_ints {k : IntKind} (ht : P.underlying t = some (.slice e)) (he : P.underlying e = some (.int k)) (hc : P.cellsOf e = 1)
    (hval : Value.okWide P W r b0 t (.slice a len cap)) (hd : DataW.Trod enc P W 0 (fun _ => true) true t (.slice a len cap) d ps) :
    ∃ zs : List Int, HArg W a len cap (eC (iE k) zs) ∧ zs.length = cap ∧ len ≤ cap ∧ cap ≤ 9223372036854775807 ∧ ∀ n ∈ zs, ZP k n := by
  have hmx : maxLen = 9223372036854775807 := by decide
  rcases row_ints ht he hc hval hd with ⟨rfl, rfl, rfl⟩ | ⟨x, zs, rfl, h1, h2, h3, h4, h5⟩
  · exact ⟨[], .inl ⟨rfl, rfl, rfl, rfl⟩, rfl, Nat.le_refl _, by omega, fun n hn => by simp at hn⟩
  · exact ⟨zs, .inr ⟨x, rfl, h1, h5⟩, h2, h1, by omega, fun n hn => ZP.of_wf (h3 n hn)⟩
theorem arg_strs (ht : P.underlying t = some (.slice e)) (he : P.underlying e = some .string) (hc : P.cellsOf e = 1)
    (hval : Value.okWide P W r b0 t (.slice a len cap)) (hd : DataW.Trod enc P W 0 (fun _ => true) true t (.slice a len cap) d ps) :
    ∃ zs : List ByteArray, HArg W a len cap (eC sE zs) ∧ zs.length = cap ∧ len ≤ cap ∧ cap ≤ 9223372036854775807 ∧ ∀ n ∈ zs, n.size ≤ 9223372036854775807 := by
  have hmx : maxLen = 9223372036854775807 := by decide
  rcases row_strs ht he hc hval hd with ⟨rfl, rfl, rfl⟩ | ⟨x, zs, rfl, h1, h2, h3, h4, h5⟩
  · exact ⟨[], .inl ⟨rfl, rfl, rfl, rfl⟩, rfl, Nat.le_refl _, by omega, fun n hn => by simp at hn⟩
  · exact ⟨zs, .inr ⟨x, rfl, h1, h5⟩, h2, h1, by omega, fun n hn => by have := h3 n hn; omega⟩
theorem arg_elems {n : Nat} (Good : List Value → Prop) (ht : P.underlying t = some (.slice e)) (hn0 : 0 < n) (hc : P.cellsOf e = n)
    (hg : ∀ fuel cs y, DataW.trod enc P W 0 (fun _ => true) true fuel e cs = some y → cs.length = n → Good cs ∧ ∀ x ∈ cs, flat x = true)
    (hval : Value.okWide P W r b0 t (.slice a len cap)) (hd : DataW.Trod enc P W 0 (fun _ => true) true t (.slice a len cap) d ps) :
    ∃ L : List (List Value), HArg W a len cap L.flatten ∧ L.length = cap ∧ len ≤ cap ∧ cap ≤ 9223372036854775807 ∧ ∀ c ∈ L, c.length = n ∧ Good c := by
  have hmx : maxLen = 9223372036854775807 := by decide
  rcases row_elems Good ht hn0 hc hg hval hd with ⟨rfl, rfl, rfl⟩ | ⟨x, L, rfl, h1, h2, h3, h4, h5⟩
  · exact ⟨[], .inl ⟨rfl, rfl, rfl, rfl⟩, rfl, Nat.le_refl _, by omega, fun n hn => by simp at hn⟩
  · exact ⟨L, .inr ⟨x, rfl, h1, h5⟩, h3, h1, by omega, h4⟩
end
theorem take_len {α : Type} {zs : List α} {len cap : Nat} (h : zs.length = cap) (hl : len ≤ cap) : (zs.take len).length = len := by rw [List.length_take]; omega
end Go.Proofs.Ytfgiifppapopnaa.AM

namespace Go.Proofs.Ytfgiifppapopnaa.AM
/-! ### functions without loops, entered where they are called -/
noncomputable def runC (P : Program) (call : CallF) (n : Nat) : Code → List Value → Heap → Out :=
  Nat.rec (motive := fun _ => Code → List Value → Heap → Out) (fun _ _ _ => none) (fun _ ih => step P call ih) n
theorem runC_sim {P : Program} (hm : P.follows .mixedOrders = true) (hp : Plain P) {call : CallF} (hc : CallSim P call) : ∀ n, Mono (runC P call n) ∧ CodeSim P (runC P call n) ∧ LoopSim P (runC P call n) := by
  intro n
  induction n with
  | zero => exact ⟨fun c t h e t' h' hs => (by cases hs), fun c t h e t' h' hs => (by cases hs), fun c t h e t' h' hs => (by cases hs)⟩
  | succ n ih =>
    have e : runC P call (n + 1) = step P call (runC P call n) := rfl
    rw [e]
    exact ⟨step_mono ih.1, code_sim hp hc (fun id ops t h t' h' ρ a w Q => draw_sim hm hp hc id ops t h t' h' ρ a w Q) ih.1 ih.2.1 ih.2.2, loop_sim ih.1 ih.2.1 ih.2.2⟩
/-- .. told by conditions: loops are walked round by round (for such as end after few rounds, whatever is handed in) -/
noncomputable def codeU (P : Program) (S : Book) : Nat → Code → List Value → Heap → Post → Prop
  | 0, _, _, _, _ => False
  | n + 1, c, t, h, K => match c with
    | .skip => K .normal t h
    | .label _ => K .normal t h
    | .exit id => K (.exit id) t h
    | .ret => K .ret t h
    | .region _ ops draw => Need (constsOk ops.toList) (cond draw (drawnK P S ops.toList t h (K .normal)) (opsK P S ops.toList ops.toList t h (K .normal)))
    | .seq a b => codeU P S n a t h fun e t' h' => match e with
      | .normal => codeU P S n b t' h' K
      | e => K e t' h'
    | .cond c a b => match c with
      | .tmp i => match getO t i with
        | some (.bool x) => Alt x (codeU P S n a (putT t (some i) (.bool true)) h K) (codeU P S n b (putT t (some i) (.bool false)) h K)
        | _ => False
      | .const (.bool true) => codeU P S n a t h K
      | .const (.bool false) => codeU P S n b t h K
      | _ => False
    | .block id b => codeU P S n b t h fun e t' h' => match e with
      | .exit id' => cond (Nat.beq id' id) (K .normal t' h') (K (.exit id') t' h')
      | e => K e t' h'
    | .loop b => codeU P S n b t h fun e t' h' => match e with
      | .normal => codeU P S n (.loop b) t' h' K
      | e => K e t' h'
    | _ => False
theorem codeU_run {P : Program} {S : Book} : ∀ n c t h K, codeU P S n c t h K → ∃ e t' h', runC P (S.call P) n c t h = some (e, t', h') ∧ K e t' h' := by
  intro n
  induction n with
  | zero => intro c t h K hk; exact hk.elim
  | succ n ih =>
    intro c t h K hk
    have e : runC P (S.call P) (n + 1) = step P (S.call P) (runC P (S.call P) n) := rfl
    rw [e]
    cases c
    case skip => exact ⟨_, _, _, rfl, hk⟩
    case label l => exact ⟨_, _, _, rfl, hk⟩
    case exit id => exact ⟨_, _, _, rfl, hk⟩
    case ret => exact ⟨_, _, _, rfl, hk⟩
    case region id ops draw =>
      obtain ⟨q1, hk⟩ := Need_iff.1 hk
      simp only [step, q1, if_true]
      cases draw with
      | true =>
        obtain ⟨t1, h1, e, hK⟩ := drawnK_ok (show drawnK P S ops.toList t h (K .normal) from hk)
        exact ⟨_, _, _, by rw [cond_true, e], hK⟩
      | false =>
        obtain ⟨t1, h1, e, hK⟩ := opsK_ok (show opsK P S ops.toList ops.toList t h (K .normal) from hk)
        exact ⟨_, _, _, by rw [cond_false, e], hK⟩
    case seq a b =>
      obtain ⟨e1, t1, h1, r1, k1⟩ := ih a t h _ hk
      simp only [step, r1]
      cases e1 with
      | normal =>
        obtain ⟨e2, t2, h2, r2, k2⟩ := ih b t1 h1 K k1
        exact ⟨e2, t2, h2, r2, k2⟩
      | exit id => exact ⟨_, _, _, rfl, k1⟩
      | ret => exact ⟨_, _, _, rfl, k1⟩
    case loop b =>
      obtain ⟨e1, t1, h1, r1, k1⟩ := ih b t h _ hk
      simp only [step, r1]
      cases e1 with
      | normal =>
        obtain ⟨e2, t2, h2, r2, k2⟩ := ih (.loop b) t1 h1 K k1
        exact ⟨e2, t2, h2, r2, k2⟩
      | exit id => exact ⟨_, _, _, rfl, k1⟩
      | ret => exact ⟨_, _, _, rfl, k1⟩
    case cond c a b =>
      cases c with
      | tmp i =>
        simp only [codeU] at hk
        split at hk
        · rename_i x hx
          rcases Alt_iff.1 hk with ⟨h1, h2⟩
          simp only [step, hx]
          cases x with
          | true =>
            have := h1 rfl
            rw [putT_same hx] at this
            exact ih a t h K this
          | false =>
            have := h2 rfl
            rw [putT_same hx] at this
            exact ih b t h K this
        · exact hk.elim
      | const v =>
        cases v with
        | bool x =>
          cases x with
          | true => exact ih a t h K hk
          | false => exact ih b t h K hk
        | _ => exact hk.elim
      | global g => exact hk.elim
      | func f => exact hk.elim
    case block id b =>
      obtain ⟨e1, t1, h1, r1, k1⟩ := ih b t h _ hk
      simp only [step, r1]
      cases e1 with
      | normal => exact ⟨_, _, _, rfl, k1⟩
      | exit id' =>
        simp only at k1
        cases hb : Nat.beq id' id with
        | true =>
          rw [hb, cond_true] at k1
          exact ⟨.normal, t1, h1, by simp only [if_pos (Nat.eq_of_beq_eq_true hb)], k1⟩
        | false =>
          rw [hb, cond_false] at k1
          exact ⟨.exit id', t1, h1, by simp only [if_neg (show ¬ id' = id from fun hh => by rw [hh, Nat.beq_refl] at hb; cases hb)], k1⟩
      | ret => exact ⟨_, _, _, rfl, k1⟩
    all_goals exact hk.elim
/-- a function's body, entered -/
noncomputable def inl (P : Program) (S : Book) (fn : Func) (root : Code) : Summ where
  f := fun args h => match runC P (S.call P) 200 root (args ++ List.replicate (fn.ntmps - args.length) undef) h with
    | some (.normal, t, h') | some (.ret, t, h') => (resultsA P fn t h').map fun v => (v, h')
    | _ => none
  K := fun args h K => codeU P S 200 root (args ++ List.replicate (fn.ntmps - args.length) undef) h (resK P fn K)
  ok := by
    intro args h K hk
    obtain ⟨e, t', h', r, k⟩ := codeU_run _ _ _ _ _ hk
    simp only [r]
    cases e with
    | exit id => exact k.elim
    | normal =>
      simp only [resK] at k
      split at k
      · rename_i v hv; exact ⟨v, h', by simp only [hv]; rfl, k⟩
      · exact k.elim
    | ret =>
      simp only [resK] at k
      split at k
      · rename_i v hv; exact ⟨v, h', by simp only [hv]; rfl, k⟩
      · exact k.elim
theorem inl_ok {P : Program} {S : Book} {f : FuncId} {fn : Func} {root : Code} (hm : P.follows .mixedOrders = true) (hp : Plain P) (hS : SumsOk P S.sums) (hf : P.funcs[f]? = some fn) (hb : fn.body = some root) :
    ∀ args h v h', (inl P S fn root).f args h = some (v, h') → ∀ ρ w args', Free ρ h.size h'.size → WR ρ h w → VRs ρ args args' →
    ∃ fn : Func, P.funcs[f]? = some fn ∧ fn.body.isSome = true ∧ Calls P f args'.toArray w (After P ρ h w v h') := by
  intro args h v h' e ρ w args' hfr r ha
  have hc : callA P (runC P (S.call P) 200) f args h = some (v, h') := by
    unfold callA
    simp only [hf, hb]
    exact e
  have hsim := call_sim (P := P) (S := fun _ => none) (fun f s hs => by cases hs) (runC_sim hm hp (Book.callSim (S := S) hS) 200).2.1 f args h v h' hc ρ w args' hfr r ha
  rcases hsim with hq | ⟨_, _, hq⟩
  · exact hq
  · exfalso
    have := hq
    rw [run_callFunc_enter hp hf (by rw [hb]; rfl)] at this
    cases this
noncomputable def addI (P : Program) : List (FuncId × Func × Code) → Book → Book
  | [], S => S
  | (f, fn, root) :: l, S => fun g => cond (Nat.beq f g) (some (inl P (addI P l S) fn root)) (addI P l S g)
def AllI (P : Program) : List (FuncId × Func × Code) → Prop
  | [] => True
  | (f, fn, root) :: l => (P.funcs[f]? = some fn ∧ fn.body = some root) ∧ AllI P l
theorem addI_ok {P : Program} (hm : P.follows .mixedOrders = true) (hp : Plain P) {S : Book} (hS : SumsOk P S.sums) : ∀ {l : List (FuncId × Func × Code)}, AllI P l → SumsOk P (addI P l S).sums := by
  intro l
  induction l with
  | nil => intro _; exact hS
  | cons x l ih =>
    obtain ⟨f, fn, root⟩ := x
    intro ⟨⟨h1, h2⟩, h3⟩ g s hs
    unfold Book.sums at hs
    simp only [addI] at hs
    cases hb : Nat.beq f g with
    | true =>
      obtain rfl := Nat.eq_of_beq_eq_true hb
      rw [hb, cond_true] at hs
      simp only [Option.map_some, Option.some.injEq] at hs
      subst hs
      exact fun args h v h' e ρ w args' q1 q2 q3 => .inl (inl_ok hm hp (ih h3) h1 h2 args h v h' e ρ w args' q1 q2 q3)
    | false =>
      rw [hb, cond_false] at hs
      exact ih h3 g s hs
theorem Sure.addI {P : Program} {S : Book} (s : Sure P S) {l : List (FuncId × Func × Code)} (h : AllI P l) : Sure P (Go.Proofs.Ytfgiifppapopnaa.AM.addI P l S) := ⟨s.mixed, s.plain, addI_ok s.mixed s.plain s.sums h⟩
/-! ### loops of a function walked round by round (so many at most) -/
noncomputable def unrK (P : Program) (S : Book) (LK : LoopK) (F : List Nat → Option (List Nat)) (root : Code) : Nat → LoopK
  | 0, _, _, _, _ => False
  | n + 1, p, t, h, K => match sub root p with
    | .loop b => codeK P S LK F 200 (0 :: p) b t h fun e t' h' => match e with
      | .normal => unrK P S LK F root n p t' h' K
      | e => K e t' h'
    | _ => False
theorem Loops.unr {P : Program} {S : Book} {LK : LoopK} {root : Code} {k : Nat} (s : Sure P S) (F : List Nat → Option (List Nat)) (hL : Loops P root k LK) : ∀ n, Loops P root k (unrK P S LK F root n) := by
  intro n
  induction n with
  | zero => intro p t h K hk; exact hk.elim
  | succ n ih =>
    intro p t h K hk
    unfold unrK at hk
    split at hk
    · rename_i b hb
      unfold LoopOr
      rw [hb]
      refine LSays.step ((codeK_ok s.mixed s.plain s.sums hL 200 (0 :: p) b t h _ (by rw [sub, hb]; rfl) hk).mono fun e t' h' hK => ?_)
      cases e with
      | normal =>
        have := ih p t' h' K hK
        unfold LoopOr at this
        rw [hb] at this
        exact this
      | exit id => exact hK
      | ret => exact hK
    · exact hk.elim
/-- at these places the one, else the other -/
noncomputable def pickLK (ps : List (List Nat)) (A B : LoopK) : LoopK := fun p t h K => cond (ps.any (beqL p)) (A p t h K) (B p t h K)
theorem Loops.pick {P : Program} {root : Code} {k : Nat} {ps : List (List Nat)} {A B : LoopK} (hA : Loops P root k A) (hB : Loops P root k B) : Loops P root k (pickLK ps A B) := fun p t h K hk => by
  unfold pickLK at hk
  cases hb : ps.any (beqL p) with
  | true => rw [hb, cond_true] at hk; exact hA _ _ _ _ hk
  | false => rw [hb, cond_false] at hk; exact hB _ _ _ _ hk
end Go.Proofs.Ytfgiifppapopnaa.AM

namespace Go.Proofs.Ytfgiifppapopnaa.AM
/-! ### contracts whose results stand under names of their own: what is told of them is all that is known -/
structure CtrX (α : Type) where
  D : List Nat
  W : List Nat
  E : List Nat
  pre : List Value → List Blk → Prop
  rel : List Value → List Blk → α → Prop
  val : List Value → List Blk → α → Value
  out : List Value → List Blk → α → List Blk
section
variable {α : Type} {P : Program} {f : FuncId}
def CtrX.Holds (P : Program) (f : FuncId) (c : CtrX α) : Prop := ∀ args blks, FlatBD c.D 0 blks → c.pre args blks → ∃ x, c.rel args blks x ∧
  SameBut c.W 0 blks (c.out args blks x) ∧ OutOk c.E (c.out args blks x).length 0 (maskW c.W blks.length 0 (c.out args blks x)) ∧
    FunSays P f args (hp blks) fun v h' => v = c.val args blks x ∧ h' = hp (c.out args blks x)
open Classical in
noncomputable def CtrX.ctr (c : CtrX α) (h : c.Holds P f) : CtrW where
  D := c.D
  W := c.W
  E := c.E
  pre := c.pre
  val := fun args blks => if hx : FlatBD c.D 0 blks ∧ c.pre args blks then c.val args blks (Classical.choose (h args blks hx.1 hx.2)) else undef
  out := fun args blks => if hx : FlatBD c.D 0 blks ∧ c.pre args blks then c.out args blks (Classical.choose (h args blks hx.1 hx.2)) else []
theorem CtrX.ctr_holds (c : CtrX α) (h : c.Holds P f) : (c.ctr h).Holds P f := fun args blks h1 h2 => by
  have hx : FlatBD c.D 0 blks ∧ c.pre args blks := ⟨h1, h2⟩
  have := Classical.choose_spec (h args blks hx.1 hx.2)
  simp only [CtrX.ctr, dif_pos hx]
  exact this.2
noncomputable def CtrX.go (c : CtrX α) (h : Heap) (bs : List Nat) (la : List Value) (lb : List Blk) (K : Value → Heap → Prop) : Prop :=
  Need (cellsB lb && nojL la) (FlatBD c.D 0 lb ∧ c.pre la lb ∧ ∀ x, c.rel la lb x → Need (inV (c.out la lb x).length (c.val la lb x))
      (K (unV h.size bs (c.val la lb x)) (pushL (turnL bs (unOut c.E h.size bs 0 (c.out la lb x)) c.W h) (dropL bs.length (unOut c.E h.size bs 0 (c.out la lb x))))))
noncomputable def CtrX.K (c : CtrX α) (args : List Value) (h : Heap) (K : Value → Heap → Prop) : Prop :=
  c.go h (gcBD c.D 0 args h) (rnT (gcBD c.D 0 args h) args) (rnBs c.D (gcBD c.D 0 args h) 0 ((gcBD c.D 0 args h).map (blkOf h))) K
theorem CtrX.go_ok (c : CtrX α) (hc : c.Holds P f) {h : Heap} {bs : List Nat} {la : List Value} {lb : List Blk} {K : Value → Heap → Prop} (hk : c.go h bs la lb K) : (c.ctr hc).go h bs la lb K := by
  unfold CtrX.go at hk
  obtain ⟨q1, q2, q3, q4⟩ := Need_iff.1 hk
  have hx : FlatBD c.D 0 lb ∧ c.pre la lb := ⟨q2, q3⟩
  have := Classical.choose_spec (hc la lb hx.1 hx.2)
  obtain ⟨p1, p2⟩ := Need_iff.1 (q4 _ this.1)
  unfold CtrW.go
  simp only [CtrX.ctr, dif_pos hx]
  refine Need_iff.2 ⟨?_, q2, q3, p2⟩
  rw [q1, p1]; rfl
noncomputable def CtrX.summ (c : CtrX α) (hc : c.Holds P f) : Summ where
  f := (c.ctr hc).summ.f
  K := c.K
  ok := fun args h K' hk => (c.ctr hc).summ.ok args h K' (c.go_ok hc hk)
/-- what a book's row must be -/
def SumOk (P : Program) (f : FuncId) (s : Summ) : Prop := RawOk P f s.f
theorem CtrX.sum_ok (c : CtrX α) (hc : c.Holds P f) : SumOk P f (c.summ hc) := fun args h v h' e ρ w args' q1 q2 q3 => .inl (CtrW.sum_ok (c.ctr_holds hc) args h v h' e ρ w args' q1 q2 q3)
end
noncomputable def bookS : List (FuncId × Summ) → Book → Book
  | [], S => S
  | (g, s) :: l, S => fun f => cond (Nat.beq g f) (some s) (bookS l S f)
def AllS (P : Program) : List (FuncId × Summ) → Prop
  | [] => True
  | (g, s) :: l => SumOk P g s ∧ AllS P l
theorem bookS_ok {P : Program} {S : Book} (hS : SumsOk P S.sums) : ∀ {l : List (FuncId × Summ)}, AllS P l → SumsOk P (bookS l S).sums := by
  intro l
  induction l with
  | nil => intro _; exact hS
  | cons p l ih =>
    obtain ⟨g, c⟩ := p
    intro hl f s hs
    unfold Book.sums at hs
    simp only [bookS] at hs
    cases hb : Nat.beq g f with
    | true =>
      rw [hb, cond_true] at hs
      obtain rfl := Nat.eq_of_beq_eq_true hb
      simp only [Option.map_some, Option.some.injEq] at hs
      subst hs
      exact hl.1
    | false => rw [hb, cond_false] at hs; exact ih hl.2 f s hs
theorem Sure.withS {P : Program} {S : Book} (s : Sure P S) {l : List (FuncId × Summ)} (h : AllS P l) : Sure P (bookS l S) := ⟨s.mixed, s.plain, bookS_ok s.sums h⟩
/-- a contract that tells all, as one that tells less -/
theorem Ctr.Holds.x {α : Type} {P : Program} {f : FuncId} {c : Ctr} (hc : c.Holds P f) {d : CtrX α} (hD : d.D = []) (hW : d.W = []) (hE : d.E = [])
    (h : ∀ args blks, FlatBs blks → d.pre args blks → c.pre args blks ∧ ∃ x, d.rel args blks x ∧ c.val args blks = d.val args blks x ∧ d.out args blks x = blks ++ c.new args blks) : d.Holds P f := by
  obtain ⟨D, W, E, pre, rel, val, out⟩ := d
  obtain rfl : D = [] := hD
  obtain rfl : W = [] := hW
  obtain rfl : E = [] := hE
  intro args blks hf hp
  have hfl' : ∀ (l : List Blk) (i : Nat), FlatBD [] i l → FlatBs l := by
    intro l
    induction l with
    | nil => intro i _; trivial
    | cons b l ih =>
      intro i hh
      cases b with
      | cells c e o => exact ⟨hh.1, ih (i + 1) hh.2⟩
      | dead => exact ih (i + 1) hh
  have hfl : ∀ {l : List Blk} {i : Nat}, FlatBD [] i l → FlatBs l := fun h => hfl' _ _ h
  obtain ⟨q1, x, q2, q3, q4⟩ := h args blks (hfl hf) hp
  obtain ⟨r1, r2⟩ := hc args blks (hfl hf) q1
  refine ⟨x, q2, ?_, ?_, ?_⟩
  · simp only at q4 ⊢
    rw [q4]
    have : ∀ (l m : List Blk) (i : Nat), SameBut [] i l (l ++ m) := by
      intro l
      induction l with
      | nil => intro m i; cases m <;> trivial
      | cons b l ih => intro m i; exact ⟨rfl, ih m (i + 1)⟩
    exact this _ _ _
  · simp only at q4 ⊢
    rw [q4]
    have hnew : ∀ (l : List Blk) (n m i : Nat), FlatBs l → OutOk [] m i (maskW [] n i l) := by
      intro l
      induction l with
      | nil => intro n m i _; trivial
      | cons b l ih =>
        intro n m i hh
        simp only [maskW]
        cases hb : (Nat.blt i n && !memN [] i) with
        | true =>
          rw [cond_true]
          refine ih n m (i + 1) ?_
          cases b with
          | cells c e o => exact hh.2
          | dead => exact hh
        | false =>
          rw [cond_false]
          cases b with
          | cells c e o => exact ⟨hh.1, ih n m (i + 1) hh.2⟩
          | dead => exact ih n m (i + 1) hh
    have hcat : ∀ l m : List Blk, FlatBs l → FlatBs m → FlatBs (l ++ m) := by
      intro l
      induction l with
      | nil => intro m _ h; exact h
      | cons b l ih =>
        intro m h1 h2
        cases b with
        | cells c e o => exact ⟨h1.1, ih m h1.2 h2⟩
        | dead => exact ih m h1 h2
    exact hnew _ _ _ _ (hcat _ _ (hfl hf) r1)
  · simp only at q3 q4 ⊢
    rw [← q3, q4]
    exact r2
/-! ### places where a state is named by what is found there -/
structure CutE where
  β : Type
  p : List Nat
  t : β → List Value
  h : β → Heap
  Q : β → Post → Prop
noncomputable def cutE : List CutE → LoopK
  | [], _, _, _, _ => False
  | c :: r, p, t, h, K => cond (beqL p c.p) (∃ b, t = c.t b ∧ h = c.h b ∧ c.Q b K) (cutE r p t h K)
theorem Loops.noneE {P : Program} {root : Code} {k : Nat} : Loops P root k (cutE []) := fun _ _ _ _ h => h.elim
theorem Loops.moreE {P : Program} {root : Code} {k : Nat} {r : List CutE} (hr : Loops P root k (cutE r)) (c : CutE) (hs : ∀ b K, c.Q b K → LoopOr P k (sub root c.p) (c.t b) (c.h b) K) : Loops P root k (cutE (c :: r)) := fun p t h K hk => by
  simp only [cutE] at hk
  cases hb : beqL p c.p with
  | true =>
    rw [hb, cond_true] at hk
    obtain ⟨b, rfl, rfl, hq⟩ := hk
    rw [beqL_eq hb]
    exact hs b K hq
  | false => rw [hb, cond_false] at hk; exact hr p t h K hk
/-- from a cut on, where the part may end as any does -/
theorem Sure.cutN {P : Program} {S : Book} {LK : LoopK} {root : Code} {k : Nat} (s : Sure P S) (F : List Nat → Option (List Nat)) (hL : Loops P root k LK) (D : List Nat) (M : List May) (E : List Nat) (N : List May) (live : List Nat) {p : List Nat} {t : List Value} {h : Heap} {K : Post}
    (hk : Go.Proofs.Ytfgiifppapopnaa.AM.roundX P S LK F root k D M E N live p t h (fun e t' h' => match e with | .normal => FlatD D h' ∧ K .normal t' h' | e => FlatD E h' ∧ K e t' h')) : Says P k (sub root p) t h K := by
  have h0 := codeK_ok s.mixed s.plain s.sums hL 200 p _ t h _ rfl hk
  intro ρ a w Q hkh ht r hs0 hQ
  refine h0 ρ a w Q hkh ht r hs0 fun e t1 h1 ρ1 a1 w1 hK ht1 r1 f1 hs1 hd1 => ?_
  cases e with
  | normal =>
    obtain ⟨t2, h2, hK, hq⟩ := tidy_ok hK
    obtain ⟨ρ2, p1, p2, p3, p4, p5⟩ := hq ρ1 w1 _ f1.hs ht1 r1 hs1
    exact hQ .normal _ _ ρ2 a1 w1 hK p2 p3 (f1.trans p4) p5 hd1
  | exit id =>
    obtain ⟨t2, h2, hK, hq⟩ := tidy_ok hK
    obtain ⟨ρ2, p1, p2, p3, p4, p5⟩ := hq ρ1 w1 _ f1.hs ht1 r1 hs1
    exact hQ (.exit id) _ _ ρ2 a1 w1 hK p2 p3 (f1.trans p4) p5 hd1
  | ret =>
    obtain ⟨t2, h2, hK, hq⟩ := tidy_ok hK
    obtain ⟨ρ2, p1, p2, p3, p4, p5⟩ := hq ρ1 w1 _ f1.hs ht1 r1 hs1
    exact hQ .ret _ _ ρ2 a1 w1 hK p2 p3 (f1.trans p4) p5 hd1
end Go.Proofs.Ytfgiifppapopnaa.AM

namespace Go.Proofs.Ytfgiifppapopnaa.AM
/-! ### rows of elements of two cells each -/
section
variable {α : Type} {f g : α → Value}
/-- these elements as cells -/
def pC (f g : α → Value) : List α → List Value
  | [] => []
  | x :: l => f x :: g x :: pC f g l
theorem pC_len : ∀ l : List α, (pC f g l).length = l.length * 2 := by
  intro l
  induction l with
  | nil => rfl
  | cons x l ih => simp only [pC, List.length_cons, ih]; omega
theorem pC_append : ∀ a b : List α, pC f g (a ++ b) = pC f g a ++ pC f g b := by
  intro a b
  induction a with
  | nil => rfl
  | cons x a ih => simp only [List.cons_append, pC, ih]
theorem pC_drop : ∀ (l : List α) (n : Nat), (pC f g l).drop (n * 2) = pC f g (l.drop n) := by
  intro l
  induction l with
  | nil => intro n; simp [pC]
  | cons x l ih =>
    intro n
    cases n with
    | zero => rfl
    | succ n => rw [show (n + 1) * 2 = n * 2 + 2 by omega, List.drop_succ_cons, ← ih n]; rfl
theorem pC_take : ∀ (l : List α) (n : Nat), (pC f g l).take (n * 2) = pC f g (l.take n) := by
  intro l
  induction l with
  | nil => intro n; simp [pC]
  | cons x l ih =>
    intro n
    cases n with
    | zero => simp [pC]
    | succ n => rw [show (n + 1) * 2 = n * 2 + 1 + 1 by omega]; simp only [pC, List.take_succ_cons, ih n]
theorem pC_get0 : ∀ (l : List α) {j : Nat} {x : α}, l[j]? = some x → (pC f g l)[j * 2]? = some (f x) := by
  intro l
  induction l with
  | nil => intro j x h; simp at h
  | cons y l ih =>
    intro j x h
    cases j with
    | zero => simp at h; subst h; rfl
    | succ j => rw [show (j + 1) * 2 = j * 2 + 1 + 1 by omega]; simpa [pC] using ih (by simpa using h)
theorem pC_get1 : ∀ (l : List α) {j : Nat} {x : α}, l[j]? = some x → (pC f g l)[j * 2 + 1]? = some (g x) := by
  intro l
  induction l with
  | nil => intro j x h; simp at h
  | cons y l ih =>
    intro j x h
    cases j with
    | zero => simp at h; subst h; rfl
    | succ j => rw [show (j + 1) * 2 + 1 = j * 2 + 1 + 1 + 1 by omega]; simpa [pC] using ih (by simpa using h)
theorem pC_flat (hf : ∀ a, Go.Proofs.Ytfgiifppapopnaa.AM.fz (f a) = true) (hg : ∀ a, Go.Proofs.Ytfgiifppapopnaa.AM.fz (g a) = true) : ∀ l : List α, FlatL (pC f g l) := by
  intro l
  refine ⟨fun x hx => ?_⟩
  induction l with
  | nil => simp [pC] at hx
  | cons y l ih =>
    simp only [pC, List.mem_cons] at hx
    rcases hx with rfl | rfl | hx
    · exact hf y
    · exact hg y
    · exact ih hx
theorem pC_one (hf : ∀ a, oneV (f a) = true) (hg : ∀ a, oneV (g a) = true) : ∀ l : List α, (pC f g l).all oneV = true := by
  intro l
  induction l with
  | nil => rfl
  | cons y l ih => simp only [pC, List.all_cons, hf, hg, ih, Bool.and_self]
/-- cells that hold these elements, from the block's beginning on -/
structure PSl (f g : α → Value) (P : α → Prop) (cs : List Value) (l : List α) : Prop where
  whole : cs.take (l.length * 2) = pC f g l
  ok : ∀ x ∈ l, P x
  flat : FlatL cs
theorem PSl.size {P : α → Prop} {cs : List Value} {l : List α} (h : PSl f g P cs l) : l.length * 2 ≤ cs.length := by
  have := congrArg List.length h.whole
  rw [List.length_take, pC_len] at this; omega
theorem PSl.eq {P : α → Prop} {cs : List Value} {l : List α} (h : PSl f g P cs l) : cs = pC f g l ++ cs.drop (l.length * 2) := by rw [← h.whole, List.take_append_drop]
theorem PSl.get0 {P : α → Prop} {cs : List Value} {l : List α} (h : PSl f g P cs l) {j : Nat} {x : α} (hj : l[j]? = some x) : getO cs (j * 2) = some (f x) := by
  have hlt := (List.getElem?_eq_some_iff.1 hj).1
  rw [getO_eq, h.eq, List.getElem?_append_left (by rw [pC_len]; omega)]; exact pC_get0 l hj
theorem PSl.get1 {P : α → Prop} {cs : List Value} {l : List α} (h : PSl f g P cs l) {j : Nat} {x : α} (hj : l[j]? = some x) : getO cs (j * 2 + 1) = some (g x) := by
  have hlt := (List.getElem?_eq_some_iff.1 hj).1
  rw [getO_eq, h.eq, List.getElem?_append_left (by rw [pC_len]; omega)]; exact pC_get1 l hj
theorem PSl.one {P : α → Prop} {cs : List Value} {l : List α} (h : PSl f g P cs l) {j : Nat} {x : α} (hj : l[j]? = some x) : (cs.drop (j * 2)).take 2 = [f x, g x] := by
  have hlt := (List.getElem?_eq_some_iff.1 hj).1
  have e : l.drop j = x :: l.drop (j + 1) := by
    rw [List.drop_eq_getElem_cons hlt]; congr 1; rw [List.getElem?_eq_getElem hlt] at hj; injection hj
  rw [h.eq, List.drop_append_of_le_length (by rw [pC_len]; omega), pC_drop, e]
  rfl
theorem PSl.own {P : α → Prop} (hf : ∀ a, Go.Proofs.Ytfgiifppapopnaa.AM.fz (f a) = true) (hg : ∀ a, Go.Proofs.Ytfgiifppapopnaa.AM.fz (g a) = true) {l : List α} (h : ∀ x ∈ l, P x) (q : List Value) (hq : FlatL q) : PSl f g P (pC f g l ++ q) l :=
  ⟨by have := List.take_left (l₁ := pC f g l) (l₂ := q); rwa [pC_len] at this, h, ⟨fun x hx => (List.mem_append.1 hx).elim ((pC_flat hf hg l).1 x) (hq.1 x)⟩⟩
theorem PSl.own0 {P : α → Prop} (hf : ∀ a, Go.Proofs.Ytfgiifppapopnaa.AM.fz (f a) = true) (hg : ∀ a, Go.Proofs.Ytfgiifppapopnaa.AM.fz (g a) = true) {l : List α} (h : ∀ x ∈ l, P x) : PSl f g P (pC f g l) l := by
  have := PSl.own (f := f) (g := g) hf hg h [] ⟨fun x hx => by simp at hx⟩
  rwa [List.append_nil] at this
theorem PSl.takeN {P : α → Prop} {cs : List Value} {l : List α} (h : PSl f g P cs l) (n : Nat) (hn : n ≤ l.length) : cs.take (n * 2) = pC f g (l.take n) := by
  rw [← pC_take, ← h.whole, List.take_take, Nat.min_eq_left (by omega)]
theorem PSl.dropN {P : α → Prop} {cs : List Value} {l : List α} (h : PSl f g P cs l) (n : Nat) (hn : n ≤ l.length) : (cs.drop (n * 2)).take ((l.length - n) * 2) = pC f g (l.drop n) := by
  rw [← pC_drop, ← h.whole, List.drop_take]; congr 1; omega
noncomputable def pairAt (dec : Value → Value → α) (cs : List Value) (n : Nat) : List α := (List.range n).map fun j => dec ((getO cs (j * 2)).getD undef) ((getO cs (j * 2 + 1)).getD undef)
theorem PSl.at {P : α → Prop} {cs : List Value} {l : List α} (h : PSl f g P cs l) {dec : Value → Value → α} (hd : ∀ a, dec (f a) (g a) = a) : pairAt dec cs l.length = l := by
  unfold pairAt
  refine List.ext_getElem? fun j => ?_
  rw [List.getElem?_map]
  by_cases hj : j < l.length
  · have hx : l[j]? = some l[j] := List.getElem?_eq_getElem hj
    rw [List.getElem?_range hj, hx]
    generalize l[j] = x at hx
    show some (dec _ _) = _
    rw [h.get0 hx, h.get1 hx]
    exact congrArg some (hd x)
  · rw [List.getElem?_eq_none (l := List.range l.length) (by rw [List.length_range]; omega), List.getElem?_eq_none (l := l) (by omega)]; rfl
inductive IsP (f g : α → Value) (P : α → Prop) (cs : List Value) (len cap : Nat) : Prop
  | mk (l : List α) (h : l.length = len) (hc : len ≤ cap) (hb : PSl f g P cs l) : IsP f g P cs len cap
end
/-- cells written behind what is there -/
theorem setAll_at (vs pre : List Value) (k : Nat) (r : List Value) (hk : pre.length = k) (hr : vs.length ≤ r.length) : setAll (pre ++ r) k vs = pre ++ vs ++ r.drop vs.length := by
  subst hk
  refine List.ext_getElem? fun j => ?_
  rw [setAll_get _ _ _ _ (by simp; omega)]
  by_cases h1 : j < pre.length
  · rw [if_pos h1, List.append_assoc, List.getElem?_append_left h1, List.getElem?_append_left h1]
  · rw [if_neg h1, List.append_assoc]
    by_cases h2 : j < pre.length + vs.length
    · rw [if_pos h2, List.getElem?_append_right (by omega), List.getElem?_append_left (by omega)]
    · rw [if_neg h2, List.getElem?_append_right (l₁ := pre) (l₂ := r) (by omega), List.getElem?_append_right (l₁ := pre) (by omega), List.getElem?_append_right (by omega), List.getElem?_drop]
      congr 1
      omega
theorem repl_1 (v w : Value) : repl 1 [v, w] = [v, w] := rfl
end Go.Proofs.Ytfgiifppapopnaa.AM

namespace Go.Proofs.Ytfgiifppapopnaa.AM
/-- the first argument runs to its block's end: whatever its true capacity is, it may be taken as told ('some 5') -/
theorem FunSays.cap {P : Program} {f : FuncId} {B o : Nat} {sp : Option Nat} {len cap : Nat} {rest : List Value} {h : Heap} {K : Value → Heap → Prop} (hsp : exS sp = false)
    (h1 : ∀ cc, cap ≤ cc → FunSays P f (.slice (some ⟨B, o, some 5⟩) len cc :: rest) h K) : FunSays P f (.slice (some ⟨B, o, sp⟩) len cap :: rest) h K := by
  obtain ⟨fn, a1, a2, _⟩ := h1 cap (Nat.le_refl _)
  refine ⟨fn, a1, a2, fun ρ w args' ht r ha => ?_⟩
  obtain ⟨y, ys, rfl, hy, hys⟩ := ha.of_cons
  rcases hy.of_slice with ⟨rfl, rfl, _, a, rfl, _⟩ | ⟨cc, l, o', rfl, q1, q2, q3, q4, q5, q6⟩
  · obtain ⟨fn2, b1, b2, b3⟩ := h1 0 (Nat.le_refl _)
    rw [a1] at b1; injection b1 with b1; subst b1
    exact b3 ρ w _ ht r (.cons (.nl _ _ _ a rfl (fun hh => by cases hh)) hys)
  · obtain ⟨fn2, b1, b2, b3⟩ := h1 cc q3
    rw [a1] at b1; injection b1 with b1; subst b1
    exact b3 ρ w _ ht r (.cons (.sl _ _ (some 5) _ _ _ l _ q1 q2 (Nat.le_refl _) (fun _ => rfl) (fun _ hown => q5 hsp hown) (Nat.le_trans q6 q3)) hys)
/-- fewer cells of a block are known -/
theorem Slack.pre {k : Nat} {t : List Value} {h : Heap} {B : Nat} {p q : List Value} {e : Nat} {own : Bool} (hB : h.get B = some (.cells (p ++ q) e own)) (he0 : e ≠ 0 := by decide) : Slack k t h t (h.set B (.cells p e own)) := by
  intro ρ w ys hk ht r hs
  have hlt := Heap.get_lt hB
  have hg : ∀ B' c e' o', (h.set B (.cells p e own)).get B' = some (.cells c e' o') → ∃ c0, h.get B' = some (.cells c0 e' o') ∧ ∃ c1, c0 = c ++ c1 ∧ (e' = 0 → c1 = []) := fun B' c e' o' hb => by
    rw [Heap.get_set hlt] at hb
    split at hb
    · rename_i hBB
      subst hBB
      simp only [Option.some.injEq, Blk.cells.injEq] at hb
      obtain ⟨rfl, rfl, rfl⟩ := hb
      exact ⟨_, hB, q, rfl, fun hh => absurd hh he0⟩
    · exact ⟨c, hb, [], by rw [List.append_nil], fun _ => rfl⟩
  refine ⟨ρ, hk, ht, ⟨fun B' c e' o' hb => ?_, fun B1 B2 c1 e1 c2 e2 w2 l1 l2 hb1 hb2 hl1 hl2 he => ?_, fun b o hz => ⟨(r.zok b o hz).1, (r.zok b o hz).2.of (fun ⟨B', l, c, e', q1, q2, q3⟩ => (by
    obtain ⟨c0, h0, _⟩ := hg _ _ _ _ q1
    exact ⟨B', l, c0, e', h0, q2, q3⟩)) (fun ⟨B', l, c, e', o', q1, q2, q3⟩ => (by
    obtain ⟨c0, h0, _⟩ := hg _ _ _ _ q1
    exact ⟨B', l, c0, e', o', h0, q2, q3⟩)) rfl⟩⟩, ⟨rfl, rfl, rfl, hk, Nat.le_refl _, fun _ _ => rfl, fun b _ hn => ⟨.inl rfl, fun ⟨B', l, c, e', q1, q2, q3⟩ => ?_⟩, fun b _ hn ⟨B', l, c, e', o', q1, q2, q3⟩ => ?_, fun _ _ h => h, fun _ _ _ => rfl⟩, hs⟩
  · obtain ⟨c0, h0, c1, rfl, hc1⟩ := hg B' c e' o' hb
    rcases r.obj _ _ _ _ h0 with ⟨q1, q2⟩ | ⟨l, q1, q2⟩
    · exact .inl ⟨(List.append_eq_nil_iff.1 q1).1, q2⟩
    · refine .inr ⟨l, q1, q2.hesz, q2.hown, fun hne => ?_, fun h0 => ?_⟩
      · obtain ⟨c2, ty, fr, y1, y2, y3, y4⟩ := q2.hblk hne
        exact ⟨c2, ty, fr, y1, y2, y3, fun i v hv => y4 i v (by rw [List.getElem?_append_left (List.getElem?_eq_some_iff.1 hv).1]; exact hv)⟩
      · have := q2.hmap h0
        rw [hc1 h0, List.append_nil] at this
        exact this
  · obtain ⟨c3, h3, _⟩ := hg _ _ _ _ hb1
    obtain ⟨c4, h4, _⟩ := hg _ _ _ _ hb2
    exact r.inj B1 B2 _ _ _ _ _ _ _ h3 h4 hl1 hl2 he
  · obtain ⟨c0, h0, _⟩ := hg _ _ _ _ q1
    exact hn ⟨B', l, c0, e', h0, q2, q3⟩
  · obtain ⟨c0, h0, _⟩ := hg _ _ _ _ q1
    exact hn ⟨B', l, c0, e', o', h0, q2, q3⟩
/-- the same blocks in another heap -/
theorem Slack.heap {k : Nat} {t : List Value} {h h2 : Heap} (hz : h.size = h2.size) (hg : ∀ B, h.get B = h2.get B) : Slack k t h t h2 := by
  intro ρ w ys hk ht r hs
  refine ⟨ρ, by omega, fun B hB => ht B (by omega), ⟨fun B' c e' o' hb => r.obj _ _ _ _ (by rw [hg]; exact hb), fun B1 B2 c1 e1 c2 e2 w2 l1 l2 hb1 hb2 => r.inj _ _ _ _ _ _ _ _ _ (by rw [hg]; exact hb1) (by rw [hg]; exact hb2), fun b o hz => ⟨(r.zok b o hz).1, (r.zok b o hz).2.of (fun q => q.congr fun B => (hg B).symm) (fun q => q.congr fun B => (hg B).symm) rfl⟩⟩, ⟨rfl, rfl, rfl, by omega, Nat.le_refl _, fun _ _ => rfl, fun b _ hn => ⟨.inl rfl, fun ⟨B', l, c, e', q1, q2, q3⟩ => hn ⟨B', l, c, e', by rw [hg]; exact q1, q2, q3⟩⟩, fun b _ hn ⟨B', l, c, e', o', q1, q2, q3⟩ => hn ⟨B', l, c, e', o', by rw [hg]; exact q1, q2, q3⟩, fun _ _ h => h, fun _ _ _ => rfl⟩, hs⟩
/-- less is known of a capacity -/
theorem Less.cap {B o : Nat} {sp : Option Nat} {len ca ca2 : Nat} (hsp : exS sp = false) (h1 : len ≤ ca2) (h2 : ca2 ≤ ca) : Less (.slice (some ⟨B, o, sp⟩) len ca) (.slice (some ⟨B, o, some 1⟩) len ca2) := fun ρ v' hv => by
  rcases hv.of_slice with ⟨rfl, rfl, _, a, rfl, _⟩ | ⟨cc, l, o', rfl, q1, q2, q3, q4, q5, q6⟩
  · obtain rfl : ca2 = 0 := by omega
    exact .nl _ _ _ _ rfl (fun h => by cases h)
  · exact .sl _ _ _ _ _ _ l _ q1 q2 (by omega) (fun hh => by cases hh) (fun _ => q5 hsp) h1
theorem FunSays.slack {P : Program} {f : FuncId} {args : List Value} {h : Heap} {K K2 : Value → Heap → Prop} (hs : FunSays P f args h K)
    (hK : ∀ v h', K v h' → ∃ v2 h2, Slack h.size [v] h' [v2] h2 ∧ isJunk v2 = false ∧ K2 v2 h2) : FunSays P f args h K2 := by
  obtain ⟨fn, h1, h2, h3⟩ := hs
  refine ⟨fn, h1, h2, fun ρ w args' ht r ha => (h3 ρ w args' ht r ha).mono ?_⟩
  rintro e w' ⟨v, h', ρ', v', rfl, hk, ht', r', f', hv⟩
  obtain ⟨v2, h2, R, hj, hk2⟩ := hK v h' hk
  obtain ⟨ρ2, q0, q1, q2, q3, q4⟩ := R ρ' w' [v'] f'.hs ht' r' ⟨rfl, fun i x y hx hy => by
    cases i with
    | zero => simp at hx hy; subst hx; subst hy; exact .inr hv
    | succ i => simp at hx⟩
  exact ⟨v2, h2, ρ2, v', rfl, hk2, q1, q2, f'.trans q3, (q4.2 0 v2 v' rfl rfl).vr hj⟩
end Go.Proofs.Ytfgiifppapopnaa.AM

namespace Go.Proofs.Ytfgiifppapopnaa.AM
/-! ### slices.overlaps of two slices in two blocks of our own (whose elements are not of one cell): false -/
theorem run_lap {P : Program} (w : World) (tS tR e : TypeId) (ht : P.underlying tS = some (.slice e)) (size : Nat) (hz : ∀ w, (Go.sizeOf e).run P w = .ok size w)
    (a b : Addr) (la ca lb cb : Nat) (hne : a.block ≠ b.block) (tA tB : TypeId) (kA kB : Nat)
    (hsa : w.shape? a.block = some (tA, kA)) (hsb : w.shape? b.block = some (tB, kB))
    (hfa : w.frozen? a = false) (hfe : w.frozen? { block := a.block, off := kA } = false) (hfb : w.frozen? b = false) (hfe2 : w.frozen? { block := b.block, off := kB } = false) :
    (Extern.SlicesOverlaps.overlaps #[tS, tS] #[tR] #[.slice (some a) la ca, .slice (some b) lb cb]).run P w = .ok (.bool false) w := by
  have hnb : (a.block != b.block) = true := by simpa using hne
  have hnb' : (a.block == b.block) = false := by simpa using hne
  change Sem.run P (α := Value) (do
    let some t := (#[tS, tS] : Array TypeId)[0]? | stuck "slices.overlaps: no parameter types"
    let .slice elem ← underlying t | stuck "slices.overlaps: slice type expected"
    let size ← sizeOf elem
    match (some a : Option Addr), (some b : Option Addr) with
    | some a, some b =>
      if la = 0 ∨ lb = 0 ∨ size = 0 then pure (Value.bool false)
      else if a.block != b.block && (← frozen a) && (← frozen b) then unsupported .addressObserved
      else do
        if a.block != b.block then do
          noView a; noView b
          if ← mayBeOne a b then return Value.bool ((← choose (.extern "sameAddr.stringBytes" 2)) == 1)
        pure (Value.bool (a.block == b.block && a.off < b.off + lb * size && b.off < a.off + la * size))
    | _, _ => pure (Value.bool false)) w = _
  by_cases h0 : la = 0 ∨ lb = 0 ∨ size = 0
  · simp [run_underlying ht, hz, h0]
  · simp [run_underlying ht, hz, h0, hnb, hnb', frozen, noView, viewAt, mayBeOne, stringish, shape, Sem.run, hsa, hsb, hfa, hfe, hfb, hfe2]
theorem lap_form {P : Program} (w : World) (tS tR : TypeId) (a b : Option Addr) (la ca lb cb : Nat) :
    (Extern.SlicesOverlaps.overlaps #[tS, tS] #[tR] #[.slice a la ca, .slice b lb cb]).run P w = Sem.run P (α := Value) (do
    let some t := (#[tS, tS] : Array TypeId)[0]? | stuck "slices.overlaps: no parameter types"
    let .slice elem ← underlying t | stuck "slices.overlaps: slice type expected"
    let size ← sizeOf elem
    match a, b with
    | some a, some b =>
      if la = 0 ∨ lb = 0 ∨ size = 0 then pure (Value.bool false)
      else if a.block != b.block && (← frozen a) && (← frozen b) then unsupported .addressObserved
      else do
        if a.block != b.block then do
          noView a; noView b
          if ← mayBeOne a b then return Value.bool ((← choose (.extern "sameAddr.stringBytes" 2)) == 1)
        pure (Value.bool (a.block == b.block && a.off < b.off + lb * size && b.off < a.off + la * size))
    | _, _ => pure (Value.bool false)) w := rfl
noncomputable def apartB (args : List Value) (h : Heap) : Bool := match args with
  | [.slice (some ⟨B1, _, _⟩) _ _, .slice (some ⟨B2, _, _⟩) _ _] => match rdB h B1, rdB h B2 with
    | some (_, e1, true), some (_, e2, true) => !(Nat.beq B1 B2) && (!(Nat.beq e1 1) && !(Nat.beq e2 1))
    | _, _ => false
  | _ => false
noncomputable def lapS : Summ where
  f := fun args h => if apartB args h then some (.bool false, h) else none
  K := fun args h K => Need (apartB args h) (K (.bool false) h)
  ok := fun args h K' hk => by
    obtain ⟨q1, q2⟩ := Need_iff.1 hk
    exact ⟨_, _, if_pos q1, q2⟩
/-- the function is the model's 'slices.overlaps' of such slices -/
structure IsLap (P : Program) (f : FuncId) (tS tR e : TypeId) (size : Nat) : Prop where
  und : P.underlying tS = some (.slice e)
  sz : ∀ w, (Go.sizeOf e).run P w = .ok size w
  run : ∀ (args : Array Value) w, (callFunc f args).run P w = ((Extern.SlicesOverlaps.overlaps #[tS, tS] #[tR] args).run P w).andThen fun v w' => .ok (.value v) w'
theorem lap_ok {P : Program} {f : FuncId} {tS tR e : TypeId} {size : Nat} (hl : IsLap P f tS tR e size) : SumOk P f lapS := by
  intro args h v h' he ρ w args' hfr r ha
  simp only [lapS] at he
  split at he
  case isFalse => cases he
  rename_i hb
  injection he with he
  injection he with e1 e2
  subst e1 e2
  right
  refine ⟨rfl, rfl, ?_⟩
  unfold apartB at hb
  split at hb
  case h_2 => cases hb
  rename_i B1 o1 sp1 l1 c1 B2 o2 sp2 l2 c2
  split at hb
  case h_2 => cases hb
  rename_i cs1 e1 cs2 e2 g1 g2
  simp only [Bool.and_eq_true, Bool.not_eq_true'] at hb
  obtain ⟨hne, hn1, hn2⟩ := hb
  have hn1 : e1 ≠ 1 := fun hh => by subst hh; simp at hn1
  have hn2 : e2 ≠ 1 := fun hh => by subst hh; simp at hn2
  have hne : B1 ≠ B2 := fun hh => by subst hh; simp at hne
  have n1 := rdB_ne g1
  have n2 := rdB_ne g2
  have g1 := rdB_some g1
  have g2 := rdB_some g2
  obtain ⟨y1, ys, rfl, v1, hys⟩ := ha.of_cons
  obtain ⟨y2, zs, rfl, v2, hzs⟩ := hys.of_cons
  obtain rfl := hzs.of_nil
  have zeroL : ∀ a ca s lb cb, (Extern.SlicesOverlaps.overlaps #[tS, tS] #[tR] #[.slice a 0 ca, .slice s lb cb]).run P w = .ok (.bool false) w := fun a ca s lb cb => by
    rw [lap_form]; cases a <;> cases s <;> simp [run_underlying hl.und, hl.sz]
  have zeroR : ∀ a la ca s cb, (Extern.SlicesOverlaps.overlaps #[tS, tS] #[tR] #[.slice a la ca, .slice s 0 cb]).run P w = .ok (.bool false) w := fun a la ca s cb => by
    rw [lap_form]; cases a <;> cases s <;> simp [run_underlying hl.und, hl.sz]
  rw [show (([y1, y2] : List Value).toArray) = #[y1, y2] from rfl, hl.run]
  suffices hs : (Extern.SlicesOverlaps.overlaps #[tS, tS] #[tR] #[y1, y2]).run P w = .ok (.bool false) w by rw [hs]; rfl
  rcases v1.of_slice with ⟨_, _, _, a, rfl, _⟩ | ⟨cc1, x1, p1, rfl, q1, _⟩
  · rcases v2.of_slice with ⟨_, _, _, b, rfl, _⟩ | ⟨cc2, x2, p2, rfl, q2, _⟩
    · exact zeroL _ _ _ _ _
    · exact zeroL _ _ _ _ _
  rcases v2.of_slice with ⟨_, _, _, b, rfl, _⟩ | ⟨cc2, x2, p2, rfl, q2, _⟩
  · exact zeroR _ _ _ _ _
  have hbl : x1.blk ≠ x2.blk := fun hh => hne (r.inj _ _ _ _ _ _ _ _ _ g1 g2 q1 q2 hh)
  obtain ⟨c1', ty1, fr1, z1, _, z2, _⟩ := (r.at g1 q1).hblk n1
  obtain ⟨c2', ty2, fr2, u1, _, u2, _⟩ := (r.at g2 q2).hblk n2
  have f1 : ∀ i sp, w.frozen? ⟨x1.blk, i, sp⟩ = false := fun i sp => by
    have := z2 rfl i (.inr hn1)
    simp only [World.frozen?, z1]
    simpa using this
  have f2 : ∀ i sp, w.frozen? ⟨x2.blk, i, sp⟩ = false := fun i sp => by
    have := u2 rfl i (.inr hn2)
    simp only [World.frozen?, u1]
    simpa using this
  exact run_lap w tS tR e hl.und size hl.sz _ _ _ _ _ _ hbl ty1 ty2 c1'.size c2'.size (by simp [World.shape?, z1]) (by simp [World.shape?, u1]) (f1 _ _) (f1 _ _) (f2 _ _) (f2 _ _)
end Go.Proofs.Ytfgiifppapopnaa.AM
