/- Proved: a row that the library's sort turns in its place, as a contract. Conditions: those that each theorem states. -/
import Derived.Test.YtmgnlkefhmhkhaaAm4
import Derived.Sort.Grow
set_option linter.unusedVariables false
set_option linter.unusedSimpArgs false
namespace Go.Proofs.Ytmgnlkefhmhkhaa.AM
/-! ### a row that a function of the library turns in its place -/
/-- the first cells turned by G, the others as they are -/
def rowC (G : List Value → List Value) (len : Nat) (cs : List Value) : List Value := G (cs.take len) ++ cs.drop len
inductive RowPre {α : Type} (enc : α → Value) (sp : Option Nat) (len cap : Nat) (cs : List Value) : Prop
  | mk (zs : List α) (q : List Value) (h : cs = zs.map enc ++ q) (hl : len = zs.length) (hn : zs.length < 4611686018427387904) (hc : zs.length ≤ cap) (hx : exS sp = false) : RowPre enc sp len cap cs
def rowCtr {α : Type} (enc : α → Value) (G : List Value → List Value) (V : List Value → Nat → Value) : CtrW where
  D := []
  W := [0]
  E := []
  pre := fun args blks => match args, blks with
    | [.slice (some ⟨0, 0, sp⟩) len cap], [.cells cs _ true] => RowPre enc sp len cap cs
    | _, _ => False
  val := fun args blks => match args, blks with
    | [.slice _ len cap], [.cells cs _ _] => V (cs.take len) cap
    | _, _ => .tuple #[]
  out := fun args blks => match args, blks with
    | [.slice _ len _], [.cells cs e o] => [.cells (rowC G len cs) e o]
    | _, b => b
theorem rowCtr_holds {α : Type} [Inhabited α] {P : Program} {f : FuncId} {fn : Func} {enc : α → Value} {G : List Value → List Value} {V : List Value → Nat → Value} (F : List α → List α) (R : List α → Nat → Nat → Nat → Value) (hf : P.funcs[f]? = some fn) (hb : fn.body.isSome = true) (hfl : ∀ a, flat (enc a) = true)
    (hl : ∀ zs, (F zs).length = zs.length) (hG : ∀ zs : List α, G (zs.map enc) = (F zs).map enc)
    (hV : ∀ (zs : List α) (ρ : Rho) (l : Loc) (o' cap cc : Nat), ρ 0 = some l → (o' = l.base ∨ cc = 0) → cap ≤ cc → (l.own = true → l.base + cc * l.esz = l.size) → zs.length ≤ cap → VR ρ (V (zs.map enc) cap) (R zs l.blk o' cc))
    (h0 : ∀ sp cap e (q : List Value), exS sp = false → FlatL q → FunSays P f [.slice (some ⟨0, 0, sp⟩) 0 cap] (hp [.cells q e true]) fun v h' => v = V [] cap ∧ h' = hp [.cells q e true])
    (hC : ∀ blk off cap (zs : List α) (w : World), Go.Sort.Holds enc w blk off zs.toArray → blk < w.heap.size → zs.length < 4611686018427387904 → zs.length ≤ cap → Calls P f #[.slice (some ⟨blk, off, none⟩) zs.length cap] w fun e w' =>
      e = .returned (R zs blk off cap) ∧ ∃ n os, w' = Go.Sort.grow (Go.Sort.putRow enc (Go.Sort.ahead w n) blk off (F zs).toArray) os) : (rowCtr enc G V).Holds P f := by
  intro args blks hfb hpre
  simp only [rowCtr] at hpre
  split at hpre
  case h_2 => exact hpre.elim
  rename_i sp _ cap _ e
  obtain ⟨zs, q, rfl, rfl, hsz, hlc, hex⟩ := hpre
  have hrow : rowC G zs.length (zs.map enc ++ q) = (F zs).map enc ++ q := by
    unfold rowC
    have h1 : (zs.map enc ++ q).take zs.length = zs.map enc := by
      have := List.take_left (l₁ := zs.map enc) (l₂ := q)
      rwa [List.length_map] at this
    have h2 : (zs.map enc ++ q).drop zs.length = q := by
      have := List.drop_left (l₁ := zs.map enc) (l₂ := q)
      rwa [List.length_map] at this
    rw [h1, h2, hG]
  have hq : ∀ x ∈ q, flat x = true := by
    obtain ⟨⟨q1⟩, _⟩ := hfb
    exact fun x hx => q1 x (List.mem_append_right _ hx)
  have hout : ∀ x ∈ (F zs).map enc ++ q, flat x = true := fun x hx => by
    rcases List.mem_append.1 hx with hx | hx
    · obtain ⟨a, _, rfl⟩ := List.mem_map.1 hx; exact hfl a
    · exact hq x hx
  show SameBut [0] 0 _ [.cells (rowC G zs.length (zs.map enc ++ q)) e true] ∧ OutOk [] _ 0 (maskW [0] _ 0 [.cells (rowC G zs.length (zs.map enc ++ q)) e true]) ∧
    FunSays P f _ _ fun v h' => v = V ((zs.map enc ++ q).take zs.length) cap ∧ h' = hp [.cells (rowC G zs.length (zs.map enc ++ q)) e true]
  have htk : (zs.map enc ++ q).take zs.length = zs.map enc := by
    have := List.take_left (l₁ := zs.map enc) (l₂ := q)
    rwa [List.length_map] at this
  rw [hrow, htk]
  refine ⟨⟨trivial, trivial⟩, ⟨⟨hout⟩, trivial⟩, ?_⟩
  by_cases hzs : zs = []
  · subst hzs
    have hF : F [] = [] := List.length_eq_zero_iff.1 (hl [])
    rw [hF]
    exact h0 sp cap e q hex ⟨hq⟩
  replace hzs : ¬ zs.length = 0 := fun hh => hzs (List.length_eq_zero_iff.1 hh)
  refine ⟨fn, hf, hb, fun ρ w args' ht r ha => ?_⟩
  obtain ⟨y, ys, rfl, hy, hys⟩ := ha.of_cons
  obtain rfl := hys.of_nil
  rcases hy.of_slice with ⟨hh, _⟩ | ⟨ca, l, o', rfl, hρ, ho, hcc, hxx, hrr, hlen⟩
  · exact absurd hh hzs
  · skip
    have c := r.at (cs := zs.map enc ++ q) (e := e) (own := true) (by rw [hp_get]; rfl) hρ
    obtain ⟨cc, ty, fr, b1, b2, b3, b4⟩ := c.hblk
    have hcell : ∀ (i : Nat) v, (zs.map enc ++ q)[i]? = some v → cc[l.base + i]? = some v := fun i v hv => by
      obtain ⟨v', a, b⟩ := b4 i v hv
      have hflv : flat v = true := by
        rcases List.mem_append.1 (List.mem_of_getElem? hv) with hx | hx
        · obtain ⟨a, _, rfl⟩ := List.mem_map.1 hx; exact hfl a
        · exact hq v hx
      rw [flat_eq hflv b] at a
      exact a
    have ho' : zs = [] ∨ o' = l.base := by
      rcases ho with ho | ho
      · exact .inr ho
      · left
        have : zs.length = 0 := by omega
        exact List.length_eq_zero_iff.1 this
    have hH : Go.Sort.Holds enc w l.blk o' zs.toArray := fun j hj => by
      have hj' : j < zs.length := by simpa using hj
      rcases ho' with rfl | rfl
      · simp at hj'
      have hv : (zs.map enc ++ q)[j]? = some (enc zs[j]) := by rw [List.getElem?_append_left (by simpa using hj'), List.getElem?_map, List.getElem?_eq_getElem hj']; rfl
      have hc := hcell j _ hv
      refine ⟨?_, ?_⟩
      · simp only [World.cell?, b1]
        rw [getElem!_pos zs.toArray j hj]
        simpa using hc
      · simp only [World.frozen?, b1]
        have := b3 rfl (l.base + j) (.inl (Array.getElem?_eq_some_iff.1 hc).1)
        simp only [Bool.and_eq_false_iff, decide_eq_false_iff_not]
        omega
    have hblk : l.blk < w.heap.size := (Array.getElem?_eq_some_iff.1 b1).1
    refine (hC l.blk o' ca zs w hH hblk hsz (by omega)).mono ?_
    rintro e' w' ⟨rfl, n, os, rfl⟩
    have hheap : ∀ k, k < w.heap.size → (Go.Sort.grow (Go.Sort.putRow enc (Go.Sort.ahead w n) l.blk o' (F zs).toArray) os).heap[k]? = if k = l.blk then some (.cells (Go.Sort.putCells enc o' (F zs).toArray cc) ty fr) else w.heap[k]? := fun k hk => by
      rw [Go.Sort.heap_grow_old _ _ (by simpa using hk)]
      unfold Go.Sort.putRow Go.Sort.mapBlock
      simp only [Array.getElem?_modify, Go.Sort.heap_ahead]
      by_cases hkl : k = l.blk
      · subst hkl; simp [b1, Go.Sort.onCells]
      · rw [if_neg (fun hh => hkl hh.symm), if_neg hkl]
    refine ⟨_, _, ρ, _, rfl, ⟨rfl, rfl⟩, fun B hB => ht B (by rw [hp_size] at hB ⊢; exact hB), ⟨fun B cs e' own hB => ?_, fun B1 B2 c1 e1 c2 e2 w2 l1 l2 hb1 hb2 hl1 hl2 he => ?_⟩, ⟨rfl, rfl, rfl, by rw [hp_size, hp_size]; exact Nat.le_refl _, ?_, fun B _ => rfl, fun b hb hn => ?_, fun b hb hn ho => hn ?_⟩, hV zs ρ l o' cap ca hρ (by rcases ho with ho | ho <;> omega) hcc (fun hw => by have := hrr hex hw; omega) hlc⟩
    · rw [hp_get] at hB
      cases B with
      | succ B => simp at hB
      | zero =>
        simp only [List.getElem?_cons_zero, Option.some.injEq, Blk.cells.injEq] at hB
        obtain ⟨rfl, rfl, rfl⟩ := hB
        refine .inr ⟨l, hρ, c.hesz, c.hown, _, ty, fr, by rw [hheap _ hblk, if_pos rfl], by simpa [Go.Sort.putCells] using b2, fun _ i hi => b3 rfl i (by simpa [Go.Sort.putCells] using hi), fun i v hv => ?_⟩
        refine ⟨v, ?_, flat_refl (hout v (List.mem_of_getElem? hv))⟩
        simp only [Go.Sort.putCells, Array.getElem?_mapIdx]
        by_cases hi : i < zs.length
        · rcases ho' with rfl | rfl
          · simp at hi
          have hv0 : (zs.map enc ++ q)[i]? = some (enc zs[i]) := by rw [List.getElem?_append_left (by simpa using hi), List.getElem?_map, List.getElem?_eq_getElem hi]; rfl
          rw [hcell i _ hv0, Option.map_some]
          have hF : i < (F zs).length := by rw [hl]; exact hi
          rw [if_pos ⟨by omega, by simp [hl]; omega⟩, show l.base + i - l.base = i by omega, getElem!_pos _ i (by simpa using hF)]
          rw [List.getElem?_append_left (by simpa using hF), List.getElem?_map, List.getElem?_eq_getElem hF] at hv
          simpa using hv
        · have hv' : (zs.map enc ++ q)[i]? = some v := by
            rw [List.getElem?_append_right (by simp [hl]; omega), List.length_map, hl] at hv
            rw [List.getElem?_append_right (by simp; omega), List.length_map]; exact hv
          rw [hcell i v hv', Option.map_some, if_neg]
          rcases ho' with rfl | rfl
          · have : (F []).length = 0 := by rw [hl]; rfl
            simp [this]
          · simp [hl]; omega
    · rw [hp_get] at hb1 hb2
      cases B1 with
      | succ B1 => simp at hb1
      | zero =>
        cases B2 with
        | succ B2 => simp at hb2
        | zero => rfl
    · rw [Go.Sort.size_grow, Go.Sort.size_putRow]; exact Nat.le_add_right _ _
    · have hne : b ≠ l.blk := fun hh => hn ⟨0, l, _, e, by rw [hp_get]; rfl, hρ, hh.symm⟩
      refine ⟨by rw [hheap b hb, if_neg hne], fun ho => hn ?_⟩
      obtain ⟨B, l', cs, e', h1, h2, h3⟩ := ho
      rw [hp_get] at h1
      cases B with
      | succ B => simp at h1
      | zero => exact ⟨0, l', _, e, by rw [hp_get]; rfl, h2, h3⟩
    · obtain ⟨B, l', cs, e', o', h1, h2, h3⟩ := ho
      rw [hp_get] at h1
      cases B with
      | succ B => simp at h1
      | zero => exact ⟨0, l', _, e, true, by rw [hp_get]; rfl, h2, h3⟩
/-- slices.Sort at ints: the cells -/
def sortI (cs : List Value) : List Value := ((cs.map intV).mergeSort fun x y => decide (x ≤ y)).map (.int .i64)
theorem sortI_map (zs : List Int) : sortI (zs.map (.int .i64)) = (zs.mergeSort fun x y => decide (x ≤ y)).map (.int .i64) := by
  unfold sortI
  rw [List.map_map, show (intV ∘ Value.int .i64) = id from rfl, List.map_id]
theorem sort_V {α : Type} {enc : α → Value} (zs : List α) (ρ : Rho) (l : Loc) (o' cap cc : Nat) (_ : ρ 0 = some l) (_ : o' = l.base ∨ cc = 0) (_ : cap ≤ cc) (_ : l.own = true → l.base + cc * l.esz = l.size) (_ : zs.length ≤ cap) : VR ρ ((fun _ _ => .tuple #[]) (zs.map enc) cap) ((fun _ _ _ _ => .tuple #[]) zs l.blk o' cc) :=
  .tuple #[] #[] rfl fun i x y hx => by simp at hx
end Go.Proofs.Ytmgnlkefhmhkhaa.AM
