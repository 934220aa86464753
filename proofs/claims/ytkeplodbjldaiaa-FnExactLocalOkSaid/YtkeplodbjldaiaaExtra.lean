/- Searches and takings-out over rows, in plain Lean; a row behind 'clear'. -/
import Derived.Test.YtkeplodbjldaiaaWWords
import Derived.Test.YtkeplodbjldaiaaWMore
import Derived.Test.YtkeplodbjldaiaaWApart
import Derived.Test.YtkeplodbjldaiaaWN
import Derived.Lib.SliceRun
import Derived.StillTailTactics
set_option linter.unusedVariables false
namespace Go.Proofs.YtkeplodbjldaiaaW.PrintMore
open Go.RowKit Go.Proofs.YtkeplodbjldaiaaW.PrintWords
theorem heap_alloc_at (w : World) (o : Obj) (k : Nat) (hk : k = w.heap.size) : (w.alloc o).heap[k]? = some o := by subst hk; simpa using heap_alloc_new w o
def ixOf {α : Type} (p : α → Bool) : List α → Nat → Int
  | [], _ => -1
  | x :: l, i => if p x = true then (i : Int) else ixOf p l (i + 1)
theorem ixOf_at {α : Type} (p : α → Bool) (l : List α) (i j : Nat) (h : i < l.length) (he : p l[i] = true) : ixOf p (l.drop i) j = (j : Int) := by
  rw [List.drop_eq_getElem_cons h]
  simp only [ixOf, if_pos he]
theorem ixOf_next {α : Type} (p : α → Bool) (l : List α) (i j : Nat) (h : i < l.length) (he : p l[i] = false) : ixOf p (l.drop i) j = ixOf p (l.drop (i + 1)) (j + 1) := by
  rw [List.drop_eq_getElem_cons h]
  simp only [ixOf, he, Bool.false_eq_true, if_false]
theorem ixOf_spec {α : Type} (p : α → Bool) : ∀ (l : List α) (i : Nat), (ixOf p l i = -1 ∧ (∀ x ∈ l, p x = false) ∧ l.filter (fun x => !p x) = l) ∨ ∃ k, ∃ hk : k < l.length, ixOf p l i = ((i + k : Nat) : Int) ∧ p l[k] = true ∧ (∀ j, ∀ hj : j < k, p (l[j]'(by omega)) = false) ∧ (l.take k).filter (fun x => !p x) = l.take k
  | [], i => .inl ⟨rfl, fun x hx => by simp at hx, rfl⟩
  | x :: l, i => by
    cases h : p x with
    | true => exact .inr ⟨0, by simp, by simp [ixOf, h], h, fun j hj => absurd hj (Nat.not_lt_zero _), rfl⟩
    | false =>
      rcases ixOf_spec p l (i + 1) with ⟨e, hn, ha⟩ | ⟨k, hk, e, ht, hn, ha⟩
      · refine .inl ⟨by simp [ixOf, h, e], fun y hy => ?_, by simp [h, ha]⟩
        rcases List.mem_cons.1 hy with rfl | hy
        · exact h
        · exact hn y hy
      · refine .inr ⟨k + 1, by simpa using hk, by simp only [ixOf, h]; rw [show (if false = true then (i : Int) else ixOf p l (i + 1)) = ixOf p l (i + 1) from rfl, e]; congr 1; omega, by simpa using ht, fun j hj => ?_, by simp [h, ha]⟩
        cases j with
        | zero => simpa using h
        | succ j => simpa using hn j (by omega)
theorem rd_get {l : List Int} {i : Nat} (h : i < l.length) : rd l (i : Int) = l[i] := by
  unfold rd; rw [Int.toNat_natCast, List.getD_eq_getElem?_getD, List.getElem?_eq_getElem h]; rfl
/-- A row behind 'clear' of what lies behind its first o elements: those stay. -/
theorem R_clear {α : Type} {enc : α → Value} {h1 : ∀ x : α, (enc x).oneCell' = true} {e g n cap base : Nat} {ok : Nat → Prop} (z : α) : ∀ (m o : Nat) (W : World) (xs : List α), o + m ≤ n → (Kd.scalar enc h1).R e W base ok (.slice (some ⟨g, 0, none⟩) n cap) xs →
    ∃ ys : List α, ys.length = xs.length ∧ ys.take o = xs.take o ∧ (Kd.scalar enc h1).R e (W.setCells g o (List.replicate m (enc z))) base ok (.slice (some ⟨g, 0, none⟩) n cap) ys
  | 0, o, W, xs, _, h => ⟨xs, rfl, rfl, h⟩
  | m + 1, o, W, xs, hm, h => by
    have h2 := Kd.R_putn h (o : Int) z
    rw [Int.toNat_natCast] at h2
    obtain ⟨ys, hl, ht, hr⟩ := R_clear z m (o + 1) _ _ (by omega) h2
    refine ⟨ys, by rw [hl]; simp, ?_, hr⟩
    have := congrArg (List.take o) ht
    simp only [List.take_take, Nat.min_eq_left (Nat.le_succ o)] at this
    rw [this, List.take_set_of_le (Nat.le_refl _)]
theorem below_setCells {w0 : World} {g : Nat} (hg : w0.heap.size ≤ g) : ∀ (vs : List Value) (o : Nat) (w : World), Below w0.heap.size w0 w → Below w0.heap.size w0 (w.setCells g o vs)
  | [], _, _, h => h
  | v :: r, o, w, h => below_setCells hg r (o + 1) _ (below_set h hg)
end Go.Proofs.YtkeplodbjldaiaaW.PrintMore

/-! what is told again at a later world, in few words: the steps between are found by the rows' own tactic -/
namespace Go.Proofs.YtkeplodbjldaiaaW.PrintMore
open Go.RowKit Go.Proofs.YtkeplodbjldaiaaW.PrintWords
theorem an {p q : Prop} (a : p) (b : q) : Aside0 p ∧ q := ⟨⟨a⟩, b⟩
theorem bel0 {p : Prop} (h : p := by repeat (first | (with_reducible first | exact HB.out | apply below_alloc | apply pw_below_drewN | apply below_drew1 | refine below_set ?_ (Aside0.out (by with_reducible assumption))) | exact HB.out)) : p := h
theorem kpt {p : Prop} (h : p := by repeat (first | (with_reducible first | exact HK.out | apply Kept.alloc | apply Kept.drewN | apply Kept.drew | refine Kept.setCell ?_ (.inl (.inr rfl)) _ | refine Kept.setCell ?_ (.inr (Aside0.out (by with_reducible assumption))) _) | exact HK.out)) : p := h
theorem blk_nw {w w1 : World} {g : Nat} {o : Obj} (h : w.heap[g]? = some o) (hb : Below w.heap.size w w1 := by (repeat (with_reducible first | exact Below.refl _ _ | apply below_alloc | apply pw_below_drewN | apply below_drew1))) : w1.heap[g]? = some o := (hb.block g (blk_lt h)).trans h
theorem blk_kb {w w1 : World} {g g' : Nat} {o : Obj} (h : w.heap[g']? = some o) (hne : g' ≠ g) (hk : KeepBut w w1 g none := by (repeat (with_reducible first | exact KeepBut.refl _ _ _ | apply KeepBut.set_ | apply keep_drewN | apply keep_drew | apply keep_alloc))) : w1.heap[g']? = some o := (hk.2 g' (blk_lt h) hne (by simp)).trans h
theorem blk_fill1 {w : World} {g : Nat} {t : TypeId} {a0 b0 : Value} (h : w.heap[g]? = some (.cells #[a0] t (0, 0))) : (w.setCell ⟨g, 0, none⟩ b0).heap[g]? = some (.cells #[b0] t (0, 0)) := (blk_put (cs' := #[b0]) h 0 b0 rfl)
theorem blk_fill2 {w : World} {g : Nat} {t : TypeId} {a0 a1 b0 b1 : Value} (h : w.heap[g]? = some (.cells #[a0, a1] t (0, 0))) : ((w.setCell ⟨g, 0, none⟩ b0).setCell ⟨g, 1, none⟩ b1).heap[g]? = some (.cells #[b0, b1] t (0, 0)) := (blk_put (cs' := #[b0, b1]) (blk_put (cs' := #[b0, a1]) h 0 b0 rfl) 1 b1 rfl)
theorem blk_fill3 {w : World} {g : Nat} {t : TypeId} {a0 a1 a2 b0 b1 b2 : Value} (h : w.heap[g]? = some (.cells #[a0, a1, a2] t (0, 0))) : (((w.setCell ⟨g, 0, none⟩ b0).setCell ⟨g, 1, none⟩ b1).setCell ⟨g, 2, none⟩ b2).heap[g]? = some (.cells #[b0, b1, b2] t (0, 0)) := (blk_put (cs' := #[b0, b1, b2]) (blk_put (cs' := #[b0, b1, a2]) (blk_put (cs' := #[b0, a1, a2]) h 0 b0 rfl) 1 b1 rfl) 2 b2 rfl)
theorem blk_fill4 {w : World} {g : Nat} {t : TypeId} {a0 a1 a2 a3 b0 b1 b2 b3 : Value} (h : w.heap[g]? = some (.cells #[a0, a1, a2, a3] t (0, 0))) : ((((w.setCell ⟨g, 0, none⟩ b0).setCell ⟨g, 1, none⟩ b1).setCell ⟨g, 2, none⟩ b2).setCell ⟨g, 3, none⟩ b3).heap[g]? = some (.cells #[b0, b1, b2, b3] t (0, 0)) := (blk_put (cs' := #[b0, b1, b2, b3]) (blk_put (cs' := #[b0, b1, b2, a3]) (blk_put (cs' := #[b0, b1, a2, a3]) (blk_put (cs' := #[b0, a1, a2, a3]) h 0 b0 rfl) 1 b1 rfl) 2 b2 rfl) 3 b3 rfl)
theorem blk_fill5 {w : World} {g : Nat} {t : TypeId} {a0 a1 a2 a3 a4 b0 b1 b2 b3 b4 : Value} (h : w.heap[g]? = some (.cells #[a0, a1, a2, a3, a4] t (0, 0))) : (((((w.setCell ⟨g, 0, none⟩ b0).setCell ⟨g, 1, none⟩ b1).setCell ⟨g, 2, none⟩ b2).setCell ⟨g, 3, none⟩ b3).setCell ⟨g, 4, none⟩ b4).heap[g]? = some (.cells #[b0, b1, b2, b3, b4] t (0, 0)) := (blk_put (cs' := #[b0, b1, b2, b3, b4]) (blk_put (cs' := #[b0, b1, b2, b3, a4]) (blk_put (cs' := #[b0, b1, b2, a3, a4]) (blk_put (cs' := #[b0, b1, a2, a3, a4]) (blk_put (cs' := #[b0, a1, a2, a3, a4]) h 0 b0 rfl) 1 b1 rfl) 2 b2 rfl) 3 b3 rfl) 4 b4 rfl)
theorem blk_fill6 {w : World} {g : Nat} {t : TypeId} {a0 a1 a2 a3 a4 a5 b0 b1 b2 b3 b4 b5 : Value} (h : w.heap[g]? = some (.cells #[a0, a1, a2, a3, a4, a5] t (0, 0))) : ((((((w.setCell ⟨g, 0, none⟩ b0).setCell ⟨g, 1, none⟩ b1).setCell ⟨g, 2, none⟩ b2).setCell ⟨g, 3, none⟩ b3).setCell ⟨g, 4, none⟩ b4).setCell ⟨g, 5, none⟩ b5).heap[g]? = some (.cells #[b0, b1, b2, b3, b4, b5] t (0, 0)) := (blk_put (cs' := #[b0, b1, b2, b3, b4, b5]) (blk_put (cs' := #[b0, b1, b2, b3, b4, a5]) (blk_put (cs' := #[b0, b1, b2, b3, a4, a5]) (blk_put (cs' := #[b0, b1, b2, a3, a4, a5]) (blk_put (cs' := #[b0, b1, a2, a3, a4, a5]) (blk_put (cs' := #[b0, a1, a2, a3, a4, a5]) h 0 b0 rfl) 1 b1 rfl) 2 b2 rfl) 3 b3 rfl) 4 b4 rfl) 5 b5 rfl)
theorem blk_fill7 {w : World} {g : Nat} {t : TypeId} {a0 a1 a2 a3 a4 a5 a6 b0 b1 b2 b3 b4 b5 b6 : Value} (h : w.heap[g]? = some (.cells #[a0, a1, a2, a3, a4, a5, a6] t (0, 0))) : (((((((w.setCell ⟨g, 0, none⟩ b0).setCell ⟨g, 1, none⟩ b1).setCell ⟨g, 2, none⟩ b2).setCell ⟨g, 3, none⟩ b3).setCell ⟨g, 4, none⟩ b4).setCell ⟨g, 5, none⟩ b5).setCell ⟨g, 6, none⟩ b6).heap[g]? = some (.cells #[b0, b1, b2, b3, b4, b5, b6] t (0, 0)) := (blk_put (cs' := #[b0, b1, b2, b3, b4, b5, b6]) (blk_put (cs' := #[b0, b1, b2, b3, b4, b5, a6]) (blk_put (cs' := #[b0, b1, b2, b3, b4, a5, a6]) (blk_put (cs' := #[b0, b1, b2, b3, a4, a5, a6]) (blk_put (cs' := #[b0, b1, b2, a3, a4, a5, a6]) (blk_put (cs' := #[b0, b1, a2, a3, a4, a5, a6]) (blk_put (cs' := #[b0, a1, a2, a3, a4, a5, a6]) h 0 b0 rfl) 1 b1 rfl) 2 b2 rfl) 3 b3 rfl) 4 b4 rfl) 5 b5 rfl) 6 b6 rfl)
theorem blk_fill8 {w : World} {g : Nat} {t : TypeId} {a0 a1 a2 a3 a4 a5 a6 a7 b0 b1 b2 b3 b4 b5 b6 b7 : Value} (h : w.heap[g]? = some (.cells #[a0, a1, a2, a3, a4, a5, a6, a7] t (0, 0))) : ((((((((w.setCell ⟨g, 0, none⟩ b0).setCell ⟨g, 1, none⟩ b1).setCell ⟨g, 2, none⟩ b2).setCell ⟨g, 3, none⟩ b3).setCell ⟨g, 4, none⟩ b4).setCell ⟨g, 5, none⟩ b5).setCell ⟨g, 6, none⟩ b6).setCell ⟨g, 7, none⟩ b7).heap[g]? = some (.cells #[b0, b1, b2, b3, b4, b5, b6, b7] t (0, 0)) := (blk_put (cs' := #[b0, b1, b2, b3, b4, b5, b6, b7]) (blk_put (cs' := #[b0, b1, b2, b3, b4, b5, b6, a7]) (blk_put (cs' := #[b0, b1, b2, b3, b4, b5, a6, a7]) (blk_put (cs' := #[b0, b1, b2, b3, b4, a5, a6, a7]) (blk_put (cs' := #[b0, b1, b2, b3, a4, a5, a6, a7]) (blk_put (cs' := #[b0, b1, b2, a3, a4, a5, a6, a7]) (blk_put (cs' := #[b0, b1, a2, a3, a4, a5, a6, a7]) (blk_put (cs' := #[b0, a1, a2, a3, a4, a5, a6, a7]) h 0 b0 rfl) 1 b1 rfl) 2 b2 rfl) 3 b3 rfl) 4 b4 rfl) 5 b5 rfl) 6 b6 rfl) 7 b7 rfl)
theorem blk_fill9 {w : World} {g : Nat} {t : TypeId} {a0 a1 a2 a3 a4 a5 a6 a7 a8 b0 b1 b2 b3 b4 b5 b6 b7 b8 : Value} (h : w.heap[g]? = some (.cells #[a0, a1, a2, a3, a4, a5, a6, a7, a8] t (0, 0))) : (((((((((w.setCell ⟨g, 0, none⟩ b0).setCell ⟨g, 1, none⟩ b1).setCell ⟨g, 2, none⟩ b2).setCell ⟨g, 3, none⟩ b3).setCell ⟨g, 4, none⟩ b4).setCell ⟨g, 5, none⟩ b5).setCell ⟨g, 6, none⟩ b6).setCell ⟨g, 7, none⟩ b7).setCell ⟨g, 8, none⟩ b8).heap[g]? = some (.cells #[b0, b1, b2, b3, b4, b5, b6, b7, b8] t (0, 0)) := (blk_put (cs' := #[b0, b1, b2, b3, b4, b5, b6, b7, b8]) (blk_put (cs' := #[b0, b1, b2, b3, b4, b5, b6, b7, a8]) (blk_put (cs' := #[b0, b1, b2, b3, b4, b5, b6, a7, a8]) (blk_put (cs' := #[b0, b1, b2, b3, b4, b5, a6, a7, a8]) (blk_put (cs' := #[b0, b1, b2, b3, b4, a5, a6, a7, a8]) (blk_put (cs' := #[b0, b1, b2, b3, a4, a5, a6, a7, a8]) (blk_put (cs' := #[b0, b1, b2, a3, a4, a5, a6, a7, a8]) (blk_put (cs' := #[b0, b1, a2, a3, a4, a5, a6, a7, a8]) (blk_put (cs' := #[b0, a1, a2, a3, a4, a5, a6, a7, a8]) h 0 b0 rfl) 1 b1 rfl) 2 b2 rfl) 3 b3 rfl) 4 b4 rfl) 5 b5 rfl) 6 b6 rfl) 7 b7 rfl) 8 b8 rfl)
theorem blk_fill10 {w : World} {g : Nat} {t : TypeId} {a0 a1 a2 a3 a4 a5 a6 a7 a8 a9 b0 b1 b2 b3 b4 b5 b6 b7 b8 b9 : Value} (h : w.heap[g]? = some (.cells #[a0, a1, a2, a3, a4, a5, a6, a7, a8, a9] t (0, 0))) : ((((((((((w.setCell ⟨g, 0, none⟩ b0).setCell ⟨g, 1, none⟩ b1).setCell ⟨g, 2, none⟩ b2).setCell ⟨g, 3, none⟩ b3).setCell ⟨g, 4, none⟩ b4).setCell ⟨g, 5, none⟩ b5).setCell ⟨g, 6, none⟩ b6).setCell ⟨g, 7, none⟩ b7).setCell ⟨g, 8, none⟩ b8).setCell ⟨g, 9, none⟩ b9).heap[g]? = some (.cells #[b0, b1, b2, b3, b4, b5, b6, b7, b8, b9] t (0, 0)) := (blk_put (cs' := #[b0, b1, b2, b3, b4, b5, b6, b7, b8, b9]) (blk_put (cs' := #[b0, b1, b2, b3, b4, b5, b6, b7, b8, a9]) (blk_put (cs' := #[b0, b1, b2, b3, b4, b5, b6, b7, a8, a9]) (blk_put (cs' := #[b0, b1, b2, b3, b4, b5, b6, a7, a8, a9]) (blk_put (cs' := #[b0, b1, b2, b3, b4, b5, a6, a7, a8, a9]) (blk_put (cs' := #[b0, b1, b2, b3, b4, a5, a6, a7, a8, a9]) (blk_put (cs' := #[b0, b1, b2, b3, a4, a5, a6, a7, a8, a9]) (blk_put (cs' := #[b0, b1, b2, a3, a4, a5, a6, a7, a8, a9]) (blk_put (cs' := #[b0, b1, a2, a3, a4, a5, a6, a7, a8, a9]) (blk_put (cs' := #[b0, a1, a2, a3, a4, a5, a6, a7, a8, a9]) h 0 b0 rfl) 1 b1 rfl) 2 b2 rfl) 3 b3 rfl) 4 b4 rfl) 5 b5 rfl) 6 b6 rfl) 7 b7 rfl) 8 b8 rfl) 9 b9 rfl)
theorem blk_fill11 {w : World} {g : Nat} {t : TypeId} {a0 a1 a2 a3 a4 a5 a6 a7 a8 a9 a10 b0 b1 b2 b3 b4 b5 b6 b7 b8 b9 b10 : Value} (h : w.heap[g]? = some (.cells #[a0, a1, a2, a3, a4, a5, a6, a7, a8, a9, a10] t (0, 0))) : (((((((((((w.setCell ⟨g, 0, none⟩ b0).setCell ⟨g, 1, none⟩ b1).setCell ⟨g, 2, none⟩ b2).setCell ⟨g, 3, none⟩ b3).setCell ⟨g, 4, none⟩ b4).setCell ⟨g, 5, none⟩ b5).setCell ⟨g, 6, none⟩ b6).setCell ⟨g, 7, none⟩ b7).setCell ⟨g, 8, none⟩ b8).setCell ⟨g, 9, none⟩ b9).setCell ⟨g, 10, none⟩ b10).heap[g]? = some (.cells #[b0, b1, b2, b3, b4, b5, b6, b7, b8, b9, b10] t (0, 0)) := (blk_put (cs' := #[b0, b1, b2, b3, b4, b5, b6, b7, b8, b9, b10]) (blk_put (cs' := #[b0, b1, b2, b3, b4, b5, b6, b7, b8, b9, a10]) (blk_put (cs' := #[b0, b1, b2, b3, b4, b5, b6, b7, b8, a9, a10]) (blk_put (cs' := #[b0, b1, b2, b3, b4, b5, b6, b7, a8, a9, a10]) (blk_put (cs' := #[b0, b1, b2, b3, b4, b5, b6, a7, a8, a9, a10]) (blk_put (cs' := #[b0, b1, b2, b3, b4, b5, a6, a7, a8, a9, a10]) (blk_put (cs' := #[b0, b1, b2, b3, b4, a5, a6, a7, a8, a9, a10]) (blk_put (cs' := #[b0, b1, b2, b3, a4, a5, a6, a7, a8, a9, a10]) (blk_put (cs' := #[b0, b1, b2, a3, a4, a5, a6, a7, a8, a9, a10]) (blk_put (cs' := #[b0, b1, a2, a3, a4, a5, a6, a7, a8, a9, a10]) (blk_put (cs' := #[b0, a1, a2, a3, a4, a5, a6, a7, a8, a9, a10]) h 0 b0 rfl) 1 b1 rfl) 2 b2 rfl) 3 b3 rfl) 4 b4 rfl) 5 b5 rfl) 6 b6 rfl) 7 b7 rfl) 8 b8 rfl) 9 b9 rfl) 10 b10 rfl)
theorem blk_fill12 {w : World} {g : Nat} {t : TypeId} {a0 a1 a2 a3 a4 a5 a6 a7 a8 a9 a10 a11 b0 b1 b2 b3 b4 b5 b6 b7 b8 b9 b10 b11 : Value} (h : w.heap[g]? = some (.cells #[a0, a1, a2, a3, a4, a5, a6, a7, a8, a9, a10, a11] t (0, 0))) : ((((((((((((w.setCell ⟨g, 0, none⟩ b0).setCell ⟨g, 1, none⟩ b1).setCell ⟨g, 2, none⟩ b2).setCell ⟨g, 3, none⟩ b3).setCell ⟨g, 4, none⟩ b4).setCell ⟨g, 5, none⟩ b5).setCell ⟨g, 6, none⟩ b6).setCell ⟨g, 7, none⟩ b7).setCell ⟨g, 8, none⟩ b8).setCell ⟨g, 9, none⟩ b9).setCell ⟨g, 10, none⟩ b10).setCell ⟨g, 11, none⟩ b11).heap[g]? = some (.cells #[b0, b1, b2, b3, b4, b5, b6, b7, b8, b9, b10, b11] t (0, 0)) := (blk_put (cs' := #[b0, b1, b2, b3, b4, b5, b6, b7, b8, b9, b10, b11]) (blk_put (cs' := #[b0, b1, b2, b3, b4, b5, b6, b7, b8, b9, b10, a11]) (blk_put (cs' := #[b0, b1, b2, b3, b4, b5, b6, b7, b8, b9, a10, a11]) (blk_put (cs' := #[b0, b1, b2, b3, b4, b5, b6, b7, b8, a9, a10, a11]) (blk_put (cs' := #[b0, b1, b2, b3, b4, b5, b6, b7, a8, a9, a10, a11]) (blk_put (cs' := #[b0, b1, b2, b3, b4, b5, b6, a7, a8, a9, a10, a11]) (blk_put (cs' := #[b0, b1, b2, b3, b4, b5, a6, a7, a8, a9, a10, a11]) (blk_put (cs' := #[b0, b1, b2, b3, b4, a5, a6, a7, a8, a9, a10, a11]) (blk_put (cs' := #[b0, b1, b2, b3, a4, a5, a6, a7, a8, a9, a10, a11]) (blk_put (cs' := #[b0, b1, b2, a3, a4, a5, a6, a7, a8, a9, a10, a11]) (blk_put (cs' := #[b0, b1, a2, a3, a4, a5, a6, a7, a8, a9, a10, a11]) (blk_put (cs' := #[b0, a1, a2, a3, a4, a5, a6, a7, a8, a9, a10, a11]) h 0 b0 rfl) 1 b1 rfl) 2 b2 rfl) 3 b3 rfl) 4 b4 rfl) 5 b5 rfl) 6 b6 rfl) 7 b7 rfl) 8 b8 rfl) 9 b9 rfl) 10 b10 rfl) 11 b11 rfl)
end Go.Proofs.YtkeplodbjldaiaaW.PrintMore
namespace Go.Proofs.YtkeplodbjldaiaaW.PrintWords.Kd
open Go.RowKit Go.Proofs.YtkeplodbjldaiaaW.PrintWords
section
variable {α : Type} {d : Kd α} {e g t : Nat} {w w1 : World} {base : Nat} {ok : Nat → Prop} {v : Value} {xs : List α} {cells : Array Value}
theorem R_nw (h : d.R e w base ok v xs) (hb : Below w.heap.size w w1 := by (repeat (with_reducible first | exact Below.refl _ _ | apply below_alloc | apply pw_below_drewN | apply below_drew1))) : d.R e w1 base ok v xs := R_below h hb
theorem R_farN (h : d.R e w base ok v xs) (hx : w.heap[g]? = some (.cells cells t (0, 0))) (hk : KeepBut w w1 g none := by (repeat (with_reducible first | exact KeepBut.refl _ _ _ | apply KeepBut.set_ | apply keep_drewN | apply keep_drew | apply keep_alloc))) (ht : ∀ q, q ∈ e :: d.E → q ≠ t := by decide) : d.R e w1 base ok v xs := R_mono (R_keep (R_types h hx ht) hk (fun _ h => h.2)) (fun _ h => h.1)
theorem S_nw (h : S d e w base ok v xs) (hb : Below w.heap.size w w1 := by (repeat (with_reducible first | exact Below.refl _ _ | apply below_alloc | apply pw_below_drewN | apply below_drew1))) : S d e w1 base ok v xs := S_below h hb
theorem S_farN (h : S d e w base ok v xs) (hx : w.heap[g]? = some (.cells cells t (0, 0))) (hk : KeepBut w w1 g none := by (repeat (with_reducible first | exact KeepBut.refl _ _ _ | apply KeepBut.set_ | apply keep_drewN | apply keep_drew | apply keep_alloc))) (ht : ∀ q, q ∈ e :: d.E → q ≠ t := by decide) : S d e w1 base ok v xs := S_mono (S_keep (S_types h hx ht) hk (fun _ h => h.2)) (fun _ h => h.1)
theorem Q_nw (h : d.Q e w base ok v xs) (hb : Below w.heap.size w w1 := by (repeat (with_reducible first | exact Below.refl _ _ | apply below_alloc | apply pw_below_drewN | apply below_drew1))) : d.Q e w1 base ok v xs := Q_below h hb
theorem Q_farN (h : d.Q e w base ok v xs) (hx : w.heap[g]? = some (.cells cells t (0, 0))) (hk : KeepBut w w1 g none := by (repeat (with_reducible first | exact KeepBut.refl _ _ _ | apply KeepBut.set_ | apply keep_drewN | apply keep_drew | apply keep_alloc))) (ht : ∀ q, q ∈ e :: d.E → q ≠ t := by decide) : d.Q e w1 base ok v xs := Q_mono (Q_keep (Q_types h hx ht) hk (fun _ h => h.2)) (fun _ h => h.1)
theorem N_nw (h : N d e w base ok v xs) (hb : Below w.heap.size w w1 := by (repeat (with_reducible first | exact Below.refl _ _ | apply below_alloc | apply pw_below_drewN | apply below_drew1))) : N d e w1 base ok v xs := N_below h hb
theorem V_nw (h : V d e w base ok v xs) (hb : Below w.heap.size w w1 := by (repeat (with_reducible first | exact Below.refl _ _ | apply below_alloc | apply pw_below_drewN | apply below_drew1))) : V d e w1 base ok v xs := V_below h hb
end
end Go.Proofs.YtkeplodbjldaiaaW.PrintWords.Kd
namespace Go.Proofs.YtkeplodbjldaiaaW.PrintWords
open Go.RowKit
/-- A store into the row's block behind the row's own cells. -/
theorem Kd.R_beyond {α : Type} {d : Kd α} {e g m c base : Nat} {W : World} {ok : Nat → Prop} {xs : List α} (h : d.R e W base ok (.slice (some ⟨g, 0, none⟩) m c) xs) (off : Nat) (ho : m * d.sz ≤ off) (u : Value) :
    d.R e (W.setCell ⟨g, off, none⟩ u) base ok (.slice (some ⟨g, 0, none⟩) m c) xs := by
  obtain ⟨h0, inner, hown, hr⟩ := h
  have hm : m = xs.length := by
    rcases hown.2 with ⟨hv, _⟩ | ⟨_, _, _, hv, _⟩
    · cases hv
    · injection hv
  refine ⟨h0, inner, ⟨hown.1, ?_⟩, hr.imp_ fun _ _ hp => d.M_move (fun k hk => ?_) hp⟩
  · rcases hown.2 with ⟨hv, _⟩ | ⟨g', cap', cur, hv, hb, ⟨fz_, mk_, hh⟩, h1, h2, h3, h4⟩
    · cases hv
    · injection hv with ha _ hc
      injection ha with ha
      injection ha with hg
      subst hg; subst hc
      refine .inr ⟨g, c, cur.setIfInBounds off u, by rw [hm], hb, ⟨fz_, mk_.size (by simp), setCell_fz hh u⟩, h1, h2, by simpa using h3, ?_⟩
      rw [Array.toList_setIfInBounds, List.take_set_of_le (by rw [← hm]; exact ho)]
      exact h4
  · refine Below.heap_setCell W ⟨g, off, none⟩ u k fun e => hk.2 ?_
    subst e
    simp [Value.ownBlock]
theorem Kd.C_kept_foot {α : Type} {d : Kd α} {w W : World} {g n : Nat} {S : Nat → Prop} {A : Option Addr} {xs : List α} (h : ∀ W', KeepBut w W' g none → d.C W' A n xs) (hk : KeepBut w W g none) (hS : ∀ k, S k → w.heap.size ≤ k) : ∀ W', Kept W W' S → d.C W' A n xs :=
  fun W' hk' => h W' ⟨Nat.le_trans hk.1 hk'.1, fun i hi hg hr => (hk'.2 i (Nat.lt_of_lt_of_le hi hk.1) (fun hs => Nat.lt_irrefl _ (Nat.lt_of_lt_of_le hi (hS i hs)))).trans (hk.2 i hi hg hr)⟩
/-- The row's block has room for its capacity. -/
theorem Kd.R_room {α : Type} {d : Kd α} {e g m c base : Nat} {W : World} {ok : Nat → Prop} {xs : List α} (h : d.R e W base ok (.slice (some ⟨g, 0, none⟩) m c) xs) (j : Nat) (hj : j < c * d.sz) :
    (W.cell? ⟨g, j, none⟩).isSome = true ∧ W.frozen? ⟨g, j, none⟩ = false := by
  obtain ⟨_, inner, hown, _⟩ := h
  rcases hown.2 with ⟨hv, _⟩ | ⟨g', cap', cur, hv, hb, ⟨fz_, mk_, hh⟩, h1, h2, h3, h4⟩
  · cases hv
  · injection hv with ha _ hc
    injection ha with ha
    injection ha with hg
    subst hg; subst hc
    refine ⟨?_, mk_.frozen hh (by omega)⟩
    rw [cell_of_row W g _ cur e _ hh, Array.getElem?_eq_getElem (by omega)]
    rfl
theorem run_clear_one2 {P : Program} (w : World) (t e ty : TypeId) (z a0 a1 : Value) (ht : P.underlying t = some (.slice e)) (hv : ∀ w, (zeroValue e).run P w = .ok z w) (hz : z.cells = #[a0, a1]) (h0 : a0.oneCell' = true) (h1 : a1.oneCell' = true) (b o c : Nat)
    (hc0 : (w.cell? ⟨b, o, none⟩).isSome = true) (hc1 : (w.cell? ⟨b, o + 1, none⟩).isSome = true) (hf0 : w.frozen? ⟨b, o, none⟩ = false) (hf1 : w.frozen? ⟨b, o + 1, none⟩ = false) :
    (Builtin.clear_ #[t] ty #[.slice (some ⟨b, o, none⟩) 1 c]).run P w = .ok (.tuple #[]) ((w.setCell ⟨b, o, none⟩ a0).setCell ⟨b, o + 1, none⟩ a1) := by
  have hzc : (Builtin.zeroCells z.cells 1).toList = [a0, a1] := by
    rw [hz]; simp [Builtin.zeroCells, Array.range]
  have hst := run_storeCells_cells (P := P) b o [a0, a1] 0 w (fun j hj => by
    match j, hj with
    | 0, _ => simpa using hc0
    | 1, _ => simpa using hc1) (fun j hj => by
    match j, hj with
    | 0, _ => simpa using hf0
    | 1, _ => simpa using hf1) (fun v hv' => by
    rcases List.mem_cons.1 hv' with rfl | hv'
    · exact h0
    · rw [List.mem_singleton.1 hv']; exact h1)
  simp only [Nat.add_zero] at hst
  simp [Builtin.clear_, run_underlying ht, hv, hzc, hst, World.setCells]
end Go.Proofs.YtkeplodbjldaiaaW.PrintWords
