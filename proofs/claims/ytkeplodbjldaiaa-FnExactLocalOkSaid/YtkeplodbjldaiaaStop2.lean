/- A cell that is written twice and read: whether a cell is there does not hang on what is written. -/
import Derived.Test.YtkeplodbjldaiaaStop
namespace Go.Proofs.YtkeplodbjldaiaaW.PrintMore
@[go_sem] theorem isSome_setCell (w : World) (p a : Addr) (v : Value) : ((w.setCell p v).cell? a).isSome = (w.cell? a).isSome := by
  by_cases e : p = a
  · subst e
    cases h : w.cell? p with
    | some u => rw [World.cell?_setCell_same (h := h)]; rfl
    | none =>
      have : (w.setCell p v).cell? p = none := by
        simp only [World.setCell, World.cell?, Array.getElem?_modify, if_true] at h ⊢
        cases hh : w.heap[p.block]? with
        | none => simp
        | some x =>
          rw [hh] at h
          cases x with
          | cells c t f =>
            simp only [Option.map_some] at h ⊢
            cases hs : p.spot.isSome with
            | true => simp
            | false =>
              simp only [hs, Bool.false_eq_true, if_false] at h ⊢
              rw [Array.getElem?_eq_none_iff] at h
              rw [Array.getElem?_eq_none_iff]
              simpa using h
          | _ => simp
      rw [this]
  · rw [World.cell?_setCell_other (h := e)]
end Go.Proofs.YtkeplodbjldaiaaW.PrintMore
