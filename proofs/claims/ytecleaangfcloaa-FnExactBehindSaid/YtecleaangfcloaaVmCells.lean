/- Cells of structs, by name and in memory. Lemmas alone, no statement. -/
import Derived.Test.YtecleaangfcloaaVmInv
namespace Go.Vm
set_option linter.unusedVariables false
set_option linter.unusedSimpArgs false
open Go.RowKit

theorem Md.cell_sh : ∀ c, Md.cell .sh c = .sh
  | 0 => rfl
  | c + 1 => Md.cell_sh c

theorem n_of_atom : ∀ {τ : Ty}, τ.isAgg = false → τ.n = 1
  | .int _, _ => rfl
  | .bool, _ => rfl
  | .str, _ => rfl
  | .sl _, _ => rfl
  | .unit, h => by simp [Ty.isAgg] at h
  | .pair _ _, h => by simp [Ty.isAgg] at h

theorem md_l : ∀ {m : Md} {τ : Ty} {sh : Nat → Prop} {w : World} {x : D τ} {vs F}, τ.isAgg = false → Rep sh w τ m x vs F → (∀ a b, m ≠ .pair a b) ∨ True := fun _ _ => .inr trivial

def AtomRep (sh : Nat → Prop) (w : World) (d : Dy) (m : Md) (v : Value) (F : List Nat) : Prop := d.1.isAgg = false ∧ Rep sh w d.1 m d.2 [v] F

section
variable {sh : Nat → Prop} {w : World}

theorem Rep.single {τ : Ty} {m : Md} {x : D τ} {vs F} (ha : τ.isAgg = false) (h : Rep sh w τ m x vs F) : ∃ v, vs = [v] := by
  have := h.len
  rw [n_of_atom ha] at this
  match vs, this with
  | [v], _ => exact ⟨v, rfl⟩

theorem cellAt_rep : ∀ {τ : Ty} {m : Md} {x : D τ} {vs F} {c : Nat} {d : Dy}, Rep sh w τ m x vs F → cellAt τ x c = some d →
    ∃ v G, vs[c]? = some v ∧ (∀ b ∈ G, b ∈ F) ∧ AtomRep sh w d (m.cell c) v G
  | .pair a b, m, x, vs, F, c, d, h, hc => by
    obtain ⟨v1, v2, F1, F2, rfl, rfl, h1, h2⟩ := h
    unfold cellAt at hc
    cases ha : a.isAgg with
    | true => rw [if_pos ha] at hc; cases hc
    | false =>
      rw [if_neg (by simp [ha])] at hc
      obtain ⟨v, rfl⟩ := h1.single ha
      cases c with
      | zero =>
        simp only [Option.some.injEq] at hc
        subst hc
        exact ⟨v, F1, rfl, fun b hb => List.mem_append_left _ hb, ha, h1⟩
      | succ c =>
        obtain ⟨u, G, hu, hG, hr⟩ := cellAt_rep h2 hc
        exact ⟨u, G, by simpa using hu, fun b hb => List.mem_append_right _ (hG b hb), hr⟩
  | .int _, _, _, _, _, _, _, _, hc => by simp [cellAt] at hc
  | .bool, _, _, _, _, _, _, _, hc => by simp [cellAt] at hc
  | .str, _, _, _, _, _, _, _, hc => by simp [cellAt] at hc
  | .unit, _, _, _, _, _, _, _, hc => by simp [cellAt] at hc
  | .sl _, _, _, _, _, _, _, _, hc => by simp [cellAt] at hc

/-- A cell of what nobody writes. -/
theorem cell_rep {d : Dy} {vs : List Value} {c : Nat} {d' : Dy} (h : Rep sh w d.1 .sh d.2 vs []) (hc : d.cell c = some d') :
    ∃ v, vs[c]? = some v ∧ AtomRep sh w d' .sh v [] := by
  unfold Dy.cell at hc
  cases ha : d.1.isAgg with
  | true =>
    rw [if_pos ha] at hc
    obtain ⟨v, G, hv, hG, hr⟩ := cellAt_rep h hc
    rw [Md.cell_sh] at hr
    have : G = [] := List.eq_nil_iff_forall_not_mem.2 (fun b hb => absurd (hG b hb) (by simp))
    subst this
    exact ⟨v, hv, hr⟩
  | false =>
    rw [if_neg (by simp [ha])] at hc
    obtain ⟨v, rfl⟩ := h.single ha
    split at hc
    · rename_i h0
      subst h0
      simp only [Option.some.injEq] at hc
      subst hc
      exact ⟨v, rfl, ha, h⟩
    · cases hc

def shAtoms (sh : Nat → Prop) (w : World) : List Dy → List Value → Prop
  | [], vs => vs = []
  | d :: ds, vs => ∃ v us, vs = v :: us ∧ AtomRep sh w d .sh v [] ∧ shAtoms sh w ds us

theorem cellsAt_rep {d : Dy} {vs : List Value} (h : Rep sh w d.1 .sh d.2 vs []) : ∀ {n off : Nat} {ds : List Dy}, cellsAt d off n = some ds →
    shAtoms sh w ds ((vs.drop off).take n)
  | 0, off, ds, hc => by
    simp only [cellsAt, Option.some.injEq] at hc
    subst hc
    simp [shAtoms]
  | n + 1, off, ds, hc => by
    unfold cellsAt at hc
    cases h1 : d.cell off with
    | none => rw [h1] at hc; cases hc
    | some x =>
      cases h2 : cellsAt d (off + 1) n with
      | none => rw [h1, h2] at hc; cases hc
      | some r =>
        rw [h1, h2] at hc
        simp only [Option.some.injEq] at hc
        subst hc
        obtain ⟨v, hv, hr⟩ := cell_rep h h1
        have ih := cellsAt_rep h h2
        have hd : vs.drop off = v :: vs.drop (off + 1) := by
          obtain ⟨hlt, hv'⟩ := List.getElem?_eq_some_iff.1 hv
          rw [← hv', List.drop_eq_getElem_cons hlt]
        rw [hd, List.take_succ_cons]
        exact ⟨v, _, rfl, hr, ih⟩

theorem ofCells_rep : ∀ {ds : List Dy} {vs : List Value} {r : Dy}, shAtoms sh w ds vs → Dy.ofCells ds = some r →
    Rep sh w r.1 .sh r.2 vs [] ∧ r.1.isAgg = true ∧ r.1.n = ds.length ∧ ∀ c, r.cell c = ds[c]?
  | [], vs, r, h, hc => by
    simp only [Dy.ofCells, Option.some.injEq] at hc
    subst hc
    have h : vs = [] := h
    subst h
    exact ⟨⟨rfl, rfl⟩, rfl, rfl, fun c => by simp [Dy.cell, Ty.isAgg, cellAt]⟩
  | d :: ds, vs, r, h, hc => by
    obtain ⟨v, vs, rfl, h1, h2⟩ := h
    · unfold Dy.ofCells at hc
      rw [if_neg (by simp [h1.1])] at hc
      cases h3 : Dy.ofCells ds with
      | none => rw [h3] at hc; cases hc
      | some q =>
        rw [h3] at hc
        simp only [Option.some.injEq] at hc
        subst hc
        obtain ⟨i1, i2, i3, i4⟩ := ofCells_rep (ds := ds) h2 h3
        refine ⟨⟨[v], vs, [], [], rfl, rfl, h1.2, i1⟩, rfl, ?_, fun c => ?_⟩
        · simp [Ty.n, i3, n_of_atom h1.1, Nat.add_comm]
        · cases c with
          | zero =>
            show (if d.1.isAgg then none else some (⟨d.1, d.2⟩ : Dy)) = some d
            rw [if_neg (by simp [h1.1])]
          | succ c =>
            have := i4 c
            simp only [Dy.cell, i2, if_true] at this
            show (if d.1.isAgg then none else cellAt q.1 q.2 c) = ds[c]?
            rw [if_neg (by simp [h1.1])]
            exact this

theorem shAtoms.length : ∀ {ds : List Dy} {vs : List Value}, shAtoms sh w ds vs → ds.length = vs.length
  | [], vs, h => by
    have h : vs = [] := h
    simp [h]
  | d :: ds, vs, h => by
    obtain ⟨v, us, rfl, h1, h2⟩ := h
    simp [shAtoms.length h2]

theorem cells_of_valOf {b : Bool} {vs : List Value} (h : b = false → vs.length = 1 ∧ ∀ v ∈ vs, v.cells = #[v]) : (valOf b vs).cells.toList = vs := by
  cases b with
  | true => simp [valOf, Value.cells]
  | false =>
    obtain ⟨h1, h2⟩ := h rfl
    match vs, h1 with
    | [v], _ =>
      simp only [valOf, Bool.false_eq_true, if_false, List.headD_cons]
      rw [h2 v (by simp)]

theorem atom_cells : ∀ {τ : Ty} {m : Md} {x : D τ} {v : Value} {F}, τ.isAgg = false → Rep sh w τ m x [v] F → v.cells = #[v]
  | .int _, _, _, _, _, _, h => by
    have := h.1
    simp only [List.cons.injEq, and_true] at this
    subst this; rfl
  | .bool, _, _, _, _, _, h => by
    have := h.1
    simp only [List.cons.injEq, and_true] at this
    subst this; rfl
  | .str, _, _, _, _, _, h => by
    have := h.1
    simp only [List.cons.injEq, and_true] at this
    subst this; rfl
  | .sl _, .sh, _, _, _, _, h => by
    obtain ⟨a, cap, hv, _⟩ := h
    simp only [List.cons.injEq, and_true] at hv
    subst hv; rfl
  | .sl _, .own _, _, _, _, _, h => by
    obtain ⟨a, cap, hv, _⟩ := h
    simp only [List.cons.injEq, and_true] at hv
    subst hv; rfl
  | .sl _, .pair _ _, _, _, _, _, h => h.elim
  | .unit, _, _, _, _, ha, _ => by simp [Ty.isAgg] at ha
  | .pair _ _, _, _, _, _, ha, _ => by simp [Ty.isAgg] at ha

theorem valRep_cells {d : Dy} {m : Md} {v : Value} {F : List Nat} (h : ValRep sh w d m v F) : Rep sh w d.1 m d.2 v.cells.toList F := by
  obtain ⟨vs, rfl, hr⟩ := h
  rw [cells_of_valOf (fun hb => ?_)]
  · exact hr
  · obtain ⟨v, rfl⟩ := hr.single hb
    exact ⟨rfl, fun u hu => by simp at hu; subst hu; exact atom_cells hb hr⟩

theorem valRep_atom {d : Dy} {m : Md} {v : Value} {F : List Nat} (h : AtomRep sh w d m v F) : ValRep sh w d m v F := ⟨[v], by simp [valOf, h.1], h.2⟩

/-- No cell is itself a struct. -/
theorem Rep.plain : ∀ {τ : Ty} {m : Md} {x : D τ} {vs F}, Rep sh w τ m x vs F → ∀ v ∈ vs, v.cells = #[v]
  | .pair a b, m, x, vs, F, h => by
    obtain ⟨v1, v2, F1, F2, rfl, rfl, h1, h2⟩ := h
    intro v hv
    rcases List.mem_append.1 hv with hv | hv
    · exact Rep.plain h1 v hv
    · exact Rep.plain h2 v hv
  | .unit, _, _, _, _, h => by simp [h.1]
  | .int k, m, x, vs, F, h => fun v hv => by
    obtain ⟨u, rfl⟩ := Rep.single (τ := .int k) rfl h
    simp at hv; subst hv; exact atom_cells (τ := .int k) rfl h
  | .bool, m, x, vs, F, h => fun v hv => by
    obtain ⟨u, rfl⟩ := Rep.single (τ := .bool) rfl h
    simp at hv; subst hv; exact atom_cells (τ := .bool) rfl h
  | .str, m, x, vs, F, h => fun v hv => by
    obtain ⟨u, rfl⟩ := Rep.single (τ := .str) rfl h
    simp at hv; subst hv; exact atom_cells (τ := .str) rfl h
  | .sl e, m, x, vs, F, h => fun v hv => by
    obtain ⟨u, rfl⟩ := Rep.single (τ := .sl e) rfl h
    simp at hv; subst hv; exact atom_cells (τ := .sl e) rfl h
end
end Go.Vm
