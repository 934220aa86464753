/- Aliases that outlive a taking. Lemmas alone, no statement. -/
import Derived.Test.YtecleaangfcloaaVmOps2
namespace Go.Vm
set_option linter.unusedVariables false
set_option linter.unusedSimpArgs false
open Go.RowKit

section
variable {P : Program} {C : Nat → Option Sig} {Fn : Fns} {sh0 : Nat → Prop} {w0 : World} {G0 : Frm} {ρ : List Dy} {σ : Sg} {a : Act} {w w' : World}
  {sh sh' : Nat → Prop} {F F' : Bool → Nat → List Nat} {β : Nat → Nat} {o : Oper} {st : Step} {l : List (Bool × Nat)} {d : Nat} {Q : Exit → Act → World → Prop}

/-- Slots that were forgotten are named again. -/
theorem InvG.revive (h : InvG sh0 w0 G0 ρ σ a w sh F β) {l : List SV} (hlen : l.length = σ.slots.length)
    (hs : ∀ (i : Nat) (s : SV), l[i]? = some s → σ.slots[i]? = some s ∨ (σ.slots[i]? = some .undef ∧ ∃ v, a.tmps[i]? = some v ∧ SVRep sh w ρ β a.tmps F s v []))
    (hr : ∀ (i : Nat) (s : SV), l[i]? = some s → rootOk { σ with slots := l } s) : InvG sh0 w0 G0 ρ { σ with slots := l } a w sh F β :=
  { h with
    size := by rw [h.size, ← hlen]
    slot := fun i s hi => by
      rcases hs i s hi with h1 | ⟨h1, v, h2, h3⟩
      · exact h.slot i s h1
      · obtain ⟨u, hu, hF⟩ := h.slot i _ h1
        have hF : F false i = [] := hF
        exact ⟨v, h2, by rw [hF]; exact h3⟩
    noslot := fun i hi => h.noslot i (by
      have hi : l[i]? = none := hi
      rw [List.getElem?_eq_none_iff] at hi ⊢
      omega)
    refs := hr }

theorem refers0 {r : Nat} {s : SV} : refers (0, r) s = true ↔ roots s = some (false, r) := by simp [refers]
theorem refers2 {r : Nat} {s : SV} : refers (2, r) s = true ↔ roots s = some (true, r) := by simp [refers]
theorem refers5 {r : Nat} {s : SV} (h : refers (5, r) s = true) : roots s = some (false, r) := by
  cases s <;> simp [refers, SV.isEl, roots] at h ⊢
  exact ⟨h.1, h.2.symm⟩
theorem refers6 {r : Nat} {s : SV} (h : refers (6, r) s = true) : roots s = some (true, r) := by
  cases s <;> simp [refers, SV.isEl, roots] at h ⊢
  exact ⟨h.1, h.2.symm⟩

theorem kill_slot {k : Nat × Nat} {i : Nat} {s : SV} (h : (σ.kill k).slots[i]? = some s) : ∃ t, σ.slots[i]? = some t ∧ s = if refers k t then .undef else t := by
  simp only [Sg.kill, mapR_eq, List.getElem?_map, Option.map_eq_some_iff] at h
  obtain ⟨t, ht, hs⟩ := h
  exact ⟨t, ht, hs.symm⟩

theorem slot_kill {k : Nat × Nat} {i : Nat} {t : SV} (h : σ.slots[i]? = some t) : (σ.kill k).slots[i]? = some (if refers k t then .undef else t) := by
  simp only [Sg.kill, mapR_eq, List.getElem?_map, h, Option.map_some]


theorem refersC {off n r : Nat} {s : SV} (h : refers (codeC off n, r) s = true) : roots s = some (true, r) := by
  have h16 : codeC off n = codeC off n - 16 + 16 := by unfold codeC; omega
  unfold refers at h
  rw [h16] at h
  simp only [Bool.and_eq_true, beq_iff_eq] at h
  exact h.1

theorem refers_ag {off n r o2 n2 : Nat} : refers (codeC off n, r) (.ag r o2 n2) = true := by
  have h16 : codeC off n = codeC off n - 16 + 16 := by unfold codeC; omega
  unfold refers
  rw [h16]
  simp [roots, SV.apart]

theorem mid_out {α : Type} {b ys : List α} {off n c : Nat} (hl : off + n ≤ b.length) (hy : ys.length = n) (hc : c < off ∨ off + n ≤ c) : (b.take off ++ ys ++ b.drop (off + n))[c]? = b[c]? := by
  have h1 : (b.take off).length = off := by rw [List.length_take]; omega
  rcases hc with hc | hc
  · rw [List.append_assoc, List.getElem?_append_left (by omega), List.getElem?_take_of_lt hc]
  · rw [List.getElem?_append_right (by rw [List.length_append]; omega), List.length_append, h1, hy, List.getElem?_drop]
    congr 1
    omega

/-- Cells were taken out of a box: the aliases of its other cells live on. -/
theorem InvG.fine (h : InvG sh0 w0 G0 ρ σ a w sh F β) {r off n : Nat} {b b' : List Cell} (hn : n < 4096) (hb : σ.boxes[r]? = some (some b)) (hs : ∀ c, (c < off ∨ off + n ≤ c) → b'[c]? = b[c]?)
    (hF : β r ∈ F' true r) (hI : InvG sh0 w0 G0 ρ ((σ.kill (2, r)).putB (r, some b')) a w sh' F' β) : InvG sh0 w0 G0 ρ ((σ.kill (codeC off n, r)).putB (r, some b')) a w sh' F' β := by
  have hlt : r < σ.boxes.length := (List.getElem?_eq_some_iff.1 hb).1
  have hK := h.kill (codeC off n, r)
  have hout : ∀ t : SV, refers (2, r) t = true → refers (codeC off n, r) t = false → (∃ c ln, t = .rf true r c ln ∧ (c < off ∨ off + n ≤ c)) ∨ ∃ c m i f, t = .pel true r c m i f ∧ (c < off ∨ off + n ≤ c) := by
    intro t h2 hk
    have hro := refers2.1 h2
    have h16 : codeC off n = codeC off n - 16 + 16 := by unfold codeC; omega
    unfold refers at hk
    rw [h16] at hk
    simp only [hro, beq_self_eq_true, Bool.true_and, Bool.not_eq_false'] at hk
    have e1 : (codeC off n - 16) / 4096 = off := by unfold codeC; omega
    have e2 : (codeC off n - 16) % 4096 = n := by unfold codeC; omega
    rw [e1, e2] at hk
    cases t with
    | rf q r' c ln =>
      simp only [roots, Option.some.injEq, Prod.mk.injEq] at hro
      obtain ⟨rfl, rfl⟩ := hro
      simp only [SV.apart, Bool.or_eq_true, decide_eq_true_eq] at hk
      exact .inl ⟨c, ln, rfl, hk⟩
    | pel q r' c m i f =>
      simp only [roots, Option.some.injEq, Prod.mk.injEq] at hro
      obtain ⟨rfl, rfl⟩ := hro
      simp only [SV.apart, Bool.or_eq_true, decide_eq_true_eq] at hk
      exact .inr ⟨c, m, i, f, rfl, hk⟩
    | _ => simp [SV.apart] at hk
  have hrev := hI.revive (l := (σ.kill (codeC off n, r)).slots) (by simp [Sg.putB, Sg.kill, mapR_eq]) (fun i s hi => ?_) (fun i s hi => ?_)
  · exact hrev
  · obtain ⟨t, ht, rfl⟩ := kill_slot hi
    show (σ.kill (2, r)).slots[i]? = some _ ∨ ((σ.kill (2, r)).slots[i]? = some .undef ∧ _)
    rw [slot_kill ht]
    cases h2 : refers (2, r) t with
    | false =>
      left
      cases hk : refers (codeC off n, r) t with
      | false => rfl
      | true => rw [refers2.2 (refersC hk)] at h2; cases h2
    | true =>
      cases hk : refers (codeC off n, r) t with
      | true => exact .inl rfl
      | false =>
        right
        refine ⟨rfl, ?_⟩
        obtain ⟨v, hv, hr⟩ := h.slot i t ht
        refine ⟨v, hv, ?_⟩
        rcases hout t h2 hk with ⟨c, ln, rfl, _⟩ | ⟨c, m, j, f, rfl, _⟩
        · exact ⟨rfl, ⟨hF, hr.2.1.2⟩, hr.2.2⟩
        · obtain ⟨_, g, len, cap, k, q, e1, e2⟩ := hr
          exact ⟨rfl, g, len, cap, k, q, ⟨hF, e1.2⟩, e2⟩
  · have hok := hK.refs i s hi
    by_cases hro : roots s = some (true, r)
    · obtain ⟨t, ht, hst⟩ := kill_slot hi
      have hkt : refers (codeC off n, r) t = false := by
        cases hk : refers (codeC off n, r) t with
        | false => rfl
        | true => rw [hk] at hst; simp at hst; rw [hst] at hro; simp [roots] at hro
      rw [hkt] at hst
      simp only [Bool.false_eq_true, if_false] at hst
      subst hst
      have hbx : (setR σ.boxes r (some b'))[r]? = some (some b') := by rw [setR_eq, List.getElem?_set_self hlt]
      rcases hout s (refers2.2 hro) hkt with ⟨c, ln, rfl, hc⟩ | ⟨c, m, j, f, rfl, hc⟩
      · obtain ⟨cs, p1, p2⟩ := hok
        have p1 : σ.boxes[r]? = some (some cs) := p1
        rw [hb] at p1
        simp only [Option.some.injEq] at p1
        subst p1
        exact ⟨b', hbx, by rw [hs c hc]; exact p2⟩
      · obtain ⟨cs, p1, p2⟩ := hok
        have p1 : σ.boxes[r]? = some (some cs) := p1
        rw [hb] at p1
        simp only [Option.some.injEq] at p1
        subst p1
        exact ⟨b', hbx, by rw [hs c hc]; exact p2⟩
    · exact hok.setB hro
end
end Go.Vm
