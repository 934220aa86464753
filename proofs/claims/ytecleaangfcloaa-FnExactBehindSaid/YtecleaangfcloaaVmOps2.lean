/- Each operation does what its name says: variables in memory. Lemmas alone, no statement. -/
import Derived.Test.YtecleaangfcloaaVmOps
namespace Go.Vm
set_option linter.unusedVariables false
set_option linter.unusedSimpArgs false
open Go.RowKit

section
variable {P : Program} {C : Nat → Option Sig} {Fn : Fns} {sh0 : Nat → Prop} {w0 : World} {G0 : Frm} {ρ : List Dy} {σ : Sg} {a : Act} {w w' : World}
  {sh : Nat → Prop} {F : Bool → Nat → List Nat} {β : Nat → Nat} {o : Oper} {st : Step} {l : List (Bool × Nat)} {d : Nat} {Q : Exit → Act → World → Prop}

theorem roots_none_of {k : Nat × Nat} {s : SV} (h : refers k s = true) : (roots s ≠ none) ∨ (∃ r f, s = .ptr r f) ∨ ∃ g cs, s = .fn g cs := by
  cases s with
  | ptr r f => exact .inr (.inl ⟨r, f, rfl⟩)
  | fn g cs => exact .inr (.inr ⟨g, cs, rfl⟩)
  | rf _ _ _ _ => exact .inl (by simp [roots])
  | pel _ _ _ _ _ _ => exact .inl (by simp [roots])
  | ea _ _ _ _ _ _ _ _ => exact .inl (by simp [roots])
  | ag _ _ _ => exact .inl (by simp [roots])
  | tp _ _ => exact .inl (by simp [roots])
  | _ =>
    obtain ⟨a, b⟩ := k
    unfold refers at h
    split at h <;> simp [roots, SV.hasPtr, SV.isEl, SV.isTp] at h

theorem refers_none {k : Nat × Nat} {s : SV} (h1 : roots s = none) (h2 : ∀ r f, s ≠ .ptr r f) (h3 : ∀ g cs, s ≠ .fn g cs) : refers k s = false := by
  cases hr : refers k s with
  | false => rfl
  | true =>
    rcases roots_none_of hr with h | ⟨r, f, h⟩ | ⟨g, cs, h⟩
    · exact absurd h1 h
    · exact absurd h (h2 _ _)
    · exact absurd h (h3 _ _)

theorem kill_at {k : Nat × Nat} {x : A} {m : Md} : refers k (.at x m) = false := refers_none rfl (by simp) (by simp)

theorem kill_undef {k : Nat × Nat} : refers k .undef = false := refers_none rfl (by simp) (by simp)

theorem kill_get {σ : Sg} {k : Nat × Nat} {i : Nat} {x : A} {m : Md} (h : σ.slots[i]? = some (.at x m)) : (σ.kill k).slots[i]? = some (.at x m) := by
  simp only [Sg.kill, mapR_eq, List.getElem?_map, h, Option.map_some]
  rw [if_neg (by simp [kill_at])]

theorem rootOk.kill {σ : Sg} {k : Nat × Nat} {s : SV} (h : rootOk σ s) : rootOk (σ.kill k) s := by
  have hsl : ∀ r : Nat, ownSlice σ.slots[r]? → ownSlice (σ.kill k).slots[r]? := by
    intro r hr
    cases hs : σ.slots[r]? with
    | none => rw [hs] at hr; exact hr.elim
    | some t =>
      rw [hs] at hr
      cases t with
      | «at» x m => rw [kill_get hs]; exact hr
      | _ => exact hr.elim
  cases s with
  | rf b r c ln => cases b; exact hsl r h; exact h
  | pel b r c m i f => cases b; exact hsl r h; exact h
  | ea x b r c m i f nn => cases b; exact hsl r h; exact h
  | ag r f n => exact h
  | tp r c =>
    obtain ⟨xs, y, m, h1, h2⟩ := h
    refine ⟨xs, y, m, ?_, h2⟩
    simp only [Sg.kill, mapR_eq, List.getElem?_map, h1, Option.map_some]
    rw [if_neg (by rw [refers_none rfl (by simp) (by simp)]; simp)]
  | _ => trivial

/-- A killed address is no more. -/
theorem InvG.kill (h : InvG sh0 w0 G0 ρ σ a w sh F β) (k : Nat × Nat) : InvG sh0 w0 G0 ρ (σ.kill k) a w sh F β :=
  { h with
    size := by simp [Sg.kill, mapR_eq, h.size]
    slot := fun i s hi => by
      simp only [Sg.kill, mapR_eq, List.getElem?_map, Option.map_eq_some_iff] at hi
      obtain ⟨t, ht, rfl⟩ := hi
      obtain ⟨v, hv, hr⟩ := h.slot i t ht
      refine ⟨v, hv, ?_⟩
      split
      · rename_i hk
        cases t with
        | ptr r f => exact hr.1
        | rf b r c ln => exact hr.1
        | pel b r c m i f => exact hr.1
        | ea x b r c m i f nn => exact hr.1
        | ag r f n => exact hr.1
        | tp r c => exact hr.1
        | fn g cs => exact hr.1
        | anyb _ _ => exact hr.1
        | _ =>
          rcases roots_none_of hk with h | ⟨r, f, h⟩ | ⟨g, cs, h⟩
          · exact absurd rfl h
          · cases h
          · cases h
      · exact hr
    noslot := fun i hi => h.noslot i (by simpa [Sg.kill, mapR_eq] using hi)
    refs := fun i s hi => by
      simp only [Sg.kill, mapR_eq, List.getElem?_map, Option.map_eq_some_iff] at hi
      obtain ⟨t, ht, rfl⟩ := hi
      split
      · trivial
      · exact (h.refs i t ht).kill }

theorem kill_clean (σ : Sg) (k : Nat × Nat) : ∀ (i : Nat) (s : SV), (σ.kill k).slots[i]? = some s → refers k s = false := by
  intro i s hi
  simp only [Sg.kill, mapR_eq, List.getElem?_map, Option.map_eq_some_iff] at hi
  obtain ⟨t, ht, rfl⟩ := hi
  split
  · exact kill_undef
  · rename_i h; simpa using h

theorem DstOk.kill {k : Nat × Nat} (h : DstOk σ d) : DstOk (σ.kill k) d := by
  refine ⟨⟨by have := h.lt; simpa [Sg.kill, mapR_eq] using this, fun x hx => ?_⟩, h.kept⟩
  simp only [Sg.kill, mapR_eq, List.getElem?_map, Option.map_eq_some_iff] at hx
  obtain ⟨t, ht, hx⟩ := hx
  split at hx
  · subst hx; rfl
  · subst hx; exact h.free t ht

theorem CapsRep.otherB {β' : Nat → Nat} {r : Nat} (hβ : ∀ i, i ≠ r → β' i = β i) : ∀ {cs : List Cp} {us : List Value}, ((cs.any fun c => match c with | .ptr q => q == r | _ => false) = true → β' r = β r) → CapsRep sh w ρ β cs us → CapsRep sh w ρ β' cs us
  | [], _, _, h => h
  | c :: cs, us, hp, h => by
    obtain ⟨u, us', rfl, h1, h2⟩ := h
    refine ⟨u, us', rfl, ?_, CapsRep.otherB hβ (fun hh => hp (by simp [hh])) h2⟩
    cases c with
    | ptr q =>
      by_cases hq : q = r
      · subst hq
        have := hp (by simp)
        show u = _
        rw [this]; exact h1
      · show u = _
        rw [hβ q hq]; exact h1
    | psh x => exact h1

/-- Another box is written, or forgotten. -/
theorem SVRep.otherB {s : SV} {v : Value} {X Y : List Nat} {r : Nat} {β' : Nat → Nat} {tm : Array Value} (h : SVRep sh w ρ β tm F s v X) (hs : roots s ≠ some (true, r)) (hp : s.hasPtr r = true → β' r = β r) (hβ : ∀ i, i ≠ r → β' i = β i) :
    SVRep sh w ρ β' tm (setF F true r Y) s v X := by
  have hh : ∀ {b : Bool} {q c : Nat} {x : Value}, (b, q) ≠ (true, r) → HdrIs w β tm F b q c x → HdrIs w β' tm (setF F true r Y) b q c x := by
    intro b q c x hne hx
    cases b with
    | false => exact hx
    | true =>
      have hqr : q ≠ r := fun e => hne (by rw [e])
      refine ⟨?_, ?_⟩
      · rw [setF_ne _ _ _ _ (by simp [hqr]), hβ q hqr]; exact hx.1
      · rw [hβ q hqr]; exact hx.2
  cases s with
  | rf b q c ln => exact ⟨h.1, hh (fun e => hs (by rw [show roots (.rf b q c ln) = some (b, q) from rfl, e])) h.2.1, h.2.2⟩
  | pel b q c m i off =>
    obtain ⟨h0, g, len, cap, k, n, h1, h2⟩ := h
    exact ⟨h0, g, len, cap, k, n, hh (fun e => hs (by rw [show roots (.pel b q c m i off) = some (b, q) from rfl, e])) h1, h2⟩
  | ea x b q c m i off nn =>
    obtain ⟨h0, ⟨d', sh2, h1, h2, h3⟩, g, len, cap, k, n, cc, ty, fz, e1, e2, e3, e4, e5, e6⟩ := h
    have hne : ¬(b = true ∧ q = r) := fun e => hs (by rw [show roots (.ea x b q c m i off nn) = some (b, q) from rfl, e.1, e.2])
    refine ⟨h0, ⟨d', sh2, h1, h2, fun k hk => ?_⟩, g, len, cap, k, n, cc, ty, fz, hh (fun e => hs (by rw [show roots (.ea x b q c m i off nn) = some (b, q) from rfl, e])) e1, e2, e3, e4, ?_, e6⟩
    · rw [setF_ne _ _ _ _ hne]; exact h3 k hk
    · rw [setF_ne _ _ _ _ hne]; exact e5
  | ptr q f =>
    refine ⟨h.1, ?_⟩
    rw [h.2]
    by_cases hq : q = r
    · subst hq; rw [hp (by simp [SV.hasPtr])]
    · rw [hβ q hq]
  | fn g cs =>
    obtain ⟨h0, us, h1, h2⟩ := h
    exact ⟨h0, us, h1, CapsRep.otherB hβ (fun hh => hp hh) h2⟩
  | anyb _ _ => exact h
  | tp _ _ => exact h
  | ag q off n =>
    have hqr : q ≠ r := fun e => hs (by rw [e]; rfl)
    obtain ⟨h0, h1, c, ty, fz, h2, h3⟩ := h
    exact ⟨h0, by rw [setF_ne _ _ _ _ (by simp [hqr]), hβ q hqr]; exact h1, c, ty, fz, by rw [hβ q hqr]; exact h2, h3⟩
  | undef => exact h
  | void => exact h
  | «at» _ _ => exact h
  | psh _ _ => exact h
  | tup _ => exact h

theorem rootOk.setB {s : SV} {r : Nat} {b : Bx} (h : rootOk σ s) (hs : roots s ≠ some (true, r)) : rootOk { σ with boxes := setR σ.boxes r b } s := by
  cases s with
  | rf k q c ln =>
    cases k with
    | true =>
      have hrq : r ≠ q := fun e => hs (by rw [e]; rfl)
      simp only [rootOk] at h ⊢
      rw [setR_eq, List.getElem?_set_ne hrq]; exact h
    | false => exact h
  | pel k q c m i off =>
    cases k with
    | true =>
      have hrq : r ≠ q := fun e => hs (by rw [e]; rfl)
      simp only [rootOk] at h ⊢
      rw [setR_eq, List.getElem?_set_ne hrq]; exact h
    | false => exact h
  | ea x k q c m i off nn =>
    cases k with
    | true =>
      have hrq : r ≠ q := fun e => hs (by rw [e]; rfl)
      simp only [rootOk] at h ⊢
      rw [setR_eq, List.getElem?_set_ne hrq]; exact h
    | false => exact h
  | ag q off n =>
    have hrq : r ≠ q := fun e => hs (by rw [e]; rfl)
    simp only [rootOk] at h ⊢
    rw [setR_eq, List.getElem?_set_ne hrq]; exact h
  | _ => trivial

/-- A box is forgotten. -/
theorem InvG.forgetBox (h : InvG sh0 w0 G0 ρ σ a w sh F β) {r : Nat} (hna : ∀ (i : Nat) (s : SV), σ.slots[i]? = some s → roots s ≠ some (true, r)) :
    InvG sh0 w0 G0 ρ (σ.putB (r, none)) a w sh (setF F true r []) β :=
  { h with
    slot := fun i s hi => by
      obtain ⟨v, hv, hr⟩ := h.slot i s hi
      refine ⟨v, hv, ?_⟩
      rw [setF_ne _ _ _ _ (by simp)]
      exact hr.otherB (hna i s hi) (fun _ => rfl) (fun _ _ => rfl)
    noslot := fun i hi => by rw [setF_ne _ _ _ _ (by simp)]; exact h.noslot i hi
    box := fun q cs hq => by
      by_cases hqr : q = r
      · subst hqr
        simp only [Sg.putB, setR_eq] at hq
        have hlt := (List.getElem?_eq_some_iff.1 hq).1
        rw [List.getElem?_set_self (by simpa using hlt)] at hq
        simp at hq
      · simp only [Sg.putB, setR_eq] at hq
        rw [List.getElem?_set_ne (fun e => hqr e.symm)] at hq
        rw [setF_ne _ _ _ _ (by simp [hqr])]
        exact h.box q cs hq
    nobox := fun q hq => by
      by_cases hqr : q = r
      · subst hqr; exact setF_same _ _ _ _
      · rw [setF_ne _ _ _ _ (by simp [hqr])]
        refine h.nobox q (fun cs hcs => hq cs ?_)
        simp only [Sg.putB, setR_eq]
        rw [List.getElem?_set_ne (fun e => hqr e.symm)]
        exact hcs
    nodup := fun k i => by
      unfold setF; split
      · simp
      · exact h.nodup k i
    own := fun k i b hb => by
      unfold setF at hb; split at hb
      · simp at hb
      · exact h.own k i b hb
    disj := fun k i l j hne b hb => by
      unfold setF at hb ⊢
      split at hb
      · simp at hb
      · split
        · simp
        · exact h.disj k i l j hne b hb
    refs := fun i s hi => (h.refs i s hi).setB (hna i s hi)
    keepB := fun q p hp cs hq => by
      by_cases hqr : q = r
      · subst hqr
        simp only [Sg.putB, setR_eq] at hq
        have hlt := (List.getElem?_eq_some_iff.1 hq).1
        rw [List.getElem?_set_self (by simpa using hlt)] at hq
        simp at hq
      · simp only [Sg.putB, setR_eq] at hq
        rw [List.getElem?_set_ne (fun e => hqr e.symm)] at hq
        exact h.keepB q p hp cs hq }

/-- A box that was none is set: its block, its cells. -/
theorem InvG.setbox (h : InvG sh0 w0 G0 ρ σ a w sh F β) {r g : Nat} {cells : List Cell} {vs : List Value} {ty : TypeId} {X : List Nat} (hr : r < σ.boxes.length) (hnone : ∀ cs, σ.boxes[r]? ≠ some (some cs))
    (hg : w.heap[g]? = some (.cells vs.toArray ty (0, 0))) (hrep : RepL (one (CellRep sh w ρ)) cells vs X)
    (hsh : ¬ sh g) (hown : g ∈ G0 ∨ w0.heap.size ≤ g) (hgF : ∀ l j, g ∉ F l j)
    (hn : (g :: X).Nodup) (hXo : ∀ b ∈ X, (b ∈ G0 ∨ w0.heap.size ≤ b) ∧ b < w.heap.size ∧ ¬ sh b) (hXd : ∀ b ∈ X, ∀ l j, b ∉ F l j)
    (hk : g = β r ∨ ∀ (i : Nat) (s : SV), σ.slots[i]? = some s → s.hasPtr r = false) (hkb : ∀ p, (r, p) ∈ σ.kb → vs.toArray = (G0.kv p).cells) :
    InvG sh0 w0 G0 ρ (σ.putB (r, some cells)) a w sh (setF F true r (g :: X)) (fun i => if i = r then g else β i) :=
  have hna : ∀ (i : Nat) (s : SV), σ.slots[i]? = some s → roots s ≠ some (true, r) := by
    intro i s hi hrt
    have hok := h.refs i s hi
    cases s with
    | rf b q c ln =>
      simp only [roots, Option.some.injEq, Prod.mk.injEq] at hrt
      obtain ⟨rfl, rfl⟩ := hrt
      obtain ⟨cs, hcs, _⟩ := hok
      exact hnone cs hcs
    | pel b q c m i off =>
      simp only [roots, Option.some.injEq, Prod.mk.injEq] at hrt
      obtain ⟨rfl, rfl⟩ := hrt
      obtain ⟨cs, hcs, _⟩ := hok
      exact hnone cs hcs
    | ea x b q c m i off nn =>
      simp only [roots, Option.some.injEq, Prod.mk.injEq] at hrt
      obtain ⟨rfl, rfl⟩ := hrt
      obtain ⟨cs, hcs, _⟩ := hok
      exact hnone cs hcs
    | ag q off n =>
      simp only [roots, Option.some.injEq, Prod.mk.injEq] at hrt
      obtain ⟨_, rfl⟩ := hrt
      obtain ⟨cs, hcs, _⟩ := hok
      exact hnone cs hcs
    | _ => simp [roots] at hrt
  { h with
    slot := fun i s hi => by
      obtain ⟨v, hv, hr'⟩ := h.slot i s hi
      refine ⟨v, hv, ?_⟩
      rw [setF_ne _ _ _ _ (by simp)]
      refine hr'.otherB (hna i s hi) (fun hf => ?_) (fun q hq => by simp [hq])
      rcases hk with hk | hk
      · simp [hk]
      · rw [hk i s hi] at hf; cases hf
    noslot := fun i hi => by rw [setF_ne _ _ _ _ (by simp)]; exact h.noslot i hi
    box := fun q cs hq => by
      by_cases hqr : q = r
      · subst hqr
        simp only [Sg.putB, setR_eq, List.getElem?_set_self hr, Option.some.injEq] at hq
        subst hq
        exact ⟨vs.toArray, ty, X, by simpa using hg, by simp [setF_same], by simpa using hrep⟩
      · simp only [Sg.putB, setR_eq] at hq
        rw [List.getElem?_set_ne (fun e => hqr e.symm)] at hq
        simp only [hqr, if_false]
        rw [setF_ne _ _ _ _ (by simp [hqr])]
        exact h.box q cs hq
    nobox := fun q hq => by
      by_cases hqr : q = r
      · subst hqr
        exact absurd (by simp [Sg.putB, setR_eq, List.getElem?_set_self hr]) (hq cells)
      · rw [setF_ne _ _ _ _ (by simp [hqr])]
        refine h.nobox q (fun cs hcs => hq cs ?_)
        simp only [Sg.putB, setR_eq]
        rw [List.getElem?_set_ne (fun e => hqr e.symm)]
        exact hcs
    nodup := fun k i => by
      unfold setF; split
      · exact hn
      · exact h.nodup k i
    own := fun k i b hb => by
      unfold setF at hb; split at hb
      · rcases List.mem_cons.1 hb with rfl | hb
        · exact ⟨hown, lt_of_get hg, hsh⟩
        · exact hXo b hb
      · exact h.own k i b hb
    disj := fun k i q j hne b hb => by
      unfold setF at hb ⊢
      by_cases h1 : k = true ∧ i = r
      · rw [if_pos h1] at hb
        have h2 : ¬(q = true ∧ j = r) := fun h2 => hne (by rw [h1.1, h1.2, h2.1, h2.2])
        rw [if_neg h2]
        rcases List.mem_cons.1 hb with rfl | hb
        · exact hgF q j
        · exact hXd b hb q j
      · rw [if_neg h1] at hb
        by_cases h2 : q = true ∧ j = r
        · rw [if_pos h2]
          intro hb'
          rcases List.mem_cons.1 hb' with rfl | hb'
          · exact hgF k i hb
          · exact hXd b hb' k i hb
        · rw [if_neg h2]; exact h.disj k i q j hne b hb
    refs := fun i s hi => (h.refs i s hi).setB (hna i s hi)
    keepB := fun q p hp cs hq => by
      by_cases hqr : q = r
      · subst hqr
        exact ⟨ty, by rw [← hkb p hp]; simpa using hg⟩
      · simp only [Sg.putB, setR_eq] at hq
        rw [List.getElem?_set_ne (fun e => hqr e.symm)] at hq
        simp only [hqr, if_false]
        exact h.keepB q p hp cs hq }

theorem putB_none_get (σ : Sg) (r : Nat) : ∀ cs, (σ.putB (r, none)).boxes[r]? ≠ some (some cs) := by
  intro cs h
  simp only [Sg.putB, setR_eq] at h
  have hlt := (List.getElem?_eq_some_iff.1 h).1
  rw [List.getElem?_set_self (by simpa using hlt)] at h
  simp at h

theorem putB_putB (σ : Sg) (r : Nat) (b c : Bx) : (σ.putB (r, b)).putB (r, c) = σ.putB (r, c) := by
  simp [Sg.putB, setR_eq]

theorem Rep.one' : ∀ {τ : Ty} {m : Md} {x : D τ} {vs F}, Rep sh w τ m x vs F → ∀ v ∈ vs, v.oneCell' = true
  | .pair a b, m, x, vs, F, h => by
    obtain ⟨v1, v2, F1, F2, rfl, rfl, h1, h2⟩ := h
    intro v hv
    rcases List.mem_append.1 hv with hv | hv
    · exact Rep.one' h1 v hv
    · exact Rep.one' h2 v hv
  | .unit, _, _, _, _, h => by simp [h.1]
  | .int k, m, x, vs, F, h => by rw [h.1]; simp [Value.oneCell']
  | .bool, m, x, vs, F, h => by rw [h.1]; simp [Value.oneCell']
  | .str, m, x, vs, F, h => by rw [h.1]; simp [Value.oneCell']
  | .sl e, .sh, x, vs, F, h => by
    obtain ⟨ad, cap, rfl, _⟩ := h
    simp [Value.oneCell']
  | .sl e, .own m, x, vs, F, h => by
    obtain ⟨ad, cap, rfl, _⟩ := h
    simp [Value.oneCell']
  | .sl e, .pair _ _, x, vs, F, h => h.elim

theorem flat_cells : ∀ {τ : Ty} {m : Md} {x : D τ} {vs : List Value} {X : List Nat} {b : A} {d : Dy} {off : Nat}, τ.flat = true → Rep sh w τ m x vs X → evA ρ b = some d → (∀ c, d.cell (off + c) = cellAt τ x c) →
    RepL (one (CellRep sh w ρ)) (cellsM b off m τ.n) vs X
  | .unit, m, x, vs, X, b, d, off, _, h, _, _ => h
  | .pair α τ, m, x, vs, X, b, d, off, hf, h, hb, hc => by
    simp only [Ty.flat, Bool.and_eq_true, Bool.not_eq_true'] at hf
    obtain ⟨v1, v2, F1, F2, rfl, rfl, h1, h2⟩ := h
    obtain ⟨v, rfl⟩ := h1.single hf.1
    have hn : (Ty.pair α τ).n = τ.n + 1 := by simp [Ty.n, n_of_atom hf.1, Nat.add_comm]
    rw [hn]
    have hcell : ∀ c, cellAt (.pair α τ) x (c + 1) = cellAt τ x.2 c := by
      intro c
      show (if α.isAgg then none else cellAt τ x.2 c) = _
      rw [if_neg (by simp [hf.1])]
    refine ⟨[v], v2, F1, F2, rfl, rfl, ⟨v, rfl, ⟨α, x.1⟩, ?_, hf.1, h1⟩, flat_cells hf.2 h2 hb (fun c => ?_)⟩
    · simp only [evA, hb]
      have := hc 0
      rw [Nat.add_zero] at this
      rw [this]
      show (if α.isAgg then none else some (⟨α, x.1⟩ : Dy)) = _
      rw [if_neg (by simp [hf.1])]
    · have := hc (c + 1)
      rw [show off + 1 + c = off + (c + 1) by omega, this, hcell]
  | .int _, _, _, _, _, _, _, _, hf, _, _, _ => by simp [Ty.flat] at hf
  | .bool, _, _, _, _, _, _, _, hf, _, _, _ => by simp [Ty.flat] at hf
  | .str, _, _, _, _, _, _, _, hf, _, _, _ => by simp [Ty.flat] at hf
  | .sl _, _, _, _, _, _, _, _, hf, _, _, _ => by simp [Ty.flat] at hf

theorem flat_agg : ∀ {τ : Ty}, τ.flat = true → τ.isAgg = true
  | .unit, _ => rfl
  | .pair _ _, _ => rfl
  | .int _, h => by simp [Ty.flat] at h
  | .bool, h => by simp [Ty.flat] at h
  | .str, h => by simp [Ty.flat] at h
  | .sl _, h => by simp [Ty.flat] at h

/-- A whole value, cell by cell. -/
theorem all_rep {n : Nat} {d r : Dy} {m : Md} {v : Value} {X : List Nat} {i : Nat} (h : evX (.all n) [d] = some r) (hv : ValRep sh w d m v X) (hi : ρ[i]? = some r) :
    ∃ vs, v.cells.toList = vs ∧ vs.length = n ∧ RepL (one (CellRep sh w ρ)) (cellsM (.var i) 0 m n) vs X ∧ ∀ u ∈ vs, u.oneCell' = true := by
  simp only [evX] at h
  split at h
  · rename_i hc
    simp only [Bool.and_eq_true, beq_iff_eq] at hc
    simp only [Option.some.injEq] at h
    subst h
    have hr := valRep_cells hv
    refine ⟨_, rfl, by rw [hr.len, hc.2], ?_, fun u hu => Rep.one' hr u hu⟩
    have := flat_cells (b := .var i) (off := 0) hc.1 hr hi (fun c => by simp [Dy.cell, flat_agg hc.1])
    rwa [hc.2] at this
  · split at h
    · rename_i hc
      simp only [Bool.and_eq_true, Bool.not_eq_true', beq_iff_eq] at hc
      obtain ⟨hna, rfl⟩ := hc
      simp only [Option.some.injEq] at h
      subst h
      obtain ⟨us, hv, hr⟩ := hv
      obtain ⟨u, rfl⟩ := hr.single hna
      have hv : v = u := by rw [hv, hna]; rfl
      refine ⟨[u], by rw [hv, atom_cells hna hr], rfl, ⟨[u], [], X, [], rfl, by simp, ⟨u, rfl, d, ?_, hna, ?_⟩, rfl, rfl⟩, fun y hy => Rep.one' hr y hy⟩
      · simp [evA, hi, Dy.cell, hna]
      · revert hr hna
        obtain ⟨τ, x⟩ := d
        cases τ with
        | sl e => cases m with
          | pair a b => exact fun _ hr => hr.elim
          | _ => exact fun _ hr => hr
        | unit => intro hna; cases hna
        | pair a b => intro hna; cases hna
        | _ => exact fun _ hr => hr
    · cases h

theorem cellsAt_len {d : Dy} : ∀ {n off : Nat} {ds : List Dy}, cellsAt d off n = some ds → ds.length = n
  | 0, off, ds, h => by simp [cellsAt] at h; subst h; rfl
  | n + 1, off, ds, h => by
    unfold cellsAt at h
    cases h1 : d.cell off with
    | none => rw [h1] at h; cases h
    | some x =>
      cases h2 : cellsAt d (off + 1) n with
      | none => rw [h1, h2] at h; cases h
      | some r =>
        rw [h1, h2] at h
        simp at h
        subst h
        simp [cellsAt_len h2]

theorem cellsM_length : ∀ {n : Nat} {b : A} {off : Nat} {m : Md}, (cellsM b off m n).length = n
  | 0, _, _, _ => rfl
  | n + 1, _, _, _ => by simp [cellsM, cellsM_length]

theorem new_block (w : World) (o : Obj) : (w.alloc o).heap[w.heap.size]? = some o := by
  show (w.heap.push o)[w.heap.size]? = _
  simp

/-- A new variable; X: what its cells own, no one's till now. -/
theorem InvG.newbox (h : InvG sh0 w0 G0 ρ σ a w sh F β) {cells : List Cell} {vs : List Value} {ty : TypeId} {X : List Nat} (hd : DstOk σ d) (hb : d < σ.boxes.length)
    (hrep : RepL (one (CellRep sh w ρ)) cells vs X) (hXn : X.Nodup) (hXo : ∀ k ∈ X, (k ∈ G0 ∨ w0.heap.size ≤ k) ∧ k < w.heap.size ∧ ¬ sh k) (hXd : ∀ k ∈ X, ∀ l j, k ∉ F l j)
    (hkb : ∀ p, (d, p) ∈ σ.kb → vs.toArray = (G0.kv p).cells) :
    Inv sh0 w0 G0 ρ (((σ.kill (1, d)).putB (d, some cells)).putS (d, .ptr d 0)) (a.put (some d) (.pointer (some ⟨w.heap.size, 0, none⟩))) (w.alloc (.cells vs.toArray ty (0, 0))) := by
  have hclean := kill_clean σ (1, d)
  have hk := (h.kill (1, d)).forgetBox (r := d) (fun i s hi hr => by
    have := hclean i s hi
    simp [refers, hr] at this)
  have hbel : Below w.heap.size w (w.alloc (.cells vs.toArray ty (0, 0))) := (Below.refl _ _).alloc (Nat.le_refl _) _
  have hg := hk.grow hbel
  have hFd : ∀ k ∈ X, ∀ l j, k ∉ setF F true d [] l j := by
    intro k hk l j
    unfold setF
    split
    · simp
    · exact hXd k hk l j
  have hb2 := hg.setbox (r := d) (g := w.heap.size) (cells := cells) (vs := vs) (ty := ty) (X := X) (by simpa [Sg.putB, setR_eq, Sg.kill, mapR_eq] using hb) (putB_none_get _ _) (new_block _ _)
    (RepL.imp hrep (fun x us G hG hh => by
      obtain ⟨u, hu, hR⟩ := hh
      exact ⟨u, hu, hR.frame (fun b hb' => ⟨hb', hbel.block b (h.sh_lt b hb')⟩) (fun b hb' => hbel.block b (hXo b (hG b hb')).2.1)⟩))
    (fun hs => Nat.lt_irrefl _ (h.sh_lt _ hs)) (.inr h.ext.size) (fun l j hm => Nat.lt_irrefl _ (hk.own l j _ hm).2.1)
    (List.nodup_cons.2 ⟨fun hm => Nat.lt_irrefl _ (hXo _ hm).2.1, hXn⟩) (fun k hk => ⟨(hXo k hk).1, Nat.lt_of_lt_of_le (hXo k hk).2.1 hbel.size, (hXo k hk).2.2⟩) hFd
    (.inr (fun i s hi => by
      have := hclean i s hi
      unfold refers at this
      simp only [Bool.or_eq_false_iff] at this
      exact this.2)) hkb
  rw [putB_putB] at hb2
  have hd' : DstOk ((σ.kill (1, d)).putB (d, some cells)) d := ⟨⟨(hd.kill (k := (1, d))).lt, (hd.kill (k := (1, d))).free⟩, hd.kept⟩
  exact ⟨_, _, _, hb2.put_none (d := d) (s := .ptr d 0) hd' ⟨rfl, by simp⟩⟩

theorem zip_all_rep : ∀ {zs : List Value} {cs : List Cell}, zs.length = cs.length → ((zs.zip cs).all fun x => match x with
        | (.int k 0, some (.int k' 0, .sh)) => k == k'
        | (.bool false, some (.bool false, .sh)) => true
        | (.string s, some (.str [], .sh)) => s.size == 0
        | (.slice none 0 0, some (.nil _, .own _)) => true
        | _ => false) = true → RepL (one (CellRep sh w ρ)) cs zs []
  | [], [], _, _ => ⟨rfl, rfl⟩
  | z :: zs, c :: cs, hl, h => by
    simp only [List.zip_cons_cons, List.all_cons, Bool.and_eq_true] at h
    refine ⟨[z], zs, [], [], rfl, rfl, ⟨z, rfl, ?_⟩, zip_all_rep (by simpa using hl) h.2⟩
    have h1 := h.1
    split at h1
    · rename_i k k' heq
      simp only [Prod.mk.injEq] at heq
      obtain ⟨rfl, rfl⟩ := heq
      have : k = k' := by simpa using h1
      subst this
      exact ⟨_, rfl, rfl, rfl, rfl⟩
    · rename_i heq
      simp only [Prod.mk.injEq] at heq
      obtain ⟨rfl, rfl⟩ := heq
      exact ⟨_, rfl, rfl, rfl, rfl⟩
    · rename_i s heq
      simp only [Prod.mk.injEq] at heq
      obtain ⟨rfl, rfl⟩ := heq
      have hs0 : s = strOf [] := by
        have : s.size = 0 := by simpa using h1
        apply ByteArray.ext
        apply Array.ext'
        have : s.data.toList.length = 0 := by simpa using this
        have := List.eq_nil_of_length_eq_zero this
        simpa [strOf] using this
      exact ⟨_, rfl, rfl, by rw [hs0], rfl⟩
    · rename_i e m heq
      simp only [Prod.mk.injEq] at heq
      obtain ⟨rfl, rfl⟩ := heq
      exact ⟨_, rfl, rfl, none, 0, rfl, Nat.le_refl _, .inl ⟨rfl, rfl, rfl⟩⟩
    · cases h1

theorem sound_alloc {t : TypeId} (h : InvG sh0 w0 G0 ρ σ a w sh F β) (hop : o.op = .alloc t) (hd : o.dst = some d) (hlt : DstOk σ d)
    (hs : stAlloc P d t σ = some (st, l)) : o.wp P a w (Inv sh0 w0 G0 ρ (σ.apply st)) Q := by
  unfold stAlloc at hs
  obtain ⟨τ, l1, l2, h1, hs1, _⟩ := Rd.bind_some hs
  obtain ⟨cs, l3, l4, h2, hs2, _⟩ := Rd.bind_some hs1
  obtain ⟨_, l5, l6, h3, hs3, _⟩ := Rd.bind_some hs2
  obtain ⟨_, l7, l8, h4, hs4, _⟩ := Rd.bind_some hs3
  obtain ⟨hb, hkb⟩ := Rd.boxAny_some h3
  have hz := Rd.guard_some h4
  have := Rd.pure_some hs4
  subst this
  unfold zeroOk at hz
  cases hi : P.info? t with
  | none => rw [hi] at hz; cases hz
  | some i => ?_
  rw [hi] at hz
  dsimp only at hz
  cases hzv : i.zero with
  | none => rw [hzv] at hz; cases hz
  | some z => ?_
  rw [hzv] at hz
  simp only [Bool.and_eq_true, beq_iff_eq] at hz
  have hrep : RepL (one (CellRep sh w ρ)) cs z.cells.toList [] := zip_all_rep (by simpa using hz.2) hz.1
  refine wp_value (v := .pointer (some ⟨w.heap.size, 0, none⟩)) (w' := w.alloc (.cells z.cells.toList.toArray t (0, 0))) ?_ ?_
  · unfold execOp
    rw [hop]
    simp [Instr.alloc, zeroValue, typeInfo, hi, hzv, newVar, newRow]
    try rfl
  · rw [hd]
    exact h.newbox hlt hb hrep (by simp) (by simp) (by simp) (fun p hp => absurd hp (hkb p))

theorem setRow_ext (w : World) (g : Nat) (cs : Array Value) : Ext w (w.setRow g cs) [g] :=
  ⟨rfl, rfl, rfl, by simp, fun k _ hk => setRow_other w g k cs (by simpa using hk)⟩

theorem RepL.app {α : Type} {R : α → List Value → List Nat → Prop} : ∀ {as bs : List α} {ua ub : List Value} {A B : List Nat}, RepL R as ua A → RepL R bs ub B → RepL R (as ++ bs) (ua ++ ub) (A ++ B)
  | [], bs, ua, ub, A, B, h1, h2 => by obtain ⟨rfl, rfl⟩ := h1; simpa using h2
  | x :: as, bs, ua, ub, A, B, h1, h2 => by
    obtain ⟨v1, v2, F1, F2, rfl, rfl, k1, k2⟩ := h1
    exact ⟨v1, v2 ++ ub, F1, F2 ++ B, by simp, by simp, k1, RepL.app k2 h2⟩

theorem RepL.cut {α : Type} {R : α → Value → List Nat → Prop} : ∀ {as : List α} {ua : List Value} {A : List Nat} (n : Nat), RepL (one R) as ua A → ∃ A1 A2, A = A1 ++ A2 ∧ RepL (one R) (as.take n) (ua.take n) A1 ∧ RepL (one R) (as.drop n) (ua.drop n) A2
  | [], ua, A, n, h1 => by obtain ⟨rfl, rfl⟩ := h1; exact ⟨[], [], rfl, by simp [RepL], by simp [RepL]⟩
  | x :: as, ua, A, 0, h1 => ⟨[], A, rfl, by simp [RepL], h1⟩
  | x :: as, ua, A, n + 1, h1 => by
    obtain ⟨v1, v2, F1, F2, rfl, rfl, ⟨v, rfl, k1⟩, k2⟩ := h1
    obtain ⟨A1, A2, rfl, r1, r2⟩ := RepL.cut n k2
    exact ⟨F1 ++ A1, A2, by simp, ⟨[v], _, F1, A1, by simp, rfl, ⟨v, rfl, k1⟩, r1⟩, by simpa using r2⟩

theorem RepL.splice {α : Type} {R : α → Value → List Nat → Prop} {xs : List α} {vs : List Value} {F Y : List Nat} {f : Nat} {ys : List α} {us : List Value} (h : RepL (one R) xs vs F) (hy : RepL (one R) ys us Y) :
    ∃ A B C, F = A ++ (B ++ C) ∧ RepL (one R) (xs.take f ++ ys ++ xs.drop (f + ys.length)) (vs.take f ++ us ++ vs.drop (f + ys.length)) (A ++ Y ++ C) := by
  obtain ⟨A1, A2, rfl, r1, r2⟩ := RepL.cut f h
  obtain ⟨B1, B2, rfl, s1, s2⟩ := RepL.cut ys.length r2
  refine ⟨A1, B1, B2, rfl, ?_⟩
  have := RepL.app (RepL.app r1 hy) s2
  simpa [List.drop_drop] using this

/-- A variable's cells are written; Y: what the new cells own, no one's till now. -/
theorem InvG.storebox (h : InvG sh0 w0 G0 ρ σ a w sh F β) {r f : Nat} {b : List Cell} {cs : List Cell} {us : List Value} {Y : List Nat} (hna : ∀ (i : Nat) (s : SV), σ.slots[i]? = some s → roots s ≠ some (true, r)) (hb : σ.boxes[r]? = some (some b))
    (hrep : RepL (one (CellRep sh w ρ)) cs us Y) (hYn : Y.Nodup) (hYo : ∀ k ∈ Y, (k ∈ G0 ∨ w0.heap.size ≤ k) ∧ k < w.heap.size ∧ ¬ sh k) (hYd : ∀ k ∈ Y, ∀ l j, k ∉ F l j)
    (hle : f + cs.length ≤ b.length) (hone : ∀ u ∈ us, u.oneCell' = true) {t : TypeId} {v : Value} (hv : v.cells.toList = us) (hn : P.cellsOf t = cs.length) (h0 : cs.length ≠ 0) (hkb : ∀ p, (r, p) ∉ σ.kb) :
    ∃ w', (storeVar t ⟨β r, f, none⟩ v).run P w = .ok () w' ∧ Inv sh0 w0 G0 ρ (σ.putB (r, some (b.take f ++ cs ++ b.drop (f + cs.length)))) a w' := by
  obtain ⟨c, ty, F', h1, h2, h3⟩ := h.box r b hb
  have hlc : ∀ {as : List Cell} {ua : List Value} {A : List Nat}, RepL (one (CellRep sh w ρ)) as ua A → ua.length = as.length := by
    intro as ua A hh
    have := RepL.len (n := 1) (fun x vs F hh => by obtain ⟨v, rfl, _⟩ := hh; rfl) hh
    omega
  have hlb := hlc h3
  have hlu := hlc hrep
  have hsz : c.size = b.length := by simpa using hlb
  refine ⟨w.setRow (β r) (c.toList.take (f + 0) ++ us ++ c.toList.drop (f + 0 + us.length)).toArray, ?_, ?_⟩
  · have hst := run_storeCells_at P (β r) f ty us 0 c w h1 (by omega) hone
    unfold storeVar
    have hsz' : v.cells.size = cs.length := by rw [← Array.length_toList, hv, hlu]
    simp only [Sem.run_bind, run_sizeOf' hn h0, Result.andThen_ok, hsz', ne_eq, not_true_eq_false, if_false, hv, Sem.run_pure, hst]
  · simp only [Nat.add_zero]
    obtain ⟨A, B, C, rfl, hrep'⟩ := RepL.splice (f := f) h3 hrep
    have hw := setRow_heap w (β r) c (c.toList.take f ++ us ++ c.toList.drop (f + us.length)).toArray ty (0, 0) h1
    have hmem : ∀ x ∈ β r :: (A ++ (B ++ C)), x ∈ F true r := fun x hx => h2 ▸ hx
    have hnd := h.nodup true r
    rw [h2] at hnd
    have hnd' := List.nodup_cons.1 hnd
    have hAC : ∀ x, x ∈ A ++ C → x ∈ A ++ (B ++ C) := fun x hx => by
      rcases List.mem_append.1 hx with hx | hx
      · exact List.mem_append_left _ hx
      · exact List.mem_append_right _ (List.mem_append_right _ hx)
    have hACn : (A ++ C).Nodup := hnd'.2.sublist (List.Sublist.append_left (List.sublist_append_right _ _) _)
    have hYF : ∀ x ∈ Y, x ∉ β r :: (A ++ (B ++ C)) := fun x hx hm => hYd x hx true r (hmem x hm)
    have hfree : ∀ x ∈ β r :: (A ++ (B ++ C)), ∀ k j, x ∉ setF F true r [] k j := by
      intro x hx k j
      unfold setF
      split
      · simp
      · rename_i hne
        exact h.disj true r k j (fun e => hne ⟨(congrArg Prod.fst e).symm, (congrArg Prod.snd e).symm⟩) x (hmem x hx)
    have hfor := h.forgetBox (r := r) hna
    have hturn := hfor.turn (w' := w.setRow (β r) (c.toList.take f ++ us ++ c.toList.drop (f + us.length)).toArray) (L := [β r]) (sh' := sh) (setRow_ext _ _ _)
      (fun b hb => by
        obtain rfl : b = β r := by simpa using hb
        exact ⟨hfree _ (by simp), (h.own true r _ (hmem _ (by simp))).2.2, (h.own true r _ (hmem _ (by simp))).1⟩)
      (fun _ h => h) (fun b hb => ⟨by have := h.sh_lt b hb; simpa using this, .inl hb⟩)
    have hXmem : ∀ x, x ∈ A ++ Y ++ C → x ∈ A ++ (B ++ C) ∨ x ∈ Y := by
      intro x hx
      rcases List.mem_append.1 hx with hx | hx
      · rcases List.mem_append.1 hx with hx | hx
        · exact .inl (List.mem_append_left _ hx)
        · exact .inr hx
      · exact .inl (List.mem_append_right _ (List.mem_append_right _ hx))
    have hXn : (A ++ Y ++ C).Nodup := by
      rw [List.append_assoc]
      have h4 := List.nodup_append.1 hACn
      refine List.nodup_append.2 ⟨h4.1, List.nodup_append.2 ⟨hYn, h4.2.1, fun x hx y hy e => ?_⟩, fun x hx y hy e => ?_⟩
      · subst e; exact hYF x hx (List.mem_cons_of_mem _ (hAC _ (List.mem_append_right _ hy)))
      · subst e
        rcases List.mem_append.1 hy with hy | hy
        · exact hYF x hy (List.mem_cons_of_mem _ (hAC _ (List.mem_append_left _ hx)))
        · exact h4.2.2 x hx x hy rfl
    have hbr : ∀ x, x ∈ A ++ Y ++ C → x ≠ β r := by
      rintro x hx rfl
      rcases hXmem _ hx with hx | hx
      · exact hnd'.1 hx
      · exact hYF _ hx (by simp)
    have hbox := hturn.setbox (r := r) (g := β r) (cells := b.take f ++ cs ++ b.drop (f + cs.length)) (vs := c.toList.take f ++ us ++ c.toList.drop (f + us.length)) (ty := ty) (X := A ++ Y ++ C)
      (by simpa [Sg.putB, setR_eq] using (List.getElem?_eq_some_iff.1 hb).1) (putB_none_get _ _) hw
      (RepL.imp (by rw [hlu]; exact hrep') (fun x vs X hX hh => by
        obtain ⟨u, hu, hR⟩ := hh
        refine ⟨u, hu, hR.frame (fun k hk => ⟨hk, setRow_other w _ _ _ (fun e => ?_)⟩) (fun k hk => setRow_other w _ _ _ (hbr k (hX k hk)))⟩
        exact (h.own true r (β r) (hmem _ (by simp))).2.2 (e ▸ hk)))
      (h.own true r (β r) (hmem _ (by simp))).2.2 (h.own true r (β r) (hmem _ (by simp))).1
      (hfree _ (by simp))
      (List.nodup_cons.2 ⟨fun hb => hbr _ hb rfl, hXn⟩)
      (fun x hx => by
        rcases hXmem x hx with hx | hx
        · have := h.own true r x (hmem _ (List.mem_cons_of_mem _ hx))
          simpa using this
        · have := hYo x hx
          simpa using this)
      (fun x hx k j => by
        rcases hXmem x hx with hx | hx
        · exact hfree x (List.mem_cons_of_mem _ hx) k j
        · unfold setF
          split
          · simp
          · exact hYd x hx k j)
      (.inl rfl) (fun p hp => absurd hp (hkb p))
    rw [putB_putB] at hbox
    exact ⟨_, _, _, hbox⟩

/-- A slot is forgotten. -/
theorem InvG.forgetSlot (h : InvG sh0 w0 G0 ρ σ a w sh F β) {d : Nat} (hna : ∀ (i : Nat) (s : SV), σ.slots[i]? = some s → roots s ≠ some (false, d)) :
    InvG sh0 w0 G0 ρ (σ.putS (d, .undef)) a w sh (setF F false d []) β :=
  have hother : ∀ {s : SV} {v : Value} {X : List Nat}, SVRep sh w ρ β a.tmps F s v X → roots s ≠ some (false, d) → SVRep sh w ρ β a.tmps (setF F false d []) s v X := by
    intro s v X hs hr
    have := hs.other (d := d) (u := a.tmps.getD d undef) (Y := []) hr
    have he : a.tmps.setIfInBounds d (a.tmps.getD d undef) = a.tmps := by
      apply Array.ext_getElem?
      intro i
      by_cases hi : i = d
      · subst hi
        by_cases hlt : i < a.tmps.size
        · simp [hlt, Array.getD_eq_getD_getElem?]
        · rw [Array.getElem?_eq_none (by simpa using hlt), Array.getElem?_eq_none (by simpa using hlt)]
      · rw [Array.getElem?_setIfInBounds_ne (Ne.symm hi)]
    rwa [he] at this
  { h with
    size := by simp [Sg.putS, setR_eq, h.size]
    slot := fun i s hi => by
      by_cases hid : i = d
      · subst hid
        simp only [Sg.putS, setR_eq] at hi
        have hlt : i < σ.slots.length := by have := (List.getElem?_eq_some_iff.1 hi).1; simpa using this
        rw [List.getElem?_set_self hlt] at hi
        injection hi with hi
        subst hi
        obtain ⟨v, hv, _⟩ := h.slot i _ (List.getElem?_eq_getElem hlt)
        exact ⟨v, hv, setF_same _ _ _ _⟩
      · simp only [Sg.putS, setR_eq] at hi
        rw [List.getElem?_set_ne (fun e => hid e.symm)] at hi
        obtain ⟨u, hu, hr⟩ := h.slot i s hi
        exact ⟨u, hu, by rw [setF_ne _ _ _ _ (by simp [hid])]; exact hother hr (hna i s hi)⟩
    noslot := fun i hi => by
      by_cases hid : i = d
      · subst hid; exact setF_same _ _ _ _
      · rw [setF_ne _ _ _ _ (by simp [hid])]
        exact h.noslot i (by simpa [Sg.putS, setR_eq] using hi)
    box := fun r cs hr => by
      rw [setF_ne _ _ _ _ (by simp)]
      exact h.box r cs hr
    nobox := fun r hr => by rw [setF_ne _ _ _ _ (by simp)]; exact h.nobox r hr
    nodup := fun k i => by
      unfold setF; split
      · simp
      · exact h.nodup k i
    own := fun k i b hb => by
      unfold setF at hb; split at hb
      · simp at hb
      · exact h.own k i b hb
    disj := fun k i l j hne b hb => by
      unfold setF at hb ⊢
      split at hb
      · simp at hb
      · split
        · simp
        · exact h.disj k i l j hne b hb
    refs := fun i s hi => by
      by_cases hid : i = d
      · subst hid
        simp only [Sg.putS, setR_eq] at hi
        have hlt : i < σ.slots.length := by have := (List.getElem?_eq_some_iff.1 hi).1; simpa using this
        rw [List.getElem?_set_self hlt] at hi
        injection hi with hi
        subst hi
        trivial
      · simp only [Sg.putS, setR_eq] at hi
        rw [List.getElem?_set_ne (fun e => hid e.symm)] at hi
        exact (h.refs i s hi).set (hna i s hi) }

theorem killed0 {σ : Sg} {r : Nat} : ∀ (i : Nat) (s : SV), (σ.kill (0, r)).slots[i]? = some s → roots s ≠ some (false, r) := by
  intro i s hi hr
  have := kill_clean σ (0, r) i s hi
  simp [refers, hr] at this

theorem killed2 {σ : Sg} {r : Nat} : ∀ (i : Nat) (s : SV), (σ.kill (2, r)).slots[i]? = some s → roots s ≠ some (true, r) := by
  intro i s hi hr
  have := kill_clean σ (2, r) i s hi
  simp [refers, hr] at this

/-- A box that owns nothing has no aliases. -/
theorem InvG.noalias (h : InvG sh0 w0 G0 ρ σ a w sh F β) {r : Nat} {b : List Cell} (hb : σ.boxes[r]? = some (some b)) (hn : b.any Cell.isOwn = false) :
    ∀ (i : Nat) (s : SV), σ.slots[i]? = some s → roots s ≠ some (true, r) := by
  have hno : ∀ (c : Nat), ¬ ownCell b[c]? := by
    intro c hc
    cases hy : b[c]? with
    | none => rw [hy] at hc; exact hc
    | some y =>
      rw [hy] at hc
      have hm := List.mem_of_getElem? hy
      have hf : Cell.isOwn y = false := by
        cases hyo : Cell.isOwn y with
        | false => rfl
        | true =>
          have := List.any_eq_true.2 ⟨y, hm, hyo⟩
          rw [hn] at this; cases this
      match y, hc, hf with
      | some (_, .own _), _, hf => simp [Cell.isOwn, Md.isSh] at hf
  intro i s hi hr
  have hok := h.refs i s hi
  cases s with
  | rf k q c ln =>
    simp only [roots, Option.some.injEq, Prod.mk.injEq] at hr
    obtain ⟨rfl, rfl⟩ := hr
    obtain ⟨cs, hcs, ho⟩ := hok
    rw [hb] at hcs
    simp only [Option.some.injEq] at hcs
    subst hcs
    exact hno c ho
  | pel k q c m j off =>
    simp only [roots, Option.some.injEq, Prod.mk.injEq] at hr
    obtain ⟨rfl, rfl⟩ := hr
    obtain ⟨cs, hcs, ho⟩ := hok
    rw [hb] at hcs
    simp only [Option.some.injEq] at hcs
    subst hcs
    exact hno c ho
  | ea x k q c m i off nn =>
    simp only [roots, Option.some.injEq, Prod.mk.injEq] at hr
    obtain ⟨rfl, rfl⟩ := hr
    obtain ⟨cs, hcs, ho⟩ := hok
    rw [hb] at hcs
    simp only [Option.some.injEq] at hcs
    subst hcs
    exact hno c ho
  | ag q off n =>
    simp only [roots, Option.some.injEq, Prod.mk.injEq] at hr
    obtain ⟨_, rfl⟩ := hr
    obtain ⟨cs, hcs, ho⟩ := hok
    rw [hb] at hcs
    simp only [Option.some.injEq] at hcs
    subst hcs
    rw [hn] at ho; cases ho
  | _ => simp [roots] at hr

/-- One cell is forgotten. -/
theorem RepL.pick {α : Type} {R : α → Value → List Nat → Prop} {y : α} (hy : ∀ v, R y v []) : ∀ {xs : List α} {vs : List Value} {F : List Nat} {i : Nat} {x : α}, RepL (one R) xs vs F → xs[i]? = some x →
    ∃ v A X B, vs[i]? = some v ∧ F = A ++ (X ++ B) ∧ R x v X ∧ RepL (one R) (xs.set i y) vs (A ++ B)
  | [], _, _, _, _, _, h => by simp at h
  | z :: xs, vs, F, 0, x, h, hi => by
    obtain ⟨v1, v2, F1, F2, rfl, rfl, ⟨v, rfl, h1⟩, h2⟩ := h
    simp at hi
    subst hi
    exact ⟨v, [], F1, F2, rfl, rfl, h1, [v], v2, [], F2, rfl, rfl, ⟨v, rfl, hy v⟩, h2⟩
  | z :: xs, vs, F, i + 1, x, h, hi => by
    obtain ⟨v1, v2, F1, F2, rfl, rfl, ⟨v, rfl, h1⟩, h2⟩ := h
    simp at hi
    obtain ⟨u, A, X, B, e1, rfl, e3, e4⟩ := RepL.pick hy h2 hi
    exact ⟨u, F1 ++ A, X, B, by simpa using e1, by simp, e3, [v], v2, F1, A ++ B, rfl, by simp, ⟨v, rfl, h1⟩, e4⟩

theorem put_none_act {v : Value} : a.put none v = a := rfl

theorem foldl_kill_app (l1 l2 : List (Nat × Nat)) (σ : Sg) : (l1 ++ l2).foldl Sg.kill σ = l2.foldl Sg.kill (l1.foldl Sg.kill σ) := List.foldl_append

theorem putS_kill (σ : Sg) (x : Nat × SV) (k : Nat × Nat) (hx : refers k x.2 = false) : (σ.putS x).kill k = (σ.kill k).putS x := by
  obtain ⟨d, s⟩ := x
  dsimp only at hx
  simp only [Sg.kill, mapR_eq, Sg.putS, setR_eq]
  congr 1
  rw [List.map_set]
  congr 1
  simp [hx]


end
end Go.Vm
