/- Rows that are owned: written in place, made anew. Lemmas alone, no statement. -/
import Derived.Test.YtecleaangfcloaaVmOps2
namespace Go.Vm
set_option linter.unusedVariables false
set_option linter.unusedSimpArgs false
open Go.RowKit

/-- Cells are written into a block whose frozen places lie behind its last cell. -/
theorem run_storeCells_fz (P : Program) (g o : Nat) (t : TypeId) (fz : Nat × Nat) : ∀ (vs : List Value) (i : Nat) (cur : Array Value) (w : World), w.heap[g]? = some (.cells cur t fz) → (∀ i, fz.1 ≤ i → i < fz.2 → cur.size ≤ i) → o + i + vs.length ≤ cur.size → (∀ v ∈ vs, v.oneCell' = true) →
    (storeCells ⟨g, o, none⟩ vs i).run P w = .ok () (w.setRow g (cur.toList.take (o + i) ++ vs ++ cur.toList.drop (o + i + vs.length)).toArray)
  | [], i, cur, w, hg, _, _, _ => by
    simp only [storeCells, List.append_nil, List.length_nil, Nat.add_zero, List.take_append_drop, Array.toArray_toList]
    rw [setRow_self w g cur t fz hg]
    rfl
  | v :: rest, i, cur, w, hg, hfz, hl, h1 => by
    have hi : o + i < cur.size := by simp at hl; omega
    have hadd : (⟨g, o, none⟩ : Addr).add i = ⟨g, o + i, none⟩ := by unfold Addr.add; split <;> simp_all
    have hcell : w.cell? ⟨g, o + i, none⟩ = some cur[o + i] := by simp [World.cell?, hg, hi]
    have hfro : w.frozen? ⟨g, o + i, none⟩ = false := by
      obtain ⟨lo, hi'⟩ := fz
      simp only [World.frozen?, hg, Bool.and_eq_false_iff, decide_eq_false_iff_not]
      rcases Nat.lt_or_ge (o + i) lo with h | h
      · left; omega
      · right
        intro h'
        have := hfz (o + i) h h'
        omega
    have hst : (store ((⟨g, o, none⟩ : Addr).add i) v).run P w = .ok () (w.setRow g (cur.setIfInBounds (o + i) v)) := by
      rw [hadd, run_store P w _ v _ (h1 v (by simp)), hcell]
      simp [hfro, setCell_eq_setRow w g (o + i) cur t fz v hg]
    have ih := run_storeCells_fz P g o t fz rest (i + 1) (cur.setIfInBounds (o + i) v) (w.setRow g (cur.setIfInBounds (o + i) v)) (setRow_heap w g cur _ t _ hg) (by simpa using hfz) (by simp at hl ⊢; omega) (fun x hx => h1 x (by simp [hx]))
    simp only [storeCells, Sem.run_bind, hst, Result.andThen_ok, ih, setRow_setRow]
    congr 3
    have e := list_seg_step cur.toList (o + i) v rest (by simp at hl ⊢; omega)
    simpa [Array.toList_setIfInBounds, Nat.add_assoc] using e

section
variable {P : Program} {C : Nat → Option Sig} {Fn : Fns} {sh0 : Nat → Prop} {w0 : World} {G0 : List Nat} {ρ : List Dy} {σ : Sg} {a : Act} {w w' : World}
  {sh : Nat → Prop} {F : Bool → Nat → List Nat} {β : Nat → Nat} {o : Oper} {st : Step} {l : List (Bool × Nat)} {d : Nat} {Q : Exit → Act → World → Prop}

theorem RepL.swap {α : Type} {R : α → Value → List Nat → Prop} : ∀ {xs : List α} {vs : List Value} {F : List Nat} {i : Nat} {x : α}, RepL (one R) xs vs F → xs[i]? = some x →
    ∃ v A X B, vs[i]? = some v ∧ F = A ++ (X ++ B) ∧ R x v X ∧ ∀ y Y, R y v Y → RepL (one R) (xs.set i y) vs (A ++ (Y ++ B))
  | [], _, _, _, _, _, h => by simp at h
  | z :: xs, vs, F, 0, x, h, hi => by
    obtain ⟨v1, v2, F1, F2, rfl, rfl, ⟨v, rfl, h1⟩, h2⟩ := h
    simp at hi
    subst hi
    exact ⟨v, [], F1, F2, rfl, rfl, h1, fun y Y hy => ⟨[v], v2, Y, F2, rfl, rfl, ⟨v, rfl, hy⟩, h2⟩⟩
  | z :: xs, vs, F, i + 1, x, h, hi => by
    obtain ⟨v1, v2, F1, F2, rfl, rfl, ⟨v, rfl, h1⟩, h2⟩ := h
    simp at hi
    obtain ⟨u, A, X, B, e1, rfl, e3, e4⟩ := RepL.swap h2 hi
    exact ⟨u, F1 ++ A, X, B, by simpa using e1, by simp, e3, fun y Y hy => ⟨[v], v2, F1, A ++ (Y ++ B), rfl, by simp, ⟨v, rfl, h1⟩, e4 y Y hy⟩⟩

theorem RepL.empty {α : Type} {R : α → List Value → List Nat → Prop} (hR : ∀ x vs G, R x vs G → G = []) : ∀ {xs : List α} {vs : List Value} {F : List Nat}, RepL R xs vs F → F = []
  | [], _, _, h => h.2
  | x :: xs, _, _, h => by
    obtain ⟨v1, v2, F1, F2, rfl, rfl, h1, h2⟩ := h
    rw [hR _ _ _ h1, RepL.empty hR h2]; rfl

/-- A row of the program's own: its elements' rows are such that nobody writes. -/
structure OwnRow (sh : Nat → Prop) (w : World) (τ : Ty) (l : List (D τ)) (g cap : Nat) (ar : Array Value) (ty : TypeId) (fz : Nat × Nat) : Prop where
  heap : w.heap[g]? = some (.cells ar ty fz)
  room : l.length ≤ cap
  size : ar.size = τ.n * cap
  frozen : ∀ i, fz.1 ≤ i → i < fz.2 → ar.size ≤ i
  rep : RepL (fun x vs F => Rep sh w τ .sh x vs F) l (ar.toList.take (τ.n * l.length)) []

theorem OwnRow.val {τ : Ty} {l : D (.sl τ)} {g cap : Nat} {ar : Array Value} {ty : TypeId} {fz : Nat × Nat} (h : OwnRow sh w τ l g cap ar ty fz) :
    ValRep sh w ⟨.sl τ, l⟩ (.own .sh) (.slice (some ⟨g, 0, none⟩) (List.length l) cap) [g] :=
  ⟨[.slice (some ⟨g, 0, none⟩) (List.length l) cap], rfl, some ⟨g, 0, none⟩, cap, rfl, h.room, .inr ⟨g, ar, ty, fz, [], rfl, rfl, h.heap, h.size, h.frozen, h.rep⟩⟩

/-- A row that is owned is nil, or such a row. -/
theorem own_row {τ : Ty} {l : D (.sl τ)} {v : Value} {G : List Nat} (h : ValRep sh w ⟨.sl τ, l⟩ (.own .sh) v G) :
    (∃ ad, v = .slice ad 0 0 ∧ l = [] ∧ G = []) ∨ ∃ g cap ar ty fz, v = .slice (some ⟨g, 0, none⟩) (List.length l) cap ∧ G = [g] ∧ OwnRow sh w τ l g cap ar ty fz := by
  obtain ⟨vs, rfl, ad, cap, rfl, hc, hr⟩ := h
  rcases hr with ⟨h1, h2, h3⟩ | ⟨b, c, ty, fz, F', rfl, rfl, hw, hsz, hz, hr⟩
  · have h1 : l = [] := h1
    subst h1; subst h2; subst h3
    exact .inl ⟨ad, rfl, rfl, rfl⟩
  · have hF := RepL.empty (fun x vs G h => Rep.sh_nil h) hr
    subst hF
    exact .inr ⟨b, cap, c, ty, fz, rfl, rfl, ⟨hw, hc, hsz, hz, hr⟩⟩

theorem act_put_same {i : Nat} {v : Value} (h : a.tmps[i]? = some v) : a.put (some i) v = a := by
  unfold Act.put
  dsimp only
  have : a.tmps.setIfInBounds i v = a.tmps := by
    apply Array.ext_getElem?
    intro j
    by_cases hj : j = i
    · subst hj
      have hlt := (Array.getElem?_eq_some_iff.1 h).1
      simp [hlt] at h ⊢
      exact h.symm
    · rw [Array.getElem?_setIfInBounds_ne (Ne.symm hj)]
  rw [this]

/-- A row is written in place. -/
theorem InvG.setRowS (h : InvG sh0 w0 G0 ρ σ a w sh F β) {r : Nat} {x0 x1 : A} {τ : Ty} {l l1 : D (.sl τ)} {g cap : Nat} {ar ar1 : Array Value} {ty : TypeId} {fz : Nat × Nat} {m : Md}
    (hr : σ.slots[r]? = some (.at x0 m)) (hv : a.tmps[r]? = some (.slice (some ⟨g, 0, none⟩) (List.length l) cap)) (hF : g ∈ F false r) (ho : OwnRow sh w τ l g cap ar ty fz)
    (hl : List.length l1 = List.length l) (hs : ar1.size = ar.size) (hrep : RepL (fun x vs F => Rep sh w τ .sh x vs F) l1 (ar1.toList.take (τ.n * List.length l)) []) (e1 : evA ρ x1 = some ⟨.sl τ, l1⟩) :
    Inv sh0 w0 G0 ρ ((σ.kill (0, r)).putS (r, .at x1 (.own .sh))) a (w.setRow g ar1) := by
  have hlt : r < σ.slots.length := (List.getElem?_eq_some_iff.1 hr).1
  have hown := h.own false r g hF
  have hfor := (h.kill (0, r)).forgetSlot (d := r) killed0
  have hfree : ∀ k j, g ∉ setF F false r [] k j := by
    intro k j
    unfold setF
    split
    · simp
    · rename_i hne
      exact h.disj false r k j (fun e => hne ⟨(congrArg Prod.fst e).symm, (congrArg Prod.snd e).symm⟩) g hF
  have hturn := hfor.turn (w' := w.setRow g ar1) (L := [g]) (sh' := sh) (setRow_ext _ _ _)
    (fun b hb => by
      obtain rfl : b = g := by simpa using hb
      exact ⟨hfree, hown.2.2, hown.1⟩)
    (fun _ h => h) (fun b hb => ⟨by have := h.sh_lt b hb; simpa using this, .inl hb⟩)
  have hlk : r < ((σ.kill (0, r)).putS (r, .undef)).slots.length := by simpa [Sg.putS, setR_eq, Sg.kill, mapR_eq] using hlt
  have hdok : DstOk ((σ.kill (0, r)).putS (r, .undef)) r := by
    refine ⟨hlk, fun y m hy => ?_⟩
    simp only [Sg.putS, setR_eq] at hy
    rw [List.getElem?_set_self (by simpa [Sg.kill, mapR_eq] using hlt)] at hy
    simp at hy
  have hrow : OwnRow sh (w.setRow g ar1) τ l1 g cap ar1 ty fz :=
    { heap := setRow_heap w g ar ar1 ty fz ho.heap
      room := by rw [hl]; exact ho.room
      size := hs.trans ho.size
      frozen := by rw [hs]; exact ho.frozen
      rep := by
        rw [hl]
        exact RepL.imp hrep (fun x vs G hG hh => Rep.frame (fun b hb => ⟨hb, setRow_other w g b ar1 (fun e => hown.2.2 (e ▸ hb))⟩) hh (fun b hb => absurd (hG b hb) (by simp))) }
  have hput := hturn.put (d := r) (s := .at x1 (.own .sh)) (v := .slice (some ⟨g, 0, none⟩) (List.length l) cap) (X := [g]) hdok ⟨_, e1, by rw [← hl]; exact hrow.val⟩ (by simp [roots]) trivial (by simp)
    (fun b hb => by
      obtain rfl : b = g := by simpa using hb
      have := hown
      exact ⟨this.1, by simpa using this.2.1, this.2.2⟩)
    (fun b hb k j _ => by
      obtain rfl : b = g := by simpa using hb
      exact hfree k j)
  rw [act_put_same hv] at hput
  have hσ : { (σ.kill (0, r)).putS (r, .undef) with slots := setR ((σ.kill (0, r)).putS (r, .undef)).slots r (.at x1 (.own .sh)) } = (σ.kill (0, r)).putS (r, .at x1 (.own .sh)) := by
    simp [Sg.putS, setR_eq]
  rw [hσ] at hput
  exact ⟨_, _, _, hput⟩

theorem InvG.setRowB (h : InvG sh0 w0 G0 ρ σ a w sh F β) {r c : Nat} {x0 x1 : A} {cs : List Cell} {τ : Ty} {l l1 : D (.sl τ)} {g cap : Nat} {ar ar1 : Array Value} {ty : TypeId} {fz : Nat × Nat}
    (hr : σ.boxes[r]? = some (some cs)) (hc : cs[c]? = some (some (x0, .own .sh))) (hv : w.cell? ⟨β r, c, none⟩ = some (.slice (some ⟨g, 0, none⟩) (List.length l) cap)) (e0 : evA ρ x0 = some ⟨.sl τ, l⟩) (hne : l ≠ []) (ho : OwnRow sh w τ l g cap ar ty fz)
    (hl : List.length l1 = List.length l) (hs : ar1.size = ar.size) (hrep : RepL (fun x vs F => Rep sh w τ .sh x vs F) l1 (ar1.toList.take (τ.n * List.length l)) []) (e1 : evA ρ x1 = some ⟨.sl τ, l1⟩) :
    Inv sh0 w0 G0 ρ ((σ.kill (2, r)).putB (r, some (cs.set c (some (x1, .own .sh))))) a (w.setRow g ar1) := by
  have hkill := h.kill (2, r)
  obtain ⟨br, bty, F', k1, k2, k3⟩ := hkill.box r cs hr
  obtain ⟨v, A, X, B, q1, rfl, q3, q4⟩ := RepL.swap k3 hc
  have hv' : v = .slice (some ⟨g, 0, none⟩) (List.length l) cap := by
    simp only [World.cell?, k1] at hv
    simp at hv
    exact some_eq' (by simpa using q1) hv
  subst hv'
  obtain ⟨dd, p1, p2, p3⟩ := q3
  obtain rfl := some_eq' e0 p1
  have hX : X = [g] := by
    rcases own_row (l := l) (valRep_atom ⟨p2, p3⟩) with ⟨ad, _, hl0, _⟩ | ⟨g', cap', ar', ty', fz', hv, hX, _⟩
    · exact absurd hl0 hne
    · simp only [Value.slice.injEq, Option.some.injEq, Addr.mk.injEq, and_true, true_and] at hv
      rw [hX, hv.1]
  subst hX
  have hgm : g ∈ F true r := by rw [k2]; simp
  have hown := h.own true r g hgm
  have hnd := h.nodup true r
  rw [k2] at hnd
  have hnd' := List.nodup_cons.1 hnd
  have hmem : ∀ z ∈ β r :: (A ++ ([g] ++ B)), z ∈ F true r := fun z hz => k2 ▸ hz
  have hfor := hkill.forgetBox (r := r) killed2
  have hfree : ∀ z ∈ F true r, ∀ k j, z ∉ setF F true r [] k j := by
    intro z hz k j
    unfold setF
    split
    · simp
    · rename_i hne
      exact h.disj true r k j (fun e => hne ⟨(congrArg Prod.fst e).symm, (congrArg Prod.snd e).symm⟩) z hz
  have hturn := hfor.turn (w' := w.setRow g ar1) (L := [g]) (sh' := sh) (setRow_ext _ _ _)
    (fun b hb => by
      obtain rfl : b = g := by simpa using hb
      exact ⟨hfree _ hgm, hown.2.2, hown.1⟩)
    (fun _ h => h) (fun b hb => ⟨by have := h.sh_lt b hb; simpa using this, .inl hb⟩)
  have hgr : g ≠ β r := fun e => hnd'.1 (by rw [← e]; simp)
  have hABn : g ∉ A ++ B := by
    intro hm
    have h4 := List.nodup_append.1 hnd'.2
    have h5 := List.nodup_cons.1 h4.2.1
    rcases List.mem_append.1 hm with hm | hm
    · exact h4.2.2 g hm g (by simp) rfl
    · exact h5.1 hm
  have hABs : ∀ z, z ∈ A ++ B → z ∈ A ++ ([g] ++ B) := fun z hz => by
    rcases List.mem_append.1 hz with hz | hz
    · exact List.mem_append_left _ hz
    · exact List.mem_append_right _ (List.mem_append_right _ hz)
  have hABnd : (A ++ B).Nodup := hnd'.2.sublist (List.Sublist.append_left (List.sublist_append_right _ _) _)
  have hnone : RepL (one (CellRep sh w ρ)) (cs.set c none) br.toList (A ++ ([] ++ B)) := q4 none [] rfl
  rw [List.nil_append] at hnone
  have hnone' : RepL (one (CellRep sh (w.setRow g ar1) ρ)) (cs.set c none) br.toList (A ++ B) := RepL.imp hnone (fun x vs X hX hh => by
    obtain ⟨u, hu, hR⟩ := hh
    exact ⟨u, hu, hR.frame (fun k hk => ⟨hk, setRow_other w _ _ _ (fun e => hown.2.2 (e ▸ hk))⟩) (fun k hk => setRow_other w _ _ _ (fun e => hABn (e ▸ hX k hk)))⟩)
  have hlt : c < cs.length := (List.getElem?_eq_some_iff.1 hc).1
  obtain ⟨u, A', X', B', s1, s2, s3, s4⟩ := RepL.swap (i := c) (x := none) hnone' (by rw [List.getElem?_set_self hlt])
  have hX' : X' = [] := s3
  subst hX'
  have hu := some_eq' s1 q1
  subst hu
  have hrow : OwnRow sh (w.setRow g ar1) τ l1 g cap ar1 ty fz :=
    { heap := setRow_heap w g ar ar1 ty fz ho.heap
      room := by rw [hl]; exact ho.room
      size := hs.trans ho.size
      frozen := by rw [hs]; exact ho.frozen
      rep := by
        rw [hl]
        exact RepL.imp hrep (fun x vs G hG hh => Rep.frame (fun b hb => ⟨hb, setRow_other w g b ar1 (fun e => hown.2.2 (e ▸ hb))⟩) hh (fun b hb => absurd (hG b hb) (by simp))) }
  have hcell : CellRep sh (w.setRow g ar1) ρ (some (x1, .own .sh)) (.slice (some ⟨g, 0, none⟩) (List.length l) cap) [g] := by
    refine ⟨_, e1, rfl, ?_⟩
    obtain ⟨vs, hvs, hrep⟩ := hrow.val
    obtain ⟨u, rfl⟩ := hrep.single rfl
    rw [← hl]
    have : Value.slice (some ⟨g, 0, none⟩) (List.length l1) cap = u := hvs
    rw [this]; exact hrep
  have hcells := s4 _ _ hcell
  rw [List.set_set] at hcells
  have s2' : A' ++ B' = A ++ B := by simpa using s2.symm
  have hm' : ∀ z, z ∈ A' ++ ([g] ++ B') → z = g ∨ z ∈ A ++ B := by
    intro z hz
    rw [← s2']
    rcases List.mem_append.1 hz with hz | hz
    · exact .inr (List.mem_append_left _ hz)
    · rcases List.mem_append.1 hz with hz | hz
      · exact .inl (by simpa using hz)
      · exact .inr (List.mem_append_right _ hz)
  have hin : ∀ z, z ∈ A' ++ ([g] ++ B') → z ∈ F true r := by
    intro z hz
    rcases hm' z hz with rfl | hz
    · exact hgm
    · exact hmem z (List.mem_cons_of_mem _ (hABs z hz))
  have hnd2 : (A' ++ ([g] ++ B')).Nodup := by
    have hp : (A' ++ ([g] ++ B')).Perm (g :: (A' ++ B')) := List.perm_middle
    rw [hp.nodup_iff, List.nodup_cons, s2']
    exact ⟨hABn, hABnd⟩
  have hbox := hturn.setbox (r := r) (g := β r) (cells := cs.set c (some (x1, .own .sh))) (vs := br.toList) (ty := bty) (X := A' ++ ([g] ++ B'))
    (by simpa [Sg.putB, setR_eq, Sg.kill, mapR_eq] using (List.getElem?_eq_some_iff.1 hr).1) (putB_none_get _ _) (by rw [setRow_other w _ _ _ hgr.symm]; simpa using k1) hcells
    (h.own true r (β r) (hmem _ (by simp))).2.2 (h.own true r (β r) (hmem _ (by simp))).1 (hfree _ (hmem _ (by simp)))
    (List.nodup_cons.2 ⟨fun hb => by
      rcases hm' _ hb with e | hb
      · exact hgr e.symm
      · exact hnd'.1 (hABs _ hb), hnd2⟩)
    (fun z hz => by have := h.own true r z (hin z hz); simpa using this)
    (fun z hz => hfree z (hin z hz)) (.inl rfl)
  rw [putB_putB] at hbox
  exact ⟨_, _, _, hbox⟩

theorem RepL.setAt {α : Type} {R : α → List Value → List Nat → Prop} {n : Nat} (hn : ∀ x vs F, R x vs F → vs.length = n) {y : α} {us : List Value} (hy : R y us []) :
    ∀ {xs : List α} {vs : List Value} {i : Nat}, RepL R xs vs [] → i < xs.length → RepL R (xs.set i y) (vs.take (n * i) ++ us ++ vs.drop (n * i + n)) []
  | [], _, _, _, h => by simp at h
  | x :: xs, vs, 0, h, _ => by
    obtain ⟨v1, v2, F1, F2, rfl, hF, h1, h2⟩ := h
    have hF := List.nil_eq_append_iff.1 hF
    obtain ⟨rfl, rfl⟩ := hF
    have hl := hn _ _ _ h1
    refine ⟨us, v2, [], [], ?_, rfl, hy, h2⟩
    rw [Nat.mul_zero, List.take_zero, List.nil_append, Nat.zero_add, ← hl, List.drop_left]
  | x :: xs, vs, i + 1, h, hi => by
    obtain ⟨v1, v2, F1, F2, rfl, hF, h1, h2⟩ := h
    have hF := List.nil_eq_append_iff.1 hF
    obtain ⟨rfl, rfl⟩ := hF
    have hl := hn _ _ _ h1
    have ih := RepL.setAt hn hy h2 (i := i) (by simpa using hi)
    refine ⟨v1, _, [], [], ?_, rfl, h1, ih⟩
    have e1 : n * (i + 1) = v1.length + n * i := by rw [hl, Nat.mul_add, Nat.mul_one, Nat.add_comm]
    rw [e1, List.take_length_add_append, Nat.add_assoc, List.drop_length_add_append]
    simp [List.append_assoc]

theorem take_set {ar us : List Value} {a n m : Nat} (h : a + us.length ≤ m) (hm : m ≤ ar.length) (hn : us.length = n) :
    (ar.take a ++ us ++ ar.drop (a + n)).take m = (ar.take m).take a ++ us ++ (ar.take m).drop (a + n) := by
  subst hn
  have h1 : (ar.take a ++ us).length = a + us.length := by simp; omega
  rw [List.take_append, h1, List.take_of_length_le (by omega), List.take_take, Nat.min_eq_left (by omega), List.drop_take]

/-- Where an element was written. -/
def ElDone (sh0 : Nat → Prop) (w0 : World) (G0 : List Nat) (ρ : List Dy) (σ : Sg) (a : Act) (w' : World) (x1 : A) (r c : Nat) : Bool → Prop
  | false => Inv sh0 w0 G0 ρ ((σ.kill (0, r)).putS (r, .at x1 (.own .sh))) a w'
  | true => ∀ cs, σ.boxes[r]? = some (some cs) → Inv sh0 w0 G0 ρ ((σ.kill (2, r)).putB (r, some (cs.set c (some (x1, .own .sh))))) a w'

/-- An element is written. -/
theorem InvG.storeEl (h : InvG sh0 w0 G0 ρ σ a w sh F β) {b : Bool} {r c : Nat} {x0 x1 : A} {τ : Ty} {l : D (.sl τ)} {z : D τ} {g len cap n : Nat} {v : Value} {t : TypeId} (hroot : RootIs σ b r c x0 .sh)
    (hhdr : HdrIs w β a.tmps F b r c (.slice (some ⟨g, 0, none⟩) len cap)) (e0 : evA ρ x0 = some ⟨.sl τ, l⟩) (hlt : n < List.length l) (hv : ValRep sh w ⟨τ, z⟩ .sh v []) (hn : P.cellsOf t = τ.n) (h0 : τ.n ≠ 0)
    (e1 : evA ρ x1 = some ⟨.sl τ, List.set l n z⟩) :
    ∃ w', (storeVar t ⟨g, τ.n * n, none⟩ v).run P w = .ok () w' ∧
      ElDone sh0 w0 G0 ρ σ a w' x1 r c b := by
  obtain ⟨dd, G, k1, k2, k3⟩ := root_rep h hroot hhdr
  obtain rfl := some_eq' e0 k1
  have hne : l ≠ [] := by rintro rfl; simp at hlt
  rcases own_row k2 with ⟨_, _, hl0, _⟩ | ⟨g', cap', ar, ty, fz, hvv, hG, ho⟩
  · exact absurd hl0 hne
  simp only [Value.slice.injEq, Option.some.injEq, Addr.mk.injEq, and_true, true_and] at hvv
  obtain ⟨rfl, rfl, rfl⟩ := hvv
  have hr : Rep sh w τ .sh z v.cells.toList [] := valRep_cells hv
  have hlen : v.cells.toList.length = τ.n := hr.len
  have hone := Rep.one' hr
  have hle : τ.n * n + τ.n ≤ τ.n * List.length l := by rw [← Nat.mul_succ]; exact Nat.mul_le_mul_left _ hlt
  have hrl := RepL.len (fun x vs F h => Rep.len h) ho.rep
  have hpos : 0 < τ.n := Nat.pos_of_ne_zero h0
  have hsz : τ.n * List.length l ≤ ar.size := by rw [ho.size]; exact Nat.mul_le_mul_left _ ho.room
  have hst := run_storeCells_fz P g (τ.n * n) ty fz v.cells.toList 0 ar w ho.heap ho.frozen (by omega) hone
  simp only [Nat.add_zero] at hst
  have hrun : (storeVar t ⟨g, τ.n * n, none⟩ v).run P w = .ok () (w.setRow g (ar.toList.take (τ.n * n) ++ v.cells.toList ++ ar.toList.drop (τ.n * n + v.cells.toList.length)).toArray) := by
    unfold storeVar
    have hsz' : v.cells.size = τ.n := by rw [← Array.length_toList, hlen]
    simp only [Sem.run_bind, run_sizeOf' hn h0, Result.andThen_ok, hsz', ne_eq, not_true_eq_false, if_false, Sem.run_pure, hst]
  refine ⟨_, hrun, ?_⟩
  have hs : (ar.toList.take (τ.n * n) ++ v.cells.toList ++ ar.toList.drop (τ.n * n + v.cells.toList.length)).toArray.size = ar.size := by
    rw [hlen]
    simp only [List.size_toArray, List.length_append, List.length_take, List.length_drop, hlen]
    have : ar.toList.length = ar.size := Array.length_toList
    omega
  have hrep : RepL (fun x vs F => Rep sh w τ .sh x vs F) (List.set l n z) ((ar.toList.take (τ.n * n) ++ v.cells.toList ++ ar.toList.drop (τ.n * n + v.cells.toList.length)).toArray.toList.take (τ.n * List.length l)) [] := by
    have := RepL.setAt (R := fun x vs F => Rep sh w τ .sh x vs F) (fun x vs F h => Rep.len h) hr ho.rep hlt
    rw [hlen]
    rw [show ((ar.toList.take (τ.n * n) ++ v.cells.toList ++ ar.toList.drop (τ.n * n + τ.n)).toArray.toList) = ar.toList.take (τ.n * n) ++ v.cells.toList ++ ar.toList.drop (τ.n * n + τ.n) from rfl,
      take_set (by omega) (by simpa using hsz) hlen]
    exact this
  cases b with
  | false => exact h.setRowS hroot hhdr (k3 g (by rw [hG]; simp)) ho (by simp) hs hrep e1
  | true =>
    intro cs hcs
    obtain ⟨cs', h1, h2⟩ := hroot
    obtain rfl : cs' = cs := by rw [hcs] at h1; simpa using h1.symm
    exact h.setRowB hcs h2 hhdr.2 e0 hne ho (by simp) hs hrep e1

end
end Go.Vm
