/- Rows that are owned: written in place, made anew. Lemmas alone, no statement. -/
import Derived.Test.YtecleaangfcloaaVmTake
namespace Go.Vm
set_option linter.unusedVariables false
set_option linter.unusedSimpArgs false
open Go.RowKit

/-- Cells are written into a block whose frozen places lie behind its last cell. -/
theorem run_storeCells_fz (P : Program) (g o : Nat) (t : TypeId) (fz : Nat × Nat) : ∀ (vs : List Value) (i : Nat) (cur : Array Value) (w : World), w.heap[g]? = some (.cells cur t fz) → (∀ i, fz.1 ≤ i → i < fz.2 → cur.size ≤ i) → o + i + vs.length ≤ cur.size → (∀ v ∈ vs, v.oneCell' = true) →
    (storeCells ⟨g, o, none⟩ vs i).run P w = .ok () (w.setRow g (cur.toList.take (o + i) ++ vs ++ cur.toList.drop (o + i + vs.length)).toArray)
  | [], i, cur, w, hg, _, _, _ => by
    simp only [storeCells, List.append_nil, List.length_nil, Nat.add_zero, List.take_append_drop, Array.toArray_toList]
    rw [setRow_self w g cur t fz hg]
    rfl
  | v :: rest, i, cur, w, hg, hfz, hl, h1 => by
    have hi : o + i < cur.size := by simp at hl; omega
    have hadd : (⟨g, o, none⟩ : Addr).add i = ⟨g, o + i, none⟩ := by unfold Addr.add; split <;> simp_all
    have hcell : w.cell? ⟨g, o + i, none⟩ = some cur[o + i] := by simp [World.cell?, hg, hi]
    have hfro : w.frozen? ⟨g, o + i, none⟩ = false := by
      obtain ⟨lo, hi'⟩ := fz
      simp only [World.frozen?, hg, Bool.and_eq_false_iff, decide_eq_false_iff_not]
      rcases Nat.lt_or_ge (o + i) lo with h | h
      · left; omega
      · right
        intro h'
        have := hfz (o + i) h h'
        omega
    have hst : (store ((⟨g, o, none⟩ : Addr).add i) v).run P w = .ok () (w.setRow g (cur.setIfInBounds (o + i) v)) := by
      rw [hadd, run_store P w _ v _ (h1 v (by simp)), hcell]
      simp [hfro, setCell_eq_setRow w g (o + i) cur t fz v hg]
    have ih := run_storeCells_fz P g o t fz rest (i + 1) (cur.setIfInBounds (o + i) v) (w.setRow g (cur.setIfInBounds (o + i) v)) (setRow_heap w g cur _ t _ hg) (by simpa using hfz) (by simp at hl ⊢; omega) (fun x hx => h1 x (by simp [hx]))
    simp only [storeCells, Sem.run_bind, hst, Result.andThen_ok, ih, setRow_setRow]
    congr 3
    have e := list_seg_step cur.toList (o + i) v rest (by simp at hl ⊢; omega)
    simpa [Array.toList_setIfInBounds, Nat.add_assoc] using e

section
variable {P : Program} {C : Nat → Option Sig} {Fn : Fns} {sh0 : Nat → Prop} {w0 : World} {G0 : Frm} {ρ : List Dy} {σ : Sg} {a : Act} {w w' : World}
  {sh : Nat → Prop} {F : Bool → Nat → List Nat} {β : Nat → Nat} {o : Oper} {st : Step} {l : List (Bool × Nat)} {d : Nat} {Q : Exit → Act → World → Prop}

theorem RepL.empty {α : Type} {R : α → List Value → List Nat → Prop} (hR : ∀ x vs G, R x vs G → G = []) : ∀ {xs : List α} {vs : List Value} {F : List Nat}, RepL R xs vs F → F = []
  | [], _, _, h => h.2
  | x :: xs, _, _, h => by
    obtain ⟨v1, v2, F1, F2, rfl, rfl, h1, h2⟩ := h
    rw [hR _ _ _ h1, RepL.empty hR h2]; rfl

theorem RepL.part {α : Type} {R : α → List Value → List Nat → Prop} {n : Nat} (hn : ∀ x vs F, R x vs F → vs.length = n) : ∀ {xs : List α} {vs : List Value} (p q : Nat), RepL R xs vs [] → RepL R ((xs.take q).drop p) ((vs.take (n * q)).drop (n * p)) []
  | [], vs, p, q, h => by
    obtain ⟨rfl, _⟩ := h
    simp [RepL]
  | x :: xs, vs, p, 0, h => by simp [RepL]
  | x :: xs, vs, 0, q + 1, h => by
    obtain ⟨v1, v2, F1, F2, rfl, hF, h1, h2⟩ := h
    obtain ⟨rfl, rfl⟩ := List.nil_eq_append_iff.1 hF
    have hl := hn _ _ _ h1
    have ih := RepL.part hn 0 q h2
    rw [Nat.mul_zero, List.drop_zero, List.drop_zero] at ih ⊢
    rw [List.take_succ_cons, show n * (q + 1) = v1.length + n * q by rw [hl, Nat.mul_add]; omega, List.take_length_add_append]
    exact ⟨v1, _, [], [], rfl, rfl, h1, ih⟩
  | x :: xs, vs, p + 1, q + 1, h => by
    obtain ⟨v1, v2, F1, F2, rfl, hF, h1, h2⟩ := h
    obtain ⟨rfl, rfl⟩ := List.nil_eq_append_iff.1 hF
    have hl := hn _ _ _ h1
    have ih := RepL.part hn p q h2
    rw [List.take_succ_cons, List.drop_succ_cons, show n * (q + 1) = v1.length + n * q by rw [hl, Nat.mul_add]; omega, show n * (p + 1) = v1.length + n * p by rw [hl, Nat.mul_add]; omega, List.take_length_add_append, List.drop_length_add_append]
    exact ih

/-- A row of the program's own; m: its elements' mode, K: what they own. -/
structure OwnRow (sh : Nat → Prop) (w : World) (τ : Ty) (m : Md) (l : List (D τ)) (g cap : Nat) (ar : Array Value) (ty : TypeId) (fz : Nat × Nat) (K : List Nat) : Prop where
  heap : w.heap[g]? = some (.cells ar ty fz)
  room : l.length ≤ cap
  size : ar.size = τ.n * cap
  frozen : FzOk fz ar.size
  rep : RepL (fun x vs F => Rep sh w τ m x vs F) l (ar.toList.take (τ.n * l.length)) K

theorem OwnRow.val {τ : Ty} {m : Md} {l : D (.sl τ)} {g cap : Nat} {ar : Array Value} {ty : TypeId} {fz : Nat × Nat} {K : List Nat} (h : OwnRow sh w τ m l g cap ar ty fz K) :
    ValRep sh w ⟨.sl τ, l⟩ (.own m) (.slice (some ⟨g, 0, none⟩) (List.length l) cap) (g :: K) :=
  ⟨[.slice (some ⟨g, 0, none⟩) (List.length l) cap], rfl, some ⟨g, 0, none⟩, cap, rfl, h.room, .inr ⟨g, ar, ty, fz, K, rfl, rfl, h.heap, h.size, h.frozen, h.rep⟩⟩

/-- A row that is owned is nil, or such a row. -/
theorem own_row {τ : Ty} {m : Md} {l : D (.sl τ)} {v : Value} {G : List Nat} (h : ValRep sh w ⟨.sl τ, l⟩ (.own m) v G) :
    (∃ ad, v = .slice ad 0 0 ∧ l = [] ∧ G = []) ∨ ∃ g cap ar ty fz K, v = .slice (some ⟨g, 0, none⟩) (List.length l) cap ∧ G = g :: K ∧ OwnRow sh w τ m l g cap ar ty fz K := by
  obtain ⟨vs, rfl, ad, cap, rfl, hc, hr⟩ := h
  rcases hr with ⟨h1, h2, h3⟩ | ⟨b, c, ty, fz, F', rfl, rfl, hw, hsz, hz, hr⟩
  · have h1 : l = [] := h1
    subst h1; subst h2; subst h3
    exact .inl ⟨ad, rfl, rfl, rfl⟩
  · exact .inr ⟨b, cap, c, ty, fz, F', rfl, rfl, ⟨hw, hc, hsz, hz, hr⟩⟩

/-- A row is written in place; Y: what was put into it. -/
theorem InvG.setRowS (h : InvG sh0 w0 G0 ρ σ a w sh F β) {r : Nat} {x0 x1 : A} {τ : Ty} {m md : Md} {l l1 : D (.sl τ)} {g cap : Nat} {ar ar1 : Array Value} {ty : TypeId} {fz : Nat × Nat} {K K1 Y : List Nat}
    (hr : σ.slots[r]? = some (.at x0 md)) (hv : a.tmps[r]? = some (.slice (some ⟨g, 0, none⟩) (List.length l) cap)) (hF : ∀ b ∈ g :: K, b ∈ F false r) (ho : OwnRow sh w τ m l g cap ar ty fz K)
    (hl : List.length l1 = List.length l) (hs : ar1.size = ar.size) (hrep : RepL (fun x vs F => Rep sh w τ m x vs F) l1 (ar1.toList.take (τ.n * List.length l)) K1)
    (hY : Free G0 w0 w sh F Y) (hK : ∀ b ∈ K1, b ∈ K ∨ b ∈ Y) (hgK : g ∉ K) (hK1 : K1.Nodup) (e1 : evA ρ x1 = some ⟨.sl τ, l1⟩) :
    Inv sh0 w0 G0 ρ ((σ.kill (5, r)).putS (r, .at x1 (.own m))) a (w.setRow g ar1) := by
  have hlt : r < σ.slots.length := (List.getElem?_eq_some_iff.1 hr).1
  have hown := h.own false r g (hF g (by simp))
  have hfor := (h.kill (0, r)).forgetSlot (d := r) killed0
  have hfree : ∀ b ∈ g :: K, ∀ k j, b ∉ setF F false r [] k j := by
    intro b hb k j
    unfold setF
    split
    · simp
    · rename_i hne
      exact h.disj false r k j (fun e => hne ⟨(congrArg Prod.fst e).symm, (congrArg Prod.snd e).symm⟩) b (hF b hb)
  have hgK1 : g ∉ K1 := by
    intro hm
    rcases hK g hm with h1 | h1
    · exact hgK h1
    · exact hY.out g h1 false r (hF g (by simp))
  have hturn := hfor.turn (w' := w.setRow g ar1) (L := [g]) (sh' := sh) (setRow_ext _ _ _)
    (fun b hb => by
      obtain rfl : b = g := by simpa using hb
      exact ⟨hfree _ (by simp), hown.2.2, hown.1⟩)
    (fun _ h => h) (fun b hb => ⟨by have := h.sh_lt b hb; simpa using this, .inl hb⟩)
  have hlk : r < ((σ.kill (0, r)).putS (r, .undef)).slots.length := by simpa [Sg.putS, setR_eq, Sg.kill, mapR_eq] using hlt
  have hdok : DstOk0 ((σ.kill (0, r)).putS (r, .undef)) r := by
    refine ⟨hlk, fun y hy => ?_⟩
    simp only [Sg.putS, setR_eq] at hy
    rw [List.getElem?_set_self (by simpa [Sg.kill, mapR_eq] using hlt)] at hy
    simp only [Option.some.injEq] at hy
    subst hy; rfl
  have hrow : OwnRow sh (w.setRow g ar1) τ m l1 g cap ar1 ty fz K1 :=
    { heap := setRow_heap w g ar ar1 ty fz ho.heap
      room := by rw [hl]; exact ho.room
      size := hs.trans ho.size
      frozen := by rw [hs]; exact ho.frozen
      rep := by
        rw [hl]
        exact RepL.imp hrep (fun x vs G hG hh => Rep.frame (fun b hb => ⟨hb, setRow_other w g b ar1 (fun e => hown.2.2 (e ▸ hb))⟩) hh (fun b hb => setRow_other w g b ar1 (fun e => hgK1 (e ▸ hG b hb)))) }
  have hput := hturn.put_same (d := r) (s := .at x1 (.own m)) (v := .slice (some ⟨g, 0, none⟩) (List.length l) cap) (X := g :: K1) hdok hv ⟨_, e1, by rw [← hl]; exact hrow.val⟩ (by simp [roots]) trivial (List.nodup_cons.2 ⟨hgK1, hK1⟩)
    (fun b hb => by
      rcases List.mem_cons.1 hb with rfl | hb
      · exact ⟨hown.1, by simpa using hown.2.1, hown.2.2⟩
      · rcases hK b hb with h1 | h1
        · have := h.own false r b (hF b (by simp [h1]))
          exact ⟨this.1, by simpa using this.2.1, this.2.2⟩
        · have := hY.own b h1
          exact ⟨this.1, by simpa using this.2.1, this.2.2⟩)
    (fun b hb k j _ => by
      rcases List.mem_cons.1 hb with rfl | hb
      · exact hfree b (by simp) k j
      · rcases hK b hb with h1 | h1
        · exact hfree b (by simp [h1]) k j
        · unfold setF
          split
          · simp
          · exact hY.out b h1 k j)
  rw [act_put_same hv] at hput
  have hσ : { (σ.kill (0, r)).putS (r, .undef) with slots := setR ((σ.kill (0, r)).putS (r, .undef)).slots r (.at x1 (.own m)) } = (σ.kill (0, r)).putS (r, .at x1 (.own m)) := by
    simp [Sg.putS, setR_eq]
  rw [hσ] at hput
  -- other aliases of the row stay
  refine ⟨_, _, _, hput.revive (l := ((σ.kill (5, r)).putS (r, .at x1 (.own m))).slots) (by simp [Sg.putS, setR_eq, Sg.kill, mapR_eq]) (fun i s hi => ?_) (fun i s hi => ?_)⟩
  · simp only [Sg.putS, setR_eq] at hi ⊢
    by_cases hir : i = r
    · subst hir
      rw [List.getElem?_set_self (by simpa [Sg.kill, mapR_eq] using hlt)] at hi ⊢
      exact .inl hi
    · rw [List.getElem?_set_ne (fun e => hir e.symm)] at hi ⊢
      obtain ⟨t, ht, rfl⟩ := kill_slot hi
      rw [slot_kill ht]
      cases h5 : refers (5, r) t with
      | true =>
        left
        rw [refers0.2 (refers5 h5)]
      | false =>
        cases h0 : refers (0, r) t with
        | false => exact .inl rfl
        | true =>
          right
          refine ⟨rfl, ?_⟩
          obtain ⟨v, hv', hr'⟩ := h.slot i t ht
          refine ⟨v, hv', ?_⟩
          have hro := refers0.1 h0
          cases t with
          | rf b q c ln =>
            simp only [roots, Option.some.injEq, Prod.mk.injEq] at hro
            obtain ⟨rfl, rfl⟩ := hro
            exact ⟨rfl, hr'.2⟩
          | pel b q c m' i' off =>
            simp only [roots, Option.some.injEq, Prod.mk.injEq] at hro
            obtain ⟨rfl, rfl⟩ := hro
            exact ⟨rfl, hr'.2⟩
          | ea x b q c m' i' off nn =>
            simp only [roots, Option.some.injEq, Prod.mk.injEq] at hro
            obtain ⟨rfl, rfl⟩ := hro
            simp [refers, SV.isEl] at h5
          | tp q c => exact ⟨rfl, hr'.2⟩
          | ag q off n => simp [roots] at hro
          | _ => simp [roots] at hro
  · have hst : ({ (σ.kill (0, r)).putS (r, .at x1 (.own m)) with slots := ((σ.kill (5, r)).putS (r, .at x1 (.own m))).slots } : Sg) = (σ.kill (5, r)).putS (r, .at x1 (.own m)) := rfl
    rw [hst]
    simp only [Sg.putS, setR_eq] at hi
    by_cases hir : i = r
    · subst hir
      rw [List.getElem?_set_self (by simpa [Sg.kill, mapR_eq] using hlt)] at hi
      simp only [Option.some.injEq] at hi
      subst hi; trivial
    · rw [List.getElem?_set_ne (fun e => hir e.symm)] at hi
      obtain ⟨t, ht, rfl⟩ := kill_slot hi
      cases h5 : refers (5, r) t with
      | true => trivial
      | false =>
        simp only [Bool.false_eq_true, if_false]
        have hok := h.refs i t ht
        by_cases hro : roots t = some (false, r)
        · have hown2 : ownSlice ((σ.kill (5, r)).putS (r, .at x1 (.own m))).slots[r]? := by
            simp only [Sg.putS, setR_eq]
            rw [List.getElem?_set_self (by simpa [Sg.kill, mapR_eq] using hlt)]
            trivial
          cases t with
          | rf b q c ln =>
            simp only [roots, Option.some.injEq, Prod.mk.injEq] at hro
            obtain ⟨rfl, rfl⟩ := hro
            exact hown2
          | pel b q c m' i' off =>
            simp only [roots, Option.some.injEq, Prod.mk.injEq] at hro
            obtain ⟨rfl, rfl⟩ := hro
            exact hown2
          | ea x b q c m' i' off nn =>
            simp only [roots, Option.some.injEq, Prod.mk.injEq] at hro
            obtain ⟨rfl, rfl⟩ := hro
            simp [refers, SV.isEl] at h5
          | tp q c =>
            simp only [roots, Option.some.injEq, Prod.mk.injEq, true_and] at hro
            subst hro
            obtain ⟨xs, y', m', q1, _⟩ := hok
            rw [hr] at q1; cases q1
          | ag q off n => simp [roots] at hro
          | _ => simp [roots] at hro
        · exact (hok.kill (k := (5, r))).set hro

theorem InvG.setRowB (h : InvG sh0 w0 G0 ρ σ a w sh F β) {r c : Nat} {x1 : A} {cs : List Cell} {τ : Ty} {m : Md} {l l1 : D (.sl τ)} {g cap : Nat} {ar ar1 : Array Value} {ty : TypeId} {fz : Nat × Nat} {K K1 Y A B : List Nat} {br : Array Value} {bty : TypeId}
    (hr : σ.boxes[r]? = some (some cs)) (k1 : w.heap[β r]? = some (.cells br bty (0, 0))) (k2 : F true r = β r :: (A ++ ((g :: K) ++ B)))
    (hq : ∀ y Z, CellRep sh w ρ y (.slice (some ⟨g, 0, none⟩) (List.length l) cap) Z → RepL (one (CellRep sh w ρ)) (cs.set c y) br.toList (A ++ (Z ++ B))) (hc : c < cs.length) (hbc : br.toList[c]? = some (.slice (some ⟨g, 0, none⟩) (List.length l) cap))
    (ho : OwnRow sh w τ m l g cap ar ty fz K)
    (hl : List.length l1 = List.length l) (hs : ar1.size = ar.size) (hrep : RepL (fun x vs F => Rep sh w τ m x vs F) l1 (ar1.toList.take (τ.n * List.length l)) K1)
    (hY : Free G0 w0 w sh F Y) (hK : ∀ b ∈ K1, b ∈ K ∨ b ∈ Y) (hK1 : K1.Nodup) (e1 : evA ρ x1 = some ⟨.sl τ, l1⟩) :
    Inv sh0 w0 G0 ρ ((σ.kill (6, r)).putB (r, some (cs.set c (some (x1, .own m))))) a (w.setRow g ar1) := by
  have hkill := h.kill (2, r)
  have hnd := h.nodup true r
  rw [k2] at hnd
  have hnd' := List.nodup_cons.1 hnd
  have hmem : ∀ z ∈ β r :: (A ++ ((g :: K) ++ B)), z ∈ F true r := fun z hz => k2 ▸ hz
  have hgm : g ∈ F true r := hmem g (by simp)
  have hown := h.own true r g hgm
  have hgr : g ≠ β r := fun e => hnd'.1 (by rw [← e]; simp)
  have hin : ∀ z, z ∈ g :: K → z ∈ A ++ ((g :: K) ++ B) := fun z hz => List.mem_append_right _ (List.mem_append_left _ hz)
  have hgK : g ∉ K := by
    have h4 := List.nodup_append.1 hnd'.2
    have h5 := List.nodup_append.1 h4.2.1
    exact (List.nodup_cons.1 h5.1).1
  have hgK1 : g ∉ K1 := by
    intro hm
    rcases hK g hm with h1 | h1
    · exact hgK h1
    · exact hY.out g h1 true r hgm
  -- the cell is forgotten
  have hnone := hq none [] rfl
  rw [List.nil_append] at hnone
  obtain ⟨F1, hI, tk, f0⟩ := hkill.takeCells killed2 hr k1 k2 hnone
  have f1 := tk.free
  have f2 := tk.sub
  have hgF : ∀ b ∈ g :: K, ∀ k j, b ∉ F1 k j := fun b hb => f1.out b hb
  have hturn := hI.turn (w' := w.setRow g ar1) (L := [g]) (sh' := sh) (setRow_ext _ _ _)
    (fun b hb => by
      obtain rfl : b = g := by simpa using hb
      exact ⟨hgF _ (by simp), hown.2.2, hown.1⟩)
    (fun _ h => h) (fun b hb => ⟨by have := h.sh_lt b hb; simpa using this, .inl hb⟩)
  have hrow : OwnRow sh (w.setRow g ar1) τ m l1 g cap ar1 ty fz K1 :=
    { heap := setRow_heap w g ar ar1 ty fz ho.heap
      room := by rw [hl]; exact ho.room
      size := hs.trans ho.size
      frozen := by rw [hs]; exact ho.frozen
      rep := by
        rw [hl]
        exact RepL.imp hrep (fun x vs G hG hh => Rep.frame (fun b hb => ⟨hb, setRow_other w g b ar1 (fun e => hown.2.2 (e ▸ hb))⟩) hh (fun b hb => setRow_other w g b ar1 (fun e => hgK1 (e ▸ hG b hb)))) }
  have hb2 : ((σ.kill (2, r)).putB (r, some (cs.set c none))).boxes[r]? = some (some (cs.set c none)) := by
    simp only [Sg.putB, setR_eq]
    rw [List.getElem?_set_self (by simpa [Sg.kill] using (List.getElem?_eq_some_iff.1 hr).1)]
  obtain ⟨ar2, ty2, F2, k1', k2', k3'⟩ := hturn.box r _ hb2
  rw [setRow_other w _ _ _ hgr.symm, k1] at k1'
  simp only [Option.some.injEq, Obj.cells.injEq] at k1'
  obtain ⟨rfl, rfl, _⟩ := k1'
  obtain ⟨u, A', X', B', s1, rfl, s3, s4⟩ := RepL.swap (i := c) (x := none) k3' (by rw [List.getElem?_set_self hc])
  have hX' : X' = [] := s3
  subst hX'
  obtain rfl := some_eq' s1 hbc
  have hcell : CellRep sh (w.setRow g ar1) ρ (some (x1, .own m)) (.slice (some ⟨g, 0, none⟩) (List.length l) cap) (g :: K1) := by
    refine ⟨_, e1, rfl, ?_⟩
    obtain ⟨vs, hvs, hrep⟩ := hrow.val
    obtain ⟨u, rfl⟩ := hrep.single rfl
    rw [← hl]
    have : Value.slice (some ⟨g, 0, none⟩) (List.length l1) cap = u := hvs
    rw [this]; exact hrep
  have hcells := s4 _ _ hcell
  rw [List.set_set] at hcells
  -- what it owns now
  have hAB : ∀ z, z ∈ A' ++ ([] ++ B') → z ∈ F1 true r := fun z hz => by rw [k2']; exact List.mem_cons_of_mem _ hz
  have hABz : ∀ z, z ∈ A' ++ ([] ++ B') → z ∉ g :: K1 := by
    intro z hz hm
    rcases List.mem_cons.1 hm with rfl | hm
    · exact hgF z (by simp) true r (hAB z hz)
    · rcases hK z hm with h1 | h1
      · exact hgF z (by simp [h1]) true r (hAB z hz)
      · exact hY.out z h1 true r (f2 true r z (hAB z hz))
  have hnd1 := hturn.nodup true r
  rw [k2'] at hnd1
  have hnd1' := List.nodup_cons.1 hnd1
  have hndAB : (A' ++ B').Nodup := by simpa using hnd1'.2
  have hnd2 : (A' ++ ((g :: K1) ++ B')).Nodup := by
    have h4 := List.nodup_append.1 hndAB
    refine List.nodup_append.2 ⟨h4.1, List.nodup_append.2 ⟨List.nodup_cons.2 ⟨hgK1, hK1⟩, h4.2.1, fun x hx y hy e => ?_⟩, fun x hx y hy e => ?_⟩
    · subst e; exact hABz x (by simp [hy]) hx
    · subst e
      rcases List.mem_append.1 hy with hy | hy
      · exact hABz x (by simp [hx]) hy
      · exact h4.2.2 x hx x hy rfl
  have hbr : ∀ z, z ∈ A' ++ ((g :: K1) ++ B') → z ≠ β r := by
    rintro z hz rfl
    rcases List.mem_append.1 hz with hz | hz
    · exact hnd1'.1 (List.mem_append_left _ hz)
    · rcases List.mem_append.1 hz with hz | hz
      · rcases List.mem_cons.1 hz with e | hz
        · exact hgr e.symm
        · rcases hK _ hz with h1 | h1
          · exact hnd'.1 (hin _ (by simp [h1]))
          · exact hY.out _ h1 true r (hmem _ (by simp))
      · exact hnd1'.1 (List.mem_append_right _ (List.mem_append_right _ hz))
  have hall : ∀ z ∈ A' ++ ((g :: K1) ++ B'), (z ∈ A' ++ ([] ++ B')) ∨ z ∈ g :: K ∨ z ∈ Y := by
    intro z hz
    rcases List.mem_append.1 hz with hz | hz
    · exact .inl (List.mem_append_left _ hz)
    · rcases List.mem_append.1 hz with hz | hz
      · rcases List.mem_cons.1 hz with rfl | hz
        · exact .inr (.inl (by simp))
        · rcases hK z hz with h1 | h1
          · exact .inr (.inl (by simp [h1]))
          · exact .inr (.inr h1)
      · exact .inl (List.mem_append_right _ (by simpa using hz))
  have hfor := hturn.forgetBox (r := r) (fun i s hi => killed2 i s hi)
  have hfree : ∀ z ∈ F1 true r, ∀ k j, z ∉ setF F1 true r [] k j := by
    intro z hz k j
    unfold setF
    split
    · simp
    · rename_i hne
      exact hturn.disj true r k j (fun e => hne ⟨(congrArg Prod.fst e).symm, (congrArg Prod.snd e).symm⟩) z hz
  have hbF : β r ∈ F1 true r := by rw [k2']; simp
  have hbox := hfor.setbox (r := r) (g := β r) (cells := cs.set c (some (x1, .own m))) (vs := br.toList) (ty := bty) (X := A' ++ ((g :: K1) ++ B'))
    (by simpa [Sg.putB, setR_eq, Sg.kill, mapR_eq] using (List.getElem?_eq_some_iff.1 hr).1) (putB_none_get _ _) (by rw [setRow_other w _ _ _ hgr.symm]; simpa using k1) hcells
    (hturn.own true r (β r) hbF).2.2 (hturn.own true r (β r) hbF).1 (hfree _ hbF)
    (List.nodup_cons.2 ⟨fun hb => hbr _ hb rfl, hnd2⟩)
    (fun z hz => by
      rcases hall z hz with h1 | h1 | h1
      · exact hturn.own true r z (hAB z h1)
      · have := f1.own z h1; exact ⟨this.1, by simpa using this.2.1, this.2.2⟩
      · have := hY.own z h1; exact ⟨this.1, by simpa using this.2.1, this.2.2⟩)
    (fun z hz k j => by
      rcases hall z hz with h1 | h1 | h1
      · exact hfree z (hAB z h1) k j
      · unfold setF
        split
        · simp
        · exact hgF z h1 k j
      · unfold setF
        split
        · simp
        · exact fun hm => hY.out z h1 k j (f2 k j z hm)) (.inl rfl)
    (fun p hp => by
      obtain ⟨ty', h1⟩ := h.keepB r p hp cs hr
      rw [k1] at h1
      simp only [Option.some.injEq, Obj.cells.injEq] at h1
      simpa using h1.1)
  rw [putB_putB, putB_putB] at hbox
  have hβ : (fun i => if i = r then β r else β i) = β := by funext i; split <;> simp_all
  rw [hβ] at hbox
  have hFr : ∀ {F3 : Bool → Nat → List Nat} {Z : List Nat}, β r ∈ setF F3 true r (β r :: Z) true r := by intro F3 Z; rw [setF_same]; simp
  -- other aliases of the box stay
  refine ⟨_, _, _, hbox.revive (l := ((σ.kill (6, r)).putB (r, some (cs.set c (some (x1, .own m))))).slots) (by simp [Sg.putB, setR_eq, Sg.kill, mapR_eq]) (fun i s hi => ?_) (fun i s hi => ?_)⟩
  · have hi : (σ.kill (6, r)).slots[i]? = some s := hi
    show (σ.kill (2, r)).slots[i]? = some s ∨ ((σ.kill (2, r)).slots[i]? = some .undef ∧ _)
    obtain ⟨t, ht, rfl⟩ := kill_slot hi
    rw [slot_kill ht]
    cases h5 : refers (6, r) t with
    | true =>
      left
      rw [refers2.2 (refers6 h5)]
    | false =>
      cases h0 : refers (2, r) t with
      | false => exact .inl rfl
      | true =>
        right
        refine ⟨rfl, ?_⟩
        obtain ⟨v, hv', hr'⟩ := h.slot i t ht
        refine ⟨v, hv', ?_⟩
        have hro := refers2.1 h0
        cases t with
        | rf b q c' ln =>
          simp only [roots, Option.some.injEq, Prod.mk.injEq] at hro
          obtain ⟨rfl, rfl⟩ := hro
          exact ⟨rfl, ⟨hFr, by have := hr'.2.1.2; simp only [World.cell?] at this ⊢; rw [setRow_other w _ _ _ hgr.symm]; exact this⟩, hr'.2.2⟩
        | pel b q c' m' i' off =>
          simp only [roots, Option.some.injEq, Prod.mk.injEq] at hro
          obtain ⟨rfl, rfl⟩ := hro
          obtain ⟨_, g', len', cap', k', n', p1, p2⟩ := hr'
          exact ⟨rfl, g', len', cap', k', n', ⟨hFr, by have := p1.2; simp only [World.cell?] at this ⊢; rw [setRow_other w _ _ _ hgr.symm]; exact this⟩, p2⟩
        | ea x b q c' m' i' off nn =>
          simp only [roots, Option.some.injEq, Prod.mk.injEq] at hro
          obtain ⟨rfl, rfl⟩ := hro
          simp [refers, SV.isEl] at h5
        | ag q off n =>
          simp only [roots, Option.some.injEq, Prod.mk.injEq, true_and] at hro
          subst hro
          obtain ⟨_, _, c', ty', fz', p1, p2⟩ := hr'
          exact ⟨rfl, hFr, c', ty', fz', by rw [setRow_other w _ _ _ hgr.symm]; exact p1, p2⟩
        | tp q c' => simp [roots] at hro
        | _ => simp [roots] at hro
  · have hst : ({ (σ.kill (2, r)).putB (r, some (cs.set c (some (x1, .own m)))) with slots := ((σ.kill (6, r)).putB (r, some (cs.set c (some (x1, .own m))))).slots } : Sg) = (σ.kill (6, r)).putB (r, some (cs.set c (some (x1, .own m)))) := rfl
    rw [hst]
    have hi : (σ.kill (6, r)).slots[i]? = some s := hi
    obtain ⟨t, ht, rfl⟩ := kill_slot hi
    cases h5 : refers (6, r) t with
    | true => trivial
    | false =>
      simp only [Bool.false_eq_true, if_false]
      have hok := h.refs i t ht
      have hbx : ((σ.kill (6, r)).putB (r, some (cs.set c (some (x1, .own m))))).boxes[r]? = some (some (cs.set c (some (x1, .own m)))) := by
        simp only [Sg.putB, setR_eq]
        rw [List.getElem?_set_self (by simpa [Sg.kill] using (List.getElem?_eq_some_iff.1 hr).1)]
      have hoc : ∀ c' : Nat, ownCell cs[c']? → ownCell (cs.set c (some (x1, .own m)))[c']? := by
        intro c' h'
        by_cases hcc : c = c'
        · subst hcc
          rw [List.getElem?_set_self hc]
          trivial
        · rw [List.getElem?_set_ne hcc]; exact h'
      by_cases hro : roots t = some (true, r)
      · cases t with
        | rf b q c' ln =>
          simp only [roots, Option.some.injEq, Prod.mk.injEq] at hro
          obtain ⟨rfl, rfl⟩ := hro
          obtain ⟨cs', p1, p2⟩ := hok
          rw [hr] at p1
          simp only [Option.some.injEq] at p1
          subst p1
          exact ⟨_, hbx, hoc c' p2⟩
        | pel b q c' m' i' off =>
          simp only [roots, Option.some.injEq, Prod.mk.injEq] at hro
          obtain ⟨rfl, rfl⟩ := hro
          obtain ⟨cs', p1, p2⟩ := hok
          rw [hr] at p1
          simp only [Option.some.injEq] at p1
          subst p1
          exact ⟨_, hbx, hoc c' p2⟩
        | ea x b q c' m' i' off nn =>
          simp only [roots, Option.some.injEq, Prod.mk.injEq] at hro
          obtain ⟨rfl, rfl⟩ := hro
          simp [refers, SV.isEl] at h5
        | ag q off n =>
          simp only [roots, Option.some.injEq, Prod.mk.injEq, true_and] at hro
          subst hro
          exact ⟨_, hbx, List.any_eq_true.2 ⟨some (x1, .own m), List.mem_of_getElem? (by rw [List.getElem?_set_self hc]), rfl⟩⟩
        | tp q c' => simp [roots] at hro
        | _ => simp [roots] at hro
      · exact (hok.kill (k := (6, r))).setB hro

theorem RepL.setAt {α : Type} {R : α → List Value → List Nat → Prop} {n : Nat} (hn : ∀ x vs F, R x vs F → vs.length = n) :
    ∀ {xs : List α} {vs : List Value} {F : List Nat} {i : Nat} {x : α}, RepL R xs vs F → xs[i]? = some x → ∃ A G B, F = A ++ (G ++ B) ∧ R x ((vs.drop (n * i)).take n) G ∧
      ∀ y us Y, R y us Y → RepL R (xs.set i y) (vs.take (n * i) ++ us ++ vs.drop (n * i + n)) (A ++ (Y ++ B))
  | [], _, _, _, _, _, h => by simp at h
  | x :: xs, vs, F, 0, x', h, hi => by
    obtain ⟨v1, v2, F1, F2, rfl, rfl, h1, h2⟩ := h
    have hl := hn _ _ _ h1
    simp at hi
    subst hi
    refine ⟨[], F1, F2, rfl, ?_, fun y us Y hy => ⟨us, v2, Y, F2, ?_, rfl, hy, h2⟩⟩
    · rw [Nat.mul_zero, List.drop_zero, List.take_append_of_le_length (by omega), List.take_of_length_le (by omega)]
      exact h1
    · rw [Nat.mul_zero, List.take_zero, List.nil_append, Nat.zero_add, ← hl, List.drop_left]
  | x :: xs, vs, F, i + 1, x', h, hi => by
    obtain ⟨v1, v2, F1, F2, rfl, rfl, h1, h2⟩ := h
    have hl := hn _ _ _ h1
    simp at hi
    obtain ⟨A, G, B, rfl, k1, k2⟩ := RepL.setAt hn h2 hi
    have e1 : n * (i + 1) = v1.length + n * i := by rw [hl, Nat.mul_add, Nat.mul_one, Nat.add_comm]
    refine ⟨F1 ++ A, G, B, by simp, ?_, fun y us Y hy => ⟨v1, _, F1, A ++ (Y ++ B), ?_, by simp, h1, k2 y us Y hy⟩⟩
    · rw [e1, List.drop_length_add_append]; exact k1
    · rw [e1, List.take_length_add_append, Nat.add_assoc, List.drop_length_add_append]
      simp [List.append_assoc]

theorem take_set {ar us : List Value} {a n m : Nat} (h : a + us.length ≤ m) (hm : m ≤ ar.length) (hn : us.length = n) :
    (ar.take a ++ us ++ ar.drop (a + n)).take m = (ar.take m).take a ++ us ++ (ar.take m).drop (a + n) := by
  subst hn
  have h1 : (ar.take a ++ us).length = a + us.length := by simp; omega
  rw [List.take_append, h1, List.take_of_length_le (by omega), List.take_take, Nat.min_eq_left (by omega), List.drop_take]

/-- Where an element was written. -/
def ElDone (sh0 : Nat → Prop) (w0 : World) (G0 : Frm) (ρ : List Dy) (σ : Sg) (a : Act) (w' : World) (x1 : A) (m : Md) (r c : Nat) : Bool → Prop
  | false => Inv sh0 w0 G0 ρ ((σ.kill (5, r)).putS (r, .at x1 (.own m))) a w'
  | true => ∀ cs, σ.boxes[r]? = some (some cs) → Inv sh0 w0 G0 ρ ((σ.kill (6, r)).putB (r, some (cs.set c (some (x1, .own m))))) a w'

/-- Cells of an element are written: us, from off on; the element is z then. -/
theorem OwnRow.store {τ : Ty} {m : Md} {l : D (.sl τ)} {y z : D τ} {g cap n off : Nat} {v : Value} {t : TypeId} {us : List Value} {K Y : List Nat} {ar : Array Value} {ty : TypeId} {fz : Nat × Nat}
    (ho : OwnRow sh w τ m l g cap ar ty fz K) (hy : l[n]? = some y) (hv : v.cells.toList = us) (hone : ∀ u ∈ us, u.oneCell' = true) (hn : P.cellsOf t = us.length) (hu0 : us.length ≠ 0) (hoff : off + us.length ≤ τ.n)
    (hYn : Y.Nodup) (hYK : ∀ z ∈ K, z ∉ Y) (hKn : K.Nodup)
    (hz : ∀ vs G, Rep sh w τ m y vs G → ∃ A X B, G = A ++ (X ++ B) ∧ Rep sh w τ m z (vs.take off ++ us ++ vs.drop (off + us.length)) (A ++ (Y ++ B))) :
    ∃ ar1 K1, (storeVar t ⟨g, τ.n * n + off, none⟩ v).run P w = .ok () (w.setRow g ar1) ∧ ar1.size = ar.size ∧
      RepL (fun x vs F => Rep sh w τ m x vs F) (List.set l n z) (ar1.toList.take (τ.n * List.length l)) K1 ∧ (∀ b ∈ K1, b ∈ K ∨ b ∈ Y) ∧ K1.Nodup := by
  have hlt : n < List.length l := (List.getElem?_eq_some_iff.1 hy).1
  have hle : τ.n * n + τ.n ≤ τ.n * List.length l := by rw [← Nat.mul_succ]; exact Nat.mul_le_mul_left _ hlt
  have hrl := RepL.len (fun x vs F h => Rep.len h) ho.rep
  have hsz : τ.n * List.length l ≤ ar.size := by rw [ho.size]; exact Nat.mul_le_mul_left _ ho.room
  have hst := run_storeCells_fz P g (τ.n * n + off) ty fz us 0 ar w ho.heap ho.frozen.all (by omega) hone
  simp only [Nat.add_zero] at hst
  have hrun : (storeVar t ⟨g, τ.n * n + off, none⟩ v).run P w = .ok () (w.setRow g (ar.toList.take (τ.n * n + off) ++ us ++ ar.toList.drop (τ.n * n + off + us.length)).toArray) := by
    unfold storeVar
    have hsz' : v.cells.size = us.length := by rw [← Array.length_toList, hv]
    simp only [Sem.run_bind, run_sizeOf' hn hu0, Result.andThen_ok, hsz', ne_eq, not_true_eq_false, if_false, Sem.run_pure, hv, hst]
  have hsl : ar.toList.length = ar.size := Array.length_toList
  have hs : (ar.toList.take (τ.n * n + off) ++ us ++ ar.toList.drop (τ.n * n + off + us.length)).toArray.size = ar.size := by
    simp only [List.size_toArray, List.length_append, List.length_take, List.length_drop]
    omega
  obtain ⟨A, Gn, B, rfl, q1, q2⟩ := RepL.setAt (fun x vs F h => Rep.len h) ho.rep hy
  obtain ⟨A2, X2, B2, rfl, q3⟩ := hz _ _ q1
  have hrep := q2 _ _ _ q3
  -- the cells, as they stand now
  have hcells : ((ar.toList.take (τ.n * n + off) ++ us ++ ar.toList.drop (τ.n * n + off + us.length)).toArray.toList.take (τ.n * List.length l)) =
      (ar.toList.take (τ.n * List.length l)).take (τ.n * n) ++ ((((ar.toList.take (τ.n * List.length l)).drop (τ.n * n)).take τ.n).take off ++ us ++ (((ar.toList.take (τ.n * List.length l)).drop (τ.n * n)).take τ.n).drop (off + us.length)) ++ (ar.toList.take (τ.n * List.length l)).drop (τ.n * n + τ.n) := by
    rw [show ((ar.toList.take (τ.n * n + off) ++ us ++ ar.toList.drop (τ.n * n + off + us.length)).toArray.toList) = ar.toList.take (τ.n * n + off) ++ us ++ ar.toList.drop (τ.n * n + off + us.length) from rfl, take_set (by omega) (by omega) rfl]
    have hX : (ar.toList.take (τ.n * List.length l)).length = τ.n * List.length l := by rw [List.length_take]; omega
    generalize ar.toList.take (τ.n * List.length l) = L at hX ⊢
    have e1 : L.take (τ.n * n + off) = L.take (τ.n * n) ++ ((L.drop (τ.n * n)).take τ.n).take off := by
      rw [List.take_take, Nat.min_eq_left (by omega), ← List.take_add]
    have e2 : L.drop (τ.n * n + off + us.length) = ((L.drop (τ.n * n)).take τ.n).drop (off + us.length) ++ L.drop (τ.n * n + τ.n) := by
      rw [List.drop_take, List.drop_drop]
      have : L.drop (τ.n * n + τ.n) = (L.drop (τ.n * n + (off + us.length))).drop (τ.n - (off + us.length)) := by
        rw [List.drop_drop]; congr 1; omega
      rw [this, List.take_append_drop, Nat.add_assoc]
    rw [e1, e2]
    simp [List.append_assoc]
  refine ⟨_, _, hrun, hs, by rw [hcells]; exact hrep, fun z hz => ?_, ?_⟩
  · simp only [List.mem_append] at hz ⊢
    rcases hz with h1 | ((h1 | (h1 | h1)) | h1)
    · exact .inl (.inl h1)
    · exact .inl (.inr (.inl (.inl h1)))
    · exact .inr h1
    · exact .inl (.inr (.inl (.inr (.inr h1))))
    · exact .inl (.inr (.inr h1))
  · have hd : ∀ z ∈ Y, z ∉ A ∧ z ∉ A2 ∧ z ∉ B2 ∧ z ∉ B := by
      intro z hz
      refine ⟨fun hm => hYK z (by simp [hm]) hz, fun hm => hYK z (by simp [hm]) hz, fun hm => hYK z (by simp [hm]) hz, fun hm => hYK z (by simp [hm]) hz⟩
    simp only [List.nodup_append, List.mem_append] at hKn ⊢
    grind

/-- An element is written. -/
theorem InvG.storeEl (h : InvG sh0 w0 G0 ρ σ a w sh F β) {b : Bool} {r c : Nat} {x0 x1 : A} {τ : Ty} {m : Md} {l : D (.sl τ)} {y z : D τ} {g len cap n off : Nat} {v : Value} {t : TypeId} {us : List Value} {Y : List Nat} (hroot : RootIs σ b r c x0 m)
    (hhdr : HdrIs w β a.tmps F b r c (.slice (some ⟨g, 0, none⟩) len cap)) (e0 : evA ρ x0 = some ⟨.sl τ, l⟩) (hy : l[n]? = some y)
    (hY : Free G0 w0 w sh F Y) (hv : v.cells.toList = us) (hone : ∀ u ∈ us, u.oneCell' = true) (hn : P.cellsOf t = us.length) (hu0 : us.length ≠ 0) (hoff : off + us.length ≤ τ.n)
    (hz : ∀ vs G, Rep sh w τ m y vs G → ∃ A X B, G = A ++ (X ++ B) ∧ Rep sh w τ m z (vs.take off ++ us ++ vs.drop (off + us.length)) (A ++ (Y ++ B)))
    (e1 : evA ρ x1 = some ⟨.sl τ, List.set l n z⟩) :
    ∃ w', (storeVar t ⟨g, τ.n * n + off, none⟩ v).run P w = .ok () w' ∧
      ElDone sh0 w0 G0 ρ σ a w' x1 m r c b := by
  have hlt : n < List.length l := (List.getElem?_eq_some_iff.1 hy).1
  have hne : l ≠ [] := by rintro rfl; simp at hlt
  cases b with
  | false =>
    obtain ⟨u, hu, d', f1, f2⟩ := h.slot r _ hroot
    obtain rfl := some_eq' f1 e0
    have hu' := some_eq' hu hhdr
    subst hu'
    rcases own_row f2 with ⟨_, _, hl0, _⟩ | ⟨g', cap', ar, ty, fz, K, hvv, hG, ho⟩
    · exact absurd hl0 hne
    simp only [Value.slice.injEq, Option.some.injEq, Addr.mk.injEq, and_true, true_and] at hvv
    obtain ⟨rfl, rfl, rfl⟩ := hvv
    have hnd := h.nodup false r
    rw [hG] at hnd
    have hnd' := List.nodup_cons.1 hnd
    have hin : ∀ b ∈ g :: K, b ∈ F false r := fun b hb => by rw [hG]; exact hb
    obtain ⟨ar1, K1, s1, s2, s3, s4, s5⟩ := ho.store (P := P) (t := t) hy hv hone hn hu0 hoff hY.nd (fun z hz hm => hY.out z hm false r (hin z (List.mem_cons_of_mem _ hz))) hnd'.2 hz
    exact ⟨_, s1, h.setRowS hroot hhdr hin ho (by simp) s2 s3 hY s4 hnd'.1 s5 e1⟩
  | true =>
    obtain ⟨cs, h1, h2⟩ := hroot
    obtain ⟨br, bty, F', k1, k2, k3⟩ := h.box r cs h1
    obtain ⟨v0, A, X, B, q1, rfl, q3, q4⟩ := RepL.swap k3 h2
    have hv' : v0 = .slice (some ⟨g, 0, none⟩) len cap := by
      have hc := hhdr.2
      simp only [World.cell?, k1] at hc
      simp at hc
      exact some_eq' (by simpa using q1) hc
    subst hv'
    obtain ⟨dd, p1, p2, p3⟩ := q3
    obtain rfl := some_eq' e0 p1
    rcases own_row (valRep_atom ⟨p2, p3⟩) with ⟨_, _, hl0, _⟩ | ⟨g', cap', ar, ty, fz, K, hvv, hG, ho⟩
    · exact absurd hl0 hne
    simp only [Value.slice.injEq, Option.some.injEq, Addr.mk.injEq, and_true, true_and] at hvv
    obtain ⟨rfl, rfl, rfl⟩ := hvv
    subst hG
    have hin : ∀ b ∈ g :: K, b ∈ F true r := fun b hb => by
      rw [k2]; exact List.mem_cons_of_mem _ (List.mem_append_right _ (List.mem_append_left _ hb))
    have hnd := h.nodup true r
    rw [k2] at hnd
    have h4 := List.nodup_append.1 (List.nodup_cons.1 hnd).2
    have h5 := List.nodup_append.1 h4.2.1
    have hnd' := List.nodup_cons.1 h5.1
    obtain ⟨ar1, K1, s1, s2, s3, s4, s5⟩ := ho.store (P := P) (t := t) hy hv hone hn hu0 hoff hY.nd (fun z hz hm => hY.out z hm true r (hin z (List.mem_cons_of_mem _ hz))) hnd'.2 hz
    refine ⟨_, s1, fun cs' hcs => ?_⟩
    obtain rfl : cs = cs' := by rw [hcs] at h1; simpa using h1.symm
    exact h.setRowB h1 k1 k2 q4 (List.getElem?_eq_some_iff.1 h2).1 q1 ho (by simp) s2 s3 hY s4 s5 e1

end
end Go.Vm
