/- A value is taken, or read for good. Lemmas alone, no statement. -/
import Derived.Test.YtecleaangfcloaaVmFine
namespace Go.Vm
set_option linter.unusedVariables false
set_option linter.unusedSimpArgs false
open Go.RowKit

section
variable {P : Program} {C : Nat → Option Sig} {Fn : Fns} {sh0 : Nat → Prop} {w0 : World} {G0 : Frm} {ρ : List Dy} {σ : Sg} {a : Act} {w w' : World}
  {sh sh' : Nat → Prop} {F : Bool → Nat → List Nat} {β : Nat → Nat} {o : Oper} {st : Step} {l : List (Bool × Nat)} {d : Nat} {Q : Exit → Act → World → Prop}

theorem act_put_same {i : Nat} {v : Value} (h : a.tmps[i]? = some v) : a.put (some i) v = a := by
  unfold Act.put
  dsimp only
  have : a.tmps.setIfInBounds i v = a.tmps := by
    apply Array.ext_getElem?
    intro j
    by_cases hj : j = i
    · subst hj
      have hlt := (Array.getElem?_eq_some_iff.1 h).1
      simp [hlt] at h ⊢
      exact h.symm
    · rw [Array.getElem?_setIfInBounds_ne (Ne.symm hj)]
  rw [this]

theorem RepL.swap {α : Type} {R : α → Value → List Nat → Prop} : ∀ {xs : List α} {vs : List Value} {F : List Nat} {i : Nat} {x : α}, RepL (one R) xs vs F → xs[i]? = some x →
    ∃ v A X B, vs[i]? = some v ∧ F = A ++ (X ++ B) ∧ R x v X ∧ ∀ y Y, R y v Y → RepL (one R) (xs.set i y) vs (A ++ (Y ++ B))
  | [], _, _, _, _, _, h => by simp at h
  | z :: xs, vs, F, 0, x, h, hi => by
    obtain ⟨v1, v2, F1, F2, rfl, rfl, ⟨v, rfl, h1⟩, h2⟩ := h
    simp at hi
    subst hi
    exact ⟨v, [], F1, F2, rfl, rfl, h1, fun y Y hy => ⟨[v], v2, Y, F2, rfl, rfl, ⟨v, rfl, hy⟩, h2⟩⟩
  | z :: xs, vs, F, i + 1, x, h, hi => by
    obtain ⟨v1, v2, F1, F2, rfl, rfl, ⟨v, rfl, h1⟩, h2⟩ := h
    simp at hi
    obtain ⟨u, A, X, B, e1, rfl, e3, e4⟩ := RepL.swap h2 hi
    exact ⟨u, F1 ++ A, X, B, by simpa using e1, by simp, e3, fun y Y hy => ⟨[v], v2, F1, A ++ (Y ++ B), rfl, by simp, ⟨v, rfl, h1⟩, e4 y Y hy⟩⟩

theorem RepL.empty' {n : Nat} : ∀ {vs : List Value} {X : List Nat}, RepL (one (CellRep sh w ρ)) (List.replicate n none) vs X → X = [] := by
  induction n with
  | zero => intro vs X h; exact h.2
  | succ n ih =>
    intro vs X h
    obtain ⟨v1, v2, F1, F2, rfl, rfl, ⟨v, rfl, h1⟩, h2⟩ := h
    have h1 : F1 = [] := h1
    rw [h1, ih h2]; rfl

/-- What was taken, and is no one's. -/
structure Free (G0 : Frm) (w0 : World) (w : World) (sh : Nat → Prop) (F : Bool → Nat → List Nat) (X : List Nat) : Prop where
  nd : X.Nodup
  own : ∀ b ∈ X, (b ∈ G0 ∨ w0.heap.size ≤ b) ∧ b < w.heap.size ∧ ¬ sh b
  out : ∀ b ∈ X, ∀ i j, b ∉ F i j

/-- What a taking does: F' is left, X is no one's, more may be such that nobody writes. -/
structure Took (G0 : Frm) (w0 : World) (w : World) (sh : Nat → Prop) (F : Bool → Nat → List Nat) (sh' : Nat → Prop) (F' : Bool → Nat → List Nat) (X : List Nat) : Prop where
  mono : ∀ b, sh b → sh' b
  new : ∀ b, sh' b → sh b ∨ ∃ i j, b ∈ F i j
  sub : ∀ i j, ∀ b ∈ F' i j, b ∈ F i j
  free : Free G0 w0 w sh' F' X
  src : ∀ b ∈ X, ∃ i j, b ∈ F i j

theorem Took.keep {sh2 : Nat → Prop} {F2 : Bool → Nat → List Nat} {X Y : List Nat} (h : Took G0 w0 w sh F sh2 F2 X) (hY : Free G0 w0 w sh F Y) : Free G0 w0 w sh2 F2 Y ∧ (∀ b ∈ Y, b ∉ X) :=
  ⟨⟨hY.nd, fun b hb => ⟨(hY.own b hb).1, (hY.own b hb).2.1, fun hs => by
      rcases h.new b hs with h1 | ⟨i, j, h1⟩
      · exact (hY.own b hb).2.2 h1
      · exact hY.out b hb i j h1⟩, fun b hb i j hm => hY.out b hb i j (h.sub i j b hm)⟩,
   fun b hb hx => by
    obtain ⟨i, j, h1⟩ := h.src b hx
    exact hY.out b hb i j h1⟩

theorem Took.refl : Took G0 w0 w sh F sh F [] := ⟨fun _ h => h, fun _ h => .inl h, fun _ _ _ h => h, ⟨by simp, by simp, by simp⟩, by simp⟩

theorem Took.trans {sh2 sh3 : Nat → Prop} {F2 F3 : Bool → Nat → List Nat} {X Y : List Nat} (h : Took G0 w0 w sh F sh2 F2 X) (k : Took G0 w0 w sh2 F2 sh3 F3 Y) : Took G0 w0 w sh F sh3 F3 (X ++ Y) where
  mono := fun b hb => k.mono b (h.mono b hb)
  new := fun b hb => by
    rcases k.new b hb with h1 | ⟨i, j, h1⟩
    · exact h.new b h1
    · exact .inr ⟨i, j, h.sub i j b h1⟩
  sub := fun i j b hb => h.sub i j b (k.sub i j b hb)
  free := by
    obtain ⟨h1, h2⟩ := k.keep h.free
    refine ⟨List.nodup_append.2 ⟨h1.nd, k.free.nd, fun x hx y hy e => h2 x hx (e ▸ hy)⟩, fun b hb => ?_, fun b hb i j => ?_⟩
    · rcases List.mem_append.1 hb with hb | hb
      · exact h1.own b hb
      · exact k.free.own b hb
    · rcases List.mem_append.1 hb with hb | hb
      · exact h1.out b hb i j
      · exact k.free.out b hb i j
  src := fun b hb => by
    rcases List.mem_append.1 hb with hb | hb
    · exact h.src b hb
    · obtain ⟨i, j, h1⟩ := k.src b hb
      exact ⟨i, j, h.sub i j b h1⟩

theorem Took.sub' {sh2 : Nat → Prop} {F2 : Bool → Nat → List Nat} {X Y : List Nat} (h : Took G0 w0 w sh F sh2 F2 X) (hn : Y.Nodup) (hY : ∀ b ∈ Y, b ∈ X) : Took G0 w0 w sh F sh2 F2 Y :=
  ⟨h.mono, h.new, h.sub, ⟨hn, fun b hb => h.free.own b (hY b hb), fun b hb => h.free.out b (hY b hb)⟩, fun b hb => h.src b (hY b hb)⟩

theorem Free.nil : Free G0 w0 w sh F [] := ⟨by simp, by simp, by simp⟩

/-- A box's cells are named anew; memory is as it was. -/
theorem InvG.recell (h : InvG sh0 w0 G0 ρ σ a w sh F β) {r : Nat} {b b' : List Cell} {c : Array Value} {ty : TypeId} {F' Y : List Nat} (hna : ∀ (i : Nat) (s : SV), σ.slots[i]? = some s → roots s ≠ some (true, r))
    (hb : σ.boxes[r]? = some (some b)) (k1 : w.heap[β r]? = some (.cells c ty (0, 0))) (k2 : F true r = β r :: F') (hY : RepL (one (CellRep sh w ρ)) b' c.toList Y) (hsub : ∀ z ∈ Y, z ∈ F') (hn : Y.Nodup) :
    InvG sh0 w0 G0 ρ (σ.putB (r, some b')) a w sh (setF F true r (β r :: Y)) β := by
  have hnd := h.nodup true r
  rw [k2] at hnd
  have hnd' := List.nodup_cons.1 hnd
  have hmem : ∀ z ∈ β r :: F', z ∈ F true r := fun z hz => k2 ▸ hz
  have hfor := h.forgetBox (r := r) hna
  have hfree : ∀ z ∈ β r :: F', ∀ k j, z ∉ setF F true r [] k j := by
    intro z hz k j
    unfold setF
    split
    · simp
    · rename_i hne
      exact h.disj true r k j (fun e => hne ⟨(congrArg Prod.fst e).symm, (congrArg Prod.snd e).symm⟩) z (hmem z hz)
  have hbox := hfor.setbox (r := r) (g := β r) (cells := b') (vs := c.toList) (ty := ty) (X := Y)
    (by simpa [Sg.putB, setR_eq] using (List.getElem?_eq_some_iff.1 hb).1) (putB_none_get _ _) (by simpa using k1) hY
    (h.own true r (β r) (hmem _ (by simp))).2.2 (h.own true r (β r) (hmem _ (by simp))).1 (hfree _ (by simp))
    (List.nodup_cons.2 ⟨fun hb => hnd'.1 (hsub _ hb), hn⟩)
    (fun z hz => h.own true r z (hmem _ (List.mem_cons_of_mem _ (hsub z hz))))
    (fun z hz => hfree z (List.mem_cons_of_mem _ (hsub z hz))) (.inl rfl)
    (fun p hp => by
      obtain ⟨ty', h1⟩ := h.keepB r p hp b hb
      rw [k1] at h1
      simp only [Option.some.injEq, Obj.cells.injEq] at h1
      simpa using h1.1)
  rw [putB_putB] at hbox
  have hβ : (fun i => if i = r then β r else β i) = β := by funext i; split <;> simp_all
  rw [hβ] at hbox
  have hF : setF (setF F true r []) true r (β r :: Y) = setF F true r (β r :: Y) := by
    funext k i
    unfold setF
    split
    · rfl
    · rfl
  rw [hF] at hbox
  exact hbox

theorem setR_same {l : List SV} {j : Nat} {s : SV} (h : l[j]? = some s) : setR l j s = l := by
  rw [setR_eq]
  apply List.ext_getElem?
  intro i
  by_cases hi : j = i
  · subst hi
    rw [List.getElem?_set_self (List.getElem?_eq_some_iff.1 h).1, h]
  · rw [List.getElem?_set_ne hi]

theorem putS_same {j : Nat} {s : SV} (h : σ.slots[j]? = some s) : σ.putS (j, s) = σ := by
  simp only [Sg.putS, setR_same h]

theorem loose_rep : ∀ {cs : List Cell} {vs : List Value} {X : List Nat}, RepL (one (CellRep sh w ρ)) cs vs X → RepL (one (CellRep sh w ρ)) (cs.map Cell.loose) vs []
  | [], _, _, h => ⟨h.1, rfl⟩
  | c :: cs, vs, X, h => by
    obtain ⟨v1, v2, F1, F2, rfl, rfl, ⟨v, rfl, h1⟩, h2⟩ := h
    refine ⟨[v], v2, [], [], rfl, rfl, ⟨v, rfl, ?_⟩, loose_rep h2⟩
    cases c with
    | none => rfl
    | some c =>
      obtain ⟨x, m⟩ := c
      cases m with
      | sh =>
        obtain ⟨d, e1, e2, e3⟩ := h1
        have := e3.sh_nil
        rw [this] at e3
        exact ⟨d, e1, e2, e3⟩
      | _ => rfl

/-- A slot is forgotten for good: what it owned is no one's. -/
theorem InvG.takeSlot (h : InvG sh0 w0 G0 ρ σ a w sh F β) {i : Nat} {y : A} {m : Md} (hs : σ.slots[i]? = some (.at y m)) :
    ∃ v F' X d, a.tmps[i]? = some v ∧ InvG sh0 w0 G0 ρ ((σ.kill (0, i)).putS (i, .undef)) a w sh F' β ∧ evA ρ y = some d ∧ ValRep sh w d m v X ∧ Took G0 w0 w sh F sh F' X := by
  obtain ⟨v, hv, d, e1, e2⟩ := h.slot i _ hs
  refine ⟨v, _, F false i, d, hv, (h.kill (0, i)).forgetSlot killed0, e1, e2, fun _ hb => hb, fun _ hb => .inl hb, fun j k b hb => ?sub, ⟨h.nodup _ _, h.own _ _, fun b hb j k => ?out⟩, fun b hb => ⟨_, _, hb⟩⟩
  case sub =>
    unfold setF at hb
    split at hb
    · simp at hb
    · exact hb
  case out =>
    unfold setF
    split
    · simp
    · rename_i hne
      exact h.disj false i j k (fun e => hne ⟨(congrArg Prod.fst e).symm, (congrArg Prod.snd e).symm⟩) b hb

/-- A tuple is forgotten: what its component c owned is no one's. -/
theorem InvG.takeTup (h : InvG sh0 w0 G0 ρ σ a w sh F β) {r c : Nat} {xs : List (Option (A × Md))} {y : A} {m : Md} (hs : σ.slots[r]? = some (.tup xs)) (hy : xs[c]? = some (some (y, m))) :
    ∃ vs v F' X d, a.tmps[r]? = some (.tuple vs) ∧ vs[c]? = some v ∧ InvG sh0 w0 G0 ρ ((σ.kill (7, r * 64 + c)).putS (r, .tup (xs.set c none))) a w sh F' β ∧ evA ρ y = some d ∧ ValRep sh w d m v X ∧ Took G0 w0 w sh F sh F' X := by
  obtain ⟨u, hu, vs, rfl, hrep⟩ := h.slot r _ hs
  obtain ⟨v, A, X, B, e1, hF, ⟨d, e2, e3⟩, e5⟩ := RepL.pick (y := (none : Option (A × Md))) (fun _ => rfl) hrep hy
  have hlt := (List.getElem?_eq_some_iff.1 hs).1
  have hXin : ∀ b ∈ X, b ∈ F false r := fun b hb => by rw [hF]; exact List.mem_append_right _ (List.mem_append_left _ hb)
  have hABin : ∀ b ∈ A ++ B, b ∈ F false r := fun b hb => by
    rw [hF]
    rcases List.mem_append.1 hb with hb | hb
    · exact List.mem_append_left _ hb
    · exact List.mem_append_right _ (List.mem_append_right _ hb)
  have hnd := h.nodup false r
  rw [hF] at hnd
  have hABn : (A ++ B).Nodup := hnd.sublist (List.Sublist.append_left (List.sublist_append_right _ _) _)
  have hXA : ∀ z ∈ X, z ∉ A ++ B := by
    intro z hz hm
    have h4 := List.nodup_append.1 hnd
    have h5 := List.nodup_append.1 h4.2.1
    rcases List.mem_append.1 hm with hm | hm
    · exact h4.2.2 z hm z (List.mem_append_left _ hz) rfl
    · exact h5.2.2 z hz z hm rfl
  have h0 := (h.kill (0, r)).forgetSlot killed0 (d := r)
  have hlt0 : r < (σ.kill (0, r)).slots.length := by simpa [Sg.kill, mapR_eq] using hlt
  have hdok : DstOk0 ((σ.kill (0, r)).putS (r, .undef)) r := by
    refine ⟨by simpa [Sg.putS, setR_eq] using hlt0, fun y hy => ?_⟩
    simp only [Sg.putS, setR_eq] at hy
    rw [List.getElem?_set_self hlt0] at hy
    simp only [Option.some.injEq] at hy
    subst hy; rfl
  have hput := h0.put_same (d := r) (s := .tup (xs.set c none)) (v := .tuple vs) (X := A ++ B) hdok hu ⟨vs, rfl, e5⟩ (by simp [roots]) trivial hABn (fun b hb => h.own false r b (hABin b hb)) (fun b hb l j hne => by
    unfold setF
    rw [if_neg hne]
    exact h.disj false r l j (fun e => hne ⟨(congrArg Prod.fst e).symm, (congrArg Prod.snd e).symm⟩) b (hABin b hb))
  rw [act_put_same hu] at hput
  have hσ : { (σ.kill (0, r)).putS (r, .undef) with slots := setR ((σ.kill (0, r)).putS (r, .undef)).slots r (.tup (xs.set c none)) } = (σ.kill (0, r)).putS (r, .tup (xs.set c none)) := by
    simp [Sg.putS, setR_eq]
  rw [hσ] at hput
  have hFr : ∀ j k b, b ∈ setF (setF F false r []) false r (A ++ B) j k → b ∈ F j k := by
    intro j k b hb
    unfold setF at hb
    split at hb
    · rename_i hjk
      rw [hjk.1, hjk.2]
      exact hABin b hb
    · exact hb
  -- the other components' aliases live on
  have hlt7 : r < (σ.kill (7, r * 64 + c)).slots.length := by simpa [Sg.kill, mapR_eq] using hlt
  have hother : ∀ (i : Nat) (t : SV), σ.slots[i]? = some t → refers (0, r) t = true → refers (7, r * 64 + c) t = false → ∃ c', t = .tp r c' ∧ c' ≠ c := by
    intro i t ht h2 h7
    have hro := refers0.1 h2
    have hok := h.refs i t ht
    cases t with
    | rf b q c' ln =>
      simp only [roots, Option.some.injEq, Prod.mk.injEq] at hro
      obtain ⟨rfl, rfl⟩ := hro
      simp only [rootOk, hs, ownSlice] at hok
    | pel b q c' m' i' f =>
      simp only [roots, Option.some.injEq, Prod.mk.injEq] at hro
      obtain ⟨rfl, rfl⟩ := hro
      simp only [rootOk, hs, ownSlice] at hok
    | ea x b q c' m' i' f nn =>
      simp only [roots, Option.some.injEq, Prod.mk.injEq] at hro
      obtain ⟨rfl, rfl⟩ := hro
      simp only [rootOk, hs, ownSlice] at hok
    | tp q c' =>
      simp only [roots, Option.some.injEq, Prod.mk.injEq, true_and] at hro
      subst hro
      refine ⟨c', rfl, fun e => ?_⟩
      subst e
      simp [refers, SV.isTp] at h7
    | _ => simp [roots] at hro
  have h7 := hput.kill (7, r * 64 + c)
  have hsrc : ∀ (i : Nat), (((σ.kill (0, r)).putS (r, .tup (xs.set c none))).kill (7, r * 64 + c)).slots[i]? = if i = r then some (.tup (xs.set c none)) else (σ.slots[i]?).map fun t => if refers (7, r * 64 + c) t = true then .undef else if refers (0, r) t = true then .undef else t := by
    intro i
    simp only [Sg.kill, Sg.putS, mapR_eq, setR_eq, List.getElem?_map]
    by_cases hi : i = r
    · subst hi
      rw [List.getElem?_set_self (by simpa using hlt), if_pos rfl, Option.map_some]
      rw [refers_none (s := .tup (xs.set c none)) rfl (by simp) (by simp)]
      rfl
    · rw [List.getElem?_set_ne (Ne.symm hi), if_neg hi, List.getElem?_map, Option.map_map]
      congr 1
      funext t
      simp only [Function.comp]
      by_cases h0' : refers (0, r) t = true
      · rw [if_pos h0', kill_undef]
        simp
      · rw [if_neg h0']
  have htgt : ∀ (i : Nat), ((σ.kill (7, r * 64 + c)).putS (r, .tup (xs.set c none))).slots[i]? = if i = r then some (.tup (xs.set c none)) else (σ.slots[i]?).map fun t => if refers (7, r * 64 + c) t = true then .undef else t := by
    intro i
    simp only [Sg.kill, Sg.putS, mapR_eq, setR_eq]
    by_cases hi : i = r
    · subst hi
      rw [List.getElem?_set_self (by simpa using hlt), if_pos rfl]
    · rw [List.getElem?_set_ne (Ne.symm hi), if_neg hi, List.getElem?_map]
  have hrev := h7.revive (l := ((σ.kill (7, r * 64 + c)).putS (r, .tup (xs.set c none))).slots) (by simp [Sg.putS, Sg.kill, mapR_eq, setR_eq]) (fun i s hi => ?_) (fun i s hi => ?_)
  · refine ⟨vs, v, _, X, d, hu, by simpa using e1, hrev, e2, e3, fun _ hb => hb, fun _ hb => .inl hb, hFr, ⟨(List.nodup_append.1 (List.nodup_append.1 hnd).2.1).1, fun b hb => h.own _ _ b (hXin b hb), fun b hb j k => ?out⟩, fun b hb => ⟨_, _, hXin b hb⟩⟩
    case out =>
      unfold setF
      split
      · exact hXA b hb
      · rename_i hne
        exact h.disj false r j k (fun e => hne ⟨(congrArg Prod.fst e).symm, (congrArg Prod.snd e).symm⟩) b (hXin b hb)
  · rw [htgt] at hi
    rw [hsrc]
    by_cases hir : i = r
    · rw [if_pos hir] at hi ⊢
      exact .inl hi
    · rw [if_neg hir] at hi ⊢
      obtain ⟨t, ht, rfl⟩ := Option.map_eq_some_iff.1 hi
      rw [ht, Option.map_some]
      by_cases h7' : refers (7, r * 64 + c) t = true
      · rw [if_pos h7', if_pos h7']; exact .inl rfl
      · rw [if_neg h7', if_neg h7']
        by_cases h0' : refers (0, r) t = true
        · rw [if_pos h0']
          right
          refine ⟨rfl, ?_⟩
          obtain ⟨c', rfl, _⟩ := hother i t ht h0' (by simpa using h7')
          obtain ⟨v', hv', hr'⟩ := h.slot i _ ht
          exact ⟨v', hv', rfl, hr'.2⟩
        · rw [if_neg h0']; exact .inl rfl
  · have hst : ({ ((σ.kill (0, r)).putS (r, .tup (xs.set c none))).kill (7, r * 64 + c) with slots := ((σ.kill (7, r * 64 + c)).putS (r, .tup (xs.set c none))).slots } : Sg) = (σ.kill (7, r * 64 + c)).putS (r, .tup (xs.set c none)) := rfl
    rw [hst]
    rw [htgt] at hi
    by_cases hir : i = r
    · rw [if_pos hir] at hi
      obtain rfl := Option.some.inj hi
      trivial
    · rw [if_neg hir] at hi
      obtain ⟨t, ht, rfl⟩ := Option.map_eq_some_iff.1 hi
      by_cases h7' : refers (7, r * 64 + c) t = true
      · rw [if_pos h7']; trivial
      · rw [if_neg h7']
        by_cases h0' : refers (0, r) t = true
        · obtain ⟨c', rfl, hne⟩ := hother i t ht h0' (by simpa using h7')
          obtain ⟨xs', y', m', g1, g2, g3⟩ := h.refs i _ ht
          rw [hs] at g1
          simp only [Option.some.injEq, SV.tup.injEq] at g1
          subst g1
          exact ⟨xs.set c none, y', m', by rw [htgt, if_pos rfl], by rw [List.getElem?_set_ne (Ne.symm hne)]; exact g2, g3⟩
        · have hro : roots t ≠ some (false, r) := fun e => h0' (refers0.2 e)
          have hk := (h.kill (7, r * 64 + c)).refs i t (by rw [slot_kill ht, if_neg h7'])
          exact hk.set (t := .tup (xs.set c none)) hro

/-- Some of a box's cells are forgotten: what they owned is no one's. -/
theorem InvG.takeCells (h : InvG sh0 w0 G0 ρ σ a w sh F β) {r : Nat} {b b' : List Cell} (hna : ∀ (i : Nat) (s : SV), σ.slots[i]? = some s → roots s ≠ some (true, r)) (hb : σ.boxes[r]? = some (some b))
    {c : Array Value} {ty : TypeId} {A X B : List Nat} (k1 : w.heap[β r]? = some (.cells c ty (0, 0))) (k2 : F true r = β r :: (A ++ (X ++ B))) (hY : RepL (one (CellRep sh w ρ)) b' c.toList (A ++ B)) :
    ∃ F', InvG sh0 w0 G0 ρ (σ.putB (r, some b')) a w sh F' β ∧ Took G0 w0 w sh F sh F' X ∧ F' true r = β r :: (A ++ B) := by
  have hnd := h.nodup true r
  rw [k2] at hnd
  have hnd' := List.nodup_cons.1 hnd
  have hmem : ∀ z ∈ β r :: (A ++ (X ++ B)), z ∈ F true r := fun z hz => k2 ▸ hz
  have hAB : ∀ z, z ∈ A ++ B → z ∈ A ++ (X ++ B) := fun z hz => by
    rcases List.mem_append.1 hz with hz | hz
    · exact List.mem_append_left _ hz
    · exact List.mem_append_right _ (List.mem_append_right _ hz)
  have hXin : ∀ z, z ∈ X → z ∈ A ++ (X ++ B) := fun z hz => List.mem_append_right _ (List.mem_append_left _ hz)
  have hABn : (A ++ B).Nodup := hnd'.2.sublist (List.Sublist.append_left (List.sublist_append_right _ _) _)
  have hXA : ∀ z ∈ X, z ∉ A ++ B := by
    intro z hz hm
    have h4 := List.nodup_append.1 hnd'.2
    have h5 := List.nodup_append.1 h4.2.1
    rcases List.mem_append.1 hm with hm | hm
    · exact h4.2.2 z hm z (List.mem_append_left _ hz) rfl
    · exact h5.2.2 z hz z hm rfl
  refine ⟨_, h.recell hna hb k1 k2 hY hAB hABn, ⟨fun _ hb => hb, fun _ hb => .inl hb, fun j k z hz => ?sub, ⟨?nd, fun z hz => h.own true r z (hmem _ (List.mem_cons_of_mem _ (hXin z hz))), fun z hz j k => ?out⟩, fun z hz => ⟨true, r, hmem _ (List.mem_cons_of_mem _ (hXin z hz))⟩⟩, setF_same _ _ _ _⟩
  case nd =>
    have h4 := List.nodup_append.1 hnd'.2
    exact (List.nodup_append.1 h4.2.1).1
  case out =>
    unfold setF
    split
    · intro hm
      rcases List.mem_cons.1 hm with rfl | hm
      · exact hnd'.1 (hXin _ hz)
      · exact hXA z hz hm
    · rename_i hne
      exact h.disj true r j k (fun e => hne ⟨(congrArg Prod.fst e).symm, (congrArg Prod.snd e).symm⟩) z (hmem z (List.mem_cons_of_mem _ (hXin z hz)))
  case sub =>
    unfold setF at hz
    split at hz
    · rename_i hjk
      rw [hjk.1, hjk.2]
      rcases List.mem_cons.1 hz with rfl | hz
      · exact hmem _ (by simp)
      · exact hmem _ (List.mem_cons_of_mem _ (hAB z hz))
    · exact hz

theorem nones_rep {y : Nat} : ∀ {vs : List Value}, RepL (one (CellRep sh w ρ)) (List.replicate vs.length none) vs []
  | [] => ⟨rfl, rfl⟩
  | v :: vs => ⟨[v], vs, [], [], rfl, rfl, ⟨v, rfl, rfl⟩, nones_rep (y := y)⟩

theorem RepL.one_len {α : Type} {R : α → Value → List Nat → Prop} {as : List α} {ua : List Value} {A : List Nat} (h : RepL (one R) as ua A) : ua.length = as.length := by
  have := RepL.len (n := 1) (fun x vs F hh => by obtain ⟨v, rfl, _⟩ := hh; rfl) h
  omega

/-- A range of cells. -/
theorem RepL.range {α : Type} {R : α → Value → List Nat → Prop} {xs : List α} {vs : List Value} {F : List Nat} (off n : Nat) (h : RepL (one R) xs vs F) :
    ∃ A X B, F = A ++ (X ++ B) ∧ RepL (one R) ((xs.drop off).take n) ((vs.drop off).take n) X ∧
      ∀ ys Y, RepL (one R) ys ((vs.drop off).take n) Y → RepL (one R) (xs.take off ++ ys ++ xs.drop (off + n)) vs (A ++ (Y ++ B)) := by
  obtain ⟨A1, A2, rfl, r1, r2⟩ := RepL.cut off h
  obtain ⟨B1, B2, rfl, s1, s2⟩ := RepL.cut n r2
  refine ⟨A1, B1, B2, rfl, s1, fun ys Y hY => ?_⟩
  have := RepL.app r1 (RepL.app hY s2)
  have hv : vs.take off ++ ((vs.drop off).take n ++ (vs.drop off).drop n) = vs := by rw [List.take_append_drop, List.take_append_drop]
  rw [hv] at this
  rw [List.append_assoc, ← List.drop_drop]
  exact this

/-- Cells put together. -/
theorem mkMd_rep : ∀ {cs : List Cell} {xs : List A} {vs : List Value} {X : List Nat} {ds : List Dy} {r : Dy}, knownA cs = some xs → RepL (one (CellRep sh w ρ)) cs vs X → evAs ρ xs = some ds → Dy.ofCells ds = some r →
    Rep sh w r.1 (mkMd cs) r.2 vs X ∧ r.1.isAgg = true ∧ r.1.n = cs.length ∧ ∀ c, r.cell c = ds[c]?
  | [], xs, vs, X, ds, r, hm, hr, he, hd => by
    simp only [knownA, Option.some.injEq] at hm
    subst hm
    simp only [evAs, Option.some.injEq] at he
    subst he
    simp only [Dy.ofCells, Option.some.injEq] at hd
    subst hd
    obtain ⟨rfl, rfl⟩ := hr
    exact ⟨⟨rfl, rfl⟩, rfl, rfl, fun c => by simp [Dy.cell, Ty.isAgg, cellAt]⟩
  | none :: cs, xs, vs, X, ds, r, hm, hr, he, hd => by simp [knownA] at hm
  | some (x, m) :: cs, xs, vs, X, ds, r, hm, hr, he, hd => by
    simp only [knownA] at hm
    obtain ⟨ys, hy, rfl⟩ := Option.map_eq_some_iff.1 hm
    obtain ⟨v1, v2, F1, F2, rfl, rfl, ⟨v, rfl, d, e1, e2, e3⟩, hrest⟩ := hr
    obtain ⟨d', es, k1, k2, rfl⟩ := evAs_cons he
    obtain rfl := some_eq e1 k1
    unfold Dy.ofCells at hd
    rw [if_neg (by simp [e2])] at hd
    cases hq : Dy.ofCells es with
    | none => rw [hq] at hd; cases hd
    | some q =>
      rw [hq] at hd
      simp only [Option.some.injEq] at hd
      subst hd
      obtain ⟨a1, a2, a3, a4⟩ := mkMd_rep hy hrest k2 hq
      have hl : (mkMd (some (x, m) :: cs)).l = m ∧ (mkMd (some (x, m) :: cs)).r = mkMd cs := by
        have hmk : mkMd (some (x, m) :: cs) = if m.isSh && (mkMd cs).isSh then .sh else .pair m (mkMd cs) := rfl
        rw [hmk]
        split
        · rename_i hc
          simp only [Bool.and_eq_true] at hc
          have hm : m = .sh := by cases m <;> simp [Md.isSh] at hc; rfl
          have hr : mkMd cs = .sh := by
            generalize mkMd cs = m2 at hc
            cases m2 <;> simp [Md.isSh] at hc; rfl
          rw [hm, hr]; exact ⟨rfl, rfl⟩
        · exact ⟨rfl, rfl⟩
      refine ⟨⟨[v], v2, F1, F2, rfl, rfl, by rw [hl.1]; exact e3, by rw [hl.2]; exact a1⟩, rfl, ?_, fun c => ?_⟩
      · simp [Ty.n, a3, n_of_atom e2, Nat.add_comm]
      · cases c with
        | zero =>
          show (if d.1.isAgg then none else some (⟨d.1, d.2⟩ : Dy)) = some d
          rw [if_neg (by simp [e2])]
        | succ c =>
          have := a4 c
          simp only [Dy.cell, a2, if_true] at this
          show (if d.1.isAgg then none else cellAt q.1 q.2 c) = es[c]?
          rw [if_neg (by simp [e2])]
          exact this

theorem opnd_ag {t : TypeId} {x : Operand} {r off n : Nat} (h : InvG sh0 w0 G0 ρ σ a w sh F β) (ho : opnd P t x σ = some (.ag r off n, l)) :
    ∃ j, x = .tmp j ∧ σ.slots[j]? = some (.ag r off n) ∧ SVRep sh w ρ β a.tmps F (.ag r off n) (a.eval x) (F false j) := by
  exact opnd_tmp h ho (by simp) (by simp)

/-- What was made of a list of cells. -/
theorem ev_mk {xs : List A} {nv : Nat} {es : List Em} (he : EmOk Fn ρ nv (.e ⟨.mk, xs⟩ :: es)) : ∃ ds r, evAs ρ xs = some ds ∧ Dy.ofCells ds = some r ∧ ρ[nv]? = some r := by
  obtain ⟨dy, e1, e2⟩ := he.1
  unfold ev at e1
  cases hds : evAs ρ xs with
  | none => simp only [hds] at e1; cases e1
  | some ds =>
    simp only [hds, evX] at e1
    exact ⟨ds, dy, rfl, e1, e2⟩

/-- A VALUE IS TAKEN: it owns X, which no name speaks of any more. -/
theorem take_rep {t : TypeId} {x : Operand} {k : Take} {nv : Nat} (h : InvG sh0 w0 G0 ρ σ a w sh F β) (ho : takeV P nv t x σ = some (k, l)) (he : EmOk Fn ρ nv k.em) :
    ∃ F' X d, InvG sh0 w0 G0 ρ (σ.take k) a w sh F' β ∧ evA ρ k.x = some d ∧ ValRep sh w d k.m (a.eval x) X ∧ Took G0 w0 w sh F sh F' X := by
  unfold takeV at ho
  obtain ⟨s, l1, l2, h1, ho2, _⟩ := Rd.bind_some ho
  have hat : ∀ {y : A} {m : Md} {i : Nat}, x = .tmp i → σ.slots[i]? = some (.at y m) → k = { x := y, m := m, wr := [(i, .undef)], kill := [(0, i)] } →
      ∃ F' X d, InvG sh0 w0 G0 ρ (σ.take k) a w sh F' β ∧ evA ρ k.x = some d ∧ ValRep sh w d k.m (a.eval x) X ∧ Took G0 w0 w sh F sh F' X := by
    intro y m i hx hs hk
    subst hk; subst hx
    obtain ⟨v, F', X, d, hv, hI, e1, e2, e3⟩ := h.takeSlot hs
    exact ⟨F', X, d, hI, e1, by rw [eval_tmp hv]; exact e2, e3⟩
  cases s with
  | «at» y m =>
    rcases opnd_rep h h1 with ⟨i, rfl, hs, hr⟩ | ⟨c', d, v0, rfl, hc, hd, hr⟩ | ⟨_, _, hc⟩
    · cases m with
      | sh =>
        have := Rd.pure_some ho2
        subst this
        obtain ⟨d, e1, vs, e2, e3⟩ := hr
        have e4 := e3.sh_nil
        rw [e4] at e3
        exact ⟨F, [], d, h, e1, ⟨vs, e2, e3⟩, .refl⟩
      | own m => exact hat rfl hs (Rd.pure_some ho2).symm
      | pair m1 m2 => exact hat rfl hs (Rd.pure_some ho2).symm
    · simp only [SV.at.injEq] at hc
      obtain ⟨rfl, hm⟩ := hc
      have hk : k = { x := y, m := constM y } := by
        rw [← hm]
        cases m <;> exact (Rd.pure_some ho2).symm
      subst hk
      exact ⟨F, [], d, h, hd, valRep_atom hr, .refl⟩
    · cases hc
  | rf b r c ln =>
    obtain ⟨j, rfl, hsj, hr⟩ := opnd_tmp h h1 (by simp) (by simp)
    cases b with
    | false =>
      obtain ⟨s2, l3, l4, h2, ho3, _⟩ := Rd.bind_some ho2
      have hs2 := Rd.slot_some h2
      cases s2 with
      | «at» y m =>
        cases m with
        | own m =>
          have := Rd.pure_some ho3
          subst this
          obtain ⟨v, F', X, d, hv, hI, e1, e2, e3⟩ := h.takeSlot hs2
          obtain rfl := some_eq' hv hr.2.1
          have hne : r ≠ j := by
            rintro rfl
            rw [hs2] at hsj; cases hsj
          have hj : ((σ.kill (0, r)).putS (r, .undef)).slots[j]? = some .undef := by
            simp only [Sg.putS, setR_eq, List.getElem?_set_ne hne, Sg.kill, mapR_eq, List.getElem?_map, hsj, Option.map_some]
            simp [refers, roots]
          have hσ : σ.take { x := y, m := .own m, wr := (r, .undef) :: wrOf (.tmp j) .undef, kill := [(0, r)] } = (σ.kill (0, r)).putS (r, .undef) := by
            simp only [Sg.take, wrOf, List.foldl_cons, List.foldl_nil, putS_same hj]
          rw [hσ]
          exact ⟨F', X, d, hI, e1, e2, e3⟩
        | _ => cases ho3
      | _ => cases ho3
    | true =>
      obtain ⟨cs, l3, l4, h2, ho3, _⟩ := Rd.bind_some ho2
      have hs2 := Rd.box_some h2
      cases hy : cs[c]? with
      | none => rw [hy] at ho3; cases ho3
      | some yy => ?_
      rw [hy] at ho3
      match yy, hy, ho3 with
      | none, _, ho3 => cases ho3
      | some (y, .sh), _, ho3 => cases ho3
      | some (y, .pair _ _), _, ho3 => cases ho3
      | some (y, .own m), hy, ho3 =>
        have := Rd.pure_some ho3
        subst this
        have hkill := h.kill (2, r)
        obtain ⟨ar, ty, F', k1, k2, k3⟩ := hkill.box r cs hs2
        obtain ⟨v, A, X, B, e1, rfl, ⟨d, e2, e3, e4⟩, e5⟩ := RepL.pick (y := (none : Cell)) (fun _ => rfl) k3 hy
        have hv : v = a.eval (.tmp j) := by
          have hc := hr.2.1.2
          simp only [World.cell?, k1] at hc
          simp at hc
          exact some_eq' (by simpa using e1) hc
        subst hv
        obtain ⟨F', hI, f1, _⟩ := hkill.takeCells killed2 hs2 k1 k2 e5
        have hj : ((σ.kill (2, r)).putB (r, some (cs.set c none))).slots[j]? = some .undef := by
          simp only [Sg.putB, Sg.kill, mapR_eq, List.getElem?_map, hsj, Option.map_some]
          simp [refers, roots]
        have hσ : σ.take { x := y, m := .own m, wr := wrOf (.tmp j) .undef, bx := [(r, some (cs.set c none))], kill := [(2, r)] } = (σ.kill (2, r)).putB (r, some (cs.set c none)) := by
          simp only [Sg.take, wrOf, List.foldl_cons, List.foldl_nil, putS_same hj]
        rw [hσ]
        exact ⟨F', X, d, hI, e2, valRep_atom ⟨e3, e4⟩, f1⟩
  | ag r off n =>
    obtain ⟨j, rfl, hsj, hr⟩ := opnd_ag h h1
    obtain ⟨b, l3, l4, h2, ho3, _⟩ := Rd.bind_some ho2
    obtain ⟨xs, l5, l6, h3, ho4, _⟩ := Rd.bind_some ho3
    obtain ⟨_, l7, l8, h4, ho5, _⟩ := Rd.bind_some ho4
    have hn4 : n < 4096 := by simpa using Rd.guard_some h4
    have hs2 := Rd.box_some h2
    have hxs := Rd.ofO_some h3
    have := Rd.pure_some ho5
    subst this
    have hkill := h.kill (2, r)
    obtain ⟨ar, ty, F', k1, k2, k3⟩ := hkill.box r b hs2
    obtain ⟨A, X, B, rfl, q1, q2⟩ := RepL.range off n k3
    obtain ⟨_, _, c, ty', fz', hc, hle, hv⟩ := hr
    rw [k1] at hc
    simp only [Option.some.injEq, Obj.cells.injEq] at hc
    obtain ⟨rfl, _, _⟩ := hc
    obtain ⟨ds, dy, m1, m2, m3⟩ := ev_mk he
    obtain ⟨p1, p2, p3, p4⟩ := mkMd_rep hxs q1 m1 m2
    have hlen : ((ar.toList.drop off).take n).length = n := by simp; omega
    have hnone := q2 _ [] (loose_rep q1)
    obtain ⟨F', hI, f1, _⟩ := hkill.takeCells killed2 hs2 k1 k2 hnone
    have hltb : r < σ.boxes.length := (List.getElem?_eq_some_iff.1 hs2).1
    have hbn : ((σ.kill (2, r)).putB (r, some (looseR off n b))).boxes[r]? = some (some (looseR off n b)) := by
      show (setR σ.boxes r _)[r]? = _
      rw [setR_eq, List.getElem?_set_self hltb]
    have hFr : β r ∈ F' true r := by
      obtain ⟨_, _, _, _, q3, _⟩ := hI.box r _ hbn
      rw [q3]; simp
    have hbl : b.length = ar.toList.length := (RepL.one_len k3).symm
    have hbl' : off + n ≤ b.length := by rw [hbl]; simpa using hle
    have hI := h.fine hn4 hs2 (fun c hc => mid_out hbl' (by simp; omega) hc) hFr hI
    have hj : ((σ.kill (codeC off n, r)).putB (r, some (looseR off n b))).slots[j]? = some .undef := by
      simp only [Sg.putB, Sg.kill, mapR_eq, List.getElem?_map, hsj, Option.map_some]
      rw [refers_ag]; rfl
    have hσ : σ.take { x := .var nv, m := mkMd ((b.drop off).take n), em := [.e ⟨.mk, xs⟩], wr := wrOf (.tmp j) .undef, bx := [(r, some (looseR off n b))], kill := [(codeC off n, r)] } = (σ.kill (codeC off n, r)).putB (r, some (looseR off n b)) := by
      simp only [Sg.take, wrOf, List.foldl_cons, List.foldl_nil, putS_same hj]
    rw [hσ]
    exact ⟨F', X, dy, hI, m3, ⟨_, by rw [p2, hv]; rfl, p1⟩, f1⟩
  | tp r c =>
    obtain ⟨j, rfl, hsj, hr⟩ := opnd_tmp h h1 (by simp) (by simp)
    obtain ⟨s2, l3, l4, h2, ho3, _⟩ := Rd.bind_some ho2
    have hs2 := Rd.slot_some h2
    cases s2 with
    | tup xs =>
      dsimp only at ho3
      cases hy : xs[c]? with
      | none => rw [hy] at ho3; cases ho3
      | some yy => ?_
      rw [hy] at ho3
      match yy, hy, ho3 with
      | none, _, ho3 => cases ho3
      | some (y, m), hy, ho3 =>
        obtain ⟨_, l5, l6, h3, ho4, _⟩ := Rd.bind_some ho3
        have := Rd.pure_some ho4
        subst this
        obtain ⟨vs, v, F', X, d, q1, q2, hI, q3, q4, tk⟩ := h.takeTup hs2 hy
        obtain ⟨_, vs', p1, p2⟩ := hr
        rw [q1] at p1
        simp only [Option.some.injEq, Value.tuple.injEq] at p1
        subst p1
        obtain rfl := some_eq' q2 p2
        have hne : r ≠ j := by
          rintro rfl
          rw [hs2] at hsj; cases hsj
        have hj : ((σ.kill (7, r * 64 + c)).putS (r, .tup (xs.set c none))).slots[j]? = some .undef := by
          simp only [Sg.putS, setR_eq, List.getElem?_set_ne hne, Sg.kill, mapR_eq, List.getElem?_map, hsj, Option.map_some]
          simp [refers, SV.isTp]
        have hσ : σ.take { x := y, m := m, wr := (r, .tup (xs.set c none)) :: wrOf (.tmp j) .undef, kill := [(7, r * 64 + c)] } = (σ.kill (7, r * 64 + c)).putS (r, .tup (xs.set c none)) := by
          simp only [Sg.take, wrOf, List.foldl_cons, List.foldl_nil, putS_same hj]
        rw [hσ]
        exact ⟨F', X, d, hI, q3, q4, tk⟩
    | _ => cases ho3
  | _ => cases ho2

/-- What nobody owns may be such that nobody writes. -/
theorem InvG.freeze (h : InvG sh0 w0 G0 ρ σ a w sh F β) {X : List Nat} (hX : Free G0 w0 w sh F X) : InvG sh0 w0 G0 ρ σ a w (fun b => sh b ∨ b ∈ X) F β :=
  h.turn (L := []) (Ext.refl _ _) (by simp) (fun _ hb => .inl hb) (fun b hb => by
    rcases hb with hb | hb
    · exact ⟨h.sh_lt b hb, .inl hb⟩
    · exact ⟨(hX.own b hb).2.1, .inr (.inr ⟨(hX.own b hb).1, hX.out b hb⟩)⟩)

theorem froz_cells : ∀ {cs : List Cell} {xs : List A} {vs : List Value} {X : List Nat}, knownA cs = some xs → RepL (one (CellRep sh w ρ)) cs vs X → (∀ b, sh b → sh' b) → (∀ b ∈ X, sh' b) →
    RepL (one (CellRep sh' w ρ)) (cs.map Cell.froz) vs [] ∧ ∃ ds, evAs ρ xs = some ds ∧ shAtoms sh' w ds vs
  | [], xs, vs, X, hm, hr, _, _ => by
    simp only [knownA, Option.some.injEq] at hm
    subst hm
    obtain ⟨rfl, rfl⟩ := hr
    exact ⟨⟨rfl, rfl⟩, [], rfl, rfl⟩
  | none :: cs, xs, vs, X, hm, hr, _, _ => by simp [knownA] at hm
  | some (x, m) :: cs, xs, vs, X, hm, hr, hs, hX => by
    simp only [knownA] at hm
    obtain ⟨ys, hy, rfl⟩ := Option.map_eq_some_iff.1 hm
    obtain ⟨v1, v2, F1, F2, rfl, rfl, ⟨v, rfl, d, e1, e2, e3⟩, hrest⟩ := hr
    obtain ⟨i1, ds, i2, i3⟩ := froz_cells hy hrest hs (fun b hb => hX b (List.mem_append_right _ hb))
    have hz : Rep sh' w d.1 .sh d.2 [v] [] := Rep.freeze hs e3 (fun b hb => hX b (List.mem_append_left _ hb))
    exact ⟨⟨[v], v2, [], [], rfl, rfl, ⟨v, rfl, d, e1, e2, hz⟩, i1⟩, d :: ds, by simp [evAs, e1, i2], v, v2, rfl, ⟨e2, hz⟩, i3⟩

/-- A VALUE IS READ FOR GOOD: what it owned nobody writes any more. -/
theorem frz_rep {t : TypeId} {x : Operand} {k : Take} {nv : Nat} (h : InvG sh0 w0 G0 ρ σ a w sh F β) (ho : frzV P nv t x σ = some (k, l)) (he : EmOk Fn ρ nv k.em) :
    ∃ sh' F' d, InvG sh0 w0 G0 ρ (σ.take k) a w sh' F' β ∧ evA ρ k.x = some d ∧ ValRep sh' w d .sh (a.eval x) [] ∧ k.m = .sh ∧ Took G0 w0 w sh F sh' F' [] := by
  unfold frzV at ho
  have hfz : ∀ {F' : Bool → Nat → List Nat} {X : List Nat}, Took G0 w0 w sh F sh F' X → Took G0 w0 w sh F (fun b => sh b ∨ b ∈ X) F' [] := fun h =>
    ⟨fun _ hb => .inl hb, fun b hb => hb.imp id (h.src b), h.sub, .nil, by simp⟩
  have hless : ∀ {sh2 : Nat → Prop} {F2 F3 : Bool → Nat → List Nat}, Took G0 w0 w sh F sh2 F2 [] → (∀ i j, ∀ b ∈ F3 i j, b ∈ F2 i j) → Took G0 w0 w sh F sh2 F3 [] := fun h k =>
    ⟨h.mono, h.new, fun i j b hb => h.sub i j b (k i j b hb), .nil, by simp⟩
  obtain ⟨s, l1, l2, h1, ho2, _⟩ := Rd.bind_some ho
  -- a slot that owned is one that nobody writes
  have hslot : ∀ {y : A} {m : Md} {i : Nat}, σ.slots[i]? = some (.at y m) → ∃ v sh' F' d, a.tmps[i]? = some v ∧ InvG sh0 w0 G0 ρ ((σ.kill (0, i)).putS (i, .at y .sh)) a w sh' F' β ∧ evA ρ y = some d ∧
      ValRep sh' w d .sh v [] ∧ Took G0 w0 w sh F sh' F' [] := by
    intro y m i hs
    obtain ⟨v, F', X, d, hv, hI, e1, ⟨us, e2, e2'⟩, e3⟩ := h.takeSlot hs
    have hlt : i < (σ.kill (0, i)).slots.length := by simpa [Sg.kill, mapR_eq] using (List.getElem?_eq_some_iff.1 hs).1
    have hdok : DstOk0 ((σ.kill (0, i)).putS (i, .undef)) i := by
      refine ⟨by simpa [Sg.putS, setR_eq] using hlt, fun y hy => ?_⟩
      simp only [Sg.putS, setR_eq] at hy
      rw [List.getElem?_set_self hlt] at hy
      simp only [Option.some.injEq] at hy
      subst hy; rfl
    have hval : ValRep (fun b => sh b ∨ b ∈ X) w d .sh v [] := ⟨us, e2, Rep.freeze (fun b hb => .inl hb) e2' (fun b hb => .inr hb)⟩
    have hput := (hI.freeze e3.free).put_same (d := i) (s := .at y .sh) (v := v) (X := []) hdok hv ⟨d, e1, hval⟩ (by simp [roots]) trivial (by simp) (by simp) (by simp)
    rw [act_put_same hv] at hput
    have hσ : { (σ.kill (0, i)).putS (i, .undef) with slots := setR ((σ.kill (0, i)).putS (i, .undef)).slots i (.at y .sh) } = (σ.kill (0, i)).putS (i, .at y .sh) := by
      simp [Sg.putS, setR_eq]
    rw [hσ] at hput
    refine ⟨v, _, _, d, hv, hput, e1, hval, hless (hfz e3) fun j k b hb => ?_⟩
    unfold setF at hb
    split at hb
    · simp at hb
    · exact hb
  -- an alias that was killed holds the value itself
  have hput : ∀ {τ : Sg} {sh2 : Nat → Prop} {F2 : Bool → Nat → List Nat} {j : Nat} {y : A} {d : Dy} {v : Value}, InvG sh0 w0 G0 ρ τ a w sh2 F2 β → τ.slots[j]? = some .undef → a.tmps[j]? = some v → evA ρ y = some d → ValRep sh2 w d .sh v [] →
      ∃ F3, InvG sh0 w0 G0 ρ (τ.putS (j, .at y .sh)) a w sh2 F3 β ∧ (∀ i j, ∀ b ∈ F3 i j, b ∈ F2 i j) := by
    intro τ sh2 F2 j y d v hI hj hv e1 e2
    have hdok : DstOk0 τ j := ⟨(List.getElem?_eq_some_iff.1 hj).1, fun y hy => by rw [hj] at hy; cases hy; rfl⟩
    have hput := hI.put_same (d := j) (s := .at y .sh) (v := v) (X := []) hdok hv ⟨d, e1, e2⟩ (by simp [roots]) trivial (by simp) (by simp) (by simp)
    rw [act_put_same hv] at hput
    refine ⟨_, hput, fun i k b hb => ?_⟩
    unfold setF at hb
    split at hb
    · simp at hb
    · exact hb
  cases s with
  | «at» y m =>
    rcases opnd_rep h h1 with ⟨i, rfl, hs, hr⟩ | ⟨c', d, v0, rfl, hc, hd, hr⟩ | ⟨_, _, hc⟩
    · have hown : ∃ sh' F' d, InvG sh0 w0 G0 ρ (σ.take { x := y, m := .sh, wr := [(i, .at y .sh)], kill := [(0, i)] }) a w sh' F' β ∧ evA ρ y = some d ∧ ValRep sh' w d .sh (a.eval (.tmp i)) [] ∧ Md.sh = Md.sh ∧ Took G0 w0 w sh F sh' F' [] := by
        obtain ⟨v, sh', F', d, hv, hI, e1, e2, e3⟩ := hslot hs
        exact ⟨sh', F', d, hI, e1, by rw [eval_tmp hv]; exact e2, rfl, e3⟩
      cases m with
      | sh =>
        have := Rd.pure_some ho2
        subst this
        obtain ⟨d, e1, vs, e2, e3⟩ := hr
        have e4 := e3.sh_nil
        rw [e4] at e3
        exact ⟨sh, F, d, h, e1, ⟨vs, e2, e3⟩, rfl, .refl⟩
      | own m =>
        have hk := (Rd.pure_some ho2).symm
        subst hk
        exact hown
      | pair m1 m2 =>
        have hk := (Rd.pure_some ho2).symm
        subst hk
        exact hown
    · simp only [SV.at.injEq] at hc
      obtain ⟨rfl, hm⟩ := hc
      have hk : k = { x := y, m := .sh } := by
        cases m <;> exact (Rd.pure_some ho2).symm
      subst hk
      obtain ⟨us, g1, g2⟩ := valRep_atom hr
      exact ⟨sh, F, d, h, hd, ⟨us, g1, Rep.freeze (fun _ hb => hb) g2 (by simp)⟩, rfl, .refl⟩
    · cases hc
  | rf b r c ln =>
    obtain ⟨j, rfl, hsj, hr⟩ := opnd_tmp h h1 (by simp) (by simp)
    obtain ⟨vj, hvj, _⟩ := h.slot j _ hsj
    cases b with
    | false =>
      obtain ⟨s2, l3, l4, h2, ho3, _⟩ := Rd.bind_some ho2
      have hs2 := Rd.slot_some h2
      cases s2 with
      | «at» y m =>
        cases m with
        | own m =>
          have := Rd.pure_some ho3
          subst this
          obtain ⟨v, sh', F', d, hv, hI, e1, e2, e3⟩ := hslot hs2
          obtain rfl := some_eq' hv hr.2.1
          have hne : r ≠ j := by
            rintro rfl
            rw [hs2] at hsj; cases hsj
          have hj : ((σ.kill (0, r)).putS (r, .at y .sh)).slots[j]? = some .undef := by
            simp only [Sg.putS, setR_eq, List.getElem?_set_ne hne, Sg.kill, mapR_eq, List.getElem?_map, hsj, Option.map_some]
            simp [refers, roots]
          rw [eval_tmp hvj] at e2 ⊢
          obtain ⟨F3, hI3, f3⟩ := hput hI hj hvj e1 e2
          exact ⟨sh', F3, d, hI3, e1, e2, rfl, hless e3 f3⟩
        | _ => cases ho3
      | _ => cases ho3
    | true =>
      obtain ⟨cs, l3, l4, h2, ho3, _⟩ := Rd.bind_some ho2
      have hs2 := Rd.box_some h2
      cases hy : cs[c]? with
      | none => rw [hy] at ho3; cases ho3
      | some yy => ?_
      rw [hy] at ho3
      match yy, hy, ho3 with
      | none, _, ho3 => cases ho3
      | some (y, .sh), _, ho3 => cases ho3
      | some (y, .pair _ _), _, ho3 => cases ho3
      | some (y, .own m), hy, ho3 =>
        have := Rd.pure_some ho3
        subst this
        have hkill := h.kill (2, r)
        obtain ⟨ar, ty, F', k1, k2, k3⟩ := hkill.box r cs hs2
        obtain ⟨v, A, X, B, e1, rfl, ⟨d, e2, e3, e4⟩, e5⟩ := RepL.pick (y := (none : Cell)) (fun _ => rfl) k3 hy
        have hv : v = vj := by
          have hc := hr.2.1.2
          simp only [World.cell?, k1] at hc
          simp at hc
          rw [eval_tmp hvj] at hc
          exact some_eq' (by simpa using e1) hc
        subst hv
        obtain ⟨F', hI, f1, f0⟩ := hkill.takeCells killed2 hs2 k1 k2 e5
        have hfr := hI.freeze f1.free
        have hval : Rep (fun b => sh b ∨ b ∈ X) w d.1 .sh d.2 [v] [] := Rep.freeze (fun b hb => .inl hb) e4 (fun b hb => .inr hb)
        have hb2 : ((σ.kill (2, r)).putB (r, some (cs.set c none))).boxes[r]? = some (some (cs.set c none)) := by
          simp only [Sg.putB, setR_eq]
          rw [List.getElem?_set_self (by simpa [Sg.kill] using (List.getElem?_eq_some_iff.1 hs2).1)]
        have hlt : c < cs.length := (List.getElem?_eq_some_iff.1 hy).1
        obtain ⟨ar2, ty2, F2, k1', k2', k3'⟩ := hfr.box r _ hb2
        rw [k1] at k1'
        simp only [Option.some.injEq, Obj.cells.injEq] at k1'
        obtain ⟨rfl, rfl, _⟩ := k1'
        obtain ⟨u, A', X', B', s1, rfl, s3, s4⟩ := RepL.swap (i := c) (x := none) k3' (by rw [List.getElem?_set_self hlt])
        have hX' : X' = [] := s3
        subst hX'
        obtain rfl := some_eq' s1 e1
        have hcells := s4 (some (y, .sh)) [] ⟨d, e2, e3, hval⟩
        rw [List.set_set] at hcells
        have hna2 : ∀ (i : Nat) (s : SV), ((σ.kill (2, r)).putB (r, some (cs.set c none))).slots[i]? = some s → roots s ≠ some (true, r) := killed2
        have hnd := hfr.nodup true r
        rw [k2'] at hnd
        have hre := hfr.recell hna2 hb2 k1 k2' hcells (by simp) (by simpa using (List.nodup_cons.1 hnd).2)
        rw [putB_putB] at hre
        have hj : ((σ.kill (2, r)).putB (r, some (cs.set c (some (y, .sh))))).slots[j]? = some .undef := by
          simp only [Sg.putB, Sg.kill, mapR_eq, List.getElem?_map, hsj, Option.map_some]
          simp [refers, roots]
        obtain ⟨F3, hI3, f3⟩ := hput hre hj hvj e2 (valRep_atom ⟨e3, hval⟩)
        refine ⟨_, F3, d, hI3, e2, by rw [eval_tmp hvj]; exact valRep_atom ⟨e3, hval⟩, rfl, hless (hfz f1) fun i k b hb => ?_⟩
        have := f3 i k b hb
        unfold setF at this
        split at this
        · rename_i hik
          rw [hik.1, hik.2]
          rw [k2']
          rcases List.mem_cons.1 this with rfl | this
          · simp
          · exact List.mem_cons_of_mem _ (by simpa using this)
        · exact this
  | ag r off n =>
    obtain ⟨j, rfl, hsj, hr⟩ := opnd_ag h h1
    obtain ⟨b, l3, l4, h2, ho3, _⟩ := Rd.bind_some ho2
    obtain ⟨xs, l5, l6, h3, ho4, _⟩ := Rd.bind_some ho3
    obtain ⟨_, l7, l8, h4, ho5, _⟩ := Rd.bind_some ho4
    have hn4 : n < 4096 := by simpa using Rd.guard_some h4
    have hs2 := Rd.box_some h2
    have hxs := Rd.ofO_some h3
    have := Rd.pure_some ho5
    subst this
    have hkill := h.kill (2, r)
    obtain ⟨ar, ty, F', k1, k2, k3⟩ := hkill.box r b hs2
    obtain ⟨A, X, B, rfl, q1, q2⟩ := RepL.range off n k3
    obtain ⟨_, _, c, ty', fz', hc, hle, hv⟩ := hr
    rw [k1] at hc
    simp only [Option.some.injEq, Obj.cells.injEq] at hc
    obtain ⟨rfl, _, _⟩ := hc
    obtain ⟨ds, dy, m1, m2, m3⟩ := ev_mk he
    have hlen : ((ar.toList.drop off).take n).length = n := by simp; omega
    have hnone := q2 (List.replicate n none) [] (by have := nones_rep (y := 0) (sh := sh) (w := w) (ρ := ρ) (vs := (ar.toList.drop off).take n); rw [hlen] at this; exact this)
    obtain ⟨F', hI, f1, f0⟩ := hkill.takeCells killed2 hs2 k1 k2 hnone
    have hfr := hI.freeze f1.free
    obtain ⟨z1, ds', z2, z3⟩ := froz_cells (sh' := fun b => sh b ∨ b ∈ X) hxs q1 (fun b hb => .inl hb) (fun b hb => .inr hb)
    obtain rfl := some_eq m1 z2
    obtain ⟨p1, p2, _, _⟩ := ofCells_rep z3 m2
    -- the other cells once more
    have hb2 : ((σ.kill (2, r)).putB (r, some (noneR off n b))).boxes[r]? = some (some (noneR off n b)) := by
      simp only [Sg.putB, setR_eq]
      rw [List.getElem?_set_self (by simpa [Sg.kill] using (List.getElem?_eq_some_iff.1 hs2).1)]
    obtain ⟨ar2, ty2, F2, k1', k2', k3'⟩ := hfr.box r _ hb2
    rw [k1] at k1'
    simp only [Option.some.injEq, Obj.cells.injEq] at k1'
    obtain ⟨rfl, rfl, _⟩ := k1'
    have hbl : b.length = ar.toList.length := (RepL.one_len k3).symm
    have hbl' : off + n ≤ b.length := by rw [hbl]; simpa using hle
    obtain ⟨A', X', B', rfl, t1, t2⟩ := RepL.range off n k3'
    have hmid : ((noneR off n b).drop off).take n = List.replicate n none := by
      unfold noneR
      rw [List.append_assoc, List.drop_append_of_le_length (by simp; omega)]
      rw [List.drop_of_length_le (by simp; omega), List.nil_append, List.take_append_of_le_length (by simp), List.take_of_length_le (by simp)]
    have hX' : X' = [] := by
      rw [hmid] at t1
      exact RepL.empty' t1
    subst hX'
    have hcells := t2 _ _ z1
    have hpre : (noneR off n b).take off = b.take off := by
      unfold noneR
      rw [List.append_assoc, List.take_append_of_le_length (by simp; omega), List.take_of_length_le (by simp; omega)]
    have hsuf : (noneR off n b).drop (off + n) = b.drop (off + n) := by
      unfold noneR
      rw [List.drop_append, List.drop_of_length_le (by simp; omega), List.nil_append]
      simp
      omega
    rw [hpre, hsuf] at hcells
    have hna2 : ∀ (i : Nat) (s : SV), ((σ.kill (2, r)).putB (r, some (noneR off n b))).slots[i]? = some s → roots s ≠ some (true, r) := killed2
    have hnd := hfr.nodup true r
    rw [k2'] at hnd
    have hre := hfr.recell hna2 hb2 k1 k2' hcells (by simp) (by simpa using (List.nodup_cons.1 hnd).2)
    rw [putB_putB] at hre
    have hltb : r < σ.boxes.length := (List.getElem?_eq_some_iff.1 hs2).1
    have hbn : ((σ.kill (2, r)).putB (r, some (b.take off ++ ((b.drop off).take n).map Cell.froz ++ b.drop (off + n)))).boxes[r]? = some (some (b.take off ++ ((b.drop off).take n).map Cell.froz ++ b.drop (off + n))) := by
      show (setR σ.boxes r _)[r]? = _
      rw [setR_eq, List.getElem?_set_self hltb]
    obtain ⟨_, _, _, _, q3, _⟩ := hre.box r _ hbn
    have hre := h.fine hn4 hs2 (fun c hc => mid_out hbl' (by simp; omega) hc) (by rw [q3]; simp) hre
    have hj : ((σ.kill (codeC off n, r)).putB (r, some (b.take off ++ ((b.drop off).take n).map Cell.froz ++ b.drop (off + n)))).slots[j]? = some .undef := by
      simp only [Sg.putB, Sg.kill, mapR_eq, List.getElem?_map, hsj, Option.map_some]
      rw [refers_ag]; rfl
    have hσ : σ.take { x := .var nv, m := .sh, em := [.e ⟨.mk, xs⟩], wr := wrOf (.tmp j) .undef, bx := [(r, some (b.take off ++ ((b.drop off).take n).map Cell.froz ++ b.drop (off + n)))], kill := [(codeC off n, r)] } =
        (σ.kill (codeC off n, r)).putB (r, some (b.take off ++ ((b.drop off).take n).map Cell.froz ++ b.drop (off + n))) := by
      simp only [Sg.take, wrOf, List.foldl_cons, List.foldl_nil, putS_same hj]
    rw [hσ]
    refine ⟨_, _, dy, hre, m3, ⟨_, by rw [p2, hv]; rfl, p1⟩, rfl, hless (hfz f1) fun i k z hz => ?_⟩
    unfold setF at hz
    split at hz
    · rename_i hik
      rw [hik.1, hik.2]
      rw [k2']
      rcases List.mem_cons.1 hz with rfl | hz
      · simp
      · exact List.mem_cons_of_mem _ (by simpa using hz)
    · exact hz
  | tp r c =>
    obtain ⟨j, rfl, hsj, hr⟩ := opnd_tmp h h1 (by simp) (by simp)
    obtain ⟨vj, hvj, _⟩ := h.slot j _ hsj
    obtain ⟨s2, l3, l4, h2, ho3, _⟩ := Rd.bind_some ho2
    have hs2 := Rd.slot_some h2
    cases s2 with
    | tup xs =>
      dsimp only at ho3
      cases hy : xs[c]? with
      | none => rw [hy] at ho3; cases ho3
      | some yy => ?_
      rw [hy] at ho3
      match yy, hy, ho3 with
      | none, _, ho3 => cases ho3
      | some (y, m), hy, ho3 =>
        obtain ⟨_, l5, l6, h3, ho4, _⟩ := Rd.bind_some ho3
        have := Rd.pure_some ho4
        subst this
        obtain ⟨vs, v, F', X, d, q1, q2, hI, q3, ⟨us, q4, q5⟩, tk⟩ := h.takeTup hs2 hy
        obtain ⟨_, vs', p1, p2⟩ := hr
        rw [q1] at p1
        simp only [Option.some.injEq, Value.tuple.injEq] at p1
        subst p1
        rw [eval_tmp hvj] at p2
        obtain rfl := some_eq' q2 p2
        have hne : r ≠ j := by
          rintro rfl
          rw [hs2] at hsj; cases hsj
        have hj : ((σ.kill (7, r * 64 + c)).putS (r, .tup (xs.set c none))).slots[j]? = some .undef := by
          simp only [Sg.putS, setR_eq, List.getElem?_set_ne hne, Sg.kill, mapR_eq, List.getElem?_map, hsj, Option.map_some]
          simp [refers, SV.isTp]
        have hfr := hI.freeze tk.free
        have hval : ValRep (fun b => sh b ∨ b ∈ X) w d .sh v [] := ⟨us, q4, Rep.freeze (fun b hb => .inl hb) q5 (fun b hb => .inr hb)⟩
        obtain ⟨F3, hI3, f3⟩ := hput hfr hj hvj q3 hval
        exact ⟨_, F3, d, hI3, q3, by rw [eval_tmp hvj]; exact hval, rfl, hless (hfz tk) f3⟩
    | _ => cases ho3
  | _ => cases ho2

end
end Go.Vm
