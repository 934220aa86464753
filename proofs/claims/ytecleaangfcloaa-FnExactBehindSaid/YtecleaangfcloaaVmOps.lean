/- Each operation does what its name says. Lemmas alone, no statement. -/
import Derived.Test.YtecleaangfcloaaVmCells
import Derived.Laws.CopyRow
import Derived.Laws.Rows
import Derived.Laws.Entries
namespace Go.Vm
set_option linter.unusedVariables false
set_option linter.unusedSimpArgs false
open Go.RowKit

/-- The names' values come out of their texts. -/
def EmOk (Fn : Fns) (ρ : List Dy) : Nat → List Em → Prop
  | _, [] => True
  | n, .e x :: es => (∃ d, ev ρ x = some d ∧ ρ[n]? = some d) ∧ EmOk Fn ρ (n + 1) es
  | n, .call f xs k :: es => (∃ ds rs, evAs ρ xs = some ds ∧ Fn f ds = some rs ∧ rs.length = k ∧ ∀ i r, rs[i]? = some r → ρ[n + i]? = some r) ∧ EmOk Fn ρ (n + k) es

theorem Rd.bind_some {α β : Type} {x : Rd α} {f : α → Rd β} {σ : Sg} {b : β} {l : List (Bool × Nat)} (h : (x >>= f) σ = some (b, l)) :
    ∃ a l1 l2, x σ = some (a, l1) ∧ f a σ = some (b, l2) ∧ l = l1 ++ l2 := by
  change Rd.bind x f σ = _ at h
  unfold Rd.bind at h
  cases h1 : x σ with
  | none => rw [h1] at h; cases h
  | some p =>
    obtain ⟨a, l1⟩ := p
    rw [h1] at h
    dsimp only at h
    cases h2 : f a σ with
    | none => rw [h2] at h; cases h
    | some q =>
      obtain ⟨b', l2⟩ := q
      rw [h2] at h
      simp only [Option.some.injEq, Prod.mk.injEq] at h
      obtain ⟨rfl, rfl⟩ := h
      exact ⟨a, l1, l2, rfl, h2, rfl⟩

theorem Rd.pure_some {α : Type} {a b : α} {σ : Sg} {l : List (Bool × Nat)} (h : (Pure.pure a : Rd α) σ = some (b, l)) : a = b := by
  change some (a, []) = _ at h
  simp at h; exact h.1

theorem Rd.ofO_some {α : Type} {o : Option α} {b : α} {σ : Sg} {l : List (Bool × Nat)} (h : Rd.ofO o σ = some (b, l)) : o = some b := by
  unfold Rd.ofO at h
  cases o with
  | none => cases h
  | some a => simp at h; rw [h.1]

theorem Rd.guard_some {c : Bool} {b : Unit} {σ : Sg} {l : List (Bool × Nat)} (h : Rd.guard c σ = some (b, l)) : c = true := by
  unfold Rd.guard at h
  cases c with
  | false => cases h
  | true => rfl

theorem Rd.slot_some {i : Nat} {s : SV} {σ : Sg} {l : List (Bool × Nat)} (h : Rd.slot i σ = some (s, l)) : σ.slots[i]? = some s := by
  unfold Rd.slot at h
  rw [getR_eq] at h
  cases h1 : σ.slots[i]? with
  | none => rw [h1] at h; cases h
  | some t => rw [h1] at h; simp at h; rw [h.1]

theorem Rd.box_some {i : Nat} {b : List Cell} {σ : Sg} {l : List (Bool × Nat)} (h : Rd.box i σ = some (b, l)) : σ.boxes[i]? = some (some b) := by
  unfold Rd.box at h
  rw [getR_eq] at h
  split at h
  · rename_i c hc; simp at h; rw [hc, h.1]
  · cases h

theorem Rd.cell_some {r c : Nat} {z : Option Cell} {σ : Sg} {l : List (Bool × Nat)} (h : Rd.cell r c σ = some (z, l)) : ∃ cs, σ.boxes[r]? = some (some cs) ∧ z = cs[c]? := by
  unfold Rd.cell at h
  rw [getR_eq] at h
  split at h
  · rename_i b hb
    simp only [Option.some.injEq, Prod.mk.injEq] at h
    exact ⟨b, hb, h.1.symm⟩
  · cases h

theorem Rd.comp_some {r c : Nat} {z : Option (Option (A × Md))} {σ : Sg} {l : List (Bool × Nat)} (h : Rd.comp r c σ = some (z, l)) : ∃ xs, σ.slots[r]? = some (.tup xs) ∧ z = xs[c]? := by
  unfold Rd.comp at h
  rw [getR_eq] at h
  split at h
  · rename_i b hb
    simp only [Option.some.injEq, Prod.mk.injEq] at h
    exact ⟨b, hb, h.1.symm⟩
  · cases h

theorem Rd.slotK_some {i : Nat} {s : SV} {σ : Sg} {l : List (Bool × Nat)} (h : Rd.slotK i σ = some (s, l)) : σ.slots[i]? = some s ∧ i ∉ σ.kp := by
  unfold Rd.slotK at h
  rw [getR_eq] at h
  split at h
  · cases h
  · rename_i hk
    refine ⟨?_, fun hm => hk (List.contains_iff_mem.2 hm)⟩
    split at h
    · rename_i c hc; simp at h; rw [hc, h.1]
    · cases h

theorem kb_free {i : Nat} {σ : Sg} (h : σ.kb.all (fun x => x.1 != i) = true) : ∀ p, (i, p) ∉ σ.kb := by
  intro p hp
  have := List.all_eq_true.1 h _ hp
  simp at this

theorem Rd.boxAny_some {i : Nat} {b : Bx} {σ : Sg} {l : List (Bool × Nat)} (h : Rd.boxAny i σ = some (b, l)) : i < σ.boxes.length ∧ ∀ p, (i, p) ∉ σ.kb := by
  unfold Rd.boxAny at h
  rw [getR_eq] at h
  split at h
  · rename_i hk
    refine ⟨?_, kb_free hk⟩
    split at h
    · rename_i c hc; exact (List.getElem?_eq_some_iff.1 hc).1
    · cases h
  · cases h

theorem Rd.boxW_some {i : Nat} {c : List Cell} {σ : Sg} {l : List (Bool × Nat)} (h : Rd.boxW i σ = some (c, l)) : σ.boxes[i]? = some (some c) ∧ ∀ p, (i, p) ∉ σ.kb := by
  unfold Rd.boxW at h
  rw [getR_eq] at h
  split at h
  · rename_i hk
    refine ⟨?_, kb_free hk⟩
    split at h
    · rename_i c hc; simp at h; rw [hc, h.1]
    · cases h
  · cases h

theorem Rd.boxFor_some {i : Nat} {x : Operand} {b : Bx} {σ : Sg} {l : List (Bool × Nat)} (h : Rd.boxFor i x σ = some (b, l)) : i < σ.boxes.length ∧ ∀ p, (i, p) ∈ σ.kb → x = .tmp p ∧ p ∈ σ.kp := by
  unfold Rd.boxFor at h
  rw [getR_eq] at h
  split at h
  · rename_i hk
    refine ⟨?_, fun p hp => ?_⟩
    · split at h
      · rename_i c hc; exact (List.getElem?_eq_some_iff.1 hc).1
      · cases h
    · have := List.all_eq_true.1 hk _ hp
      simp only [bne_self_eq_false, Bool.false_or] at this
      unfold Rd.forB at this
      split at this
      · simp only [Bool.and_eq_true, beq_iff_eq] at this
        obtain ⟨rfl, h2⟩ := this
        exact ⟨rfl, List.contains_iff_mem.1 h2⟩
      · cases this
  · cases h

theorem Rd.known_some {x : A} {b : Option Bool} {σ : Sg} {l : List (Bool × Nat)} (h : Rd.known x σ = some (b, l)) : Vm.known σ x = b := by
  unfold Rd.known at h
  simp at h; exact h.1

theorem dstOf_some {o : Option Tmp} {d : Nat} {σ : Sg} {l : List (Bool × Nat)} (h : dstOf o σ = some (d, l)) : o = some d ∧ DstOk σ d := by
  unfold dstOf at h
  obtain ⟨d', l1, l2, h1, h3, _⟩ := Rd.bind_some h
  obtain ⟨s, l3, l4, h2, h4, _⟩ := Rd.bind_some h3
  obtain ⟨kp, l7, l8, h7, h8, _⟩ := Rd.bind_some h4
  obtain ⟨_, l5, l6, h5, h6, _⟩ := Rd.bind_some h8
  have := Rd.pure_some h6
  subst this
  have hkp : σ.kp = kp := by unfold Rd.kp at h7; simp at h7; exact h7.1
  have hg0 := Rd.guard_some h5
  simp only [Bool.and_eq_true, Bool.not_eq_true'] at hg0
  obtain ⟨hg, hg2⟩ := hg0
  have hs := Rd.slot_some h2
  refine ⟨Rd.ofO_some h1, ⟨(List.getElem?_eq_some_iff.1 hs).1, fun x hx => ?_⟩, fun hm => by rw [hkp] at hm; rw [List.contains_iff_mem.2 hm] at hg2; cases hg2⟩
  rw [hs] at hx
  simp only [Option.some.injEq] at hx
  subst hx
  exact hg

section
variable {P : Program} {C : Nat → Option Sig} {Fn : Fns} {sh0 : Nat → Prop} {w0 : World} {G0 : Frm} {ρ : List Dy} {σ : Sg} {a : Act} {w : World}
  {sh : Nat → Prop} {F : Bool → Nat → List Nat} {β : Nat → Nat} {o : Oper} {st : Step} {l : List (Bool × Nat)} {d : Nat} {Q : Exit → Act → World → Prop}

theorem some_eq' {α : Type} {x : Option α} {a b : α} (h : x = some a) (k : x = some b) : a = b := by rw [h] at k; exact Option.some.inj k

theorem eval_tmp {i : Nat} {v : Value} (h : a.tmps[i]? = some v) : a.eval (.tmp i) = v := by simp [Act.eval, Array.getD_eq_getD_getElem?, h]

theorem strOf_back (s : ByteArray) : strOf (s.data.toList.map (·.toNat)) = s := by
  unfold strOf
  rw [List.map_map]
  have : (fun x : UInt8 => (Nat.toUInt8 ∘ UInt8.toNat) x) = id := by funext x; simp
  rw [show (Nat.toUInt8 ∘ UInt8.toNat) = (id : UInt8 → UInt8) from this]
  simp

theorem constA_rep {t : TypeId} {v : Value} {c : A} (h : constA P t v = some c) : ∃ d, evA ρ c = some d ∧ AtomRep sh w d (constM c) v [] := by
  unfold constA at h
  split at h
  · simp at h; subst h; exact ⟨_, rfl, rfl, rfl, rfl⟩
  · simp at h; subst h; exact ⟨_, rfl, rfl, rfl, rfl⟩
  · simp at h; subst h; exact ⟨_, rfl, rfl, by simp [strOf_back], rfl⟩
  · split at h
    · simp at h; subst h
      exact ⟨_, rfl, rfl, none, 0, rfl, Nat.le_refl _, .inl ⟨rfl, rfl, rfl⟩⟩
    · cases h
  · cases h

theorem opnd_rep {t : TypeId} {x : Operand} {s : SV} (h : InvG sh0 w0 G0 ρ σ a w sh F β) (ho : opnd P t x σ = some (s, l)) :
    (∃ i, x = .tmp i ∧ σ.slots[i]? = some s ∧ SVRep sh w ρ β a.tmps F s (a.eval x) (F false i)) ∨ (∃ c d v, x = .const v ∧ s = .at c (constM c) ∧ evA ρ c = some d ∧ AtomRep sh w d (constM c) (a.eval x) []) ∨ (∃ f, x = .func f ∧ s = .fn f []) := by
  cases x with
  | tmp i =>
    have hs := Rd.slot_some ho
    obtain ⟨v, hv, hr⟩ := h.slot i s hs
    exact .inl ⟨i, rfl, hs, by rw [eval_tmp hv]; exact hr⟩
  | const v =>
    have := Rd.ofO_some (σ := σ) ho
    obtain ⟨c, hc, rfl⟩ := Option.map_eq_some_iff.1 this
    obtain ⟨d, hd, hr⟩ := constA_rep (ρ := ρ) (sh := sh) (w := w) hc
    exact .inr (.inl ⟨c, d, v, rfl, rfl, hd, hr⟩)
  | global g => cases ho
  | func f =>
    have := Rd.pure_some ho
    exact .inr (.inr ⟨f, rfl, this.symm⟩)

theorem opnd_sh {t : TypeId} {x : Operand} {c : A} (h : InvG sh0 w0 G0 ρ σ a w sh F β) (ho : opnd P t x σ = some (.at c .sh, l)) :
    ∃ d, evA ρ c = some d ∧ ValRep sh w d .sh (a.eval x) [] := by
  rcases opnd_rep h ho with ⟨i, rfl, hs, hr⟩ | ⟨c', d, v, _, hc, hd, hr⟩ | ⟨_, _, hc⟩
  · obtain ⟨d, hd, vs, hv, hr⟩ := hr
    refine ⟨d, hd, vs, hv, ?_⟩
    have := hr.sh_nil
    rw [this] at hr
    exact hr
  · simp only [SV.at.injEq] at hc
    obtain ⟨rfl, hm⟩ := hc
    rw [← hm] at hr
    exact ⟨d, hd, valRep_atom hr⟩
  · cases hc

/-- A nil slice is one that nobody writes. -/
theorem nil_sh {e : Ty} {m : Md} {v : Value} {X : List Nat} (h : ValRep sh w ⟨.sl e, []⟩ m v X) : ValRep sh w ⟨.sl e, []⟩ .sh v [] := by
  obtain ⟨vs, hv, hr⟩ := h
  refine ⟨vs, hv, ?_⟩
  cases m with
  | sh => obtain ⟨ad, cap, h1, h2, _⟩ := hr; exact ⟨ad, cap, h1, h2, rfl, .inl rfl⟩
  | own m => obtain ⟨ad, cap, h1, h2, _⟩ := hr; exact ⟨ad, cap, h1, h2, rfl, .inl rfl⟩
  | pair _ _ => exact hr.elim

theorem opnd_nil {t : TypeId} {x : Operand} {e : Ty} {m : Md} (h : InvG sh0 w0 G0 ρ σ a w sh F β) (ho : opnd P t x σ = some (.at (.nil e) m, l)) :
    ValRep sh w ⟨.sl e, []⟩ .sh (a.eval x) [] := by
  rcases opnd_rep h ho with ⟨i, rfl, hs, hr⟩ | ⟨c', d, v, _, hc, hd, hr⟩ | ⟨_, _, hc⟩
  · obtain ⟨d, hd, hv⟩ := hr
    simp only [evA, Option.some.injEq] at hd
    subst hd
    exact nil_sh hv
  · simp only [SV.at.injEq] at hc
    obtain ⟨rfl, hm⟩ := hc
    simp only [evA, Option.some.injEq] at hd
    subst hd
    exact nil_sh (valRep_atom hr)
  · cases hc

theorem opnd_ptr {t : TypeId} {x : Operand} {r f : Nat} (h : InvG sh0 w0 G0 ρ σ a w sh F β) (ho : opnd P t x σ = some (.ptr r f, l)) :
    a.eval x = .pointer (some ⟨β r, f, none⟩) := by
  rcases opnd_rep h ho with ⟨i, rfl, hs, hr⟩ | ⟨c', d, v, _, hc, hd, hr⟩ | ⟨_, _, hc⟩
  · exact hr.2
  · cases hc
  · cases hc

theorem opnd_psh {t : TypeId} {x : Operand} {c : A} {f : Nat} (h : InvG sh0 w0 G0 ρ σ a w sh F β) (ho : opnd P t x σ = some (.psh c f, l)) :
    SVRep sh w ρ β a.tmps F (.psh c f) (a.eval x) [] := by
  rcases opnd_rep h ho with ⟨i, rfl, hs, hr⟩ | ⟨c', d, v, _, hc, hd, hr⟩ | ⟨_, _, hc⟩
  · have := hr.1
    rw [this] at hr
    exact hr
  · cases hc
  · cases hc

theorem opnd_tmp {t : TypeId} {x : Operand} {s : SV} (h : InvG sh0 w0 G0 ρ σ a w sh F β) (ho : opnd P t x σ = some (s, l)) (hn : ∀ c m, s ≠ .at c m) (hf : ∀ f, s ≠ .fn f []) :
    ∃ i, x = .tmp i ∧ σ.slots[i]? = some s ∧ SVRep sh w ρ β a.tmps F s (a.eval x) (F false i) := by
  rcases opnd_rep h ho with h1 | ⟨c, d, v, _, hc, _⟩ | ⟨f, _, hc⟩
  · exact h1
  · exact absurd hc (hn _ _)
  · exact absurd hc (hf _)

theorem opnd_fn {t : TypeId} {x : Operand} {g : Nat} {cs : List Cp} (h : InvG sh0 w0 G0 ρ σ a w sh F β) (ho : opnd P t x σ = some (.fn g cs, l)) :
    SVRep sh w ρ β a.tmps F (.fn g cs) (a.eval x) [] := by
  rcases opnd_rep h ho with ⟨i, rfl, hs, hr⟩ | ⟨c, d, v, _, hc, _⟩ | ⟨f, rfl, hc⟩
  · exact ⟨rfl, hr.2⟩
  · cases hc
  · simp only [SV.fn.injEq] at hc
    obtain ⟨rfl, rfl⟩ := hc
    exact ⟨rfl, [], rfl, rfl⟩

theorem known_rep (h : InvG sh0 w0 G0 ρ σ a w sh F β) {x : A} {b : Bool} (hk : known σ x = some b) : evA ρ x = some ⟨.bool, b⟩ := by
  have key : ∀ y : A, (σ.dec.find? fun z => z.1 == y).map (·.2) = some b → evA ρ y = some ⟨.bool, b⟩ := by
    intro y hk
    obtain ⟨z, hz, rfl⟩ := Option.map_eq_some_iff.1 hk
    have h1 := List.find?_some hz
    have h2 := List.mem_of_find?_eq_some hz
    have h1 : z.1 = y := by simpa using h1
    subst h1
    exact h.dec z.1 z.2 h2
  cases x with
  | bool c => simp [known] at hk; subst hk; rfl
  | _ => exact key _ hk

theorem lookSh_rep {t : TypeId} {x : Operand} {c : A} (h : InvG sh0 w0 G0 ρ σ a w sh F β) (ho : lookSh P t x σ = some (c, l)) :
    ∃ d, evA ρ c = some d ∧ ValRep sh w d .sh (a.eval x) [] := by
  unfold lookSh at ho
  obtain ⟨s, l1, l2, h1, ho', _⟩ := Rd.bind_some ho
  cases s with
  | «at» y m =>
    cases m with
    | sh =>
      have := Rd.pure_some ho'
      subst this
      exact opnd_sh h h1
    | own m =>
      cases y with
      | nil e =>
        have := Rd.pure_some ho'
        subst this
        exact ⟨_, rfl, opnd_nil h h1⟩
      | _ => cases ho'
    | pair _ _ => cases y <;> cases ho'
  | _ => cases ho'

/-- An alias is of a row that is owned: its name, its elements' mode. -/
def RootIs (σ : Sg) (b : Bool) (r c : Nat) (x : A) (m : Md) : Prop :=
  match b with
  | false => σ.slots[r]? = some (.at x (.own m))
  | true => ∃ cs, σ.boxes[r]? = some (some cs) ∧ cs[c]? = some (some (x, .own m))

/-- A row that is owned, in a slot or a box's cell. -/
theorem root_rep {b : Bool} {r c : Nat} {x : A} {m : Md} {v : Value} (h : InvG sh0 w0 G0 ρ σ a w sh F β)
    (hs : RootIs σ b r c x m)
    (hv : HdrIs w β a.tmps F b r c v) : ∃ d G, evA ρ x = some d ∧ ValRep sh w d (.own m) v G ∧ (∀ k ∈ G, k ∈ F b r) := by
  cases b with
  | false =>
    obtain ⟨u, hu, d, h1, h2⟩ := h.slot r _ hs
    have : u = v := some_eq' hu hv
    subst this
    exact ⟨d, _, h1, h2, fun k hk => hk⟩
  | true =>
    obtain ⟨cs, h1, h2⟩ := hs
    obtain ⟨ar, ty, F', k1, k2, k3⟩ := h.box r cs h1
    obtain ⟨G, hG, u, hu, d, e1, e2, e3⟩ := RepL.get (n := 1) (fun x vs F hh => by obtain ⟨v, rfl, _⟩ := hh; rfl) k3 h2
    have hcf : ar[c]? = some u := by
      have := congrArg List.head? hu
      simp [List.head?_take, List.head?_drop] at this
      simpa using this
    have : u = v := by
      have hc := hv.2
      simp only [World.cell?, k1] at hc
      simp at hc
      exact some_eq' hcf hc
    subst this
    exact ⟨d, G, e1, valRep_atom ⟨e2, e3⟩, fun k hk => by rw [k2]; exact List.mem_cons_of_mem _ (hG k hk)⟩

theorem pelV_ptr {g m n off len cap : Nat} (h : off ≠ winK) : pelV g m n off len cap = .pointer (some ⟨g, m * n + off, none⟩) := by
  unfold pelV; rw [if_neg h]
theorem pelV_win {g m n len cap : Nat} : pelV g m n winK len cap = .slice (some ⟨g, m * n, none⟩) (len - n) (cap - n) := by
  unfold pelV; rw [if_pos rfl]

theorem rootOk_pel {b : Bool} {r c m m' f f' : Nat} {i i' : A} (h : rootOk σ (.pel b r c m i f)) : rootOk σ (.pel b r c m' i' f') := by
  cases b <;> exact h

theorem rootOk_rf {b : Bool} {r c m' f' : Nat} {i' : A} {ln : Option A} (h : rootOk σ (.rf b r c ln)) : rootOk σ (.pel b r c m' i' f') := by
  cases b <;> exact h

theorem rootA_some {b : Bool} {r c : Nat} {x : A} {m : Md} (ho : rootA b r c σ = some ((x, m), l)) : RootIs σ b r c x m := by
  unfold rootA at ho
  cases b with
  | false =>
    obtain ⟨s, l1, l2, h1, h2, _⟩ := Rd.bind_some ho
    have hs := Rd.slot_some h1
    cases s with
    | «at» y m2 =>
      cases m2 with
      | own m3 =>
        have := Rd.pure_some h2
        simp only [Prod.mk.injEq] at this
        obtain ⟨rfl, rfl⟩ := this
        exact hs
      | _ => cases h2
    | _ => cases h2
  | true =>
    obtain ⟨z, l1, l2, h1, h2, _⟩ := Rd.bind_some ho
    obtain ⟨cs, hs, rfl⟩ := Rd.cell_some h1
    cases hy : cs[c]? with
    | none => rw [hy] at h2; cases h2
    | some yy => ?_
    rw [hy] at h2
    match yy, hy, h2 with
    | none, _, h2 => cases h2
    | some (y, .sh), _, h2 => cases h2
    | some (y, .pair _ _), _, h2 => cases h2
    | some (y, .own m3), hy, h2 =>
      have := Rd.pure_some h2
      simp only [Prod.mk.injEq] at this
      obtain ⟨rfl, rfl⟩ := this
      exact ⟨cs, hs, hy⟩

theorem opnd_rf {t : TypeId} {x : Operand} {b : Bool} {r c : Nat} {ln : Option A} (h : InvG sh0 w0 G0 ρ σ a w sh F β) (ho : opnd P t x σ = some (.rf b r c ln, l)) :
    HdrIs w β a.tmps F b r c (a.eval x) ∧ rootOk σ (.rf b r c ln) := by
  rcases opnd_rep h ho with ⟨i, rfl, hs, hr⟩ | ⟨c', d, v, _, hc, hd, hr⟩ | ⟨_, _, hc⟩
  · exact ⟨hr.2.1, h.refs i _ hs⟩
  · cases hc
  · cases hc

theorem opnd_pel {t : TypeId} {x i : Operand} {b : Bool} {r c m f : Nat} {i : A} (h : InvG sh0 w0 G0 ρ σ a w sh F β) (ho : opnd P t x σ = some (.pel b r c m i f, l)) :
    SVRep sh w ρ β a.tmps F (.pel b r c m i f) (a.eval x) [] ∧ rootOk σ (.pel b r c m i f) := by
  rcases opnd_rep h ho with ⟨j, rfl, hs, hr⟩ | ⟨c', d, v, _, hc, hd, hr⟩ | ⟨_, _, hc⟩
  · exact ⟨⟨rfl, hr.2⟩, h.refs j _ hs⟩
  · cases hc
  · cases hc

/-- What is read is read rightly: some modes, some owners. -/
theorem look_rep {t : TypeId} {x : Operand} {c : A} (h : InvG sh0 w0 G0 ρ σ a w sh F β) (ho : look P t x σ = some (c, l)) :
    ∃ d sh2 m G, evA ρ c = some d ∧ ValRep sh2 w d m (a.eval x) G ∧ ∀ k, (sh2 k ∨ k ∈ G) → k < w.heap.size := by
  have hall : ∀ k, (sh k ∨ ∃ b i, k ∈ F b i) → k < w.heap.size := by
    rintro k (hk | ⟨b, i, hk⟩)
    · exact h.sh_lt k hk
    · exact (h.own b i k hk).2.1
  unfold look at ho
  obtain ⟨s, l1, l2, h1, ho', _⟩ := Rd.bind_some ho
  rcases opnd_rep h h1 with ⟨i, rfl, hs, hr⟩ | ⟨c', d, v, _, hc, hd, hr⟩ | ⟨_, _, hc⟩
  · cases s with
    | «at» y m =>
      have := Rd.pure_some ho'
      subst this
      obtain ⟨d, hd, hv⟩ := hr
      exact ⟨d, sh, _, _, hd, hv, fun k hk => hall k (hk.imp id fun hk => ⟨_, _, hk⟩)⟩
    | ea y b r c m i off nn =>
      have := Rd.pure_some ho'
      subst this
      obtain ⟨_, ⟨d, sh2, h2, h3, h4⟩, _⟩ := hr
      exact ⟨d, sh2, _, _, h2, h3, fun k hk => by
        rcases hk with hk | hk
        · exact hall k ((h4 k hk).imp id fun hk => ⟨_, _, hk⟩)
        · simp at hk⟩
    | tp r c2 =>
      obtain ⟨z, l3, l4, h2, ho2, _⟩ := Rd.bind_some ho'
      obtain ⟨xs, hs2, rfl⟩ := Rd.comp_some h2
      cases hy : xs[c2]? with
      | none => rw [hy] at ho2; cases ho2
      | some yy => ?_
      rw [hy] at ho2
      match yy, hy, ho2 with
      | none, _, ho2 => cases ho2
      | some (y, m), hy, ho2 =>
        have := Rd.pure_some ho2
        subst this
        obtain ⟨_, vs, q1, q2⟩ := hr
        obtain ⟨u, hu, vs', rfl, hrep⟩ := h.slot r _ hs2
        rw [q1] at hu
        simp only [Option.some.injEq, Value.tuple.injEq] at hu
        subst hu
        obtain ⟨G, hG, hget⟩ := RepL.get (n := 1) (fun x vs F hh => by obtain ⟨v, rfl, _⟩ := hh; rfl) hrep hy
        obtain ⟨v, hvv, d, e1, e2⟩ := hget
        have hcf : vs[c2]? = some v := by
          have := congrArg List.head? hvv
          simp [List.head?_take, List.head?_drop] at this
          simpa using this
        obtain rfl := some_eq' q2 hcf
        exact ⟨d, sh, m, G, e1, e2, fun k hk => hall k (hk.imp id fun hk => ⟨false, r, hG k hk⟩)⟩
    | rf b r c2 ln =>
      cases b with
      | false =>
        obtain ⟨s2, l3, l4, h2, ho2, _⟩ := Rd.bind_some ho'
        have hs2 := Rd.slot_some h2
        cases s2 with
        | «at» y m =>
          cases m with
          | own m =>
            have := Rd.pure_some ho2
            subst this
            obtain ⟨d, G, e1, e2, e3⟩ := root_rep (b := false) (c := 0) h hs2 hr.2.1
            exact ⟨d, sh, _, G, e1, e2, fun k hk => hall k (hk.imp id fun hk => ⟨_, _, e3 k hk⟩)⟩
          | _ => cases ho2
        | _ => cases ho2
      | true =>
        obtain ⟨z, l3, l4, h2, ho2, _⟩ := Rd.bind_some ho'
        obtain ⟨cs, hs2, rfl⟩ := Rd.cell_some h2
        cases hy : cs[c2]? with
        | none => rw [hy] at ho2; cases ho2
        | some yy => ?_
        rw [hy] at ho2
        match yy, hy, ho2 with
        | none, _, ho2 => cases ho2
        | some (y, .sh), _, ho2 => cases ho2
        | some (y, .pair _ _), _, ho2 => cases ho2
        | some (y, .own m), hy, ho2 =>
          have := Rd.pure_some ho2
          subst this
          obtain ⟨d, G, e1, e2, e3⟩ := root_rep (b := true) (c := c2) h ⟨cs, hs2, hy⟩ hr.2.1
          exact ⟨d, sh, _, G, e1, e2, fun k hk => hall k (hk.imp id fun hk => ⟨_, _, e3 k hk⟩)⟩
    | _ => cases ho'
  · subst hc
    have := Rd.pure_some ho'
    subst this
    exact ⟨d, sh, _, _, hd, valRep_atom hr, fun k hk => hall k (hk.imp id fun hk => (by simp at hk))⟩
  · subst hc
    cases ho'

theorem valA_rep {d : Dy} {m : Md} {G : List Nat} {v u : Value} (h : ValRep sh w d m v G) (hv : valA d = some u) : v = u := by
  obtain ⟨vs, rfl, hr⟩ := h
  obtain ⟨τ, x⟩ := d
  cases τ with
  | int k => simp only [valA, Option.some.injEq] at hv; subst hv; rw [hr.1]; rfl
  | bool => simp only [valA, Option.some.injEq] at hv; subst hv; rw [hr.1]; rfl
  | str => simp only [valA, Option.some.injEq] at hv; subst hv; rw [hr.1]; rfl
  | _ => simp [valA] at hv

theorem dyOf_rep {d : Dy} {v : Value} (h : dyOf v = some d) : AtomRep sh w d .sh v [] := by
  unfold dyOf at h
  split at h
  · simp at h; subst h; exact ⟨rfl, rfl, rfl⟩
  · simp at h; subst h; exact ⟨rfl, rfl, rfl⟩
  · simp at h; subst h; exact ⟨rfl, rfl, rfl⟩
  · cases h

theorem wp_value {v : Value} {w' : World} {K : Act → World → Prop} (hr : (execOp a.eval o).run P w = .ok (.value v) w') (hk : K (a.put o.dst v) w') : o.wp P a w K Q := by
  unfold Oper.wp; rw [hr]; exact hk

theorem wp_skip' {w' : World} {K : Act → World → Prop} (hr : (execOp a.eval o).run P w = .ok .skip w') (hk : K (a.put o.dst undef) w') : o.wp P a w K Q := by
  unfold Oper.wp; rw [hr]; exact hk

theorem EmOk.e1 {n : Nat} {x : Ex} (h : EmOk Fn ρ n [.e x]) : ∃ d, ev ρ x = some d ∧ ρ[n]? = some d := h.1

/-- A value that nobody writes, put into a slot. -/
theorem InvG.putSh (h : InvG sh0 w0 G0 ρ σ a w sh F β) {c : A} {dy : Dy} {v : Value} (hd : DstOk σ d) (hc : evA ρ c = some dy) (hv : ValRep sh w dy .sh v []) :
    Inv sh0 w0 G0 ρ (σ.putS (d, .at c .sh)) (a.put (some d) v) w :=
  ⟨_, _, _, h.put_none hd ⟨dy, hc, hv⟩⟩

theorem sound_e {op : Xo} {args : List A} {nv : Nat} (h : InvG sh0 w0 G0 ρ σ a w sh F β) (hd : o.dst = some d) (hlt : DstOk σ d)
    (he : EmOk Fn ρ nv (putE d nv op args).em) (hrun : ∀ ds dy, evAs ρ args = some ds → evX op ds = some dy → ∃ v, (execOp a.eval o).run P w = .ok (.value v) w ∧ ValRep sh w dy .sh v []) :
    o.wp P a w (Inv sh0 w0 G0 ρ (σ.apply (putE d nv op args))) Q := by
  obtain ⟨dy, h1, h2⟩ := he.1
  unfold ev at h1
  cases hds : evAs ρ args with
  | none => simp only [hds] at h1; cases h1
  | some ds =>
    simp only [hds] at h1
    obtain ⟨v, hr, hv⟩ := hrun ds dy hds h1
    refine wp_value hr ?_
    rw [hd]
    exact h.putSh hlt h2 hv

theorem evAs1 {x : A} {ds : List Dy} (h : evAs ρ [x] = some ds) : ∃ d, evA ρ x = some d ∧ ds = [d] := by
  simp only [evAs] at h
  cases hx : evA ρ x with
  | none => rw [hx] at h; cases h
  | some d => rw [hx] at h; simp at h; exact ⟨d, rfl, h.symm⟩

theorem evAs_cons {x : A} {xs : List A} {ds : List Dy} (h : evAs ρ (x :: xs) = some ds) : ∃ d r, evA ρ x = some d ∧ evAs ρ xs = some r ∧ ds = d :: r := by
  simp only [evAs] at h
  cases hx : evA ρ x with
  | none => rw [hx] at h; cases h
  | some d =>
    cases hr : evAs ρ xs with
    | none => rw [hx, hr] at h; cases h
    | some r => rw [hx, hr] at h; simp at h; exact ⟨d, r, rfl, rfl, h.symm⟩

theorem run_pureOf {α : Type} {s : Sem α} {v : α} (h : pureOf s = some v) (w : World) : s.run P w = .ok v w := by
  cases s <;> simp [pureOf] at h
  subst h; rfl

theorem eqGuard_atoms {op : BinOp} {t : TypeId} {x y : Operand} {u v : Value} (hu : (∃ k n, u = .int k n) ∨ (∃ b, u = .bool b) ∨ ∃ s, u = .string s) (w : World) :
    (eqGuard op t x y u v).run P w = .ok () w := by
  unfold eqGuard
  rcases hu with ⟨k, n, rfl⟩ | ⟨b, rfl⟩ | ⟨s, rfl⟩ <;> (split <;> rfl)

theorem valA_kinds {d : Dy} {u : Value} (h : valA d = some u) : (∃ k n, u = .int k n) ∨ (∃ b, u = .bool b) ∨ ∃ s, u = .string s := by
  obtain ⟨τ, x⟩ := d
  cases τ with
  | int k => simp [valA] at h; exact .inl ⟨k, x, h.symm⟩
  | bool => simp [valA] at h; exact .inr (.inl ⟨x, h.symm⟩)
  | str => simp [valA] at h; exact .inr (.inr ⟨x, h.symm⟩)
  | _ => simp [valA] at h

theorem evAs2 {x y : A} {ds : List Dy} (h : evAs ρ [x, y] = some ds) : ∃ d e, evA ρ x = some d ∧ evA ρ y = some e ∧ ds = [d, e] := by
  obtain ⟨d, r, h1, h2, rfl⟩ := evAs_cons h
  obtain ⟨e, h3, rfl⟩ := evAs1 h2
  exact ⟨d, e, h1, h3, rfl⟩

theorem evAs3 {x y z : A} {ds : List Dy} (h : evAs ρ [x, y, z] = some ds) : ∃ d e f, evA ρ x = some d ∧ evA ρ y = some e ∧ evA ρ z = some f ∧ ds = [d, e, f] := by
  obtain ⟨d, r, h1, h2, rfl⟩ := evAs_cons h
  obtain ⟨e, f, h3, h4, rfl⟩ := evAs2 h2
  exact ⟨d, e, f, h1, h3, h4, rfl⟩

theorem some_eq {α : Type} {x : Option α} {a b : α} (h : x = some a) (k : x = some b) : a = b := by rw [h] at k; exact Option.some.inj k

theorem run_bool_op {op : BinOp} {t : TypeId} (hu : P.underlying t = some .bool) (ne : Bool) (hop : op = if ne then .neq else .eql) (b1 b2 : Bool) (w : World) :
    (binOp op t (.bool b1) (.bool b2)).run P w = .ok (.bool (if ne then !(b1 == b2) else b1 == b2)) w := by
  have key : (Op.equal t (.bool b1) (.bool b2)).run P w = .ok (b1 == b2) w := by
    show (Op.equalIn (9999 + 1) t (.bool b1) (.bool b2)).run P w = _
    rw [Op.equalIn, Sem.run_bind, run_underlying hu]
    rfl
  subst hop
  cases ne with
  | true =>
    show ((do pure (.bool (!(← Op.equal t (.bool b1) (.bool b2)))) : Sem Value)).run P w = _
    rw [Sem.run_bind, key]; rfl
  | false =>
    show ((do pure (.bool (← Op.equal t (.bool b1) (.bool b2))) : Sem Value)).run P w = _
    rw [Sem.run_bind, key]; rfl

theorem beq_inv {ne : Bool} {d1 d2 dy : Dy} (h : evX (.beq ne) [d1, d2] = some dy) :
    ∃ a b, d1 = ⟨.bool, a⟩ ∧ d2 = ⟨.bool, b⟩ ∧ dy = ⟨.bool, if ne then !(a == b) else a == b⟩ := by
  obtain ⟨τ1, x1⟩ := d1
  obtain ⟨τ2, x2⟩ := d2
  cases τ1 <;> first | (simp [evX] at h; done) | (cases τ2 <;> first | (simp [evX] at h; done) | exact ⟨x1, x2, rfl, rfl, by simpa [evX] using h.symm⟩)

theorem sound_bin {op : BinOp} {t u : TypeId} {x y : Operand} {nv : Nat} (h : InvG sh0 w0 G0 ρ σ a w sh F β) (hop : o.op = .binOp op t x y u) (hd : o.dst = some d) (hlt : DstOk σ d)
    (hs : stE2 P nv d (binX P op t) t x u y σ = some (st, l)) (he : EmOk Fn ρ nv st.em) : o.wp P a w (Inv sh0 w0 G0 ρ (σ.apply st)) Q := by
  unfold stE2 at hs
  obtain ⟨c1, l1, l2, h1, hs1, _⟩ := Rd.bind_some hs
  obtain ⟨c2, l3, l4, h2, hs2, _⟩ := Rd.bind_some hs1
  have := Rd.pure_some hs2
  subst this
  obtain ⟨d1, sqd1, m1, X1, e1, r1, _⟩ := look_rep h h1
  obtain ⟨d2, sqd2, m2, X2, e2, r2, _⟩ := look_rep h h2
  refine sound_e h hd hlt he fun ds dy hds hev => ?_
  obtain ⟨d1', d2', k1, k2, rfl⟩ := evAs2 hds
  obtain rfl := some_eq e1 k1
  obtain rfl := some_eq e2 k2
  have hgen : evX (.bin op t) [d1, d2] = some dy → ∃ v, (execOp a.eval o).run P w = .ok (.value v) w ∧ ValRep sh w dy .sh v [] := by
    intro hev
    simp only [evX] at hev
    cases hv1 : valA d1 with
    | none => rw [hv1] at hev; cases hev
    | some v1 =>
      cases hv2 : valA d2 with
      | none => rw [hv1, hv2] at hev; cases hev
      | some v2 =>
        rw [hv1, hv2] at hev
        dsimp only at hev
        cases hp : pureOf (binOp op t v1 v2) with
        | none => rw [hp] at hev; cases hev
        | some v =>
          rw [hp] at hev
          refine ⟨v, ?_, valRep_atom (dyOf_rep hev)⟩
          unfold execOp
          rw [hop]
          simp only [Sem.run_bind, valA_rep r1 hv1, valA_rep r2 hv2, eqGuard_atoms (valA_kinds hv1), Result.andThen_ok, run_pureOf hp, Sem.run_pure]
  have hb : ∀ ne : Bool, (op = if ne then .neq else .eql) → P.underlying t = some .bool → evX (.beq ne) [d1, d2] = some dy → ∃ v, (execOp a.eval o).run P w = .ok (.value v) w ∧ ValRep sh w dy .sh v [] := by
    intro ne hop' hu hev
    obtain ⟨b1, b2, rfl, rfl, rfl⟩ := beq_inv hev
    have q1 : a.eval x = .bool b1 := valA_rep r1 rfl
    have q2 : a.eval y = .bool b2 := valA_rep r2 rfl
    refine ⟨.bool (if ne then !(b1 == b2) else b1 == b2), ?_, valRep_atom ⟨rfl, rfl, rfl⟩⟩
    unfold execOp
    rw [hop]
    simp only [Sem.run_bind, q1, q2, eqGuard_atoms (.inr (.inl ⟨b1, rfl⟩)), Result.andThen_ok]
    rw [run_bool_op hu ne hop']
    rfl
  unfold binX at hev
  split at hev
  · exact hb false rfl ‹_› hev
  · exact hb true rfl ‹_› hev
  · exact hgen hev

theorem sound_un {op : UnOp} {t : TypeId} {x : Operand} {nv : Nat} (h : InvG sh0 w0 G0 ρ σ a w sh F β) (hop : o.op = .unOp op t x) (hd : o.dst = some d) (hlt : DstOk σ d)
    (hs : stE1 P nv d (.un op) t x σ = some (st, l)) (he : EmOk Fn ρ nv st.em) : o.wp P a w (Inv sh0 w0 G0 ρ (σ.apply st)) Q := by
  unfold stE1 at hs
  obtain ⟨c1, l1, l2, h1, hs1, _⟩ := Rd.bind_some hs
  have := Rd.pure_some hs1
  subst this
  obtain ⟨d1, sqd1, m1, X1, e1, r1, _⟩ := look_rep h h1
  refine sound_e h hd hlt he fun ds dy hds hev => ?_
  obtain ⟨d1', k1, rfl⟩ := evAs1 hds
  obtain rfl := some_eq e1 k1
  simp only [evX] at hev
  cases hv1 : valA d1 with
  | none => rw [hv1] at hev; cases hev
  | some v1 =>
    rw [hv1] at hev
    dsimp only at hev
    cases hp : pureOf (Op.unary op v1) with
    | none => rw [hp] at hev; cases hev
    | some v =>
      rw [hp] at hev
      refine ⟨v, ?_, valRep_atom (dyOf_rep hev)⟩
      unfold execOp
      rw [hop]
      simp only [Sem.run_bind, valA_rep r1 hv1, Result.andThen_ok, run_pureOf hp, Sem.run_pure]

theorem sl_val {e : Ty} {xs : D (.sl e)} {m : Md} {v : Value} {G : List Nat} (h : ValRep sh w ⟨.sl e, xs⟩ m v G) : ∃ ad cap, v = .slice ad xs.length cap ∧ xs.length ≤ cap := by
  obtain ⟨vs, rfl, hr⟩ := h
  cases m with
  | sh => obtain ⟨ad, cap, rfl, hc, _⟩ := hr; exact ⟨ad, cap, rfl, hc⟩
  | own m => obtain ⟨ad, cap, rfl, hc, _⟩ := hr; exact ⟨ad, cap, rfl, hc⟩
  | pair _ _ => exact hr.elim

theorem sl_nil {e : Ty} {xs : D (.sl e)} {m : Md} {v : Value} {G : List Nat} (h : ValRep sh w ⟨.sl e, xs⟩ m v G) : ∃ ad cap, v = .slice ad xs.length cap ∧ (ad = none → List.length xs = 0) := by
  obtain ⟨vs, rfl, hr⟩ := h
  cases m with
  | sh =>
    obtain ⟨ad, cap, rfl, hc, _, hr⟩ := hr
    refine ⟨ad, cap, rfl, fun hn => ?_⟩
    rcases hr with rfl | ⟨b, off, c, ty, fz, rfl, _⟩
    · rfl
    · cases hn
  | own m =>
    obtain ⟨ad, cap, rfl, hc, hr⟩ := hr
    refine ⟨ad, cap, rfl, fun hn => ?_⟩
    rcases hr with ⟨rfl, _, _⟩ | ⟨b, c, ty, fz, F', rfl, _⟩
    · rfl
    · cases hn
  | pair _ _ => exact hr.elim

theorem run_nil_op {op : BinOp} {t e : TypeId} (hu : P.underlying t = some (.slice e)) (hop : eqOp op = true) (ad : Option Addr) (n c : Nat) (w : World) (hn : ad = none → n = 0) : ∃ b, (binOp op t (.slice ad n c) (.slice none 0 0)).run P w = .ok (.bool b) w ∧ (n ≠ 0 → b = neOp op) := by
  have key : ∃ b, (Op.equal t (.slice ad n c) (.slice none 0 0)).run P w = .ok b w ∧ (n ≠ 0 → b = false) := by
    show ∃ b, (Op.equalIn (9999 + 1) t (.slice ad n c) (.slice none 0 0)).run P w = .ok b w ∧ (n ≠ 0 → b = false)
    rw [Op.equalIn, Sem.run_bind, run_underlying hu]
    cases ad with
    | none => exact ⟨_, rfl, fun h => absurd (hn rfl) h⟩
    | some b => exact ⟨_, rfl, fun _ => rfl⟩
  obtain ⟨b, key, hne⟩ := key
  cases op <;> simp [eqOp] at hop
  · refine ⟨b, ?_, hne⟩
    show ((do pure (.bool (← Op.equal t (.slice ad n c) (.slice none 0 0))) : Sem Value)).run P w = _
    rw [Sem.run_bind, key]; rfl
  · refine ⟨!b, ?_, fun hh => by rw [hne hh]; rfl⟩
    show ((do pure (.bool (!(← Op.equal t (.slice ad n c) (.slice none 0 0)))) : Sem Value)).run P w = _
    rw [Sem.run_bind, key]; rfl

theorem sound_bin' {op : BinOp} {t u : TypeId} {x y : Operand} {nv : Nat} (h : InvG sh0 w0 G0 ρ σ a w sh F β) (hop : o.op = .binOp op t x y u) (hd : o.dst = some d) (hlt : DstOk σ d)
    (hs : stBin P nv d op t x u y σ = some (st, l)) (he : EmOk Fn ρ nv st.em) : o.wp P a w (Inv sh0 w0 G0 ρ (σ.apply st)) Q := by
  unfold stBin at hs
  split at hs
  · rename_i hc
    simp only [Bool.and_eq_true] at hc
    obtain ⟨hc1, hc2⟩ := hc
    have hy : y = .const (.slice none 0 0) := by
      unfold nilO at hc2
      split at hc2
      · rfl
      · cases hc2
    obtain ⟨e, l1, l2, h1, hs1, _⟩ := Rd.bind_some hs
    obtain ⟨c, l3, l4, h2, hs2, _⟩ := Rd.bind_some hs1
    have := Rd.pure_some hs2
    subst this
    have hel := Rd.ofO_some (σ := σ) h1
    have hu : P.underlying t = some (.slice e) := by
      unfold elemOf at hel
      split at hel
      · rename_i e' hu
        simp only [Option.some.injEq] at hel
        rw [← hel]; exact hu
      · cases hel
    obtain ⟨d1, sqd1, m1, X1, e1, r1, _⟩ := look_rep h h2
    obtain ⟨dy, k1, k2⟩ := he.1
    unfold ev at k1
    simp only [evAs, e1] at k1
    obtain ⟨τ, z⟩ := d1
    cases τ with
    | sl e' =>
      obtain ⟨ad, cap, hv, hnil⟩ := sl_nil r1
      obtain ⟨b, hb, hbn⟩ := run_nil_op (P := P) hu hc1 ad (List.length z) cap w hnil
      have hg : (eqGuard op t x y (.slice ad (List.length z) cap) (.slice none 0 0)).run P w = .ok () w := by
        cases op <;> simp [eqOp] at hc1 <;> rfl
      refine wp_value (v := .bool b) (w' := w) ?_ ?_
      · unfold execOp
        rw [hop]
        have hyv : a.eval y = .slice none 0 0 := by rw [hy]; rfl
        simp only [Sem.run_bind, hv, hyv, hg, Result.andThen_ok, hb, Sem.run_pure]
      · rw [hd]
        exact ⟨_, _, _, h.put_none hlt (s := .anyb _ _) ⟨rfl, b, e', z, rfl, e1, hbn⟩⟩
    | _ => simp [evX] at k1
  · exact sound_bin h hop hd hlt hs he

theorem sound_ptr {x : Operand} {r f f' : Nat} {s : SV} (h : InvG sh0 w0 G0 ρ σ a w sh F β) (hd : o.dst = some d) (hlt : DstOk σ d)
    {v : Value} (hv : SVRep sh w ρ β a.tmps F s v []) (hsr : roots s ≠ some (false, d) := by simp [roots]) (hro : rootOk σ s := by trivial) (hrun : (execOp a.eval o).run P w = .ok (.value v) w) :
    o.wp P a w (Inv sh0 w0 G0 ρ (σ.putS (d, s))) Q := by
  refine wp_value hrun ?_
  rw [hd]
  exact ⟨_, _, _, h.put_none hlt hv hsr hro⟩

theorem sound_len {t : TypeId} {x : Operand} {nv : Nat} {c : Call} (h : InvG sh0 w0 G0 ρ σ a w sh F β) (hop : o.op = .call c) (hc : c.callee = .builtin .len) (hx : c.args = ⟨[x]⟩) (ht : c.argTypes = ⟨[t]⟩)
    (hd : o.dst = some d) (hlt : DstOk σ d) (hs : stLen P nv d t x σ = some (st, l)) (he : EmOk Fn ρ nv st.em) : o.wp P a w (Inv sh0 w0 G0 ρ (σ.apply st)) Q := by
  unfold stLen at hs
  obtain ⟨c0, l1, l2, h0, hs0, _⟩ := Rd.bind_some hs
  have hrun : ∀ v, (Builtin.len_ #[t] o.type #[a.eval x]).run P w = .ok v w → (execOp a.eval o).run P w = .ok (.value v) w := by
    intro v hv
    unfold execOp
    rw [hop]
    simp only [Sem.run_bind, resolve, hc, hx, ht, Sem.run_pure, Result.andThen_ok, invoke, builtin]
    have : (Array.map a.eval ⟨[x]⟩ : Array Value) = #[a.eval x] := by simp
    rw [this]
    rw [show (⟨[t]⟩ : Array TypeId) = #[t] from rfl, hv]
    rfl
  by_cases hln0 : ∃ n, lnOf c0 = some n
  · obtain ⟨n, hln⟩ := hln0
    rw [hln] at hs0
    obtain ⟨_, l3, l4, h2, hs2, _⟩ := Rd.bind_some hs0
    have hg := Rd.guard_some h2
    have := Rd.pure_some hs2
    subst this
    rcases opnd_rep h h0 with ⟨i, rfl, hsl, hr⟩ | ⟨c', d', v, _, rfl, _, _⟩ | ⟨f, _, rfl⟩
    · cases c0 with
      | rf b r c ln =>
        have hln : ln = some n := hln
        obtain ⟨ad, len, cap, hv, hev⟩ := hr.2.2 n hln
        cases hu : P.underlying t with
        | none => rw [hu] at hg; cases hg
        | some u => ?_
        rw [hu] at hg
        cases u with
        | slice e =>
          refine sound_ptr (x := .tmp i) (r := 0) (f := 0) (f' := 0) h hd hlt (s := .at n .sh) (v := goInt len) ⟨_, hev, valRep_atom ⟨rfl, rfl, rfl⟩⟩ (by simp [roots]) trivial (hrun _ ?_)
          rw [hv]
          simp [Builtin.len_, run_underlying hu]
        | _ => cases hg
      | _ => cases hln
    · cases hln
    · cases hln
  have hln : lnOf c0 = none := by
    cases hh : lnOf c0 with
    | none => rfl
    | some n => exact absurd ⟨n, hh⟩ hln0
  rw [hln] at hs0
  obtain ⟨c1, l3, l4, h1, hs1, _⟩ := Rd.bind_some hs0
  obtain ⟨d1, sqd1, m1, X1, e1, r1, _⟩ := look_rep h h1
  cases hu : P.underlying t with
  | none => rw [hu] at hs1; cases hs1
  | some u => ?_
  rw [hu] at hs1
  cases u with
  | slice e =>
    have := Rd.pure_some hs1
    subst this
    refine sound_e h hd hlt he fun ds dy hds hev => ?_
    obtain ⟨d1', k1, rfl⟩ := evAs1 hds
    obtain rfl := some_eq e1 k1
    obtain ⟨τ, y⟩ := d1
    cases τ with
    | sl e =>
      simp only [evX, Option.some.injEq] at hev
      subst hev
      obtain ⟨ad, cap, hv, _⟩ := sl_val r1
      refine ⟨goInt y.length, hrun _ ?_, valRep_atom ⟨rfl, rfl, rfl⟩⟩
      rw [hv]
      simp [Builtin.len_, run_underlying hu]
    | _ => simp [evX] at hev
  | string =>
    have := Rd.pure_some hs1
    subst this
    refine sound_e h hd hlt he fun ds dy hds hev => ?_
    obtain ⟨d1', k1, rfl⟩ := evAs1 hds
    obtain rfl := some_eq e1 k1
    obtain ⟨τ, y⟩ := d1
    cases τ with
    | str =>
      simp only [evX, Option.some.injEq] at hev
      subst hev
      have hv : a.eval x = .string y := valA_rep r1 rfl
      refine ⟨goInt y.size, hrun _ ?_, valRep_atom ⟨rfl, rfl, rfl⟩⟩
      rw [hv]
      simp [Builtin.len_, run_underlying hu]
    | _ => simp [evX] at hev
  | _ => cases hs1

theorem sound_nilCheck {x : Operand} (h : InvG sh0 w0 G0 ρ σ a w sh F β) (hop : o.op = .nilCheck x) (hd : o.dst = some d) (hlt : DstOk σ d)
    (hs : stNilCheck P d x σ = some (st, l)) : o.wp P a w (Inv sh0 w0 G0 ρ (σ.apply st)) Q := by
  unfold stNilCheck at hs
  obtain ⟨s, l1, l2, h1, hs1, _⟩ := Rd.bind_some hs
  split at hs1
  · have := Rd.pure_some hs1
    subst this
    have hv := opnd_ptr h h1
    refine sound_ptr (x := x) (r := 0) (f := 0) (f' := 0) h hd hlt (v := a.eval x) (s := .ptr _ _) ⟨rfl, hv⟩ (hrun := ?_)
    unfold execOp
    rw [hop]
    simp only [hv]
    rfl
  · cases hs1

theorem add_off (b f n : Nat) : (⟨b, f, none⟩ : Addr).add n = ⟨b, f + n, none⟩ := by
  unfold Addr.add; split <;> simp_all

theorem run_sizeOf' {t : TypeId} {n : Nat} (hn : P.cellsOf t = n) (h0 : n ≠ 0) (w : World) : (sizeOf t).run P w = .ok n w := by
  unfold Program.cellsOf at hn
  cases hi : P.info? t with
  | none => rw [hi] at hn; simp at hn; omega
  | some i =>
    rw [hi] at hn
    simp at hn
    simp [sizeOf, typeInfo, hi, hn]

theorem sound_fieldAddr {s : TypeId} {x : Operand} {f : Nat} (h : InvG sh0 w0 G0 ρ σ a w sh F β) (hop : o.op = .fieldAddr s x f) (hd : o.dst = some d) (hlt : DstOk σ d)
    (hs : stFieldAddr P d s x f σ = some (st, l)) : o.wp P a w (Inv sh0 w0 G0 ρ (σ.apply st)) Q := by
  unfold stFieldAddr at hs
  obtain ⟨⟨off, ft⟩, l1, l2, h1, hs1, _⟩ := Rd.bind_some hs
  have hf := Rd.ofO_some h1
  obtain ⟨_, l3, l4, h2, hs2, _⟩ := Rd.bind_some hs1
  have hg := Rd.guard_some h2
  obtain ⟨sv, l5, l6, h3, hs3, _⟩ := Rd.bind_some hs2
  have hrun : ∀ b g, a.eval x = .pointer (some ⟨b, g, none⟩) → (execOp a.eval o).run P w = .ok (.value (.pointer (some ⟨b, g + off, none⟩))) w := by
    intro b g hx
    unfold fieldOf at hf
    split at hf
    · rename_i fs hu
      obtain ⟨fd, hfd, he⟩ := Option.map_eq_some_iff.1 hf
      obtain ⟨rfl, rfl⟩ := Prod.mk.inj he
      unfold execOp
      rw [hop]
      simp only [Sem.run_bind, Instr.fieldAt, run_underlying hu, Result.andThen_ok, hfd, hx, Instr.sureAddr, Sem.run_pure, fieldPlace]
      have hn : P.cellsOf fd.type ≠ 0 := by simpa using hg
      rw [run_sizeOf' rfl hn]
      simp only [Result.andThen_ok, hn, if_false, Sem.run_pure, add_off]
    · cases hf
  split at hs3
  · have := Rd.pure_some hs3
    subst this
    have hv := opnd_ptr h h3
    exact sound_ptr (x := x) (r := 0) (f := 0) (f' := 0) h hd hlt (s := .ptr _ _) ⟨rfl, rfl⟩ (hrun := hrun _ _ hv)
  · have := Rd.pure_some hs3
    subst this
    obtain ⟨_, dd, b, o', c, ty, fz, e1, e2, e3, e4, e5, e6⟩ := opnd_psh h h3
    exact sound_ptr (x := x) (r := 0) (f := 0) (f' := 0) h hd hlt (s := .psh _ _) ⟨rfl, dd, b, o', c, ty, fz, e1, by rw [Nat.add_assoc], e3, e4, e5, e6⟩ (hrun := hrun _ _ e2)
  · obtain ⟨_, l7, l8, h4, hs4, _⟩ := Rd.bind_some hs3
    have hne := Rd.guard_some h4
    have := Rd.pure_some hs4
    subst this
    simp only [Bool.and_eq_true, bne_iff_ne] at hne
    obtain ⟨⟨hne, hw1⟩, hw2⟩ := hne
    obtain ⟨⟨_, g, len, cap, k, n, e1, e2, e3, e4, e5⟩, hro⟩ := opnd_pel (i := x) h h3
    rw [pelV_ptr hw1] at e5
    refine sound_ptr (x := x) (r := 0) (f := 0) (f' := 0) h hd hlt (s := .pel _ _ _ _ _ _) ⟨rfl, g, len, cap, k, n, e1, e2, e3, e4, by rw [pelV_ptr hw2, Nat.add_assoc]⟩ (fun e => ?_) (rootOk_pel hro) (hrun := hrun _ _ e5)
    simp only [roots, Option.some.injEq, Prod.mk.injEq] at e
    obtain ⟨rfl, rfl⟩ := e
    simp at hne
  · cases hs3

theorem sh_elem {e : Ty} {xs : D (.sl e)} {v : Value} (h : ValRep sh w ⟨.sl e, xs⟩ .sh v []) (hn : e.n ≠ 0) {i : Nat} {y : D e} (hi : xs[i]? = some y) :
    ∃ b off cap c ty fz, v = .slice (some ⟨b, off, none⟩) xs.length cap ∧ sh b ∧ w.heap[b]? = some (.cells c ty fz) ∧
      Rep sh w e .sh y ((c.toList.drop (off + e.n * i)).take e.n) [] ∧ off + e.n * i + e.n ≤ c.size := by
  obtain ⟨vs, rfl, ad, cap, rfl, hc, _, hr⟩ := h
  have hlt : i < xs.length := (List.getElem?_eq_some_iff.1 hi).1
  rcases hr with rfl | ⟨b, off, c, ty, fz, rfl, hb, hw, hr⟩
  · simp at hlt
  · have hr : RepL (fun x vs F => Rep sh w e .sh x vs F) xs ((c.toList.drop off).take (e.n * xs.length)) [] := hr
    refine ⟨b, off, cap, c, ty, fz, rfl, hb, hw, ?_, ?_⟩
    · obtain ⟨G, hG, hg⟩ := RepL.get (fun x vs F h => h.len) hr hi
      have : G = [] := List.eq_nil_iff_forall_not_mem.2 (fun b hb => absurd (hG b hb) (by simp))
      subst this
      have hle : e.n * i + e.n ≤ e.n * xs.length := by
        rw [← Nat.mul_succ]; exact Nat.mul_le_mul_left _ hlt
      rw [List.drop_take, List.take_take, List.drop_drop] at hg
      rw [Nat.min_eq_left (by omega)] at hg
      exact hg
    · have hl := RepL.len (fun x vs F h => h.len) hr
      simp at hl
      have hle : e.n * i + e.n ≤ e.n * xs.length := by
        rw [← Nat.mul_succ]; exact Nat.mul_le_mul_left _ hlt
      have hpos : 0 < e.n := Nat.pos_of_ne_zero hn
      omega

theorem idx_inv {m : Nat} {d1 d2 dy : Dy} (h : evX (.idx m) [d1, d2] = some dy) :
    ∃ (e : Ty) (l : List (D e)) (k : IntKind) (n : Int) (y : D e), d1 = ⟨.sl e, l⟩ ∧ d2 = ⟨.int k, n⟩ ∧ e.n = m ∧ 0 ≤ n ∧ l[n.toNat]? = some y ∧ dy = ⟨e, y⟩ := by
  obtain ⟨τ1, x1⟩ := d1
  obtain ⟨τ2, x2⟩ := d2
  cases τ1 <;> first | (simp [evX] at h; done) | (cases τ2 <;> first | (simp [evX] at h; done) | skip)
  rename_i e k
  simp only [evX] at h
  split at h
  · rename_i hc
    split at h
    · rename_i y hy
      simp at h
      exact ⟨e, x1, k, x2, y, rfl, rfl, hc.1, hc.2, by simpa using hy, h.symm⟩
    · cases h
  · cases h

theorem own_elem' {e : Ty} {xs : D (.sl e)} {m : Md} {v : Value} {G : List Nat} (h : ValRep sh w ⟨.sl e, xs⟩ (.own m) v G) {i : Nat} {y : D e} (hi : xs[i]? = some y) :
    ∃ g cap c ty fz G', v = .slice (some ⟨g, 0, none⟩) xs.length cap ∧ g ∈ G ∧ w.heap[g]? = some (.cells c ty fz) ∧
      Rep sh w e m y ((c.toList.drop (e.n * i)).take e.n) G' ∧ (∀ k ∈ G', k ∈ G) ∧ (e.n ≠ 0 → e.n * i + e.n ≤ c.size) := by
  obtain ⟨vs, rfl, ad, cap, rfl, hc, hr⟩ := h
  have hlt : i < xs.length := (List.getElem?_eq_some_iff.1 hi).1
  rcases hr with ⟨rfl, _⟩ | ⟨b, c, ty, fz, F', rfl, rfl, hw, hsz, hz, hr⟩
  · simp at hlt
  · have hr : RepL (fun x vs F => Rep sh w e m x vs F) xs (c.toList.take (e.n * xs.length)) F' := hr
    have hle : e.n * i + e.n ≤ e.n * xs.length := by
      rw [← Nat.mul_succ]; exact Nat.mul_le_mul_left _ hlt
    obtain ⟨G, hG, hg⟩ := RepL.get (fun x vs F h => h.len) hr hi
    refine ⟨b, cap, c, ty, fz, G, rfl, by simp, hw, ?_, fun k hk => List.mem_cons_of_mem _ (hG k hk), fun hn => ?_⟩
    · rw [List.drop_take, List.take_take, Nat.min_eq_left (by omega)] at hg
      exact hg
    · have hl := RepL.len (fun x vs F h => h.len) hr
      simp at hl
      have hpos : 0 < e.n := Nat.pos_of_ne_zero hn
      omega

theorem own_elem {e : Ty} {xs : D (.sl e)} {m : Md} {v : Value} {G : List Nat} (h : ValRep sh w ⟨.sl e, xs⟩ (.own m) v G) {i : Nat} {y : D e} (hi : xs[i]? = some y) :
    ∃ g cap c ty fz G', v = .slice (some ⟨g, 0, none⟩) xs.length cap ∧ g ∈ G ∧ w.heap[g]? = some (.cells c ty fz) ∧
      Rep sh w e m y ((c.toList.drop (e.n * i)).take e.n) G' ∧ (e.n ≠ 0 → e.n * i + e.n ≤ c.size) := by
  obtain ⟨g, cap, c, ty, fz, G', h1, h2, h3, h4, _, h5⟩ := own_elem' h hi
  exact ⟨g, cap, c, ty, fz, G', h1, h2, h3, h4, h5⟩

theorem sound_indexAddr {t : TypeId} {x i : Operand} {nv : Nat} (h : InvG sh0 w0 G0 ρ σ a w sh F β) (hop : o.op = .indexAddr t x i) (hd : o.dst = some d) (hlt : DstOk σ d)
    (hs : stIndexAddr P nv d t x i σ = some (st, l)) (he : EmOk Fn ρ nv st.em) : o.wp P a w (Inv sh0 w0 G0 ρ (σ.apply st)) Q := by
  unfold stIndexAddr at hs
  obtain ⟨e, l1, l2, h1, hs1, _⟩ := Rd.bind_some hs
  have hel := Rd.ofO_some h1
  obtain ⟨c2, l5, l6, h3, hs3, _⟩ := Rd.bind_some hs1
  obtain ⟨_, l7, l8, h4, hs4, _⟩ := Rd.bind_some hs3
  have hg := Rd.guard_some h4
  have hg : P.cellsOf e ≠ 0 := by simpa using hg
  obtain ⟨d2, sqd2, m2, X2, e2, r2, _⟩ := look_rep h h3
  obtain ⟨sv, l9, l10, h5, hs5, _⟩ := Rd.bind_some hs4
  have hrun : ∀ (k : IntKind) (n : Int) (b off len cap : Nat), a.eval i = .int k n → a.eval x = .slice (some ⟨b, off, none⟩) len cap → 0 ≤ n → n.toNat < len →
      (execOp a.eval o).run P w = .ok (.value (.pointer (some ⟨b, off + P.cellsOf e * n.toNat, none⟩))) w := by
    intro k n b off len cap hi hv hn0 hlt'
    unfold elemOf at hel
    cases hu : P.underlying t with
    | none => rw [hu] at hel; cases hel
    | some u => ?_
    rw [hu] at hel
    cases u with
    | slice e' =>
      simp at hel
      subst hel
      unfold execOp
      rw [hop]
      simp only [Sem.run_bind, Instr.indexAt, hi, hv, asIntOf, Sem.run_pure, Result.andThen_ok, run_underlying hu]
      have hc : 0 ≤ n ∧ n < (len : Int) := ⟨hn0, by omega⟩
      rw [if_pos hc]
      simp only [Sem.run_bind, run_sizeOf' rfl hg, Result.andThen_ok, Sem.run_pure, add_off, Nat.mul_comm]
    | _ => cases hel
  -- an element of a row that is owned
  have hown : ∀ (b : Bool) (r c : Nat) (v : A) (m : Md), evA ρ v = evA ρ v → RootIs σ b r c v m →
      HdrIs w β a.tmps F b r c (a.eval x) → rootOk σ (.pel b r c (P.cellsOf e) c2 0) → roots (.pel b r c (P.cellsOf e) c2 0) ≠ some (false, d) →
      st = { em := [.e ⟨.idx (P.cellsOf e), [v, c2]⟩], wr := [(d, .pel b r c (P.cellsOf e) c2 0)] } → o.wp P a w (Inv sh0 w0 G0 ρ (σ.apply st)) Q := by
    intro b r c v m _ hroot hhdr hro hrt hst
    subst hst
    obtain ⟨d1, G, e1, r1, _⟩ := root_rep h hroot hhdr
    obtain ⟨dy, k1, k2⟩ := he.1
    unfold ev at k1
    simp only [evAs, e1, e2] at k1
    obtain ⟨τ, xs, k, n, y, rfl, rfl, hm, hn0, hy, rfl⟩ := idx_inv k1
    obtain ⟨g, cap, ar, ty, fz, G', hv, _, _, _, _⟩ := own_elem r1 hy
    have hi : a.eval i = .int k n := valA_rep r2 rfl
    have hlt' : n.toNat < xs.length := (List.getElem?_eq_some_iff.1 hy).1
    refine sound_ptr (x := x) (r := 0) (f := 0) (f' := 0) h hd hlt (v := .pointer (some ⟨g, 0 + P.cellsOf e * n.toNat, none⟩)) (s := .pel b r c (P.cellsOf e) c2 0)
      ⟨rfl, g, xs.length, cap, k, n, by rw [← hv]; exact hhdr, e2, hn0, hlt', by rw [pelV_ptr (by decide)]; simp⟩ hrt hro (hrun := hrun k n g 0 _ cap hi hv hn0 hlt')
  -- an element of what nobody writes
  have hsh : ∀ {l9 l10 : List (Bool × Nat)}, (do
      let v ← lookSh P t x
      pure { em := [.e ⟨.idx (P.cellsOf e), [v, c2]⟩], wr := [(d, .psh (.var nv) 0)] } : Rd Step) σ = some (st, l9) → o.wp P a w (Inv sh0 w0 G0 ρ (σ.apply st)) Q := by
    intro l9 l10 hs
    obtain ⟨c1, l3, l4, h2, hs2, _⟩ := Rd.bind_some hs
    have := Rd.pure_some hs2
    subst this
    obtain ⟨d1, e1, r1⟩ := lookSh_rep h h2
    obtain ⟨dy, k1, k2⟩ := he.1
    unfold ev at k1
    simp only [evAs, e1, e2] at k1
    obtain ⟨τ, xs, k, n, y, rfl, rfl, hm, hn0, hy, rfl⟩ := idx_inv k1
    have hnz : τ.n ≠ 0 := by rw [hm]; exact hg
    obtain ⟨b, off, cap, c, ty, fz, hv, hb, hw, hr, hle⟩ := sh_elem r1 hnz hy
    have hi : a.eval i = .int k n := valA_rep r2 rfl
    have hlt' : n.toNat < xs.length := (List.getElem?_eq_some_iff.1 hy).1
    refine sound_ptr (x := x) (r := 0) (f := 0) (f' := 0) h hd hlt (v := .pointer (some ⟨b, off + P.cellsOf e * n.toNat, none⟩)) (s := .psh (.var nv) 0)
      ⟨rfl, ⟨τ, y⟩, b, off + τ.n * n.toNat, c, ty, fz, k2, by rw [hm]; simp, hb, hw, hr, hle⟩ (hrun := hrun k n b off _ cap hi hv hn0 hlt')
  split at hs5
  · rename_i b r c ln
    obtain ⟨⟨v, m⟩, l11, l12, h6, hs6, _⟩ := Rd.bind_some hs5
    obtain ⟨_, l13, l14, h7, hs7, _⟩ := Rd.bind_some hs6
    have hne := Rd.guard_some h7
    have := Rd.pure_some hs7
    have hroot := rootA_some h6
    obtain ⟨q1, q2⟩ := opnd_rf h h5
    refine hown b r c v m rfl hroot q1 ?_ (fun e => ?_) this.symm
    · exact rootOk_rf q2
    · simp only [roots, Option.some.injEq, Prod.mk.injEq] at e
      obtain ⟨rfl, rfl⟩ := e
      simp at hne
  · rename_i v m
    obtain ⟨s, l11, l12, h6, hs6, _⟩ := Rd.bind_some hs5
    have hx := Rd.ofO_some h6
    have := Rd.pure_some hs6
    cases x with
    | tmp s' =>
      simp only [Option.some.injEq] at hx
      subst hx
      have hsl := Rd.slot_some h5
      obtain ⟨u, hu, _⟩ := h.slot _ _ hsl
      refine hown false s' 0 v m rfl hsl ?_ ?_ (fun e => ?_) this.symm
      · rw [eval_tmp hu]; exact hu
      · simp only [rootOk, hsl, ownSlice]
      · simp only [roots, Option.some.injEq, Prod.mk.injEq, true_and] at e
        subst e
        exact absurd (hlt.at hsl) (by simp)
    | _ => simp at hx
  · exact hsh (l10 := []) hs5

theorem loadVar_agg {t : TypeId} {b f : Nat} {c : Array Value} {ty : TypeId} {fz : Nat × Nat} {vs : List Value} (ha : isAggB P t = true) (hw : w.heap[b]? = some (.cells c ty fz))
    (hvs : vs = (c.toList.drop f).take (P.cellsOf t)) (hn : P.cellsOf t ≠ 0) (hle : f + P.cellsOf t ≤ c.size) : (loadVar t ⟨b, f, none⟩).run P w = .ok (.agg vs.toArray) w := by
  have hagg : (isAgg t).run P w = .ok true w := by
    unfold isAggB at ha
    unfold isAgg
    cases hu : P.underlying t with
    | none => rw [hu] at ha; cases ha
    | some u => ?_
    rw [hu] at ha
    cases u with
    | struct fs => simp [run_underlying hu]
    | _ => cases ha
  have hlen : vs.length = P.cellsOf t := by rw [hvs]; simp; omega
  have hl : (loadCells ⟨b, f, none⟩ vs.length).run P w = .ok vs.toArray w :=
    run_loadCells_list (P := P) w ⟨b, f, none⟩ vs (fun j v hv => by
      rw [add_off]
      rw [hvs, List.getElem?_take] at hv
      split at hv
      · rw [List.getElem?_drop] at hv
        simp [World.cell?, hw]
        simpa using hv
      · cases hv)
  rw [hlen] at hl
  unfold loadVar
  simp only [Sem.run_bind, hagg, Result.andThen_ok, if_true, run_sizeOf' rfl hn, hl, Sem.run_pure]

theorem loadVar_atom {t : TypeId} {b f : Nat} {c : Array Value} {ty : TypeId} {fz : Nat × Nat} {v : Value} (ha : notAggB P t = true) (hw : w.heap[b]? = some (.cells c ty fz))
    (hv : c[f]? = some v) : (loadVar t ⟨b, f, none⟩).run P w = .ok v w := by
  have hagg : (isAgg t).run P w = .ok false w := by
    unfold notAggB at ha
    unfold isAgg
    cases hu : P.underlying t with
    | none => rw [hu] at ha; cases ha
    | some u => ?_
    rw [hu] at ha
    cases u <;> first | (simp at ha; done) | simp [run_underlying hu]
  unfold loadVar
  have hc : w.cell? ⟨b, f, none⟩ = some v := by simp [World.cell?, hw, hv]
  simp [Sem.run_bind, hagg, hc]

theorem shCells_rep : ∀ {cs : List Cell} {xs : List A} {vs : List Value} {X : List Nat}, shCells cs = some xs → RepL (one (CellRep sh w ρ)) cs vs X → ∃ ds, evAs ρ xs = some ds ∧ shAtoms sh w ds vs
  | [], xs, vs, X, h, hr => by
    simp [shCells] at h
    subst h
    exact ⟨[], rfl, hr.1⟩
  | none :: cs, xs, vs, X, h, hr => by simp [shCells] at h
  | some (x, m) :: cs, xs, vs, X, h, hr => by
    cases m with
    | sh =>
      simp only [shCells] at h
      obtain ⟨ys, hy, rfl⟩ := Option.map_eq_some_iff.1 h
      obtain ⟨v1, v2, F1, F2, rfl, rfl, ⟨v, rfl, d, h1, h2, h3⟩, hrest⟩ := hr
      obtain ⟨ds, hds, hat⟩ := shCells_rep hy hrest
      refine ⟨d :: ds, by simp [evAs, h1, hds], v, v2, rfl, ⟨h2, ?_⟩, hat⟩
      have := h3.sh_nil
      rw [this] at h3
      exact h3
    | own m =>
      cases x with
      | nil e =>
        simp only [shCells] at h
        obtain ⟨ys, hy, rfl⟩ := Option.map_eq_some_iff.1 h
        obtain ⟨v1, v2, F1, F2, rfl, rfl, ⟨v, rfl, d, h1, h2, h3⟩, hrest⟩ := hr
        obtain ⟨ds, hds, hat⟩ := shCells_rep hy hrest
        simp only [evA, Option.some.injEq] at h1
        subst h1
        obtain ⟨ad, cap, k1, k2, _⟩ := h3
        exact ⟨⟨.sl e, []⟩ :: ds, by simp [evAs, evA, hds], v, v2, rfl, ⟨h2, ad, cap, k1, k2, rfl, .inl rfl⟩, hat⟩
      | _ => simp [shCells] at h
    | pair _ _ => cases x <;> simp [shCells] at h

theorem RepL.sub {α : Type} {R : α → Value → List Nat → Prop} : ∀ {xs : List α} {vs F} (f n : Nat), RepL (one R) xs vs F → ∃ G, (∀ b ∈ G, b ∈ F) ∧ RepL (one R) ((xs.drop f).take n) ((vs.drop f).take n) G
  | [], vs, F, f, n, h => ⟨[], by simp, by simp [h.1, RepL]⟩
  | x :: xs, vs, F, 0, 0, h => ⟨[], by simp, by simp [RepL]⟩
  | x :: xs, vs, F, 0, n + 1, h => by
    obtain ⟨v1, v2, F1, F2, rfl, rfl, ⟨v, rfl, h1⟩, h2⟩ := h
    obtain ⟨G, hG, hr⟩ := RepL.sub 0 n h2
    refine ⟨F1 ++ G, fun b hb => ?_, [v], _, F1, G, by simp, rfl, ⟨v, rfl, h1⟩, hr⟩
    rcases List.mem_append.1 hb with hb | hb
    · exact List.mem_append_left _ hb
    · exact List.mem_append_right _ (hG b hb)
  | x :: xs, vs, F, f + 1, n, h => by
    obtain ⟨v1, v2, F1, F2, rfl, rfl, ⟨v, rfl, h1⟩, h2⟩ := h
    obtain ⟨G, hG, hr⟩ := RepL.sub f n h2
    exact ⟨G, fun b hb => List.mem_append_right _ (hG b hb), by simpa using hr⟩

end
end Go.Vm
