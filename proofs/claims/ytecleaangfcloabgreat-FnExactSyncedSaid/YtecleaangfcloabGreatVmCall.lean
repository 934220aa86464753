/- A call does what its contract says; each operation of a text. Lemmas alone, no statement. -/
import Derived.Test.YtecleaangfcloabGreatVmNew
namespace Go.Vm
set_option linter.unusedVariables false
set_option linter.unusedSimpArgs false
open Go.RowKit

/-- Pointers to what nobody writes. -/
def PtrsRep (sh : Nat → Prop) (w : World) : List Dy → List Value → Prop
  | [], us => us = []
  | d :: ds, us => ∃ u us', us = u :: us' ∧ PtrRep sh w d u ∧ PtrsRep sh w ds us'

/-- One argument. -/
def ArgRep (sh : Nat → Prop) (w : World) (k : PK) (ds : List Dy) (v : Value) : Prop :=
  match k with
  | .val => ∃ d, ds = [d] ∧ ValRep sh w d .sh v []
  | .rd => ∃ d, ds = [d] ∧ PtrRep sh w d v
  | .nil => ds = [] ∧ v = .slice none 0 0
  | .fn g n => ds.length = n ∧ ∃ us, v = .func (.func g) #[] us.toArray ∧ PtrsRep sh w ds us

/-- The arguments' values, which nobody writes. -/
def ArgsRep (sh : Nat → Prop) (w : World) : List PK → List Dy → List Value → Prop
  | [], ds, vs => ds = [] ∧ vs = []
  | k :: pk, ds, vs => ∃ ds1 ds2 v us, ds = ds1 ++ ds2 ∧ vs = v :: us ∧ ArgRep sh w k ds1 v ∧ ArgsRep sh w pk ds2 us

theorem PtrRep.mono {sh sh' : Nat → Prop} {w : World} {d : Dy} {v : Value} (hs : ∀ b, sh b → sh' b) (h : PtrRep sh w d v) : PtrRep sh' w d v := h.frame (fun b hb => ⟨hs b hb, rfl⟩)

theorem PtrsRep.mono {sh sh' : Nat → Prop} {w : World} (hs : ∀ b, sh b → sh' b) : ∀ {ds : List Dy} {us : List Value}, PtrsRep sh w ds us → PtrsRep sh' w ds us
  | [], _, h => h
  | d :: ds, us, h => by
    obtain ⟨u, us', rfl, h1, h2⟩ := h
    exact ⟨u, us', rfl, h1.mono hs, h2.mono hs⟩

theorem ArgRep.mono {sh sh' : Nat → Prop} {w : World} {k : PK} {ds : List Dy} {v : Value} (hs : ∀ b, sh b → sh' b) (h : ArgRep sh w k ds v) : ArgRep sh' w k ds v := by
  cases k with
  | val => obtain ⟨d, h1, h2⟩ := h; exact ⟨d, h1, h2.frame (fun b hb => ⟨hs b hb, rfl⟩) (by simp)⟩
  | rd => obtain ⟨d, h1, h2⟩ := h; exact ⟨d, h1, h2.mono hs⟩
  | nil => exact h
  | fn g n => obtain ⟨h0, us, h1, h2⟩ := h; exact ⟨h0, us, h1, h2.mono hs⟩

/-- The results' values, one behind the other. -/
def ResL (sh : Nat → Prop) (w : World) : List (Ty × Md) → List Dy → List Value → List Nat → Prop
  | [], ds, vs, F => ds = [] ∧ vs = [] ∧ F = []
  | t :: ts, ds, vs, F => ∃ d es v us F1 F2, ds = d :: es ∧ vs = v :: us ∧ F = F1 ++ F2 ∧ d.1 = t.1 ∧ ValRep sh w d t.2 v F1 ∧ ResL sh w ts es us F2

def resVal : List Value → Value
  | [u] => u
  | vs => .tuple vs.toArray

def ResRep (sh : Nat → Prop) (w : World) (rt : List (Ty × Md)) (ds : List Dy) (v : Value) (F : List Nat) : Prop :=
  ∃ vs : List Value, ResL sh w rt ds vs F ∧ v = resVal vs

/-- A function's contract: where its text has an answer, the call returns it; nothing old has turned. -/
def Con (P : Program) (Fn : Fns) (f : Nat) (s : Sig) : Prop :=
  ∀ (w : World) (sh : Nat → Prop) (args : Array Value) (ds rs : List Dy), (∀ b, sh b → b < w.heap.size) → ArgsRep sh w s.pk ds args.toList → Fn f ds = some rs →
    Calls P f args w fun e w' => ∃ v sh' Fr, e = .returned v ∧ Ext w w' [] ∧ (∀ b, sh b → sh' b) ∧ (∀ b, sh' b → b < w'.heap.size ∧ (sh b ∨ w.heap.size ≤ b)) ∧
      ResRep sh' w' s.rt rs v Fr ∧ Fr.Nodup ∧ ∀ b ∈ Fr, w.heap.size ≤ b ∧ b < w'.heap.size ∧ ¬ sh' b

section
variable {P : Program} {C : Nat → Option Sig} {Fn : Fns} {sh0 : Nat → Prop} {w0 : World} {G0 : List Nat} {ρ : List Dy} {σ : Sg} {a : Act} {w w' : World}
  {sh sh' : Nat → Prop} {F : Bool → Nat → List Nat} {β : Nat → Nat} {o : Oper} {st : Step} {l : List (Bool × Nat)} {d : Nat} {Q : Exit → Act → World → Prop}

/-- A call has come back. -/
theorem InvG.back (h : InvG sh0 w0 G0 ρ σ a w sh F β) (hE : Ext w w' []) (hs : ∀ b, sh b → sh' b) (hs' : ∀ b, sh' b → b < w'.heap.size ∧ (sh b ∨ w.heap.size ≤ b)) :
    InvG sh0 w0 G0 ρ σ a w' sh' F β :=
  h.turn (L := []) hE (by simp) hs (fun b hb => ⟨(hs' b hb).1, (hs' b hb).2.imp id .inl⟩)

/-- Which blocks a call may take for such that nobody writes. -/
def shCall (any : Bool) (sh : Nat → Prop) (w : World) : Nat → Prop := fun b => bif any then b < w.heap.size else sh b

theorem shCall_of {any : Bool} (hs : ∀ b, sh b → b < w.heap.size) : ∀ b, sh b → shCall any sh w b := by
  intro b hb
  unfold shCall
  cases any with
  | false => exact hb
  | true => exact hs b hb

theorem shCall_mono {any : Bool} (hs : ∀ b, sh b → sh' b) : ∀ b, shCall any sh w b → shCall any sh' w b := by
  intro b hb
  unfold shCall at hb ⊢
  cases any with
  | false => exact hs b hb
  | true => exact hb

theorem InvG.all_lt (h : InvG sh0 w0 G0 ρ σ a w sh F β) {k i : _} : ∀ b ∈ F k i, b < w.heap.size := fun b hb => (h.own k i b hb).2.1

/-- What lies at a captured address. -/
theorem capA_rep {any : Bool} {nv : Nat} {c : Cp} {es : List Em} {x : A} {u : Value} (h : InvG sh0 w0 G0 ρ σ a w sh F β) (ho : capA any nv c σ = some ((es, x), l)) (he : EmOk Fn ρ nv es) (hc : CapRep sh w ρ β c u) :
    ∃ d, evA ρ x = some d ∧ PtrRep (shCall any sh w) w d u := by
  cases c with
  | psh y =>
    have := Rd.pure_some ho
    simp only [Prod.mk.injEq] at this
    obtain ⟨rfl, rfl⟩ := this
    obtain ⟨d, e1, e2⟩ := hc
    exact ⟨d, e1, e2.mono (shCall_of h.sh_lt)⟩
  | ptr r =>
    obtain ⟨_, l1, l2, h1, ho1, _⟩ := Rd.bind_some ho
    have hany := Rd.guard_some h1
    subst hany
    obtain ⟨b, l3, l4, h2, ho2, _⟩ := Rd.bind_some ho1
    obtain ⟨xs, l5, l6, h3, ho3, _⟩ := Rd.bind_some ho2
    have hb := Rd.box_some h2
    have hxs := Rd.ofO_some h3
    have := Rd.pure_some ho3
    obtain ⟨ar, ty, F', k1, k2, k3⟩ := h.box r b hb
    have hu : u = .pointer (some ⟨β r, 0, none⟩) := hc
    subst hu
    have hF : ∀ z ∈ F', z < w.heap.size := fun z hz => (h.own true r z (by rw [k2]; exact List.mem_cons_of_mem _ hz)).2.1
    have hbl : ar.toList.length = b.length := RepL.one_len k3
    have hlt : shCall true sh w (β r) := lt_of_get k1
    match b, xs, hxs, k3, hbl, this with
    | [some (y, m)], xs, hxs, k3, hbl, this =>
      simp only [knownA, Option.map_some, Option.some.injEq] at hxs
      subst hxs
      simp only [mkOf, Prod.mk.injEq] at this
      obtain ⟨rfl, rfl⟩ := this
      obtain ⟨v1, v2, F1, F2, hvv, hFF, ⟨v, rfl, d, e1, e2, e3⟩, rfl, rfl⟩ := k3
      subst hFF
      refine ⟨d, e1, β r, 0, ar, ty, (0, 0), rfl, hlt, k1, ?_, ?_⟩
      · rw [n_of_atom e2, List.drop_zero, List.take_of_length_le (by rw [hbl]; simp), hvv]
        exact Rep.freeze h.sh_lt e3 (fun b hb => hF b (by simp [hb]))
      · rw [n_of_atom e2]; rw [Array.length_toList] at hbl; simp at hbl; omega
    | [], xs, hxs, k3, hbl, this =>
      simp only [knownA, Option.some.injEq] at hxs
      subst hxs
      simp only [mkOf, Prod.mk.injEq] at this
      obtain ⟨rfl, rfl⟩ := this
      obtain ⟨ds, dy, m1, m2, m3⟩ := ev_mk he
      obtain ⟨p1, p2, p3, _⟩ := mkMd_rep (cs := []) rfl k3 m1 m2
      refine ⟨dy, m3, β r, 0, ar, ty, (0, 0), rfl, hlt, k1, ?_, by rw [p3]; simp⟩
      rw [p3, List.drop_zero, List.take_of_length_le (by rw [hbl]; exact Nat.le_refl _)]
      exact Rep.freeze h.sh_lt p1 hF
    | c1 :: c2 :: cs, xs, hxs, k3, hbl, this =>
      have hxs2 : ∃ x1 x2 xs', xs = x1 :: x2 :: xs' := by
        match c1, c2, hxs with
        | none, _, hxs => simp [knownA] at hxs
        | some _, none, hxs => simp [knownA] at hxs
        | some (y1, _), some (y2, _), hxs =>
          simp only [knownA] at hxs
          obtain ⟨q, hq, rfl⟩ := Option.map_eq_some_iff.1 hxs
          obtain ⟨q2, hq2, rfl⟩ := Option.map_eq_some_iff.1 hq
          exact ⟨_, _, _, rfl⟩
      obtain ⟨x1, x2, xs', rfl⟩ := hxs2
      simp only [mkOf, Prod.mk.injEq] at this
      obtain ⟨rfl, rfl⟩ := this
      obtain ⟨ds, dy, m1, m2, m3⟩ := ev_mk he
      obtain ⟨p1, p2, p3, _⟩ := mkMd_rep hxs k3 m1 m2
      refine ⟨dy, m3, β r, 0, ar, ty, (0, 0), rfl, hlt, k1, ?_, by rw [p3, ← hbl]; simp⟩
      rw [p3, List.drop_zero, List.take_of_length_le (by rw [hbl]; exact Nat.le_refl _)]
      exact Rep.freeze h.sh_lt p1 hF
    | [none], xs, hxs, _, _, _ => simp [knownA] at hxs

theorem capsA_rep {any : Bool} : ∀ {cs : List Cp} {nv : Nat} {es : List Em} {xs : List A} {us : List Value} {l : List (Bool × Nat)}, InvG sh0 w0 G0 ρ σ a w sh F β → capsA any nv cs σ = some ((es, xs), l) → EmOk Fn ρ nv es → CapsRep sh w ρ β cs us →
    ∃ ds, evAs ρ xs = some ds ∧ ds.length = cs.length ∧ PtrsRep (shCall any sh w) w ds us
  | [], nv, es, xs, us, l, h, ho, he, hc => by
    have := Rd.pure_some ho
    simp only [Prod.mk.injEq] at this
    obtain ⟨rfl, rfl⟩ := this
    exact ⟨[], rfl, rfl, hc⟩
  | c :: cs, nv, es, xs, us, l, h, ho, he, hc => by
    unfold capsA at ho
    obtain ⟨⟨e1, x1⟩, l1, l2, h1, ho1, _⟩ := Rd.bind_some ho
    obtain ⟨⟨e2, x2⟩, l3, l4, h2, ho2, _⟩ := Rd.bind_some ho1
    have := Rd.pure_some ho2
    simp only [Prod.mk.injEq] at this
    obtain ⟨rfl, rfl⟩ := this
    obtain ⟨he1, he2⟩ := he.split
    obtain ⟨u, us', rfl, c1, c2⟩ := hc
    obtain ⟨d, q1, q2⟩ := capA_rep h h1 he1 c1
    obtain ⟨ds, q3, q4, q5⟩ := capsA_rep h h2 he2 c2
    exact ⟨d :: ds, by simp [evAs, q1, q3], by simp [q4], u, us', rfl, q2, q5⟩

theorem cpOf_rep {x : Operand} {c : Cp} (h : InvG sh0 w0 G0 ρ σ a w sh F β) (ho : cpOf P x σ = some (c, l)) : CapRep sh w ρ β c (a.eval x) := by
  unfold cpOf at ho
  obtain ⟨s, l1, l2, h1, ho1, _⟩ := Rd.bind_some ho
  split at ho1
  · rename_i r f
    obtain ⟨_, l3, l4, h2, ho2, _⟩ := Rd.bind_some ho1
    have hf := Rd.guard_some h2
    have hf : f = 0 := by simpa using hf
    subst hf
    have := Rd.pure_some ho2
    subst this
    exact opnd_ptr h h1
  · rename_i y f
    obtain ⟨_, l3, l4, h2, ho2, _⟩ := Rd.bind_some ho1
    have hf := Rd.guard_some h2
    have hf : f = 0 := by simpa using hf
    subst hf
    have := Rd.pure_some ho2
    subst this
    obtain ⟨_, d, b, o, c, ty, fz, e1, e2, e3⟩ := opnd_psh h h1
    exact ⟨d, e1, b, o, c, ty, fz, by simpa using e2, e3⟩
  · cases ho1

theorem cpsOf_rep : ∀ {xs : List Operand} {cs : List Cp} {l : List (Bool × Nat)}, InvG sh0 w0 G0 ρ σ a w sh F β → cpsOf P xs σ = some (cs, l) → CapsRep sh w ρ β cs (xs.map a.eval)
  | [], cs, l, h, ho => by
    have := Rd.pure_some ho
    subst this
    rfl
  | x :: xs, cs, l, h, ho => by
    unfold cpsOf at ho
    obtain ⟨c, l1, l2, h1, ho1, _⟩ := Rd.bind_some ho
    obtain ⟨cs', l3, l4, h2, ho2, _⟩ := Rd.bind_some ho1
    have := Rd.pure_some ho2
    subst this
    exact ⟨_, _, rfl, cpOf_rep h h1, cpsOf_rep h h2⟩

/-- What an argument is. -/
def ArVal (a : Act) (sh : Nat → Prop) (w : World) (ρ : List Dy) (β : Nat → Nat) (x : Ar) (v : Value) : Prop :=
  match x with
  | .op _ x => v = a.eval x
  | .cp c => CapRep sh w ρ β c v

theorem CapRep.mono {c : Cp} {u : Value} (hs : ∀ b, sh b → sh' b) (h : CapRep sh w ρ β c u) : CapRep sh' w ρ β c u := by
  cases c with
  | ptr r => exact h
  | psh x => obtain ⟨d, e1, e2⟩ := h; exact ⟨d, e1, e2.mono hs⟩

theorem ArVal.mono {x : Ar} {v : Value} (hs : ∀ b, sh b → sh' b) (h : ArVal a sh w ρ β x v) : ArVal a sh' w ρ β x v := by
  cases x with
  | op t x => exact h
  | cp c => exact CapRep.mono hs h

theorem lookAg_rep {t : TypeId} {x : Operand} {nv : Nat} {es : List Em} {c : A} (h : InvG sh0 w0 G0 ρ σ a w sh F β) (ho : lookAg P nv t x σ = some ((es, c), l)) (he : EmOk Fn ρ nv es) :
    ∃ d, evA ρ c = some d ∧ ValRep (shCall true sh w) w d .sh (a.eval x) [] := by
  unfold lookAg at ho
  obtain ⟨s, l1, l2, h1, ho1, _⟩ := Rd.bind_some ho
  have hgen : ∀ {l3 : List (Bool × Nat)}, (do
      let a ← look P t x
      pure ([], a) : Rd (List Em × A)) σ = some ((es, c), l3) → ∃ d, evA ρ c = some d ∧ ValRep (shCall true sh w) w d .sh (a.eval x) [] := by
    intro l3 ho1
    obtain ⟨y, l4, l5, h2, ho2, _⟩ := Rd.bind_some ho1
    have := Rd.pure_some ho2
    simp only [Prod.mk.injEq] at this
    obtain ⟨_, rfl⟩ := this
    obtain ⟨d, sh2, m, G, q1, ⟨us, q2, q3⟩, q4⟩ := look_rep h h2
    exact ⟨d, q1, us, q2, Rep.freeze (fun b hb => q4 b (.inl hb)) q3 (fun b hb => q4 b (.inr hb))⟩
  cases s with
  | ag r off n =>
    obtain ⟨j, rfl, hsj, hr⟩ := opnd_ag h h1
    obtain ⟨b, l3, l4, h2, ho2, _⟩ := Rd.bind_some ho1
    obtain ⟨xs, l5, l6, h3, ho3, _⟩ := Rd.bind_some ho2
    have hb := Rd.box_some h2
    have hxs := Rd.ofO_some h3
    have := Rd.pure_some ho3
    simp only [Prod.mk.injEq] at this
    obtain ⟨rfl, rfl⟩ := this
    obtain ⟨ar, ty, F', k1, k2, k3⟩ := h.box r b hb
    obtain ⟨A, X, B, rfl, q1, q2⟩ := RepL.range off n k3
    obtain ⟨_, _, c, ty', fz', hc, hle, hv⟩ := hr
    rw [k1] at hc
    simp only [Option.some.injEq, Obj.cells.injEq] at hc
    obtain ⟨rfl, _, _⟩ := hc
    obtain ⟨ds, dy, m1, m2, m3⟩ := ev_mk he
    obtain ⟨p1, p2, p3, p4⟩ := mkMd_rep hxs q1 m1 m2
    refine ⟨dy, m3, _, by rw [p2, hv]; rfl, Rep.freeze h.sh_lt p1 (fun b hb => (h.own true r b ?_).2.1)⟩
    rw [k2]
    exact List.mem_cons_of_mem _ (List.mem_append_right _ (List.mem_append_left _ hb))
  | _ => exact hgen ho1

theorem argA_pre {any : Bool} {nv : Nat} {k k' : Take} {p : PK} {x : Ar} {xs : List A} (ho : argA P any nv k p x σ = some ((xs, k'), l)) : ∃ r, k'.em = k.em ++ r := by
  cases p with
  | val => cases x with
    | op t x => cases any with
      | true =>
        obtain ⟨r, l1, l2, h1, ho1, _⟩ := Rd.bind_some ho
        have := Rd.pure_some ho1
        simp only [Prod.mk.injEq] at this
        obtain ⟨_, rfl⟩ := this
        exact ⟨_, rfl⟩
      | false =>
        obtain ⟨r, l1, l2, h1, ho1, _⟩ := Rd.bind_some ho
        have := Rd.pure_some ho1
        simp only [Prod.mk.injEq] at this
        obtain ⟨_, rfl⟩ := this
        exact ⟨_, rfl⟩
    | cp c => cases ho
  | rd => cases x with
    | op t x =>
      obtain ⟨c, l1, l2, h1, ho1, _⟩ := Rd.bind_some ho
      obtain ⟨r, l3, l4, h2, ho2, _⟩ := Rd.bind_some ho1
      have := Rd.pure_some ho2
      simp only [Prod.mk.injEq] at this
      obtain ⟨_, rfl⟩ := this
      exact ⟨_, rfl⟩
    | cp c =>
      obtain ⟨r, l3, l4, h2, ho2, _⟩ := Rd.bind_some ho
      have := Rd.pure_some ho2
      simp only [Prod.mk.injEq] at this
      obtain ⟨_, rfl⟩ := this
      exact ⟨_, rfl⟩
  | fn g n => cases x with
    | op t x =>
      obtain ⟨s, l1, l2, h1, ho1, _⟩ := Rd.bind_some ho
      split at ho1
      · obtain ⟨_, l3, l4, h2, ho2, _⟩ := Rd.bind_some ho1
        obtain ⟨r, l5, l6, h3, ho3, _⟩ := Rd.bind_some ho2
        have := Rd.pure_some ho3
        simp only [Prod.mk.injEq] at this
        obtain ⟨_, rfl⟩ := this
        exact ⟨_, rfl⟩
      · cases ho1
    | cp c => cases ho
  | nil =>
    obtain ⟨_, l1, l2, h1, ho1, _⟩ := Rd.bind_some ho
    have := Rd.pure_some ho1
    simp only [Prod.mk.injEq] at this
    obtain ⟨_, rfl⟩ := this
    exact ⟨[], by simp⟩

theorem argsA_pre {any : Bool} {nv : Nat} : ∀ {pk : List PK} {ars : List Ar} {k k' : Take} {xs : List A} {l : List (Bool × Nat)}, argsA P any nv k pk ars σ = some ((xs, k'), l) → ∃ r, k'.em = k.em ++ r
  | [], [], k, k', xs, l, ho => by
    have := Rd.pure_some ho
    simp only [Prod.mk.injEq] at this
    obtain ⟨_, rfl⟩ := this
    exact ⟨[], by simp⟩
  | p :: pk, x :: ars, k, k', xs, l, ho => by
    unfold argsA at ho
    obtain ⟨⟨x1, k1⟩, l1, l2, h1, ho1, _⟩ := Rd.bind_some ho
    obtain ⟨⟨x2, k2⟩, l3, l4, h2, ho2, _⟩ := Rd.bind_some ho1
    have := Rd.pure_some ho2
    simp only [Prod.mk.injEq] at this
    obtain ⟨_, rfl⟩ := this
    obtain ⟨r1, e1⟩ := argA_pre h1
    obtain ⟨r2, e2⟩ := argsA_pre h2
    exact ⟨r1 ++ r2, by rw [e2, e1]; simp⟩
  | [], _ :: _, _, _, _, _, h => by cases h
  | _ :: _, [], _, _, _, _, h => by cases h

theorem Take.mild.mores {k : Take} {es : List Em} (h : k.mild) : (k.mores es).mild := h
theorem Take.tame.mores {k : Take} {es : List Em} (h : k.tame) : (k.mores es).tame := h

theorem nilOp_some {x : Ar} (h : nilOp x = true) : ∃ t, x = .op t (.const (.slice none 0 0)) := by
  unfold nilOp at h
  split at h
  · exact ⟨_, rfl⟩
  · cases h

/-- ONE ARGUMENT. -/
theorem argA_rep {any : Bool} {nv : Nat} {k k' : Take} {p : PK} {x : Ar} {xs : List A} {v : Value} {sh : Nat → Prop} {F : Bool → Nat → List Nat} (h : InvG sh0 w0 G0 ρ (σ.take k) a w sh F β) (hm : k.mild) (ht : k.tame) (ho : argA P any nv k p x σ = some ((xs, k'), l)) (he : EmOk Fn ρ nv k'.em)
    (hv : ArVal a sh w ρ β x v) : ∃ sh' F' ds, InvG sh0 w0 G0 ρ (σ.take k') a w sh' F' β ∧ k'.mild ∧ k'.tame ∧ Took G0 w0 w sh F sh' F' [] ∧ evAs ρ xs = some ds ∧ ArgRep (shCall any sh' w) w p ds v := by
  cases p with
  | val => cases x with
    | op t x =>
      have hv : v = a.eval x := hv
      subst hv
      cases any with
      | true =>
        obtain ⟨⟨es, c⟩, l1, l2, h1, ho1, _⟩ := Rd.bind_some ho
        have := Rd.pure_some ho1
        simp only [Prod.mk.injEq] at this
        obtain ⟨rfl, rfl⟩ := this
        obtain ⟨d, e1, e2⟩ := lookAg_rep (σ := σ.take k) h h1 (EmOk.split (e1 := k.em) (e2 := es) he).2
        exact ⟨sh, F, [d], h, hm.mores, ht.mores, .refl, by simp [evAs, e1], d, rfl, e2⟩
      | false =>
        obtain ⟨c, l1, l2, h1, ho1, _⟩ := Rd.bind_some ho
        have := Rd.pure_some ho1
        simp only [Prod.mk.injEq] at this
        obtain ⟨rfl, rfl⟩ := this
        obtain ⟨sh', F', d, hI, e1, e2, _, tk⟩ := frz_rep (σ := σ.take k) h h1 (EmOk.split (e1 := k.em) (e2 := c.em) he).2
        exact ⟨sh', F', [d], by rw [take_and hm]; exact hI, hm.and (frzV_mild (σ := σ.take k) h1), ht.and (frzV_tame (σ := σ.take k) h1), tk, by simp [evAs, e1], d, rfl, e2⟩
    | cp c => cases ho
  | rd => cases x with
    | op t x =>
      have hv : v = a.eval x := hv
      subst hv
      obtain ⟨c, l1, l2, h1, ho1, _⟩ := Rd.bind_some ho
      obtain ⟨⟨es, y⟩, l3, l4, h2, ho2, _⟩ := Rd.bind_some ho1
      have := Rd.pure_some ho2
      simp only [Prod.mk.injEq] at this
      obtain ⟨rfl, rfl⟩ := this
      obtain ⟨d, e1, e2⟩ := capA_rep (σ := σ.take k) h h2 (EmOk.split (e1 := k.em) (e2 := es) he).2 (cpOf_rep (σ := σ.take k) h h1)
      exact ⟨sh, F, [d], h, hm.mores, ht.mores, .refl, by simp [evAs, e1], d, rfl, e2⟩
    | cp c =>
      obtain ⟨⟨es, y⟩, l3, l4, h2, ho2, _⟩ := Rd.bind_some ho
      have := Rd.pure_some ho2
      simp only [Prod.mk.injEq] at this
      obtain ⟨rfl, rfl⟩ := this
      obtain ⟨d, e1, e2⟩ := capA_rep (σ := σ.take k) h h2 (EmOk.split (e1 := k.em) (e2 := es) he).2 hv
      exact ⟨sh, F, [d], h, hm.mores, ht.mores, .refl, by simp [evAs, e1], d, rfl, e2⟩
  | fn g n => cases x with
    | op t x =>
      have hv : v = a.eval x := hv
      subst hv
      obtain ⟨s, l1, l2, h1, ho1, _⟩ := Rd.bind_some ho
      split at ho1
      · rename_i g' caps
        obtain ⟨_, l3, l4, h2, ho2, _⟩ := Rd.bind_some ho1
        obtain ⟨⟨es, ys⟩, l5, l6, h3, ho3, _⟩ := Rd.bind_some ho2
        have := Rd.pure_some ho3
        simp only [Prod.mk.injEq] at this
        obtain ⟨rfl, rfl⟩ := this
        have hg := Rd.guard_some h2
        simp only [Bool.and_eq_true, beq_iff_eq] at hg
        obtain ⟨rfl, hn⟩ := hg
        obtain ⟨_, us, u1, u2⟩ := opnd_fn (σ := σ.take k) h h1
        obtain ⟨ds, e1, e2, e3⟩ := capsA_rep (σ := σ.take k) h h3 (EmOk.split (e1 := k.em) (e2 := es) he).2 u2
        exact ⟨sh, F, ds, h, hm.mores, ht.mores, .refl, e1, by rw [e2, hn], us, u1, e3⟩
      · cases ho1
    | cp c => cases ho
  | nil =>
    obtain ⟨_, l1, l2, h1, ho1, _⟩ := Rd.bind_some ho
    have := Rd.pure_some ho1
    simp only [Prod.mk.injEq] at this
    obtain ⟨rfl, rfl⟩ := this
    obtain ⟨t, rfl⟩ := nilOp_some (Rd.guard_some h1)
    have hv : v = .slice none 0 0 := hv
    exact ⟨sh, F, [], h, hm, ht, .refl, rfl, rfl, hv⟩

theorem evAs_app : ∀ {xs ys : List A} {ds es : List Dy}, evAs ρ xs = some ds → evAs ρ ys = some es → evAs ρ (xs ++ ys) = some (ds ++ es)
  | [], ys, ds, es, h, h2 => by
    simp only [evAs, Option.some.injEq] at h
    subst h
    exact h2
  | x :: xs, ys, ds, es, h, h2 => by
    obtain ⟨d, r, h1, h3, rfl⟩ := evAs_cons h
    have := evAs_app h3 h2
    simp [evAs, h1, this]

/-- THE ARGUMENTS. -/
theorem argsA_rep {any : Bool} {nv : Nat} : ∀ {pk : List PK} {ars : List Ar} {k k' : Take} {xs : List A} {vs : List Value} {l : List (Bool × Nat)} {sh : Nat → Prop} {F : Bool → Nat → List Nat}, InvG sh0 w0 G0 ρ (σ.take k) a w sh F β → k.mild → k.tame →
    argsA P any nv k pk ars σ = some ((xs, k'), l) → EmOk Fn ρ nv k'.em → (vs.length = ars.length) → (∀ (i : Nat) x v, ars[i]? = some x → vs[i]? = some v → ArVal a sh w ρ β x v) →
    ∃ sh' F' ds, InvG sh0 w0 G0 ρ (σ.take k') a w sh' F' β ∧ k'.mild ∧ k'.tame ∧ Took G0 w0 w sh F sh' F' [] ∧ evAs ρ xs = some ds ∧ ArgsRep (shCall any sh' w) w pk ds vs
  | [], [], k, k', xs, vs, l, sh, F, h, hm, ht, ho, he, hl, hv => by
    have := Rd.pure_some ho
    simp only [Prod.mk.injEq] at this
    obtain ⟨rfl, rfl⟩ := this
    have hvs : vs = [] := List.eq_nil_of_length_eq_zero hl
    exact ⟨sh, F, [], h, hm, ht, .refl, rfl, rfl, hvs⟩
  | p :: pk, x :: ars, k, k', xs, vs, l, sh, F, h, hm, ht, ho, he, hl, hv => by
    unfold argsA at ho
    obtain ⟨⟨x1, k1⟩, l1, l2, h1, ho1, _⟩ := Rd.bind_some ho
    obtain ⟨⟨x2, k2⟩, l3, l4, h2, ho2, _⟩ := Rd.bind_some ho1
    have := Rd.pure_some ho2
    simp only [Prod.mk.injEq] at this
    obtain ⟨rfl, rfl⟩ := this
    obtain ⟨r2, e2⟩ := argsA_pre h2
    have he1 : EmOk Fn ρ nv k1.em := by
      have he' := he
      rw [e2] at he'
      exact he'.split.1
    match vs, hl, hv with
    | v :: vs, hl, hv =>
      obtain ⟨sh1, F1, ds1, hI1, m1, t1, tk1, q1, q2⟩ := argA_rep h hm ht h1 he1 (hv 0 x v rfl rfl)
      obtain ⟨sh2, F2, ds2, hI2, m2, t2, tk2, q3, q4⟩ := argsA_rep (vs := vs) hI1 m1 t1 h2 he (by simpa using hl) (fun i x v hx hv' => (hv (i + 1) x v (by simpa using hx) (by simpa using hv')).mono tk1.mono)
      exact ⟨sh2, F2, ds1 ++ ds2, hI2, m2, t2, tk1.trans tk2, evAs_app q1 q3, ds1, ds2, v, vs, rfl, rfl, q2.mono (shCall_mono tk2.mono), q4⟩
    | [], hl, _ => simp at hl
  | [], _ :: _, _, _, _, _, _, _, _, _, _, _, h, _, _, _ => by cases h
  | _ :: _, [], _, _, _, _, _, _, _, _, _, _, h, _, _, _ => by cases h

/-- Where all rows are owned it matters not what nobody writes. -/
theorem noSh_rep {sh2 : Nat → Prop} : ∀ {τ : Ty} {m : Md} {x : D τ} {vs F}, noSh τ m = true → Rep sh w τ m x vs F → Rep sh2 w τ m x vs F
  | .int _, _, _, _, _, _, h => h
  | .bool, _, _, _, _, _, h => h
  | .str, _, _, _, _, _, h => h
  | .unit, _, _, _, _, _, h => h
  | .pair a b, m, x, vs, F, hn, h => by
    simp only [noSh, Bool.and_eq_true] at hn
    obtain ⟨v1, v2, F1, F2, rfl, rfl, h1, h2⟩ := h
    exact ⟨v1, v2, F1, F2, rfl, rfl, noSh_rep hn.1 h1, noSh_rep hn.2 h2⟩
  | .sl e, .sh, x, vs, F, hn, h => by simp [noSh] at hn
  | .sl e, .pair _ _, x, vs, F, hn, h => h.elim
  | .sl e, .own m, x, vs, F, hn, h => by
    obtain ⟨ad, cap, h1, h2, h3⟩ := h
    refine ⟨ad, cap, h1, h2, h3.imp id ?_⟩
    rintro ⟨b, c, ty, fz, F', k1, k2, k3, k4, k5, k6⟩
    exact ⟨b, c, ty, fz, F', k1, k2, k3, k4, k5, RepL.imp k6 (fun x vs G _ h => noSh_rep (by simpa [noSh] using hn) h)⟩

theorem noSh_res {sh2 : Nat → Prop} : ∀ {rt : List (Ty × Md)} {rs : List Dy} {vs : List Value} {X : List Nat}, (rt.all fun x => noSh x.1 x.2) = true → ResL sh w rt rs vs X → ResL sh2 w rt rs vs X
  | [], rs, vs, X, _, h => h
  | t :: rt, rs, vs, X, hn, h => by
    simp only [List.all_cons, Bool.and_eq_true] at hn
    obtain ⟨d, es, v, us, F1, F2, rfl, rfl, rfl, h1, ⟨ws, h4, h5⟩, h3⟩ := h
    exact ⟨d, es, v, us, F1, F2, rfl, rfl, rfl, h1, ⟨ws, h4, noSh_rep (by rw [h1]; exact hn.1) h5⟩, noSh_res hn.2 h3⟩

theorem resL_tup : ∀ {rt : List (Ty × Md)} {rs : List Dy} {vs : List Value} {X : List Nat} (n : Nat), ResL sh w rt rs vs X → ∀ k : Nat,
    (∀ (i : Nat) (r : Dy), rs[i]? = some r → ρ[n + k + i]? = some r) → RepL (one (TupRep sh w ρ)) ((rt.zipIdx k).map fun x => some (.var (n + x.2), x.1.2)) vs X
  | [], rs, vs, X, n, h, k, _ => by
    obtain ⟨rfl, rfl, rfl⟩ := h
    exact ⟨rfl, rfl⟩
  | t :: rt, rs, vs, X, n, h, k, hk => by
    obtain ⟨d, es, v, us, F1, F2, rfl, rfl, rfl, h1, h2, h3⟩ := h
    refine ⟨[v], us, F1, F2, rfl, rfl, ⟨v, rfl, d, ?_, h2⟩, ?_⟩
    · have := hk 0 d rfl
      simpa [evA] using this
    · refine resL_tup n h3 (k + 1) (fun i r hr => ?_)
      · have := hk (i + 1) r (by simpa using hr)
        rw [show n + (k + 1) + i = n + k + (i + 1) by omega]
        exact this

theorem ResL.lt : ∀ {rt : List (Ty × Md)} {rs : List Dy} {vs : List Value} {X : List Nat}, ResL sh w rt rs vs X → ∀ b ∈ X, b < w.heap.size
  | [], rs, vs, X, h => by obtain ⟨rfl, rfl, rfl⟩ := h; simp
  | t :: rt, rs, vs, X, h => by
    obtain ⟨d, es, v, us, F1, F2, rfl, rfl, rfl, h1, ⟨vs, _, h2⟩, h3⟩ := h
    intro b hb
    rcases List.mem_append.1 hb with hb | hb
    · exact h2.lt b hb
    · exact ResL.lt h3 b hb

theorem resRep_sv {rt : List (Ty × Md)} {rs : List Dy} {v : Value} {X : List Nat} {n : Nat} (h : ResRep sh w rt rs v X) (hρ : ∀ (i : Nat) (r : Dy), rs[i]? = some r → ρ[n + i]? = some r) : SVRep sh w ρ β a.tmps F (resSV n rt) v X := by
  obtain ⟨vs, hr, rfl⟩ := h
  have htup := resL_tup (ρ := ρ) n hr 0 (by simpa using hρ)
  match rt, rs, hr, htup with
  | [], rs, hr, htup =>
    obtain ⟨rfl, rfl, rfl⟩ := hr
    exact ⟨#[], rfl, rfl, rfl⟩
  | [(τ, m)], rs, hr, htup =>
    obtain ⟨d, es, v, us, F1, F2, rfl, rfl, rfl, h1, h2, rfl, rfl, rfl⟩ := hr
    simp only [List.append_nil]
    exact ⟨d, by have := hρ 0 d rfl; simpa [evA] using this, h2⟩
  | x :: y :: rt, rs, hr, htup =>
    obtain ⟨d, es, v, us, F1, F2, rfl, rfl, rfl, h1, h2, d', es', v', us', F1', F2', rfl, rfl, rfl, hrest⟩ := hr
    exact ⟨_, rfl, htup⟩

theorem resSV_roots (n : Nat) (rt : List (Ty × Md)) (d : Nat) : roots (resSV n rt) ≠ some (false, d) := by
  unfold resSV; split <;> simp [roots]

theorem resSV_ok (n : Nat) (rt : List (Ty × Md)) : rootOk σ (resSV n rt) := by
  unfold resSV; split <;> trivial

theorem run_call {f : Nat} {c : Call} {x : Operand} {us : List Value} (hop : o.op = .call c) (hc : c.callee = .value x) (hx : a.eval x = .func (.func f) #[] us.toArray) (hok : callOk P f = true) :
    (execOp a.eval o).run P w = .ok (.enter f (c.args.map a.eval ++ us.toArray)) w := by
  unfold callOk at hok
  cases hf : P.funcs[f]? with
  | none => rw [hf] at hok; cases hok
  | some fn => ?_
  rw [hf] at hok
  simp only [Bool.and_eq_true, Bool.not_eq_true'] at hok
  unfold execOp
  rw [hop]
  have hb : ¬ fn.body = none := by
    intro hb
    rw [hb] at hok; simp at hok
  have hname : ¬ fn.name = "runtime.NumGoroutine" := by
    intro hname
    simp [hname] at hok
  simp [resolve, hc, hx, Deferred.ofValue, invoke, callFunc, hf, hb, hname]

theorem sound_call {f : Nat} {ars : List Ar} {nv : Nat} {args : Array Value} (h : InvG sh0 w0 G0 ρ σ a w sh F β) (hrun : callOk P f = true → (execOp a.eval o).run P w = .ok (.enter f args) w)
    (hl : args.toList.length = ars.length) (hv : ∀ (i : Nat) x v, ars[i]? = some x → args.toList[i]? = some v → ArVal a sh w ρ β x v)
    (hd : o.dst = some d) (hlt : DstOk σ d) (hC : ∀ f s, C f = some s → Con P Fn f s) (hs : stCall P C nv d f ars σ = some (st, l)) (he : EmOk Fn ρ nv st.em) :
    o.wp P a w (Inv sh0 w0 G0 ρ (σ.apply st)) Q := by
  unfold stCall at hs
  obtain ⟨s, l1, l2, h1, hs1, _⟩ := Rd.bind_some hs
  have hCf := Rd.ofO_some h1
  obtain ⟨⟨vs, k⟩, l3, l4, h2, hs2, _⟩ := Rd.bind_some hs1
  obtain ⟨_, l5, l6, h3, hs3, _⟩ := Rd.bind_some hs2
  have hg := Rd.guard_some h3
  have := Rd.pure_some hs3
  subst this
  obtain ⟨hea, heb⟩ := he.split
  obtain ⟨sh1, F1, ds, hI, hmi, hta, tk, hds, hrep⟩ := argsA_rep (σ := σ) (k := .nil) h (fun y hy => by simp [Take.nil] at hy) (fun y hy => by simp [Take.nil] at hy) h2 hea hl hv
  have happ := apply_take (σ := σ) hmi (k.em ++ [.call f vs s.rt.length]) [] [] [(d, resSV (nv + emN k.em) s.rt)]
  rw [List.append_nil, List.append_nil] at happ
  rw [happ]
  have hdt := hlt.take hta
  obtain ⟨ds', rs, k1, k2, k3, k4⟩ := heb.1
  obtain rfl := some_eq hds k1
  have hcon := hC f s hCf w (shCall (s.rt.all fun x => noSh x.1 x.2) sh1 w) args ds rs (fun b hb => by
    unfold shCall at hb
    generalize (s.rt.all fun x => noSh x.1 x.2) = any at hb
    cases any with
    | false => exact hI.sh_lt b hb
    | true => exact hb) hrep k2
  unfold Oper.wp
  rw [hrun hg, Oper.upon_enter]
  refine hcon.mono fun e w' hpost => ?_
  obtain ⟨v, sh', Fr, rfl, hE, hs1', hs2', hres, hnd, hfr⟩ := hpost
  rw [hd]
  have hfin : ∀ sh2 : Nat → Prop, (∀ b, sh1 b → sh2 b) → (∀ b, sh2 b → b < w'.heap.size ∧ (sh1 b ∨ w.heap.size ≤ b)) → ResRep sh2 w' s.rt rs v Fr → (∀ b ∈ Fr, ¬ sh2 b) → Inv sh0 w0 G0 ρ ((σ.take k).putS (d, resSV (nv + emN k.em) s.rt)) (a.put (some d) v) w' := by
    intro sh2 g1 g2 g3 g4
    have hb := hI.back hE g1 g2
    exact ⟨_, _, _, hb.put hdt (resRep_sv g3 k4) (resSV_roots _ _ _) (resSV_ok _ _) hnd (fun b hb' => ⟨.inr (Nat.le_trans hI.ext.size (hfr b hb').1), (hfr b hb').2.1, g4 b hb'⟩)
      (fun b hb' k j _ hm => Nat.lt_irrefl _ (Nat.lt_of_lt_of_le (hI.own k j b hm).2.1 (hfr b hb').1))⟩
  cases hany : (s.rt.all fun x => noSh x.1 x.2) with
  | false =>
    rw [hany] at hs1' hs2'
    exact hfin sh' hs1' hs2' hres (fun b hb => (hfr b hb).2.2)
  | true =>
    obtain ⟨vs, q1, q2⟩ := hres
    exact hfin sh1 (fun _ h => h) (fun b hb => ⟨Nat.lt_of_lt_of_le (hI.sh_lt b hb) hE.size, .inl hb⟩) ⟨vs, noSh_res hany q1, q2⟩ (fun b hb hs => Nat.lt_irrefl _ (Nat.lt_of_lt_of_le (hI.sh_lt b hs) (hfr b hb).1))

theorem CapsRep.get : ∀ {cs : List Cp} {us : List Value}, CapsRep sh w ρ β cs us → us.length = cs.length ∧ ∀ (i : Nat) c u, cs[i]? = some c → us[i]? = some u → CapRep sh w ρ β c u
  | [], us, h => by have h : us = [] := h; subst h; simp
  | c :: cs, us, h => by
    obtain ⟨u, us', rfl, h1, h2⟩ := h
    obtain ⟨k1, k2⟩ := CapsRep.get h2
    refine ⟨by simp [k1], fun i c' u' hc hu => ?_⟩
    cases i with
    | zero => simp at hc hu; subst hc; subst hu; exact h1
    | succ i => simp at hc hu; exact k2 i c' u' hc hu

theorem sound_callV {x : Operand} {ts : List TypeId} {xs : List Operand} {nv : Nat} {c : Call} (h : InvG sh0 w0 G0 ρ σ a w sh F β) (hop : o.op = .call c) (hcal : c.callee = .value x) (hx : c.args = ⟨xs⟩)
    (hd : o.dst = some d) (hlt : DstOk σ d) (hC : ∀ f s, C f = some s → Con P Fn f s) (hs : stCallV P C nv d x ts xs σ = some (st, l)) (he : EmOk Fn ρ nv st.em) :
    o.wp P a w (Inv sh0 w0 G0 ρ (σ.apply st)) Q := by
  unfold stCallV at hs
  obtain ⟨s, l1, l2, h1, hs1, _⟩ := Rd.bind_some hs
  split at hs1
  · rename_i g caps
    obtain ⟨_, l3, l4, h2, hs2, _⟩ := Rd.bind_some hs1
    have hlen := Rd.guard_some h2
    have hlen : ts.length = xs.length := by simpa using hlen
    obtain ⟨_, us, u1, u2⟩ := opnd_fn h h1
    obtain ⟨c1, c2⟩ := u2.get
    have hargs : (c.args.map a.eval ++ us.toArray).toList = xs.map a.eval ++ us := by rw [hx]; simp
    have hal : ((ts.zip xs).map (fun x => Ar.op x.1 x.2)).length = xs.length := by simp [hlen]
    refine sound_call h (args := c.args.map a.eval ++ us.toArray) (fun hok => run_call hop hcal u1 hok) ?_ (fun i y v hy hv => ?_) hd hlt hC hs2 he
    · rw [hargs]; simp [hlen, c1]
    · rw [hargs] at hv
      rcases Nat.lt_or_ge i xs.length with hi | hi
      · rw [List.getElem?_append_left (by rw [hal]; exact hi)] at hy
        rw [List.getElem?_append_left (by simpa using hi)] at hv
        rw [List.getElem?_map] at hy hv
        obtain ⟨z, hz, rfl⟩ := Option.map_eq_some_iff.1 hy
        obtain ⟨q, hq, rfl⟩ := Option.map_eq_some_iff.1 hv
        have hzi := List.getElem?_zip_eq_some.1 hz
        have : z.2 = q := some_eq hzi.2 hq
        show a.eval q = a.eval z.2
        rw [this]
      · rw [List.getElem?_append_right (by rw [hal]; exact hi), hal] at hy
        rw [List.getElem?_append_right (by simpa using hi)] at hv
        rw [List.getElem?_map] at hy
        obtain ⟨z, hz, rfl⟩ := Option.map_eq_some_iff.1 hy
        rw [List.length_map] at hv
        exact c2 _ z v hz hv
  · cases hs1

theorem sound_makeFunc {g : Nat} {xs : List Operand} (h : InvG sh0 w0 G0 ρ σ a w sh F β) (hop : o.op = .makeFunc (.func g) ⟨[]⟩ ⟨xs⟩)
    (hd : o.dst = some d) (hlt : DstOk σ d) (hs : stMakeFunc P d g xs σ = some (st, l)) : o.wp P a w (Inv sh0 w0 G0 ρ (σ.apply st)) Q := by
  unfold stMakeFunc at hs
  obtain ⟨cs, l1, l2, h1, hs1, _⟩ := Rd.bind_some hs
  have := Rd.pure_some hs1
  subst this
  have hc := cpsOf_rep h h1
  refine wp_value (v := .func (.func g) #[] (xs.map a.eval).toArray) (w' := w) ?_ ?_
  · unfold execOp
    rw [hop]
    simp only [Instr.makeFunc, Sem.run_bind, Sem.run_pure, Result.andThen_ok]
    simp
  · rw [hd]
    exact ⟨_, _, _, h.put_none hlt (s := .fn g cs) ⟨rfl, _, rfl, hc⟩⟩

/-- Bounds. -/
def BoundOk (ρ : List Dy) (a : Act) (x : Option Operand) (as : List A) : Prop :=
  match x with
  | none => as = []
  | some x => ∃ c d, as = [c] ∧ evA ρ c = some d ∧ ∀ (k : IntKind) (n : Int), d = ⟨.int k, n⟩ → a.eval x = .int k n

theorem lookO_rep {x : Option Operand} {as : List A} (h : InvG sh0 w0 G0 ρ σ a w sh F β) (ho : lookO P x σ = some (as, l)) :
    BoundOk ρ a x as := by
  cases x with
  | none => exact (Rd.pure_some ho).symm
  | some x =>
    obtain ⟨c, l1, l2, h1, ho1, _⟩ := Rd.bind_some ho
    have := Rd.pure_some ho1
    subst this
    obtain ⟨d, sh2, m, G, q1, q2, _⟩ := look_rep h h1
    refine ⟨c, d, rfl, q1, fun k n hd => ?_⟩
    subst hd
    exact valA_rep q2 rfl

theorem run_bounds_any (isSlice : Bool) {n cap : Nat} {lo hi : Option Operand} {as bs : List A} {ds es : List Dy} {p q : Int} (hlo : BoundOk ρ a lo as)
    (hhi : BoundOk ρ a hi bs)
    (hd : evAs ρ as = some ds) (he : evAs ρ bs = some es) (hb : bounds n lo.isSome hi.isSome (ds ++ es) = some (p, q)) (h0 : 0 ≤ p) (h1 : p ≤ q) (h2 : q ≤ n) (hc : n ≤ cap) :
    (Instr.sliceBounds isSlice n cap (lo.map a.eval) (hi.map a.eval) none).run P w = .ok (p.toNat, q.toNat, cap) w := by
  have hqc : q ≤ (cap : Int) := Int.le_trans h2 (Int.ofNat_le.2 hc)
  cases lo with
  | none =>
    have hlo : as = [] := hlo
    subst hlo
    simp only [evAs, Option.some.injEq] at hd
    subst hd
    cases hi with
    | none =>
      have hhi : bs = [] := hhi
      subst hhi
      simp only [evAs, Option.some.injEq] at he
      subst he
      simp only [bounds, Option.isSome_none, List.append_nil, Option.some.injEq, Prod.mk.injEq] at hb
      obtain ⟨rfl, rfl⟩ := hb
      simp [Instr.sliceBounds]
    | some y =>
      obtain ⟨c, d, rfl, e1, e2⟩ := hhi
      simp only [evAs, e1, Option.some.injEq] at he
      subst he
      obtain ⟨τ, v⟩ := d
      cases τ <;> first | (simp [bounds] at hb; done) | skip
      simp only [bounds, Option.isSome_none, Option.isSome_some, List.nil_append, Option.some.injEq, Prod.mk.injEq] at hb
      obtain ⟨rfl, rfl⟩ := hb
      have hy := e2 _ _ rfl
      simp [Instr.sliceBounds, Instr.sliceBound, hy, asIntOf, h1, hqc]
  | some x =>
    obtain ⟨c, d, rfl, e1, e2⟩ := hlo
    simp only [evAs, e1, Option.some.injEq] at hd
    subst hd
    obtain ⟨τ, u⟩ := d
    cases hi with
    | none =>
      have hhi : bs = [] := hhi
      subst hhi
      simp only [evAs, Option.some.injEq] at he
      subst he
      cases τ <;> first | (simp [bounds] at hb; done) | skip
      simp only [bounds, Option.isSome_none, Option.isSome_some, List.append_nil, Option.some.injEq, Prod.mk.injEq] at hb
      obtain ⟨rfl, rfl⟩ := hb
      have hx := e2 _ _ rfl
      simp [Instr.sliceBounds, Instr.sliceBound, hx, asIntOf, h0, h1]
    | some y =>
      obtain ⟨c', d', rfl, f1, f2⟩ := hhi
      simp only [evAs, f1, Option.some.injEq] at he
      subst he
      obtain ⟨τ', v⟩ := d'
      cases τ <;> first | (simp [bounds] at hb; done) | skip
      cases τ' <;> first | (simp [bounds] at hb; done) | skip
      simp only [bounds, Option.isSome_some, List.cons_append, List.nil_append, Option.some.injEq, Prod.mk.injEq] at hb
      obtain ⟨rfl, rfl⟩ := hb
      have hx := e2 _ _ rfl
      have hy := f2 _ _ rfl
      have hv0 : (0 : Int) ≤ v := Int.le_trans h0 h1
      simp [Instr.sliceBounds, Instr.sliceBound, hx, hy, asIntOf, h0, h1, hv0, hqc, show u ≤ ((v.toNat : Nat) : Int) by rw [Int.toNat_of_nonneg hv0]; exact h1]
      intro hh
      exact absurd (Int.le_trans h1 (Int.le_max_left _ _)) (Int.not_le.2 hh)

theorem evAs_split : ∀ {xs ys : List A} {ds : List Dy}, evAs ρ (xs ++ ys) = some ds → ∃ d1 d2, ds = d1 ++ d2 ∧ evAs ρ xs = some d1 ∧ evAs ρ ys = some d2
  | [], ys, ds, h => ⟨[], ds, rfl, rfl, h⟩
  | x :: xs, ys, ds, h => by
    obtain ⟨d, r, h1, h2, rfl⟩ := evAs_cons h
    obtain ⟨d1, d2, rfl, h3, h4⟩ := evAs_split h2
    exact ⟨d :: d1, d2, rfl, by simp [evAs, h1, h3], h4⟩

theorem RepL.part {α : Type} {R : α → List Value → List Nat → Prop} {n : Nat} (hn : ∀ x vs F, R x vs F → vs.length = n) : ∀ {xs : List α} {vs : List Value} (p q : Nat), RepL R xs vs [] → RepL R ((xs.take q).drop p) ((vs.take (n * q)).drop (n * p)) []
  | [], vs, p, q, h => by
    obtain ⟨rfl, _⟩ := h
    simp [RepL]
  | x :: xs, vs, p, 0, h => by simp [RepL]
  | x :: xs, vs, 0, q + 1, h => by
    obtain ⟨v1, v2, F1, F2, rfl, hF, h1, h2⟩ := h
    obtain ⟨rfl, rfl⟩ := List.nil_eq_append_iff.1 hF
    have hl := hn _ _ _ h1
    have ih := RepL.part hn 0 q h2
    rw [Nat.mul_zero, List.drop_zero, List.drop_zero] at ih ⊢
    rw [List.take_succ_cons, show n * (q + 1) = v1.length + n * q by rw [hl, Nat.mul_add]; omega, List.take_length_add_append]
    exact ⟨v1, _, [], [], rfl, rfl, h1, ih⟩
  | x :: xs, vs, p + 1, q + 1, h => by
    obtain ⟨v1, v2, F1, F2, rfl, hF, h1, h2⟩ := h
    obtain ⟨rfl, rfl⟩ := List.nil_eq_append_iff.1 hF
    have hl := hn _ _ _ h1
    have ih := RepL.part hn p q h2
    rw [List.take_succ_cons, List.drop_succ_cons, show n * (q + 1) = v1.length + n * q by rw [hl, Nat.mul_add]; omega, show n * (p + 1) = v1.length + n * p by rw [hl, Nat.mul_add]; omega, List.take_length_add_append, List.drop_length_add_append]
    exact ih

theorem sound_slice {t : TypeId} {x : Operand} {lo hi : Option Operand} {nv : Nat} (h : InvG sh0 w0 G0 ρ σ a w sh F β) (hop : o.op = .slice t x lo hi none)
    (hd : o.dst = some d) (hlt : DstOk σ d) (hs : stSlice P nv d t x lo hi σ = some (st, l)) (he : EmOk Fn ρ nv st.em) : o.wp P a w (Inv sh0 w0 G0 ρ (σ.apply st)) Q := by
  unfold stSlice at hs
  obtain ⟨as, l1, l2, h1, hs1, _⟩ := Rd.bind_some hs
  obtain ⟨bs, l3, l4, h2, hs2, _⟩ := Rd.bind_some hs1
  have hlo := lookO_rep h h1
  have hhi := lookO_rep h h2
  generalize hu : P.underlying t = u at hs2
  have hrun : ∀ v, (Instr.slice t (a.eval x) (lo.map a.eval) (hi.map a.eval) none).run P w = .ok v w → (∀ n e, u ≠ some (.array n e)) → (execOp a.eval o).run P w = .ok (.value v) w := by
    intro v hv hna
    unfold execOp
    rw [hop]
    have hsl : (Instr.sliceAt t (a.eval x) (lo.map a.eval) (hi.map a.eval) none).run P w = .ok v w := by
      unfold Instr.sliceAt
      cases hu' : P.underlying t with
      | none =>
        have := hv
        unfold Instr.slice at this
        simp only [Sem.run_bind] at this
        unfold underlying at this ⊢
        simp [hu'] at this ⊢
      | some ud =>
        simp only [Sem.run_bind, run_underlying hu', Result.andThen_ok]
        cases ud with
        | array n e => exact absurd (hu.symm.trans hu') (hna n e)
        | _ => exact hv
    simp only [Sem.run_bind, Option.map_none, hsl, Result.andThen_ok, Sem.run_pure]
  split at hs2
  · rename_i e
    obtain ⟨k, l5, l6, h3, hs3, _⟩ := Rd.bind_some hs2
    obtain ⟨_, l7, l8, h4, hs4, _⟩ := Rd.bind_some hs3
    have hg := Rd.guard_some h4
    have hg : P.cellsOf e ≠ 0 := by simpa using hg
    have := Rd.pure_some hs4
    subst this
    obtain ⟨hea, heb⟩ := he.split
    obtain ⟨sh1, F1, d1, hI, e1, r1, _, tk⟩ := frz_rep h h3 hea
    have hmi := frzV_mild h3
    have happ := apply_take (σ := σ) hmi (k.em ++ [.e ⟨.sub (P.cellsOf e) lo.isSome hi.isSome, k.x :: as ++ bs⟩]) [] [] [(d, .at (.var (nv + emN k.em)) .sh)]
    rw [List.append_nil, List.append_nil] at happ
    rw [happ]
    refine sound_e (op := .sub (P.cellsOf e) lo.isSome hi.isSome) (args := k.x :: as ++ bs) hI hd (hlt.take (frzV_tame h3)) heb fun ds dy hds hev => ?_
    obtain ⟨d1', r, q1, q2, rfl⟩ := evAs_cons (xs := as ++ bs) hds
    obtain rfl := some_eq e1 q1
    obtain ⟨da, db, rfl, q3, q4⟩ := evAs_split q2
    obtain ⟨τ, xv⟩ := d1
    cases τ <;> first | (simp [evX] at hev; done) | skip
    · exfalso
      simp only [evX] at hev
      split at hev
      · split at hev
        · rename_i hc; exact hg hc.1
        · cases hev
      · cases hev
    rename_i τ
    simp only [evX] at hev
    cases hb : bounds (List.length xv) lo.isSome hi.isSome (da ++ db) with
    | none => rw [hb] at hev; cases hev
    | some pq => ?_
    obtain ⟨p, q⟩ := pq
    rw [hb] at hev
    dsimp only at hev
    split at hev
    · rename_i hc
      obtain ⟨hn, _, hp0, hpq, hql⟩ := hc
      simp only [Option.some.injEq] at hev
      subst hev
      obtain ⟨us, hv, ad, cap, rfl, hcap, _, hr⟩ := r1
      have hv : a.eval x = .slice ad (List.length xv) cap := hv
      have hbr := run_bounds_any (P := P) (w := w) (a := a) true (cap := cap) hlo hhi q3 q4 hb hp0 hpq hql hcap
      refine ⟨.slice (if cap = p.toNat then ad else ad.map (·.add (p.toNat * P.cellsOf e))) (q.toNat - p.toNat) (cap - p.toNat), hrun _ ?_ (by simp), ?_⟩
      · unfold Instr.slice
        simp only [Sem.run_bind, run_underlying hu, Result.andThen_ok, hv, hbr, run_sizeOf' rfl hg, Sem.run_pure]
      · have hlen : List.length ((xv.take q.toNat).drop p.toNat) = q.toNat - p.toNat := by
          simp only [List.length_drop, List.length_take]; omega
        have hcap' : List.length xv ≤ cap := hcap
        refine ⟨_, rfl, _, cap - p.toNat, by rw [hlen], by rw [hlen]; omega, rfl, ?_⟩
        rcases hr with h0 | ⟨b, off, c, ty, fz, rfl, hb', hw, hr⟩
        · have h0 : xv = [] := h0
          subst h0
          exact .inl (by simp)
        · by_cases hemp : q.toNat = p.toNat
          · left
            apply List.eq_nil_of_length_eq_zero
            rw [hlen]; omega
          · right
            have hcp : cap ≠ p.toNat := by omega
            refine ⟨b, off + p.toNat * P.cellsOf e, c, ty, fz, by simp [hcp, add_off], hb', hw, ?_⟩
            have hr : RepL (fun x vs F => Rep sh1 w τ .sh x vs F) xv ((c.toList.drop off).take (τ.n * List.length xv)) [] := hr
            have hpart := RepL.part (fun x vs F h => Rep.len h) p.toNat q.toNat hr
            rw [hlen]
            have : ((c.toList.drop off).take (τ.n * List.length xv)).take (τ.n * q.toNat) = (c.toList.drop off).take (τ.n * q.toNat) := by
              rw [List.take_take, Nat.min_eq_left (Nat.mul_le_mul_left _ (by omega))]
            rw [this] at hpart
            rw [← List.drop_drop, ← hn, Nat.mul_comm p.toNat]
            have h2 : ((c.toList.drop off).take (τ.n * q.toNat)).drop (τ.n * p.toNat) = ((c.toList.drop off).drop (τ.n * p.toNat)).take (τ.n * (q.toNat - p.toNat)) := by
              rw [List.drop_take, Nat.mul_sub]
            rw [h2] at hpart
            exact hpart
    · cases hev
  · obtain ⟨c1, l5, l6, h3, hs3, _⟩ := Rd.bind_some hs2
    have := Rd.pure_some hs3
    subst this
    obtain ⟨d1, sqd1, m1, X1, e1, r1, _⟩ := look_rep h h3
    refine sound_e h hd hlt he fun ds dy hds hev => ?_
    obtain ⟨d1', r, q1, q2, rfl⟩ := evAs_cons (xs := as ++ bs) hds
    obtain rfl := some_eq e1 q1
    obtain ⟨da, db, rfl, q3, q4⟩ := evAs_split q2
    obtain ⟨τ, xv⟩ := d1
    cases τ <;> first | (simp [evX] at hev; done) | skip
    · simp only [evX] at hev
      cases hb : bounds (ByteArray.size xv) lo.isSome hi.isSome (da ++ db) with
      | none => rw [hb] at hev; cases hev
      | some pq => ?_
      obtain ⟨p, q⟩ := pq
      rw [hb] at hev
      dsimp only at hev
      split at hev
      · rename_i hc
        obtain ⟨_, hp0, hpq, hql⟩ := hc
        simp only [Option.some.injEq] at hev
        subst hev
        have hv : a.eval x = .string xv := valA_rep r1 rfl
        have hbr := run_bounds_any (P := P) (w := w) (a := a) false (cap := ByteArray.size xv) hlo hhi q3 q4 hb hp0 hpq hql (Nat.le_refl _)
        refine ⟨.string (xv.extract p.toNat q.toNat), hrun _ ?_ (by simp), valRep_atom ⟨rfl, rfl, rfl⟩⟩
        unfold Instr.slice
        simp only [Sem.run_bind, run_underlying hu, Result.andThen_ok, hv, hbr, Sem.run_pure, Option.isSome_none, Bool.false_eq_true, if_false]
      · cases hev
    · exfalso
      rename_i τ
      simp only [evX] at hev
      split at hev
      · split at hev
        · rename_i hc; exact hc.2.1 rfl
        · cases hev
      · cases hev
  · cases hs2

theorem mnmx_inv {mx : Bool} {d1 d2 dy : Dy} (h : evX (if mx then .mx else .mn) [d1, d2] = some dy) : ∃ (k k' : IntKind) (x y : Int), d1 = ⟨.int k, x⟩ ∧ d2 = ⟨.int k', y⟩ ∧ dy = ⟨.int k, if mx then (if y > x then y else x) else (if y < x then y else x)⟩ := by
  obtain ⟨τ1, x1⟩ := d1
  obtain ⟨τ2, x2⟩ := d2
  cases mx <;> (cases τ1 <;> first | (simp [evX] at h; done) | (cases τ2 <;> first | (simp [evX] at h; done) | skip))
  · simp only [Bool.false_eq_true, if_false, evX, Option.some.injEq] at h
    exact ⟨_, _, x1, x2, rfl, rfl, h.symm⟩
  · simp only [if_true, evX, Option.some.injEq] at h
    exact ⟨_, _, x1, x2, rfl, rfl, h.symm⟩

theorem sound_minmax {mx : Bool} {t u : TypeId} {x y : Operand} {nv : Nat} {c : Call} (h : InvG sh0 w0 G0 ρ σ a w sh F β) (hop : o.op = .call c) (hc : c.callee = .builtin (if mx then .max else .min)) (hx : c.args = ⟨[x, y]⟩)
    (hd : o.dst = some d) (hlt : DstOk σ d) (hs : stE2 P nv d (if mx then .mx else .mn) t x u y σ = some (st, l)) (he : EmOk Fn ρ nv st.em) : o.wp P a w (Inv sh0 w0 G0 ρ (σ.apply st)) Q := by
  unfold stE2 at hs
  obtain ⟨c1, l1, l2, h1, hs1, _⟩ := Rd.bind_some hs
  obtain ⟨c2, l3, l4, h2, hs2, _⟩ := Rd.bind_some hs1
  have := Rd.pure_some hs2
  subst this
  obtain ⟨d1, sqd1, m1, X1, e1, r1, _⟩ := look_rep h h1
  obtain ⟨d2, sqd2, m2, X2, e2, r2, _⟩ := look_rep h h2
  refine sound_e h hd hlt he fun ds dy hds hev => ?_
  obtain ⟨d1', d2', k1, k2, rfl⟩ := evAs2 hds
  obtain rfl := some_eq e1 k1
  obtain rfl := some_eq e2 k2
  obtain ⟨k, k', n, m, rfl, rfl, rfl⟩ := mnmx_inv hev
  have hx' : a.eval x = .int k n := valA_rep r1 rfl
  have hy' : a.eval y = .int k' m := valA_rep r2 rfl
  have hargs : (c.args.map a.eval) = #[.int k n, .int k' m] := by rw [hx]; simp [hx', hy']
  refine ⟨_, ?_, valRep_atom ⟨rfl, rfl, rfl⟩⟩
  unfold execOp
  rw [hop]
  cases mx with
  | false => simp [resolve, hc, invoke, builtin, hargs, Builtin.min_, Builtin.min2]
  | true => simp [resolve, hc, invoke, builtin, hargs, Builtin.max_, Builtin.max2]

end
end Go.Vm
