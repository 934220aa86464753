/- A call does what its contract says; each operation of a text. Lemmas alone, no statement. -/
import Derived.Test.YtecleaangfcloaaVmLend
namespace Go.Vm
set_option linter.unusedVariables false
set_option linter.unusedSimpArgs false
open Go.RowKit

/-- Pointers to what nobody writes. -/
def PtrsRep (sh : Nat → Prop) (w : World) : List Dy → List Value → Prop
  | [], us => us = []
  | d :: ds, us => ∃ u us', us = u :: us' ∧ PtrRep sh w d u ∧ PtrsRep sh w ds us'

/-- One argument. -/
def ArgRep (sh : Nat → Prop) (w : World) (k : PK) (ds : List Dy) (v : Value) : Prop :=
  match k with
  | .val => ∃ d, ds = [d] ∧ ValRep sh w d .sh v []
  | .rd => ∃ d, ds = [d] ∧ PtrRep sh w d v
  | .nil => ds = [] ∧ v = .slice none 0 0
  | .fn g n => ds.length = n ∧ ∃ us, v = .func (.func g) #[] us.toArray ∧ PtrsRep sh w ds us

/-- The arguments' values, which nobody writes. -/
def ArgsRep (sh : Nat → Prop) (w : World) : List PK → List Dy → List Value → Prop
  | [], ds, vs => ds = [] ∧ vs = []
  | k :: pk, ds, vs => ∃ ds1 ds2 v us, ds = ds1 ++ ds2 ∧ vs = v :: us ∧ ArgRep sh w k ds1 v ∧ ArgsRep sh w pk ds2 us

theorem PtrRep.mono {sh sh' : Nat → Prop} {w : World} {d : Dy} {v : Value} (hs : ∀ b, sh b → sh' b) (h : PtrRep sh w d v) : PtrRep sh' w d v := h.frame (fun b hb => ⟨hs b hb, rfl⟩)

theorem PtrsRep.mono {sh sh' : Nat → Prop} {w : World} (hs : ∀ b, sh b → sh' b) : ∀ {ds : List Dy} {us : List Value}, PtrsRep sh w ds us → PtrsRep sh' w ds us
  | [], _, h => h
  | d :: ds, us, h => by
    obtain ⟨u, us', rfl, h1, h2⟩ := h
    exact ⟨u, us', rfl, h1.mono hs, h2.mono hs⟩

theorem ArgRep.mono {sh sh' : Nat → Prop} {w : World} {k : PK} {ds : List Dy} {v : Value} (hs : ∀ b, sh b → sh' b) (h : ArgRep sh w k ds v) : ArgRep sh' w k ds v := by
  cases k with
  | val => obtain ⟨d, h1, h2⟩ := h; exact ⟨d, h1, h2.frame (fun b hb => ⟨hs b hb, rfl⟩) (by simp)⟩
  | rd => obtain ⟨d, h1, h2⟩ := h; exact ⟨d, h1, h2.mono hs⟩
  | nil => exact h
  | fn g n => obtain ⟨h0, us, h1, h2⟩ := h; exact ⟨h0, us, h1, h2.mono hs⟩

/-- The results' values, one behind the other. -/
def ResL (sh : Nat → Prop) (w : World) : List (Ty × Md) → List Dy → List Value → List Nat → Prop
  | [], ds, vs, F => ds = [] ∧ vs = [] ∧ F = []
  | t :: ts, ds, vs, F => ∃ d es v us F1 F2, ds = d :: es ∧ vs = v :: us ∧ F = F1 ++ F2 ∧ d.1 = t.1 ∧ ValRep sh w d t.2 v F1 ∧ ResL sh w ts es us F2

def resVal : List Value → Value
  | [u] => u
  | vs => .tuple vs.toArray

def ResRep (sh : Nat → Prop) (w : World) (rt : List (Ty × Md)) (ds : List Dy) (v : Value) (F : List Nat) : Prop :=
  ∃ vs : List Value, ResL sh w rt ds vs F ∧ v = resVal vs

/-- The results, or the address of a new variable. -/
def ResR (sh : Nat → Prop) (w : World) (s : Sig) (rs : List Dy) (v : Value) (Fr : List Nat) : Prop :=
  match s.nb with
  | false => ResRep sh w s.rt rs v Fr
  | true => ∃ τ m d b c ty K, s.rt = [(τ, m)] ∧ rs = [d] ∧ d.1 = τ ∧ v = .pointer (some ⟨b, 0, none⟩) ∧ Fr = b :: K ∧ w.heap[b]? = some (.cells c ty (0, 0)) ∧ Rep sh w d.1 m d.2 c.toList K

/-- All arguments; L: the blocks that are lent. -/
def ArgsL (sh : Nat → Prop) (w : World) (s : Sig) (ds : List Dy) (vs : List Value) (L : List Nat) : Prop :=
  match s.lt with
  | none => ArgsRep sh w s.pk ds vs ∧ L = []
  | some (p, q) => ∃ ds0 d v, ds = ds0 ++ [d] ∧ vs[p]? = some v ∧ ArgsRep sh w s.pk ds0 (del p vs) ∧ LentRep q false sh w d v L

/-- The results, and what is given back. -/
def ResOut (sh : Nat → Prop) (w : World) (s : Sig) (vs : List Value) (rs : List Dy) (v : Value) (Fr L : List Nat) : Prop :=
  match s.lt with
  | none => ResR sh w s rs v Fr ∧ L = []
  | some (p, .mov _ _) => ResRep sh w s.rt rs v Fr ∧ L = []
  | some (p, q) => ∃ rs0 d u, rs = rs0 ++ [d] ∧ ResRep sh w s.rt rs0 v Fr ∧ vs[p]? = some u ∧ d.1 = q.ty ∧ LentRep q true sh w d u L

/-- A function's contract: where its text has an answer, the call returns it; nothing old has turned but what was lent. -/
def Con (P : Program) (Fn : Fns) (f : Nat) (s : Sig) : Prop :=
  ∀ (w : World) (sh : Nat → Prop) (args : Array Value) (ds rs : List Dy) (L : List Nat), (∀ b, sh b → b < w.heap.size) → ArgsL sh w s ds args.toList L → L.Nodup → (∀ b ∈ L, b < w.heap.size ∧ ¬ sh b) → Fn f ds = some rs →
    Calls P f args w fun e w' => ∃ v sh' Fr L', e = .returned v ∧ Ext w w' L ∧ (∀ b, sh b → sh' b) ∧ (∀ b, sh' b → b < w'.heap.size ∧ (sh b ∨ b ∈ L ∨ w.heap.size ≤ b)) ∧
      ResOut sh' w' s args.toList rs v Fr L' ∧ (Fr ++ L').Nodup ∧ ∀ b ∈ Fr ++ L', (b ∈ L ∨ w.heap.size ≤ b) ∧ b < w'.heap.size ∧ ¬ sh' b

/-- The contract where nothing is lent. -/
def ConO (P : Program) (Fn : Fns) (f : Nat) (s : Sig) : Prop :=
  ∀ (w : World) (sh : Nat → Prop) (args : Array Value) (ds rs : List Dy), (∀ b, sh b → b < w.heap.size) → ArgsRep sh w s.pk ds args.toList → Fn f ds = some rs →
    Calls P f args w fun e w' => ∃ v sh' Fr, e = .returned v ∧ Ext w w' [] ∧ (∀ b, sh b → sh' b) ∧ (∀ b, sh' b → b < w'.heap.size ∧ (sh b ∨ w.heap.size ≤ b)) ∧
      ResR sh' w' s rs v Fr ∧ Fr.Nodup ∧ ∀ b ∈ Fr, w.heap.size ≤ b ∧ b < w'.heap.size ∧ ¬ sh' b

theorem Con.old {P : Program} {Fn : Fns} {f : Nat} {s : Sig} (h : Con P Fn f s) (hl : s.lt = none) : ConO P Fn f s := by
  intro w sh args ds rs hs hr hd
  refine (h w sh args ds rs [] hs (by unfold ArgsL; rw [hl]; exact ⟨hr, rfl⟩) (by simp) (by simp) hd).mono fun e w' hp => ?_
  obtain ⟨v, sh', Fr, L', h1, h2, h3, h4, h5, h6, h7⟩ := hp
  unfold ResOut at h5
  rw [hl] at h5
  obtain ⟨h5, rfl⟩ := h5
  rw [List.append_nil] at h6 h7
  exact ⟨v, sh', Fr, h1, h2, h3, fun b hb => ⟨(h4 b hb).1, (h4 b hb).2.imp id (fun h => h.elim (by simp) id)⟩, h5, h6, fun b hb => ⟨(h7 b hb).1.elim (by simp) id, (h7 b hb).2⟩⟩

theorem Con.of_old {P : Program} {Fn : Fns} {f : Nat} {s : Sig} (hl : s.lt = none) (h : ConO P Fn f s) : Con P Fn f s := by
  intro w sh args ds rs L hs hr hn hL hd
  unfold ArgsL at hr
  rw [hl] at hr
  obtain ⟨hr, rfl⟩ := hr
  refine (h w sh args ds rs hs hr hd).mono fun e w' hp => ?_
  obtain ⟨v, sh', Fr, h1, h2, h3, h4, h5, h6, h7⟩ := hp
  refine ⟨v, sh', Fr, [], h1, h2, h3, fun b hb => ⟨(h4 b hb).1, (h4 b hb).2.imp id .inr⟩, by unfold ResOut; rw [hl]; exact ⟨h5, rfl⟩, by simpa using h6, fun b hb => ?_⟩
  rw [List.append_nil] at hb
  exact ⟨.inr (h7 b hb).1, (h7 b hb).2⟩

section
variable {P : Program} {C : Nat → Option Sig} {Fn : Fns} {sh0 : Nat → Prop} {w0 : World} {G0 : Frm} {ρ : List Dy} {σ : Sg} {a : Act} {w w' : World}
  {sh sh' : Nat → Prop} {F : Bool → Nat → List Nat} {β : Nat → Nat} {o : Oper} {st : Step} {l : List (Bool × Nat)} {d : Nat} {Q : Exit → Act → World → Prop}

/-- A call has come back. -/
theorem InvG.back (h : InvG sh0 w0 G0 ρ σ a w sh F β) (hE : Ext w w' []) (hs : ∀ b, sh b → sh' b) (hs' : ∀ b, sh' b → b < w'.heap.size ∧ (sh b ∨ w.heap.size ≤ b)) :
    InvG sh0 w0 G0 ρ σ a w' sh' F β :=
  h.turn (L := []) hE (by simp) hs (fun b hb => ⟨(hs' b hb).1, (hs' b hb).2.imp id .inl⟩)

/-- Which blocks a call may take for such that nobody writes. -/
def shCall (any : Bool) (sh : Nat → Prop) (w : World) : Nat → Prop := fun b => bif any then b < w.heap.size else sh b

theorem shCall_of {any : Bool} (hs : ∀ b, sh b → b < w.heap.size) : ∀ b, sh b → shCall any sh w b := by
  intro b hb
  unfold shCall
  cases any with
  | false => exact hb
  | true => exact hs b hb

theorem shCall_mono {any : Bool} (hs : ∀ b, sh b → sh' b) : ∀ b, shCall any sh w b → shCall any sh' w b := by
  intro b hb
  unfold shCall at hb ⊢
  cases any with
  | false => exact hs b hb
  | true => exact hb

theorem InvG.all_lt (h : InvG sh0 w0 G0 ρ σ a w sh F β) {k i : _} : ∀ b ∈ F k i, b < w.heap.size := fun b hb => (h.own k i b hb).2.1

/-- What lies at a captured address. -/
theorem capA_rep {any : Bool} {nv : Nat} {c : Cp} {es : List Em} {x : A} {u : Value} (h : InvG sh0 w0 G0 ρ σ a w sh F β) (ho : capA any nv c σ = some ((es, x), l)) (he : EmOk Fn ρ nv es) (hc : CapRep sh w ρ β c u) :
    ∃ d, evA ρ x = some d ∧ PtrRep (shCall any sh w) w d u := by
  cases c with
  | psh y =>
    have := Rd.pure_some ho
    simp only [Prod.mk.injEq] at this
    obtain ⟨rfl, rfl⟩ := this
    obtain ⟨d, e1, e2⟩ := hc
    exact ⟨d, e1, e2.mono (shCall_of h.sh_lt)⟩
  | ptr r =>
    obtain ⟨_, l1, l2, h1, ho1, _⟩ := Rd.bind_some ho
    have hany := Rd.guard_some h1
    subst hany
    obtain ⟨b, l3, l4, h2, ho2, _⟩ := Rd.bind_some ho1
    obtain ⟨xs, l5, l6, h3, ho3, _⟩ := Rd.bind_some ho2
    have hb := Rd.box_some h2
    have hxs := Rd.ofO_some h3
    have := Rd.pure_some ho3
    obtain ⟨ar, ty, F', k1, k2, k3⟩ := h.box r b hb
    have hu : u = .pointer (some ⟨β r, 0, none⟩) := hc
    subst hu
    have hF : ∀ z ∈ F', z < w.heap.size := fun z hz => (h.own true r z (by rw [k2]; exact List.mem_cons_of_mem _ hz)).2.1
    have hbl : ar.toList.length = b.length := RepL.one_len k3
    have hlt : shCall true sh w (β r) := lt_of_get k1
    match b, xs, hxs, k3, hbl, this with
    | [some (y, m)], xs, hxs, k3, hbl, this =>
      simp only [knownA, Option.map_some, Option.some.injEq] at hxs
      subst hxs
      simp only [mkOf, Prod.mk.injEq] at this
      obtain ⟨rfl, rfl⟩ := this
      obtain ⟨v1, v2, F1, F2, hvv, hFF, ⟨v, rfl, d, e1, e2, e3⟩, rfl, rfl⟩ := k3
      subst hFF
      refine ⟨d, e1, β r, 0, ar, ty, (0, 0), rfl, hlt, k1, ?_, ?_⟩
      · rw [n_of_atom e2, List.drop_zero, List.take_of_length_le (by rw [hbl]; simp), hvv]
        exact Rep.freeze h.sh_lt e3 (fun b hb => hF b (by simp [hb]))
      · rw [n_of_atom e2]; rw [Array.length_toList] at hbl; simp at hbl; omega
    | [], xs, hxs, k3, hbl, this =>
      simp only [knownA, Option.some.injEq] at hxs
      subst hxs
      simp only [mkOf, Prod.mk.injEq] at this
      obtain ⟨rfl, rfl⟩ := this
      obtain ⟨ds, dy, m1, m2, m3⟩ := ev_mk he
      obtain ⟨p1, p2, p3, _⟩ := mkMd_rep (cs := []) rfl k3 m1 m2
      refine ⟨dy, m3, β r, 0, ar, ty, (0, 0), rfl, hlt, k1, ?_, by rw [p3]; simp⟩
      rw [p3, List.drop_zero, List.take_of_length_le (by rw [hbl]; exact Nat.le_refl _)]
      exact Rep.freeze h.sh_lt p1 hF
    | c1 :: c2 :: cs, xs, hxs, k3, hbl, this =>
      have hxs2 : ∃ x1 x2 xs', xs = x1 :: x2 :: xs' := by
        match c1, c2, hxs with
        | none, _, hxs => simp [knownA] at hxs
        | some _, none, hxs => simp [knownA] at hxs
        | some (y1, _), some (y2, _), hxs =>
          simp only [knownA] at hxs
          obtain ⟨q, hq, rfl⟩ := Option.map_eq_some_iff.1 hxs
          obtain ⟨q2, hq2, rfl⟩ := Option.map_eq_some_iff.1 hq
          exact ⟨_, _, _, rfl⟩
      obtain ⟨x1, x2, xs', rfl⟩ := hxs2
      simp only [mkOf, Prod.mk.injEq] at this
      obtain ⟨rfl, rfl⟩ := this
      obtain ⟨ds, dy, m1, m2, m3⟩ := ev_mk he
      obtain ⟨p1, p2, p3, _⟩ := mkMd_rep hxs k3 m1 m2
      refine ⟨dy, m3, β r, 0, ar, ty, (0, 0), rfl, hlt, k1, ?_, by rw [p3, ← hbl]; simp⟩
      rw [p3, List.drop_zero, List.take_of_length_le (by rw [hbl]; exact Nat.le_refl _)]
      exact Rep.freeze h.sh_lt p1 hF
    | [none], xs, hxs, _, _, _ => simp [knownA] at hxs

theorem capsA_rep {any : Bool} : ∀ {cs : List Cp} {nv : Nat} {es : List Em} {xs : List A} {us : List Value} {l : List (Bool × Nat)}, InvG sh0 w0 G0 ρ σ a w sh F β → capsA any nv cs σ = some ((es, xs), l) → EmOk Fn ρ nv es → CapsRep sh w ρ β cs us →
    ∃ ds, evAs ρ xs = some ds ∧ ds.length = cs.length ∧ PtrsRep (shCall any sh w) w ds us
  | [], nv, es, xs, us, l, h, ho, he, hc => by
    have := Rd.pure_some ho
    simp only [Prod.mk.injEq] at this
    obtain ⟨rfl, rfl⟩ := this
    exact ⟨[], rfl, rfl, hc⟩
  | c :: cs, nv, es, xs, us, l, h, ho, he, hc => by
    unfold capsA at ho
    obtain ⟨⟨e1, x1⟩, l1, l2, h1, ho1, _⟩ := Rd.bind_some ho
    obtain ⟨⟨e2, x2⟩, l3, l4, h2, ho2, _⟩ := Rd.bind_some ho1
    have := Rd.pure_some ho2
    simp only [Prod.mk.injEq] at this
    obtain ⟨rfl, rfl⟩ := this
    obtain ⟨he1, he2⟩ := he.split
    obtain ⟨u, us', rfl, c1, c2⟩ := hc
    obtain ⟨d, q1, q2⟩ := capA_rep h h1 he1 c1
    obtain ⟨ds, q3, q4, q5⟩ := capsA_rep h h2 he2 c2
    exact ⟨d :: ds, by simp [evAs, q1, q3], by simp [q4], u, us', rfl, q2, q5⟩

theorem cpOf_rep {x : Operand} {c : Cp} (h : InvG sh0 w0 G0 ρ σ a w sh F β) (ho : cpOf P x σ = some (c, l)) : CapRep sh w ρ β c (a.eval x) := by
  unfold cpOf at ho
  obtain ⟨s, l1, l2, h1, ho1, _⟩ := Rd.bind_some ho
  split at ho1
  · rename_i r f
    obtain ⟨_, l3, l4, h2, ho2, _⟩ := Rd.bind_some ho1
    have hf := Rd.guard_some h2
    have hf : f = 0 := by simpa using hf
    subst hf
    have := Rd.pure_some ho2
    subst this
    exact opnd_ptr h h1
  · rename_i y f
    obtain ⟨_, l3, l4, h2, ho2, _⟩ := Rd.bind_some ho1
    have hf := Rd.guard_some h2
    have hf : f = 0 := by simpa using hf
    subst hf
    have := Rd.pure_some ho2
    subst this
    obtain ⟨_, d, b, o, c, ty, fz, e1, e2, e3⟩ := opnd_psh h h1
    exact ⟨d, e1, b, o, c, ty, fz, by simpa using e2, e3⟩
  · cases ho1

theorem cpsOf_rep : ∀ {xs : List Operand} {cs : List Cp} {l : List (Bool × Nat)}, InvG sh0 w0 G0 ρ σ a w sh F β → cpsOf P xs σ = some (cs, l) → CapsRep sh w ρ β cs (xs.map a.eval)
  | [], cs, l, h, ho => by
    have := Rd.pure_some ho
    subst this
    rfl
  | x :: xs, cs, l, h, ho => by
    unfold cpsOf at ho
    obtain ⟨c, l1, l2, h1, ho1, _⟩ := Rd.bind_some ho
    obtain ⟨cs', l3, l4, h2, ho2, _⟩ := Rd.bind_some ho1
    have := Rd.pure_some ho2
    subst this
    exact ⟨_, _, rfl, cpOf_rep h h1, cpsOf_rep h h2⟩

/-- What an argument is. -/
def ArVal (a : Act) (sh : Nat → Prop) (w : World) (ρ : List Dy) (β : Nat → Nat) (x : Ar) (v : Value) : Prop :=
  match x with
  | .op _ x => v = a.eval x
  | .cp c => CapRep sh w ρ β c v

theorem CapRep.mono {c : Cp} {u : Value} (hs : ∀ b, sh b → sh' b) (h : CapRep sh w ρ β c u) : CapRep sh' w ρ β c u := by
  cases c with
  | ptr r => exact h
  | psh x => obtain ⟨d, e1, e2⟩ := h; exact ⟨d, e1, e2.mono hs⟩

theorem ArVal.mono {x : Ar} {v : Value} (hs : ∀ b, sh b → sh' b) (h : ArVal a sh w ρ β x v) : ArVal a sh' w ρ β x v := by
  cases x with
  | op t x => exact h
  | cp c => exact CapRep.mono hs h

theorem lookAg_rep {t : TypeId} {x : Operand} {nv : Nat} {es : List Em} {c : A} (h : InvG sh0 w0 G0 ρ σ a w sh F β) (ho : lookAg P nv t x σ = some ((es, c), l)) (he : EmOk Fn ρ nv es) :
    ∃ d, evA ρ c = some d ∧ ValRep (shCall true sh w) w d .sh (a.eval x) [] := by
  unfold lookAg at ho
  obtain ⟨s, l1, l2, h1, ho1, _⟩ := Rd.bind_some ho
  have hgen : ∀ {l3 : List (Bool × Nat)}, (do
      let a ← look P t x
      pure ([], a) : Rd (List Em × A)) σ = some ((es, c), l3) → ∃ d, evA ρ c = some d ∧ ValRep (shCall true sh w) w d .sh (a.eval x) [] := by
    intro l3 ho1
    obtain ⟨y, l4, l5, h2, ho2, _⟩ := Rd.bind_some ho1
    have := Rd.pure_some ho2
    simp only [Prod.mk.injEq] at this
    obtain ⟨_, rfl⟩ := this
    obtain ⟨d, sh2, m, G, q1, ⟨us, q2, q3⟩, q4⟩ := look_rep h h2
    exact ⟨d, q1, us, q2, Rep.freeze (fun b hb => q4 b (.inl hb)) q3 (fun b hb => q4 b (.inr hb))⟩
  cases s with
  | ag r off n =>
    obtain ⟨j, rfl, hsj, hr⟩ := opnd_ag h h1
    obtain ⟨b, l3, l4, h2, ho2, _⟩ := Rd.bind_some ho1
    obtain ⟨xs, l5, l6, h3, ho3, _⟩ := Rd.bind_some ho2
    have hb := Rd.box_some h2
    have hxs := Rd.ofO_some h3
    have := Rd.pure_some ho3
    simp only [Prod.mk.injEq] at this
    obtain ⟨rfl, rfl⟩ := this
    obtain ⟨ar, ty, F', k1, k2, k3⟩ := h.box r b hb
    obtain ⟨A, X, B, rfl, q1, q2⟩ := RepL.range off n k3
    obtain ⟨_, _, c, ty', fz', hc, hle, hv⟩ := hr
    rw [k1] at hc
    simp only [Option.some.injEq, Obj.cells.injEq] at hc
    obtain ⟨rfl, _, _⟩ := hc
    obtain ⟨ds, dy, m1, m2, m3⟩ := ev_mk he
    obtain ⟨p1, p2, p3, p4⟩ := mkMd_rep hxs q1 m1 m2
    refine ⟨dy, m3, _, by rw [p2, hv]; rfl, Rep.freeze h.sh_lt p1 (fun b hb => (h.own true r b ?_).2.1)⟩
    rw [k2]
    exact List.mem_cons_of_mem _ (List.mem_append_right _ (List.mem_append_left _ hb))
  | _ => exact hgen ho1

theorem argA_pre {any : Bool} {nv : Nat} {k k' : Take} {p : PK} {x : Ar} {xs : List A} (ho : argA P any nv k p x σ = some ((xs, k'), l)) : ∃ r, k'.em = k.em ++ r := by
  cases p with
  | val => cases x with
    | op t x => cases any with
      | true =>
        obtain ⟨r, l1, l2, h1, ho1, _⟩ := Rd.bind_some ho
        have := Rd.pure_some ho1
        simp only [Prod.mk.injEq] at this
        obtain ⟨_, rfl⟩ := this
        exact ⟨_, rfl⟩
      | false =>
        obtain ⟨r, l1, l2, h1, ho1, _⟩ := Rd.bind_some ho
        have := Rd.pure_some ho1
        simp only [Prod.mk.injEq] at this
        obtain ⟨_, rfl⟩ := this
        exact ⟨_, rfl⟩
    | cp c => cases ho
  | rd => cases x with
    | op t x =>
      obtain ⟨c, l1, l2, h1, ho1, _⟩ := Rd.bind_some ho
      obtain ⟨r, l3, l4, h2, ho2, _⟩ := Rd.bind_some ho1
      have := Rd.pure_some ho2
      simp only [Prod.mk.injEq] at this
      obtain ⟨_, rfl⟩ := this
      exact ⟨_, rfl⟩
    | cp c =>
      obtain ⟨r, l3, l4, h2, ho2, _⟩ := Rd.bind_some ho
      have := Rd.pure_some ho2
      simp only [Prod.mk.injEq] at this
      obtain ⟨_, rfl⟩ := this
      exact ⟨_, rfl⟩
  | fn g n => cases x with
    | op t x =>
      obtain ⟨s, l1, l2, h1, ho1, _⟩ := Rd.bind_some ho
      split at ho1
      · obtain ⟨_, l3, l4, h2, ho2, _⟩ := Rd.bind_some ho1
        obtain ⟨r, l5, l6, h3, ho3, _⟩ := Rd.bind_some ho2
        have := Rd.pure_some ho3
        simp only [Prod.mk.injEq] at this
        obtain ⟨_, rfl⟩ := this
        exact ⟨_, rfl⟩
      · cases ho1
    | cp c => cases ho
  | nil =>
    obtain ⟨_, l1, l2, h1, ho1, _⟩ := Rd.bind_some ho
    have := Rd.pure_some ho1
    simp only [Prod.mk.injEq] at this
    obtain ⟨_, rfl⟩ := this
    exact ⟨[], by simp⟩

theorem argsA_pre {any : Bool} {nv : Nat} : ∀ {pk : List PK} {ars : List Ar} {k k' : Take} {xs : List A} {l : List (Bool × Nat)}, argsA P any nv k pk ars σ = some ((xs, k'), l) → ∃ r, k'.em = k.em ++ r
  | [], [], k, k', xs, l, ho => by
    have := Rd.pure_some ho
    simp only [Prod.mk.injEq] at this
    obtain ⟨_, rfl⟩ := this
    exact ⟨[], by simp⟩
  | p :: pk, x :: ars, k, k', xs, l, ho => by
    unfold argsA at ho
    obtain ⟨⟨x1, k1⟩, l1, l2, h1, ho1, _⟩ := Rd.bind_some ho
    obtain ⟨⟨x2, k2⟩, l3, l4, h2, ho2, _⟩ := Rd.bind_some ho1
    have := Rd.pure_some ho2
    simp only [Prod.mk.injEq] at this
    obtain ⟨_, rfl⟩ := this
    obtain ⟨r1, e1⟩ := argA_pre h1
    obtain ⟨r2, e2⟩ := argsA_pre h2
    exact ⟨r1 ++ r2, by rw [e2, e1]; simp⟩
  | [], _ :: _, _, _, _, _, h => by cases h
  | _ :: _, [], _, _, _, _, h => by cases h

theorem Take.mild.mores {k : Take} {es : List Em} (h : k.mild) : (k.mores es).mild := h
theorem Take.tame.mores {k : Take} {es : List Em} (h : k.tame σ) : (k.mores es).tame σ := h

theorem nilOp_some {x : Ar} (h : nilOp x = true) : ∃ t, x = .op t (.const (.slice none 0 0)) := by
  unfold nilOp at h
  split at h
  · exact ⟨_, rfl⟩
  · cases h

/-- ONE ARGUMENT. -/
theorem argA_rep {any : Bool} {nv : Nat} {k k' : Take} {p : PK} {x : Ar} {xs : List A} {v : Value} {sh : Nat → Prop} {F : Bool → Nat → List Nat} (h : InvG sh0 w0 G0 ρ (σ.take k) a w sh F β) (hm : k.mild) (ht : k.tame σ) (ho : argA P any nv k p x σ = some ((xs, k'), l)) (he : EmOk Fn ρ nv k'.em)
    (hv : ArVal a sh w ρ β x v) : ∃ sh' F' ds, InvG sh0 w0 G0 ρ (σ.take k') a w sh' F' β ∧ k'.mild ∧ k'.tame σ ∧ Took G0 w0 w sh F sh' F' [] ∧ evAs ρ xs = some ds ∧ ArgRep (shCall any sh' w) w p ds v := by
  cases p with
  | val => cases x with
    | op t x =>
      have hv : v = a.eval x := hv
      subst hv
      cases any with
      | true =>
        obtain ⟨⟨es, c⟩, l1, l2, h1, ho1, _⟩ := Rd.bind_some ho
        have := Rd.pure_some ho1
        simp only [Prod.mk.injEq] at this
        obtain ⟨rfl, rfl⟩ := this
        obtain ⟨d, e1, e2⟩ := lookAg_rep (σ := σ.take k) h h1 (EmOk.split (e1 := k.em) (e2 := es) he).2
        exact ⟨sh, F, [d], h, hm.mores, ht.mores, .refl, by simp [evAs, e1], d, rfl, e2⟩
      | false =>
        obtain ⟨c, l1, l2, h1, ho1, _⟩ := Rd.bind_some ho
        have := Rd.pure_some ho1
        simp only [Prod.mk.injEq] at this
        obtain ⟨rfl, rfl⟩ := this
        obtain ⟨sh', F', d, hI, e1, e2, _, tk⟩ := frz_rep (σ := σ.take k) h h1 (EmOk.split (e1 := k.em) (e2 := c.em) he).2
        exact ⟨sh', F', [d], by rw [take_and hm]; exact hI, hm.and (frzV_mild (σ := σ.take k) h1), ht.and (frzV_tame (σ := σ.take k) h1), tk, by simp [evAs, e1], d, rfl, e2⟩
    | cp c => cases ho
  | rd => cases x with
    | op t x =>
      have hv : v = a.eval x := hv
      subst hv
      obtain ⟨c, l1, l2, h1, ho1, _⟩ := Rd.bind_some ho
      obtain ⟨⟨es, y⟩, l3, l4, h2, ho2, _⟩ := Rd.bind_some ho1
      have := Rd.pure_some ho2
      simp only [Prod.mk.injEq] at this
      obtain ⟨rfl, rfl⟩ := this
      obtain ⟨d, e1, e2⟩ := capA_rep (σ := σ.take k) h h2 (EmOk.split (e1 := k.em) (e2 := es) he).2 (cpOf_rep (σ := σ.take k) h h1)
      exact ⟨sh, F, [d], h, hm.mores, ht.mores, .refl, by simp [evAs, e1], d, rfl, e2⟩
    | cp c =>
      obtain ⟨⟨es, y⟩, l3, l4, h2, ho2, _⟩ := Rd.bind_some ho
      have := Rd.pure_some ho2
      simp only [Prod.mk.injEq] at this
      obtain ⟨rfl, rfl⟩ := this
      obtain ⟨d, e1, e2⟩ := capA_rep (σ := σ.take k) h h2 (EmOk.split (e1 := k.em) (e2 := es) he).2 hv
      exact ⟨sh, F, [d], h, hm.mores, ht.mores, .refl, by simp [evAs, e1], d, rfl, e2⟩
  | fn g n => cases x with
    | op t x =>
      have hv : v = a.eval x := hv
      subst hv
      obtain ⟨s, l1, l2, h1, ho1, _⟩ := Rd.bind_some ho
      split at ho1
      · rename_i g' caps
        obtain ⟨_, l3, l4, h2, ho2, _⟩ := Rd.bind_some ho1
        obtain ⟨⟨es, ys⟩, l5, l6, h3, ho3, _⟩ := Rd.bind_some ho2
        have := Rd.pure_some ho3
        simp only [Prod.mk.injEq] at this
        obtain ⟨rfl, rfl⟩ := this
        have hg := Rd.guard_some h2
        simp only [Bool.and_eq_true, beq_iff_eq] at hg
        obtain ⟨rfl, hn⟩ := hg
        obtain ⟨_, us, u1, u2⟩ := opnd_fn (σ := σ.take k) h h1
        obtain ⟨ds, e1, e2, e3⟩ := capsA_rep (σ := σ.take k) h h3 (EmOk.split (e1 := k.em) (e2 := es) he).2 u2
        exact ⟨sh, F, ds, h, hm.mores, ht.mores, .refl, e1, by rw [e2, hn], us, u1, e3⟩
      · cases ho1
    | cp c => cases ho
  | nil =>
    obtain ⟨_, l1, l2, h1, ho1, _⟩ := Rd.bind_some ho
    have := Rd.pure_some ho1
    simp only [Prod.mk.injEq] at this
    obtain ⟨rfl, rfl⟩ := this
    obtain ⟨t, rfl⟩ := nilOp_some (Rd.guard_some h1)
    have hv : v = .slice none 0 0 := hv
    exact ⟨sh, F, [], h, hm, ht, .refl, rfl, rfl, hv⟩

theorem evAs_app : ∀ {xs ys : List A} {ds es : List Dy}, evAs ρ xs = some ds → evAs ρ ys = some es → evAs ρ (xs ++ ys) = some (ds ++ es)
  | [], ys, ds, es, h, h2 => by
    simp only [evAs, Option.some.injEq] at h
    subst h
    exact h2
  | x :: xs, ys, ds, es, h, h2 => by
    obtain ⟨d, r, h1, h3, rfl⟩ := evAs_cons h
    have := evAs_app h3 h2
    simp [evAs, h1, this]

/-- THE ARGUMENTS. -/
theorem argsA_rep {any : Bool} {nv : Nat} : ∀ {pk : List PK} {ars : List Ar} {k k' : Take} {xs : List A} {vs : List Value} {l : List (Bool × Nat)} {sh : Nat → Prop} {F : Bool → Nat → List Nat}, InvG sh0 w0 G0 ρ (σ.take k) a w sh F β → k.mild → k.tame σ →
    argsA P any nv k pk ars σ = some ((xs, k'), l) → EmOk Fn ρ nv k'.em → (vs.length = ars.length) → (∀ (i : Nat) x v, ars[i]? = some x → vs[i]? = some v → ArVal a sh w ρ β x v) →
    ∃ sh' F' ds, InvG sh0 w0 G0 ρ (σ.take k') a w sh' F' β ∧ k'.mild ∧ k'.tame σ ∧ Took G0 w0 w sh F sh' F' [] ∧ evAs ρ xs = some ds ∧ ArgsRep (shCall any sh' w) w pk ds vs
  | [], [], k, k', xs, vs, l, sh, F, h, hm, ht, ho, he, hl, hv => by
    have := Rd.pure_some ho
    simp only [Prod.mk.injEq] at this
    obtain ⟨rfl, rfl⟩ := this
    have hvs : vs = [] := List.eq_nil_of_length_eq_zero hl
    exact ⟨sh, F, [], h, hm, ht, .refl, rfl, rfl, hvs⟩
  | p :: pk, x :: ars, k, k', xs, vs, l, sh, F, h, hm, ht, ho, he, hl, hv => by
    unfold argsA at ho
    obtain ⟨⟨x1, k1⟩, l1, l2, h1, ho1, _⟩ := Rd.bind_some ho
    obtain ⟨⟨x2, k2⟩, l3, l4, h2, ho2, _⟩ := Rd.bind_some ho1
    have := Rd.pure_some ho2
    simp only [Prod.mk.injEq] at this
    obtain ⟨rfl, rfl⟩ := this
    obtain ⟨r2, e2⟩ := argsA_pre h2
    have he1 : EmOk Fn ρ nv k1.em := by
      have he' := he
      rw [e2] at he'
      exact he'.split.1
    match vs, hl, hv with
    | v :: vs, hl, hv =>
      obtain ⟨sh1, F1, ds1, hI1, m1, t1, tk1, q1, q2⟩ := argA_rep h hm ht h1 he1 (hv 0 x v rfl rfl)
      obtain ⟨sh2, F2, ds2, hI2, m2, t2, tk2, q3, q4⟩ := argsA_rep (vs := vs) hI1 m1 t1 h2 he (by simpa using hl) (fun i x v hx hv' => (hv (i + 1) x v (by simpa using hx) (by simpa using hv')).mono tk1.mono)
      exact ⟨sh2, F2, ds1 ++ ds2, hI2, m2, t2, tk1.trans tk2, evAs_app q1 q3, ds1, ds2, v, vs, rfl, rfl, q2.mono (shCall_mono tk2.mono), q4⟩
    | [], hl, _ => simp at hl
  | [], _ :: _, _, _, _, _, _, _, _, _, _, _, h, _, _, _ => by cases h
  | _ :: _, [], _, _, _, _, _, _, _, _, _, _, h, _, _, _ => by cases h

/-- Where all rows are owned it matters not what nobody writes. -/
theorem noSh_rep {sh2 : Nat → Prop} : ∀ {τ : Ty} {m : Md} {x : D τ} {vs F}, noSh τ m = true → Rep sh w τ m x vs F → Rep sh2 w τ m x vs F
  | .int _, _, _, _, _, _, h => h
  | .bool, _, _, _, _, _, h => h
  | .str, _, _, _, _, _, h => h
  | .unit, _, _, _, _, _, h => h
  | .pair a b, m, x, vs, F, hn, h => by
    simp only [noSh, Bool.and_eq_true] at hn
    obtain ⟨v1, v2, F1, F2, rfl, rfl, h1, h2⟩ := h
    exact ⟨v1, v2, F1, F2, rfl, rfl, noSh_rep hn.1 h1, noSh_rep hn.2 h2⟩
  | .sl e, .sh, x, vs, F, hn, h => by simp [noSh] at hn
  | .sl e, .pair _ _, x, vs, F, hn, h => h.elim
  | .sl e, .own m, x, vs, F, hn, h => by
    obtain ⟨ad, cap, h1, h2, h3⟩ := h
    refine ⟨ad, cap, h1, h2, h3.imp id ?_⟩
    rintro ⟨b, c, ty, fz, F', k1, k2, k3, k4, k5, k6⟩
    exact ⟨b, c, ty, fz, F', k1, k2, k3, k4, k5, RepL.imp k6 (fun x vs G _ h => noSh_rep (by simpa [noSh] using hn) h)⟩

theorem noSh_res {sh2 : Nat → Prop} : ∀ {rt : List (Ty × Md)} {rs : List Dy} {vs : List Value} {X : List Nat}, (rt.all fun x => noSh x.1 x.2) = true → ResL sh w rt rs vs X → ResL sh2 w rt rs vs X
  | [], rs, vs, X, _, h => h
  | t :: rt, rs, vs, X, hn, h => by
    simp only [List.all_cons, Bool.and_eq_true] at hn
    obtain ⟨d, es, v, us, F1, F2, rfl, rfl, rfl, h1, ⟨ws, h4, h5⟩, h3⟩ := h
    exact ⟨d, es, v, us, F1, F2, rfl, rfl, rfl, h1, ⟨ws, h4, noSh_rep (by rw [h1]; exact hn.1) h5⟩, noSh_res hn.2 h3⟩

theorem resL_tup : ∀ {rt : List (Ty × Md)} {rs : List Dy} {vs : List Value} {X : List Nat} (n : Nat), ResL sh w rt rs vs X → ∀ k : Nat,
    (∀ (i : Nat) (r : Dy), rs[i]? = some r → ρ[n + k + i]? = some r) → RepL (one (TupRep sh w ρ)) ((rt.zipIdx k).map fun x => some (.var (n + x.2), x.1.2)) vs X
  | [], rs, vs, X, n, h, k, _ => by
    obtain ⟨rfl, rfl, rfl⟩ := h
    exact ⟨rfl, rfl⟩
  | t :: rt, rs, vs, X, n, h, k, hk => by
    obtain ⟨d, es, v, us, F1, F2, rfl, rfl, rfl, h1, h2, h3⟩ := h
    refine ⟨[v], us, F1, F2, rfl, rfl, ⟨v, rfl, d, ?_, h2⟩, ?_⟩
    · have := hk 0 d rfl
      simpa [evA] using this
    · refine resL_tup n h3 (k + 1) (fun i r hr => ?_)
      · have := hk (i + 1) r (by simpa using hr)
        rw [show n + (k + 1) + i = n + k + (i + 1) by omega]
        exact this

theorem ResL.lt : ∀ {rt : List (Ty × Md)} {rs : List Dy} {vs : List Value} {X : List Nat}, ResL sh w rt rs vs X → ∀ b ∈ X, b < w.heap.size
  | [], rs, vs, X, h => by obtain ⟨rfl, rfl, rfl⟩ := h; simp
  | t :: rt, rs, vs, X, h => by
    obtain ⟨d, es, v, us, F1, F2, rfl, rfl, rfl, h1, ⟨vs, _, h2⟩, h3⟩ := h
    intro b hb
    rcases List.mem_append.1 hb with hb | hb
    · exact h2.lt b hb
    · exact ResL.lt h3 b hb

theorem resRep_sv {rt : List (Ty × Md)} {rs : List Dy} {v : Value} {X : List Nat} {n : Nat} (h : ResRep sh w rt rs v X) (hρ : ∀ (i : Nat) (r : Dy), rs[i]? = some r → ρ[n + i]? = some r) : SVRep sh w ρ β a.tmps F (resSV n rt) v X := by
  obtain ⟨vs, hr, rfl⟩ := h
  have htup := resL_tup (ρ := ρ) n hr 0 (by simpa using hρ)
  match rt, rs, hr, htup with
  | [], rs, hr, htup =>
    obtain ⟨rfl, rfl, rfl⟩ := hr
    exact ⟨#[], rfl, rfl, rfl⟩
  | [(τ, m)], rs, hr, htup =>
    obtain ⟨d, es, v, us, F1, F2, rfl, rfl, rfl, h1, h2, rfl, rfl, rfl⟩ := hr
    simp only [List.append_nil]
    exact ⟨d, by have := hρ 0 d rfl; simpa [evA] using this, h2⟩
  | x :: y :: rt, rs, hr, htup =>
    obtain ⟨d, es, v, us, F1, F2, rfl, rfl, rfl, h1, h2, d', es', v', us', F1', F2', rfl, rfl, rfl, hrest⟩ := hr
    exact ⟨_, rfl, htup⟩

theorem resSV_roots (n : Nat) (rt : List (Ty × Md)) (d : Nat) : roots (resSV n rt) ≠ some (false, d) := by
  unfold resSV; split <;> simp [roots]

theorem resSV_ok (n : Nat) (rt : List (Ty × Md)) : rootOk σ (resSV n rt) := by
  unfold resSV; split <;> trivial

theorem run_call {f : Nat} {c : Call} {x : Operand} {us : List Value} (hop : o.op = .call c) (hc : c.callee = .value x) (hx : a.eval x = .func (.func f) #[] us.toArray) (hok : callOk P f = true) :
    (execOp a.eval o).run P w = .ok (.enter f (c.args.map a.eval ++ us.toArray)) w := by
  unfold callOk at hok
  cases hf : P.funcs[f]? with
  | none => rw [hf] at hok; cases hok
  | some fn => ?_
  rw [hf] at hok
  simp only [Bool.and_eq_true, Bool.not_eq_true'] at hok
  unfold execOp
  rw [hop]
  have hb : ¬ fn.body = none := by
    intro hb
    rw [hb] at hok; simp at hok
  have hname : ¬ fn.name = "runtime.NumGoroutine" := by
    intro hname
    simp [hname] at hok
  simp [resolve, hc, hx, Deferred.ofValue, invoke, callFunc, hf, hb, hname]

theorem evAs_split : ∀ {xs ys : List A} {ds : List Dy}, evAs ρ (xs ++ ys) = some ds → ∃ d1 d2, ds = d1 ++ d2 ∧ evAs ρ xs = some d1 ∧ evAs ρ ys = some d2
  | [], ys, ds, h => ⟨[], ds, rfl, rfl, h⟩
  | x :: xs, ys, ds, h => by
    obtain ⟨d, r, h1, h2, rfl⟩ := evAs_cons h
    obtain ⟨d1, d2, rfl, h3, h4⟩ := evAs_split h2
    exact ⟨d :: d1, d2, rfl, by simp [evAs, h1, h3], h4⟩

theorem del_get {α : Type} {l : List α} {p i : Nat} (hp : p ≤ l.length) : (del p l)[i]? = l[if i < p then i else i + 1]? := by
  unfold del
  have hl : (l.take p).length = p := by rw [List.length_take]; omega
  split
  · rename_i h
    rw [List.getElem?_append_left (by omega), List.getElem?_take, if_pos h]
  · rename_i h
    rw [List.getElem?_append_right (by omega), hl, List.getElem?_drop]
    congr 1
    omega

theorem del_len {α : Type} {l : List α} {p : Nat} (hp : p < l.length) : (del p l).length + 1 = l.length := by
  unfold del
  simp only [List.length_append, List.length_take, List.length_drop]
  omega

theorem Back.mono_lb {Lb Lb' L : List Nat} (h : Back sh w sh' w' Lb L) (hs : ∀ b ∈ Lb, b ∈ Lb') : Back sh w sh' w' Lb' L :=
  ⟨⟨h.ext.os, h.ext.tape, h.ext.output, h.ext.size, fun k hk hn => h.ext.block k hk (fun hm => hn (hs k hm))⟩, h.mono,
   fun b hb => ⟨(h.new b hb).1, (h.new b hb).2.imp id (fun hh => hh.imp (hs b) id)⟩, h.nd, fun b hb => ⟨(h.own b hb).1.imp (hs b) id, (h.own b hb).2⟩⟩

/-- A variable, lent by its address. -/
theorem lendBox_rep {nv no r : Nat} {τ : Ty} {m m' : Md} {b : Lend} {d : Dy} {v : Value} (h : InvG sh0 w0 G0 ρ σ a w sh F β) (ho : lendBox nv no τ m m' r σ = some (b, l)) (he : EmOk Fn ρ nv b.em) (hx : evA ρ b.x = some d)
    (hv : v = .pointer (some ⟨β r, 0, none⟩)) :
    ∃ Lb, LentRep (.box τ m m') false sh w d v Lb ∧ Lb.Nodup ∧ (∀ z ∈ Lb, (z ∈ G0 ∨ w0.heap.size ≤ z) ∧ z < w.heap.size ∧ ¬ sh z) ∧ (∀ y ∈ b.t.wr, ∃ x m, y.2 = .at x m) ∧ (∀ z ∈ b.t.wr, ∃ y m, σ.slots[z.1]? = some (.at y m) ∧ m ≠ .sh) ∧
      ∀ (w' : World) (sh' : Nat → Prop) (d' : Dy) (L' : List Nat), Back sh w sh' w' Lb L' → d'.1 = (Lk.box τ m m').ty → LentRep (.box τ m m') true sh' w' d' v L' → ρ[nv + emN b.em + no]? = some d' → EmOk Fn ρ (nv + emN b.em + no + 1) b.em2 →
        ∃ F3, InvG sh0 w0 G0 ρ (σ.take b.t) a w' sh' F3 β ∧ Lent w Lb L' F3 := by
  unfold lendBox at ho
  obtain ⟨cs, l1, l2, h1, ho1, _⟩ := Rd.bind_some ho
  obtain ⟨hb, hkb⟩ := Rd.boxW_some h1
  obtain ⟨c, ty, K, k1, k2, k3, k4, k5⟩ := h.lendBox hb hkb
  -- the end of both ways
  have hend : ∀ {X : List Nat} {b' : List Cell} {w' : World} {sh' : Nat → Prop} {d' : Dy} {L' : List Nat}, (∀ z ∈ X, z ∈ K) → Back sh w sh' w' (β r :: X) L' → LentRep (.box τ m m') true sh' w' d' v L' →
      (∀ vs Y, Rep sh' w' d'.1 m' d'.2 vs Y → RepL (one (CellRep sh' w' ρ)) b' vs Y) → ∃ F3, InvG sh0 w0 G0 ρ ((σ.kill (2, r)).putB (r, some b')) a w' sh' F3 β ∧ Lent w (β r :: X) L' F3 := by
    intro X b' w' sh' d' L' hX hbk hl hb'
    obtain ⟨b2, c2, ty2, K2, e1, rfl, e2, e3⟩ := hl
    rw [hv] at e1
    simp only [Value.pointer.injEq, Option.some.injEq, Addr.mk.injEq, and_true] at e1
    subst e1
    obtain ⟨F3, i1, i2⟩ := k5 K2 w' sh' b' c2 ty2 (hbk.mono_lb (fun z hz => by rcases List.mem_cons.1 hz with rfl | hz; simp; exact List.mem_cons_of_mem _ (hX z hz))) e2 (hb' _ _ e3)
    exact ⟨F3, i1, fun k j z hz => (i2 k j z hz).imp id (fun hh => ⟨hh.1, fun hm => hh.2 (by rcases List.mem_cons.1 hm with rfl | hm; simp; exact List.mem_cons_of_mem _ (hX z hm))⟩)⟩
  have hnd := List.nodup_cons.1 k3
  split at ho1
  · rename_i hag
    obtain ⟨_, l3, l4, h2, ho2, _⟩ := Rd.bind_some ho1
    obtain ⟨xs, l5, l6, h3, ho3, _⟩ := Rd.bind_some ho2
    have hg := Rd.guard_some h2
    simp only [Bool.and_eq_true, beq_iff_eq] at hg
    have hm := Rd.ofO_some h3
    have := Rd.pure_some ho3
    subst this
    obtain ⟨ds, dy, m1, m2, m3⟩ := ev_mk he
    have hdy : dy = d := by
      simp only [evA] at hx
      exact some_eq m3 hx
    subst hdy
    obtain ⟨X, x1, x2, x3, x4⟩ := matchM_rep hm k2 m1 m2
    have hsub : ∀ z ∈ β r :: X, z ∈ β r :: K := fun z hz => by rcases List.mem_cons.1 hz with rfl | hz; simp; exact List.mem_cons_of_mem _ (x1 z hz)
    refine ⟨β r :: X, ⟨β r, c, ty, X, hv, rfl, k1, x3⟩, List.nodup_cons.2 ⟨fun hz => hnd.1 (x1 _ hz), x2 hnd.2⟩, fun z hz => k4 z (hsub z hz), by simp [lendT], by simp [lendT], fun w' sh' d' L' hbk hty hl hρ _ => ?_⟩
    refine hend x1 hbk hl (fun vs Y hr => ?_)
    have hty : d'.1 = τ := hty
    have hρ : ρ[nv + 1 + no]? = some d' := by simpa [emN] using hρ
    have := flat_cells (b := .var (nv + 1 + no)) (d := d') (off := 0) (by rw [hty]; exact hg.1) hr hρ (fun c => by simp [Dy.cell, hty, hag])
    rwa [hty] at this
  · rename_i hag
    have hag : τ.isAgg = false := by simpa using hag
    split at ho1
    · rename_i y m1
      obtain ⟨_, l3, l4, h2, ho2, _⟩ := Rd.bind_some ho1
      have hg := Rd.guard_some h2
      have := Rd.pure_some ho2
      subst this
      obtain ⟨v1, v2, F1, F2, hvv, rfl, ⟨u, rfl, d1, e1, e2, e3⟩, rfl, rfl⟩ := k2
      obtain rfl := some_eq e1 hx
      obtain ⟨X, x1, x2⟩ := coeR_rep hg e1 e3
      have hsub : ∀ z ∈ X, z ∈ F1 ++ [] := by rcases x1 with rfl | rfl <;> simp
      have hsub2 : ∀ z ∈ β r :: X, z ∈ β r :: (F1 ++ []) := fun z hz => by rcases List.mem_cons.1 hz with rfl | hz; simp; exact List.mem_cons_of_mem _ (hsub z hz)
      refine ⟨β r :: X, ⟨β r, c, ty, X, hv, rfl, k1, by rw [hvv]; exact x2⟩, List.nodup_cons.2 ⟨fun hz => hnd.1 (hsub _ hz), by rcases x1 with rfl | rfl; simpa using hnd.2; simp⟩, fun z hz => k4 z (hsub2 z hz), by simp [lendT], by simp [lendT], fun w' sh' d' L' hbk hty hl hρ _ => ?_⟩
      refine hend hsub hbk hl (fun vs Y hr => ?_)
      have hty : d'.1 = τ := hty
      obtain ⟨u2, rfl⟩ := hr.single (by rw [hty]; exact hag)
      exact ⟨[u2], [], Y, [], rfl, by simp, ⟨u2, rfl, d', by simpa [evA, emN] using hρ, by rw [hty]; exact hag, hr⟩, rfl, rfl⟩
    · cases ho1

/-- A LOAN. -/
theorem lend_rep {nv no : Nat} {q : Lk} {y : Ar} {b : Lend} {d : Dy} {v : Value} (h : InvG sh0 w0 G0 ρ σ a w sh F β) (ho : lendV P nv no q y σ = some (b, l)) (he : EmOk Fn ρ nv b.em) (hx : evA ρ b.x = some d) (hv : ArVal a sh w ρ β y v) :
    ∃ Lb, LentRep q false sh w d v Lb ∧ Lb.Nodup ∧ (∀ z ∈ Lb, (z ∈ G0 ∨ w0.heap.size ≤ z) ∧ z < w.heap.size ∧ ¬ sh z) ∧ (∀ y ∈ b.t.wr, ∃ x m, y.2 = .at x m) ∧ (∀ z ∈ b.t.wr, ∃ y m, σ.slots[z.1]? = some (.at y m) ∧ m ≠ .sh) ∧
      ∀ (w' : World) (sh' : Nat → Prop) (d' : Dy) (L' : List Nat), Back sh w sh' w' Lb L' → d'.1 = q.ty → LentRep q true sh' w' d' v L' → ρ[nv + emN b.em + no]? = some d' → EmOk Fn ρ (nv + emN b.em + no + 1) b.em2 →
        ∃ F3, InvG sh0 w0 G0 ρ (σ.take b.t) a w' sh' F3 β ∧ Lent w Lb L' F3 := by
  cases q with
  | mov τ m => cases y <;> cases ho
  | box τ m m' =>
    cases y with
    | cp c => cases c with
      | ptr r => exact lendBox_rep h ho he hx hv
      | psh x => cases ho
    | op t x =>
      obtain ⟨s, l1, l2, h1, ho1, _⟩ := Rd.bind_some ho
      split at ho1
      · rename_i r f
        obtain ⟨_, l3, l4, h2, ho2, _⟩ := Rd.bind_some ho1
        have hf := Rd.guard_some h2
        have hf : f = 0 := by simpa using hf
        subst hf
        exact lendBox_rep h ho2 he hx ((show v = a.eval x from hv).trans (opnd_ptr h h1))
      · cases ho1
  | row τ =>
    cases y with
    | cp c => cases ho
    | op t x =>
      have hv : v = a.eval x := hv
      subst hv
      obtain ⟨_, l1, l2, h1, ho1, _⟩ := Rd.bind_some ho
      have hdp := Rd.guard_some h1
      have hdp : Md.deep τ ≠ .sh := by
        intro h0
        rw [h0] at hdp; simp [Md.isSh] at hdp
      have hnsh : ∀ {y : A} {m : Md}, coe y (Md.deep τ) m = true → m ≠ .sh := by
        rintro y m hc rfl
        unfold coe at hc
        simp only [Bool.or_eq_true, beq_iff_eq] at hc
        rcases hc with hc | hc
        · exact hdp hc
        · split at hc
          · rename_i hh; cases hh
          · cases hc
      obtain ⟨s, l3, l4, h2, ho2, _⟩ := Rd.bind_some ho1
      -- out of a slot
      have hslot : ∀ {i : Nat} {y : A} {m : Md}, σ.slots[i]? = some (.at y m) → a.tmps[i]? = some (a.eval x) → coe y (Md.deep τ) m = true → b = { x := y, t := lendT [(i, .at (.var (nv + no)) (Md.deep τ))] [] [(0, i)] } →
          ∃ Lb, LentRep (.row τ) false sh w d (a.eval x) Lb ∧ Lb.Nodup ∧ (∀ z ∈ Lb, (z ∈ G0 ∨ w0.heap.size ≤ z) ∧ z < w.heap.size ∧ ¬ sh z) ∧ (∀ y ∈ b.t.wr, ∃ x m, y.2 = .at x m) ∧ (∀ z ∈ b.t.wr, ∃ y m, σ.slots[z.1]? = some (.at y m) ∧ m ≠ .sh) ∧
            ∀ (w' : World) (sh' : Nat → Prop) (d' : Dy) (L' : List Nat), Back sh w sh' w' Lb L' → d'.1 = (Lk.row τ).ty → LentRep (.row τ) true sh' w' d' (a.eval x) L' → ρ[nv + emN b.em + no]? = some d' → EmOk Fn ρ (nv + emN b.em + no + 1) b.em2 →
              ∃ F3, InvG sh0 w0 G0 ρ (σ.take b.t) a w' sh' F3 β ∧ Lent w Lb L' F3 := by
        rintro i y m hs hvi hc rfl
        obtain ⟨v0, X, d0, hv0, e1, e2, e3, e4, e5⟩ := h.lendSlot hs
        obtain rfl := some_eq' hvi hv0
        obtain rfl := some_eq e1 hx
        refine ⟨X, coe_val hc e1 e2, e3, e4, fun y hy => ?_, fun z hz => ?_, fun w' sh' d' L' hbk hty hl hρ _ => ?_⟩
        · simp only [lendT, List.mem_singleton] at hy
          subst hy; exact ⟨_, _, rfl⟩
        · simp only [lendT, List.mem_singleton] at hz
          subst hz; exact ⟨y, m, hs, hnsh hc⟩
        · exact e5 X L' L' w' sh' (.var (nv + no)) d' (Md.deep τ) (fun _ h => h) hbk (by simpa [evA, emN] using hρ) hl hbk.nd (fun b hb => .inl hb)
      cases s with
      | «at» y m =>
        cases x with
        | tmp i =>
          obtain ⟨_, l5, l6, h3, ho3, _⟩ := Rd.bind_some ho2
          have hs := Rd.slot_some h2
          obtain ⟨vi, hvi, _⟩ := h.slot i _ hs
          exact hslot hs (by rw [eval_tmp hvi]; exact hvi) (Rd.guard_some h3) (Rd.pure_some ho3).symm
        | _ => cases ho2
      | rf rb r c =>
        obtain ⟨hh, _⟩ := opnd_rf h h2
        cases rb with
        | false =>
          obtain ⟨s2, l5, l6, h3, ho3, _⟩ := Rd.bind_some ho2
          have hs2 := Rd.slot_some h3
          cases s2 with
          | «at» y m =>
            obtain ⟨_, l7, l8, h4, ho4, _⟩ := Rd.bind_some ho3
            exact hslot hs2 hh (Rd.guard_some h4) (Rd.pure_some ho4).symm
          | _ => cases ho3
        | true =>
          obtain ⟨cs, l5, l6, h3, ho3, _⟩ := Rd.bind_some ho2
          have hs2 := Rd.box_some h3
          cases hy : cs[c]? with
          | none => rw [hy] at ho3; cases ho3
          | some yy => ?_
          rw [hy] at ho3
          cases yy with
          | none => cases ho3
          | some ym =>
            obtain ⟨y, m⟩ := ym
            obtain ⟨_, l7, l8, h4, ho4, _⟩ := Rd.bind_some ho3
            have hg := Rd.guard_some h4
            simp only [Bool.and_eq_true, Bool.not_eq_true'] at hg
            have := Rd.pure_some ho4
            subst this
            obtain ⟨v0, X, d0, hv0, e1, e1', e2, e3, e4, e5⟩ := h.lendCell hs2 hy
            obtain rfl := some_eq' hh.2 hv0
            obtain rfl := some_eq e1 hx
            refine ⟨X, valRep_atom ⟨e1', coe_rep hg.1 e1 e2⟩, e3, e4, by simp [lendT], by simp [lendT], fun w' sh' d' L' hbk hty hl hρ _ => ?_⟩
            have hna : d'.1.isAgg = false := by rw [hty]; exact hg.2
            exact e5 X L' L' w' sh' (.var (nv + no)) d' (Md.deep τ) (fun _ h => h) hbk (by simpa [evA, emN] using hρ) hna (valRep_one hna hl) hbk.nd (fun b hb => .inl hb)
      | ag r off n =>
        obtain ⟨j, rfl, hsj, hr⟩ := opnd_ag h h2
        obtain ⟨cs, l5, l6, h3, ho3, _⟩ := Rd.bind_some ho2
        obtain ⟨xs, l7, l8, h4, ho4, _⟩ := Rd.bind_some ho3
        obtain ⟨_, l9, l10, h5, ho5, _⟩ := Rd.bind_some ho4
        have hg := Rd.guard_some h5
        simp only [Bool.and_eq_true, beq_iff_eq, decide_eq_true_eq] at hg
        obtain ⟨⟨hfl, hn⟩, hle⟩ := hg
        have := Rd.pure_some ho5
        subst this
        have hs2 := Rd.box_some h3
        have hm := Rd.ofO_some h4
        obtain ⟨ar, ty, X, k1, k2, k3, k4, k5⟩ := h.lendCells hs2 hle
        obtain ⟨_, _, c, ty', fz', hc, hle2, hv⟩ := hr
        rw [k1] at hc
        simp only [Option.some.injEq, Obj.cells.injEq] at hc
        obtain ⟨rfl, _, _⟩ := hc
        obtain ⟨ds, dy, m1, m2, m3⟩ := ev_mk he
        simp only [evA] at hx
        obtain rfl := some_eq' m3 hx
        obtain ⟨X', x1, x2, x3, x4⟩ := matchM_rep hm k2 m1 m2
        refine ⟨X', ⟨_, by rw [hv, x4]; rfl, x3⟩, x2 k3, fun z hz => k4 z (x1 z hz), by simp [lendT], by simp [lendT], fun w' sh' d' L' hbk hty hl hρ _ => ?_⟩
        have hty : d'.1 = τ := hty
        obtain ⟨vs', hvv, hr'⟩ := hl
        rw [hv, hty, flat_agg hfl] at hvv
        have hvv : (ar.toList.drop off).take n = vs' := by
          simp only [valOf, if_true, Value.agg.injEq] at hvv
          have := congrArg Array.toList hvv
          simpa using this
        subst hvv
        have hρ : ρ[nv + 1 + no]? = some d' := by simpa [emN] using hρ
        have hcells := flat_cells (b := .var (nv + 1 + no)) (d := d') (off := 0) (by rw [hty]; exact hfl) hr' hρ (fun c => by simp [Dy.cell, hty, flat_agg hfl])
        rw [hty, hn] at hcells
        exact k5 X' L' L' w' sh' _ x1 hbk hcells hbk.nd (fun b hb => .inl hb)
      | ea x1 rb r c m i off nn =>
        obtain ⟨j, rfl, hsj, hr⟩ := opnd_tmp h h2 (by simp) (by simp)
        obtain ⟨_, _, g, len, cap, k, n, cc, ty, fz, s1, s2, s3, s4, s5, s6, s7⟩ := hr
        obtain ⟨⟨x0, mm⟩, l5, l6, h3, ho3, _⟩ := Rd.bind_some ho2
        have hroot := rootA_some h3
        obtain ⟨_, l7, l8, h4, ho4, _⟩ := Rd.bind_some ho3
        have hg := Rd.guard_some h4
        simp only [Bool.and_eq_true, Bool.not_eq_true', beq_iff_eq] at hg
        obtain ⟨⟨hmm, hag⟩, hnn⟩ := hg
        have s7 := s7.1 hnn
        -- the element's cell, out of the row
        have hrow : ∀ {d0 : Dy} {X : List Nat}, evA ρ x0 = some d0 → ValRep sh w d0 (.own mm) (.slice (some ⟨g, 0, none⟩) len cap) X → X.Nodup → (∀ z ∈ X, z < w.heap.size ∧ ¬ sh z) → (∀ {em : List Em}, EmOk Fn ρ nv (.e ⟨.idx m, [x0, i]⟩ :: em) → evA ρ (.fld (.var nv) off) = some d →
            ∃ K, LentRep (.row τ) false sh w d (a.eval (.tmp j)) K ∧ K.Nodup ∧ (∀ z ∈ K, z ∈ X) ∧
              ∀ (w' : World) (sh' : Nat → Prop) (d' : Dy) (L' : List Nat), Back sh w sh' w' K L' → d'.1 = τ → LentRep (.row τ) true sh' w' d' (a.eval (.tmp j)) L' → ρ[nv + 1 + no]? = some d' → EmOk Fn ρ (nv + 2 + no) [.e ⟨.set m off 1, [x0, i, .var (nv + 1 + no)]⟩] →
                ∃ d2 X2, ρ[nv + 2 + no]? = some d2 ∧ d2.1.isAgg = false ∧ ValRep sh' w' d2 (.own mm) (.slice (some ⟨g, 0, none⟩) len cap) X2 ∧ X2.Nodup ∧ ∀ z ∈ X2, z ∈ L' ∨ (z ∈ X ∧ z ∉ K)) := by
          intro d0 X q1 r1 hXn hXo em hem hx
          obtain ⟨dy, k1, k2⟩ := hem.1
          unfold ev at k1
          simp only [evAs, q1, s2] at k1
          obtain ⟨e, xs, k', n', y, rfl, hn', hm, hn0, hy, rfl⟩ := idx_inv k1
          simp only [Sigma.mk.injEq, Ty.int.injEq] at hn'
          obtain ⟨rfl, hn'⟩ := hn'
          have hn' : n = n' := by simpa using hn'
          subst hn'
          simp only [evA, k2] at hx
          obtain ⟨g', cap', ar, ty', fz', u, K, o1, o2, o3, o4, o5, o6, o7⟩ := own_lend r1 hXn hy hx
          simp only [Value.slice.injEq, Option.some.injEq, Addr.mk.injEq, and_true] at o1
          obtain ⟨rfl, rfl, rfl⟩ := o1
          rw [s6] at o2
          simp only [Option.some.injEq, Obj.cells.injEq] at o2
          obtain ⟨rfl, rfl, rfl⟩ := o2
          rw [hm] at o3
          obtain rfl := some_eq' s7 o3
          rw [hmm] at o4 o7
          refine ⟨K, valRep_atom o4, o6, o5, fun w' sh' d' L' hbk hty hl hρ hem2 => ?_⟩
          obtain ⟨dz, z1, z2⟩ := hem2.e1
          unfold ev at z1
          have hvar : evA ρ (.var (nv + 1 + no)) = some d' := hρ
          simp only [evAs, q1, s2, hvar] at z1
          obtain ⟨e', xs', k'', n'', y', z, p1, p2, p3, p4, p5, p6, rfl⟩ := set_inv z1
          simp only [Sigma.mk.injEq, Ty.sl.injEq] at p1
          obtain ⟨rfl, p1⟩ := p1
          obtain rfl := eq_of_heq p1
          simp only [Sigma.mk.injEq, Ty.int.injEq] at p2
          obtain ⟨rfl, p2⟩ := p2
          have p2 : n = n'' := by simpa using p2
          subst p2
          obtain rfl := some_eq' hy p5
          have hna : d'.1.isAgg = false := by rw [hty]; exact hag
          obtain ⟨X2, t1, t2, t3⟩ := o7 sh' w' d' z L' (hbk.shw h.sh_lt (fun b hb => (hXo b (o5 b hb)).2)) (fun b hb hk => hbk.ext.block b (hXo b hb).1 hk) ⟨hna, valRep_one hna hl⟩ p6 hbk.nd
            (fun b hb hX => (hbk.own b hb).1.elim id (fun h1 => absurd (hXo b hX).1 (Nat.not_lt.2 h1)))
          exact ⟨_, X2, z2, rfl, t1, t2, t3⟩
        cases rb with
        | false =>
          have := Rd.pure_some ho4
          subst this
          have hs : σ.slots[r]? = some (.at x0 (.own mm)) := hroot
          obtain ⟨v0, X, d0, hv0, e1, e2, e3, e4, e5⟩ := h.lendSlot hs
          obtain rfl := some_eq' hv0 s1
          obtain ⟨K, t1, t2, t3, t4⟩ := hrow e1 e2 e3 (fun z hz => (e4 z hz).2) he hx
          refine ⟨K, t1, t2, fun z hz => e4 z (t3 z hz), fun y hy => ?_, fun z hz => ?_, fun w' sh' d' L' hbk hty hl hρ hem2 => ?_⟩
          · simp only [lendT, List.mem_singleton] at hy
            subst hy; exact ⟨_, _, rfl⟩
          · simp only [lendT, List.mem_singleton] at hz
            subst hz; exact ⟨x0, .own mm, hs, by simp⟩
          · obtain ⟨d2, X2, u1, u2, u3, u4, u5⟩ := t4 w' sh' d' L' hbk hty hl (by simpa [emN] using hρ) (by simpa [emN, Nat.add_assoc, Nat.add_comm, Nat.add_left_comm] using hem2)
            exact e5 K L' X2 w' sh' (.var (nv + 2 + no)) d2 (.own mm) t3 hbk u1 u3 u4 u5
        | true =>
          obtain ⟨cs, l9, l10, h5, ho5, _⟩ := Rd.bind_some ho4
          have := Rd.pure_some ho5
          subst this
          obtain ⟨cs', hcs', hy⟩ := hroot
          have hcs := Rd.box_some h5
          rw [hcs] at hcs'
          simp only [Option.some.injEq] at hcs'
          subst hcs'
          obtain ⟨v0, X, d0, hv0, e1, e1', e2, e3, e4, e5⟩ := h.lendCell hcs hy
          obtain rfl := some_eq' hv0 s1.2
          obtain ⟨K, t1, t2, t3, t4⟩ := hrow e1 (valRep_atom ⟨e1', e2⟩) e3 (fun z hz => (e4 z hz).2) he hx
          refine ⟨K, t1, t2, fun z hz => e4 z (t3 z hz), by simp [lendT], by simp [lendT], fun w' sh' d' L' hbk hty hl hρ hem2 => ?_⟩
          obtain ⟨d2, X2, u1, u2, u3, u4, u5⟩ := t4 w' sh' d' L' hbk hty hl (by simpa [emN] using hρ) (by simpa [emN, Nat.add_assoc, Nat.add_comm, Nat.add_left_comm] using hem2)
          exact e5 K L' X2 w' sh' (.var (nv + 2 + no)) d2 (.own mm) t3 hbk u1 u2 (valRep_one u2 u3) u4 u5
      | _ => cases ho2

theorem DstOk.take2 {k : Take} (hk : ∀ y ∈ k.wr, y.1 ≠ d) (h : DstOk σ d) : DstOk (σ.take k) d := by
  refine ⟨⟨by rw [(take_len k).1]; exact h.lt, fun y hy => ?_⟩, by rw [(take_kpb k).1]; exact h.kept⟩
  unfold Sg.take at hy
  have h1 : ∀ (W : List (Nat × SV)) (σ : Sg), (∀ z ∈ W, z.1 ≠ d) → (W.foldl Sg.putS σ).slots[d]? = σ.slots[d]? := by
    intro W; induction W with
    | nil => intro σ _; rfl
    | cons y W ih =>
      intro σ hB
      rw [List.foldl_cons, ih _ (fun z hz => hB z (List.mem_cons_of_mem _ hz))]
      simp only [Sg.putS, setR_eq]
      rw [List.getElem?_set_ne (hB y (by simp))]
  have h2 : ∀ (K : List (Nat × Nat)) (σ : Sg), (∀ s : SV, σ.slots[d]? = some s → s.free = true) → ∀ s : SV, (K.foldl Sg.kill σ).slots[d]? = some s → s.free = true := by
    intro K; induction K with
    | nil => intro σ h; exact h
    | cons k K ih =>
      intro σ h
      refine ih _ fun y hy => ?_
      simp only [Sg.kill, mapR_eq, List.getElem?_map, Option.map_eq_some_iff] at hy
      obtain ⟨t, ht, hh⟩ := hy
      split at hh
      · subst hh; rfl
      · subst hh; exact h t ht
  have h3 : ∀ (B : List (Nat × Bx)) (σ : Sg), (B.foldl Sg.putB σ).slots = σ.slots := by intro W; induction W with | nil => intro σ; rfl | cons y W ih => intro σ; exact ih _
  rw [h1 _ _ hk, h3] at hy
  exact h2 _ _ h.free y hy

/-- A CALL THAT IS LENT SOMETHING. -/
theorem sound_callL {f p : Nat} {q : Lk} {s : Sig} {ars : List Ar} {nv : Nat} {args : Array Value} (h : InvG sh0 w0 G0 ρ σ a w sh F β) (hrun : callOk P f = true → (execOp a.eval o).run P w = .ok (.enter f args) w)
    (hl : args.toList.length = ars.length) (hv : ∀ (i : Nat) x v, ars[i]? = some x → args.toList[i]? = some v → ArVal a sh w ρ β x v)
    (hd : o.dst = some d) (hlt : DstOk σ d) (hcon : Con P Fn f s) (hsl : s.lt = some (p, q)) (hnm : ∀ τ m, q ≠ .mov τ m) (hs : stCallL P nv d f s p q ars σ = some (st, l)) (he : EmOk Fn ρ nv st.em) :
    o.wp P a w (Inv sh0 w0 G0 ρ (σ.apply st)) Q := by
  unfold stCallL at hs
  obtain ⟨y, l1, l2, h1, hs1, _⟩ := Rd.bind_some hs
  have hy := Rd.ofO_some h1
  obtain ⟨⟨xs, k⟩, l3, l4, h2, hs2, _⟩ := Rd.bind_some hs1
  obtain ⟨b, l5, l6, h3, hs3, _⟩ := Rd.bind_some hs2
  obtain ⟨_, l7, l8, h4, hs4, _⟩ := Rd.bind_some hs3
  have hg := Rd.guard_some h4
  have := Rd.pure_some hs4
  subst this
  have hp : p < ars.length := (List.getElem?_eq_some_iff.1 hy).1
  have hpa : p < args.toList.length := by rw [hl]; exact hp
  obtain ⟨hea, heb⟩ := he.split
  obtain ⟨heb, hec⟩ := heb.split
  obtain ⟨⟨ds', rs, k1, k2, k3, k4⟩, hed⟩ := hec
  obtain ⟨ds, dl, rfl, k5, k6⟩ := evAs_split k1
  obtain ⟨dv, k7, rfl⟩ := evAs1 k6
  obtain ⟨sh1, F1, ds1, hI, hmi, hta, tk, hds, hrep⟩ := argsA_rep (σ := σ) (k := .nil) (vs := del p args.toList) h (fun y hy => by simp [Take.nil] at hy) (tame_of fun y hy => by simp [Take.nil] at hy) h2 hea
    (by have h1 := del_len hp; have h2 := del_len hpa; omega)
    (fun i x v hx hv' => by
      rw [del_get (Nat.le_of_lt hp)] at hx
      rw [del_get (Nat.le_of_lt hpa)] at hv'
      exact hv _ x v hx hv')
  obtain rfl := some_eq' k5 hds
  have hvp : args.toList[p]? = some (args.toList[p]) := List.getElem?_eq_getElem hpa
  generalize args.toList[p] = vp at hvp
  obtain ⟨Lb, e1, e2, e3, e4, e5, e6⟩ := lend_rep hI h3 heb k7 ((hv p y vp hy hvp).mono tk.mono)
  have hcall := hcon w sh1 args (ds ++ [dv]) rs Lb hI.sh_lt (by unfold ArgsL; rw [hsl]; exact ⟨ds, dv, vp, rfl, hvp, hrep, e1⟩) e2 (fun z hz => (e3 z hz).2) k2
  have hmild : (k.and b.t).mild := hmi.and (fun y hy q => by
    obtain ⟨x, m, hh⟩ := e4 y hy
    rw [hh]; exact kill_at)
  have happ := apply_take (σ := σ) hmild (k.em ++ (b.em ++ (.call f (xs ++ [b.x]) (s.rt.length + 1) :: b.em2))) [] [] [(d, resSV (nv + emN k.em + emN b.em) s.rt)]
  rw [List.append_nil, List.append_nil] at happ
  rw [happ]
  have hdt : DstOk (σ.take (k.and b.t)) d := by
    rw [take_and hmi]
    refine (hlt.take hta).take2 (fun z hz hzd => ?_)
    obtain ⟨y', m, hh, hm⟩ := e5 z hz
    rw [hzd] at hh
    exact hm ((hlt.take hta).at hh)
  unfold Oper.wp
  rw [hrun hg, Oper.upon_enter]
  refine hcall.mono fun e w' hpost => ?_
  obtain ⟨v, sh', Fr, L', rfl, hE, hs1', hs2', hres, hnd, hfr⟩ := hpost
  rw [hd]
  unfold ResOut at hres
  rw [hsl] at hres
  have hres : ∃ rs0 d' u, rs = rs0 ++ [d'] ∧ ResRep sh' w' s.rt rs0 v Fr ∧ args.toList[p]? = some u ∧ d'.1 = q.ty ∧ LentRep q true sh' w' d' u L' := by
    cases q with
    | mov τ m => exact absurd rfl (hnm τ m)
    | row τ => exact hres
    | box τ m m' => exact hres
  obtain ⟨rs0, d', u, rfl, hres, hu, hty, hlent⟩ := hres
  obtain rfl := some_eq' hvp hu
  have h5 := List.nodup_append.1 hnd
  have hbk : Back sh1 w sh' w' Lb L' := ⟨hE, hs1', hs2', h5.2.1, fun b hb => hfr b (List.mem_append_right _ hb)⟩
  have hlen : rs0.length = s.rt.length := by simpa using k3
  obtain ⟨F3, hI3, hl3⟩ := e6 w' sh' d' L' hbk hty hlent (by
    have := k4 rs0.length d' (by simp)
    rwa [hlen] at this) (by simpa [Nat.add_assoc] using hed)
  rw [← take_and hmi] at hI3
  refine ⟨_, _, _, hI3.putD hdt (resRep_sv (n := nv + emN k.em + emN b.em) hres (fun i r hr => k4 i r (by rw [List.getElem?_append_left (List.getElem?_eq_some_iff.1 hr).1]; exact hr))) (resSV_roots _ _ _) (resSV_ok _ _) h5.1 (fun b hb => ?_) (fun b hb kk j _ hm => ?_)⟩
  · obtain ⟨o1, o2, o3⟩ := hfr b (List.mem_append_left _ hb)
    refine ⟨?_, o2, o3⟩
    rcases o1 with o1 | o1
    · exact (e3 b o1).1
    · exact .inr (Nat.le_trans hI.ext.size o1)
  · rcases hl3 kk j b hm with h6 | ⟨h6, h7⟩
    · exact h5.2.2 b hb b h6 rfl
    · rcases (hfr b (List.mem_append_left _ hb)).1 with o1 | o1
      · exact h7 o1
      · exact Nat.lt_irrefl _ (Nat.lt_of_lt_of_le h6 o1)

theorem killed1 {σ : Sg} {r : Nat} : ∀ (i : Nat) (s : SV), (σ.kill (1, r)).slots[i]? = some s → roots s ≠ some (true, r) := by
  intro i s hi hr
  have := kill_clean σ (1, r) i s hi
  simp [refers, hr] at this

/-- A CAPTURED VARIABLE IS READ FOR GOOD. -/
theorem frzCap_rep {nv : Nat} {ars : List Ar} {k : Take} (h : InvG sh0 w0 G0 ρ σ a w sh F β) (ho : frzCap nv ars σ = some (k, l)) (he : EmOk Fn ρ nv k.em) :
    ∃ sh' F', InvG sh0 w0 G0 ρ (σ.take k) a w sh' F' β ∧ k.mild ∧ k.tame σ ∧ Took G0 w0 w sh F sh' F' [] := by
  have hnil : k = .nil → ∃ sh' F', InvG sh0 w0 G0 ρ (σ.take k) a w sh' F' β ∧ k.mild ∧ k.tame σ ∧ Took G0 w0 w sh F sh' F' [] := by
    rintro rfl
    exact ⟨sh, F, h, fun y hy => by simp [Take.nil] at hy, tame_of fun y hy => by simp [Take.nil] at hy, .refl⟩
  unfold frzCap at ho
  split at ho
  · rename_i t i
    obtain ⟨s, l1, l2, h1, ho1, _⟩ := Rd.bind_some ho
    have hsl := Rd.slot_some h1
    split at ho1
    · rename_i g r
      obtain ⟨b, l3, l4, h2, ho2, _⟩ := Rd.bind_some ho1
      obtain ⟨xs, l5, l6, h3, ho3, _⟩ := Rd.bind_some ho2
      obtain ⟨hb, hkb⟩ := Rd.boxW_some h2
      have hxs := Rd.ofO_some h3
      have := Rd.pure_some ho3
      subst this
      obtain ⟨ar, ty, F', k1, k2, k3⟩ := h.box r b hb
      obtain ⟨v, hv, hr⟩ := h.slot i _ hsl
      obtain ⟨_, us, rfl, u, us', rfl, hu, hus⟩ := hr
      have hus : us' = [] := hus
      subst hus
      have hu : u = .pointer (some ⟨β r, 0, none⟩) := hu
      subst hu
      have hI := (h.kill (1, r)).forgetBox (r := r) killed1
      have hmem : ∀ z ∈ β r :: F', z ∈ F true r := fun z hz => k2 ▸ hz
      have hX : Free G0 w0 w sh (setF F true r []) (β r :: F') := by
        refine ⟨by rw [← k2]; exact h.nodup true r, fun z hz => h.own true r z (hmem z hz), fun z hz q j hm => ?_⟩
        by_cases hq : q = true ∧ j = r
        · obtain ⟨rfl, rfl⟩ := hq
          rw [setF_same] at hm
          simp at hm
        · rw [setF_ne _ _ _ _ hq] at hm
          exact h.disj true r q j (fun e => hq (by simp only [Prod.mk.injEq] at e; exact ⟨e.1.symm, e.2.symm⟩)) z (hmem z hz) hm
      have hI2 := hI.freeze hX
      obtain ⟨ds, dy, m1, m2, m3⟩ := ev_mk he
      obtain ⟨p1, p2, p3, _⟩ := mkMd_rep hxs k3 m1 m2
      have hbl : ar.toList.length = b.length := RepL.one_len k3
      have hp : PtrRep (fun z => sh z ∨ z ∈ β r :: F') w dy (.pointer (some ⟨β r, 0, none⟩)) := by
        refine ⟨β r, 0, ar, ty, (0, 0), rfl, .inr (by simp), k1, ?_, ?_⟩
        · rw [p3, List.drop_zero, List.take_of_length_le (by rw [hbl]; exact Nat.le_refl _)]
          exact Rep.freeze (fun _ hb => .inl hb) p1 (fun z hz => .inr (List.mem_cons_of_mem _ hz))
        · rw [p3, ← hbl, Array.length_toList]; omega
      have hlt : i < σ.slots.length := (List.getElem?_eq_some_iff.1 hsl).1
      have hdok : DstOk0 ((σ.kill (1, r)).putB (r, none)) i := by
        refine ⟨by simpa [Sg.kill, Sg.putB, mapR_eq] using hlt, fun y hy => ?_⟩
        simp only [Sg.kill, Sg.putB, mapR_eq, List.getElem?_map, Option.map_eq_some_iff] at hy
        obtain ⟨y', hy', hh⟩ := hy
        rw [hsl] at hy'
        simp only [Option.some.injEq] at hy'
        subst hy'
        split at hh <;> subst hh <;> rfl
      have hput := hI2.put_same (d := i) (s := .fn g [.psh (.var nv)]) (v := .func (.func g) #[] [.pointer (some ⟨β r, 0, none⟩)].toArray) (X := []) hdok hv ⟨rfl, _, rfl, _, _, rfl, ⟨dy, m3, hp⟩, rfl⟩ (by simp [roots]) trivial (by simp) (by simp) (by simp)
      rw [act_put_same hv] at hput
      refine ⟨_, _, hput, fun y hy q => ?_, fun d hd y hy _ => ?_, ⟨fun _ hb => .inl hb, fun z hz => hz.imp id fun hz => ⟨true, r, hmem z hz⟩, fun q j z hz => ?_, .nil, by simp⟩⟩
      · simp only [List.mem_singleton] at hy
        subst hy
        obtain ⟨q1, q2⟩ := q
        unfold refers
        dsimp only
        split <;> simp [roots, SV.hasPtr, SV.isEl, SV.isTp]
      · simp only [List.mem_singleton] at hy
        subst hy
        rfl
      · unfold setF at hz
        split at hz
        · simp at hz
        · split at hz
          · simp at hz
          · exact hz
    · exact hnil (Rd.pure_some ho1).symm
  · exact hnil (Rd.pure_some ho).symm

/-- A CALL THAT SOMETHING IS HANDED OVER TO. -/
theorem sound_callM {f p : Nat} {τ : Ty} {m : Md} {s : Sig} {ars : List Ar} {nv : Nat} {args : Array Value} (h : InvG sh0 w0 G0 ρ σ a w sh F β) (hrun : callOk P f = true → (execOp a.eval o).run P w = .ok (.enter f args) w)
    (hl : args.toList.length = ars.length) (hv : ∀ (i : Nat) x v, ars[i]? = some x → args.toList[i]? = some v → ArVal a sh w ρ β x v)
    (hd : o.dst = some d) (hlt : DstOk σ d) (hcon : Con P Fn f s) (hsl : s.lt = some (p, .mov τ m)) (hs : stCallM P nv d f s p m ars σ = some (st, l)) (he : EmOk Fn ρ nv st.em) :
    o.wp P a w (Inv sh0 w0 G0 ρ (σ.apply st)) Q := by
  unfold stCallM at hs
  obtain ⟨y, l1, l2, h1, hs1, _⟩ := Rd.bind_some hs
  have hy := Rd.ofO_some h1
  obtain ⟨k0, l11, l12, h0, hs0, _⟩ := Rd.bind_some hs1
  obtain ⟨⟨xs, k⟩, l3, l4, h2, hs2, _⟩ := Rd.bind_some hs0
  cases y with
  | cp c => cases hs2
  | op t x => ?_
  obtain ⟨k2, l5, l6, h3, hs3, _⟩ := Rd.bind_some hs2
  obtain ⟨_, l7, l8, h4, hs4, _⟩ := Rd.bind_some hs3
  have hg := Rd.guard_some h4
  simp only [Bool.and_eq_true, Bool.not_eq_true'] at hg
  have := Rd.pure_some hs4
  subst this
  have hp : p < ars.length := (List.getElem?_eq_some_iff.1 hy).1
  have hpa : p < args.toList.length := by rw [hl]; exact hp
  obtain ⟨hea, ⟨ds', rs, k1, k2', k3, k4⟩, _⟩ := he.split
  obtain ⟨hea, heb⟩ := (show EmOk Fn ρ nv (k.em ++ k2.em) from hea).split
  obtain ⟨ds, dl, rfl, k5, k6⟩ := evAs_split k1
  obtain ⟨dv, k7, rfl⟩ := evAs1 k6
  obtain ⟨kr, hkr⟩ := argsA_pre h2
  have hea0 : EmOk Fn ρ nv k0.em := by
    have hea' := hea
    rw [hkr] at hea'
    exact hea'.split.1
  obtain ⟨sh9, F9, hI9, hm9, ht9, tk9⟩ := frzCap_rep h h0 hea0
  obtain ⟨sh1, F1, ds1, hI, hmi, hta, tk, hds, hrep⟩ := argsA_rep (σ := σ) (k := k0) (vs := del p args.toList) hI9 hm9 ht9 h2 hea
    (by have h1 := del_len hp; have h2 := del_len hpa; omega)
    (fun i x v hx hv' => by
      rw [del_get (Nat.le_of_lt hp)] at hx
      rw [del_get (Nat.le_of_lt hpa)] at hv'
      exact (hv _ x v hx hv').mono tk9.mono)
  obtain rfl := some_eq' k5 hds
  have hvp : args.toList[p]? = some (args.toList[p]) := List.getElem?_eq_getElem hpa
  generalize args.toList[p] = vp at hvp
  have hvx : vp = a.eval x := hv p _ vp hy hvp
  subst hvx
  obtain ⟨F2, X, dx, hI2, e1, ⟨vs, e2, e2'⟩, tk2⟩ := take_rep (σ := σ.take k) hI h3 heb
  obtain rfl := some_eq' k7 e1
  have hval : ValRep sh1 w dv m (a.eval x) X := ⟨vs, e2, coe_rep hg.1.1 e1 e2'⟩
  have hfree := tk2.free
  have hcall := hcon w sh1 args (ds ++ [dv]) rs X hI2.sh_lt (by unfold ArgsL; rw [hsl]; exact ⟨ds, dv, _, rfl, hvp, hrep, hval⟩) hfree.nd (fun z hz => (hfree.own z hz).2) k2'
  have hmi2 := hmi.and (takeV_mild (σ := σ.take k) h3)
  have happ := apply_take (σ := σ) hmi2 ((k.and k2).em ++ [.call f (xs ++ [k2.x]) s.rt.length]) [] [] [(d, resSV (nv + emN (k.and k2).em) s.rt)]
  rw [List.append_nil, List.append_nil] at happ
  rw [happ]
  have hdt : DstOk (σ.take (k.and k2)) d := hlt.take (hta.and (takeV_tame (σ := σ.take k) h3))
  unfold Oper.wp
  rw [hrun hg.1.2, Oper.upon_enter]
  refine hcall.mono fun e w' hpost => ?_
  obtain ⟨v, sh', Fr, L', rfl, hE, hs1', hs2', hres, hnd, hfr⟩ := hpost
  rw [hd]
  unfold ResOut at hres
  rw [hsl] at hres
  obtain ⟨hres, rfl⟩ := hres
  rw [List.append_nil] at hnd hfr
  have hI3 := hI2.turn (L := X) hE (fun b hb => ⟨fun k i => hfree.out b hb k i, (hfree.own b hb).2.2, (hfree.own b hb).1⟩) hs1' (fun b hb => ⟨(hs2' b hb).1, by
    rcases (hs2' b hb).2 with h1 | h1 | h1
    · exact .inl h1
    · exact .inr (.inr ⟨(hfree.own b h1).1, fun k i => hfree.out b h1 k i⟩)
    · exact .inr (.inl h1)⟩)
  rw [← take_and hmi] at hI3
  refine ⟨_, _, _, hI3.putD hdt (resRep_sv (n := nv + emN (k.and k2).em) hres k4) (resSV_roots _ _ _) (resSV_ok _ _) hnd (fun b hb => ?_) (fun b hb kk j _ hm => ?_)⟩
  · obtain ⟨o1, o2, o3⟩ := hfr b hb
    refine ⟨?_, o2, o3⟩
    rcases o1 with o1 | o1
    · exact (hfree.own b o1).1
    · exact .inr (Nat.le_trans hI.ext.size o1)
  · rcases (hfr b hb).1 with o1 | o1
    · exact hfree.out b o1 kk j hm
    · exact Nat.lt_irrefl _ (Nat.lt_of_lt_of_le (hI2.own kk j b hm).2.1 o1)

/-- A CALL THAT HANDS BACK A NEW VARIABLE. -/
theorem sound_callN {f : Nat} {s : Sig} {ars : List Ar} {nv : Nat} {args : Array Value} (h : InvG sh0 w0 G0 ρ σ a w sh F β) (hrun : callOk P f = true → (execOp a.eval o).run P w = .ok (.enter f args) w)
    (hl : args.toList.length = ars.length) (hv : ∀ (i : Nat) x v, ars[i]? = some x → args.toList[i]? = some v → ArVal a sh w ρ β x v)
    (hd : o.dst = some d) (hlt : DstOk σ d) (hcon : ConO P Fn f s) (hnb : s.nb = true) (hs : stCallN P nv d f s ars σ = some (st, l)) (he : EmOk Fn ρ nv st.em) :
    o.wp P a w (Inv sh0 w0 G0 ρ (σ.apply st)) Q := by
  unfold stCallN at hs
  rcases hrt : s.rt with _ | ⟨⟨τ, m⟩, _ | ⟨y, rest⟩⟩
  · rw [hrt] at hs; cases hs
  case cons.cons => rw [hrt] at hs; cases hs
  rw [hrt] at hs
  dsimp only at hs
  obtain ⟨⟨vs, k⟩, l3, l4, h2, hs2, _⟩ := Rd.bind_some hs
  obtain ⟨bx0, l5, l6, h3, hs3, _⟩ := Rd.bind_some hs2
  obtain ⟨_, l7, l8, h4, hs4, _⟩ := Rd.bind_some hs3
  have hg := Rd.guard_some h4
  simp only [Bool.and_eq_true, Bool.or_eq_true, Bool.not_eq_true'] at hg
  have := Rd.pure_some hs4
  subst this
  obtain ⟨hea, heb⟩ := he.split
  obtain ⟨sh1, F1, ds, hI, hmi, hta, tk, hds, hrep⟩ := argsA_rep (σ := σ) (k := .nil) h (fun y hy => by simp [Take.nil] at hy) (tame_of fun y hy => by simp [Take.nil] at hy) h2 hea hl hv
  obtain ⟨hbl, hkb⟩ := Rd.boxAny_some (σ := σ.take k) h3
  have happ := apply_take (σ := σ) hmi (k.em ++ [.call f vs 1]) [(1, d)] [(d, some (boxCells τ m (nv + emN k.em)))] [(d, .ptr d 0)]
  rw [happ]
  have hdt := hlt.take hta
  obtain ⟨ds', rs, k1, k2, k3, k4⟩ := heb.1
  obtain rfl := some_eq hds k1
  unfold Oper.wp
  rw [hrun hg.1, Oper.upon_enter]
  refine (hcon w sh1 args ds rs hI.sh_lt hrep k2).mono fun e w' hpost => ?_
  obtain ⟨v, sh', Fr, rfl, hE, hs1', hs2', hres, hnd, hfr⟩ := hpost
  unfold ResR at hres
  rw [hnb] at hres
  obtain ⟨τ', m', dy, b, c, ty, K, q1, rfl, hty, rfl, rfl, q2, q3⟩ := hres
  rw [hrt] at q1
  simp only [List.cons.injEq, Prod.mk.injEq, and_true] at q1
  obtain ⟨rfl, rfl⟩ := q1
  rw [hd]
  have hb := hI.back hE hs1' hs2'
  have hρ : evA ρ (.var (nv + emN k.em)) = some dy := by
    have := k4 0 dy rfl
    simpa [evA] using this
  have hcells := boxCells_rep (fun hag => by rcases hg.2 with h | h; rw [hag] at h; cases h; exact h) hty hρ q3
  have hnew : ∀ z ∈ b :: K, ∀ kk j, z ∉ F1 kk j := fun z hz kk j hm => Nat.lt_irrefl _ (Nat.lt_of_lt_of_le (hI.own kk j z hm).2.1 (hfr z hz).1)
  have hclean := kill_clean (σ.take k) (1, d)
  have hk := (hb.kill (1, d)).forgetBox (r := d) (fun i s hi hr => by
    have := hclean i s hi
    simp [refers, hr] at this)
  have hF : ∀ z ∈ b :: K, ∀ kk j, z ∉ setF F1 true d [] kk j := by
    intro z hz kk j
    unfold setF
    split
    · simp
    · exact hnew z hz kk j
  have hb2 := hk.setbox (r := d) (g := b) (cells := boxCells τ m (nv + emN k.em)) (vs := c.toList) (ty := ty) (X := K) (by simpa [Sg.putB, setR_eq, Sg.kill, mapR_eq] using hbl) (putB_none_get _ _) (by simpa using q2) hcells
    (hfr b (by simp)).2.2 (.inr (Nat.le_trans hI.ext.size (hfr b (by simp)).1)) (hF b (by simp)) hnd
    (fun z hz => ⟨.inr (Nat.le_trans hI.ext.size (hfr z (by simp [hz])).1), (hfr z (by simp [hz])).2⟩) (fun z hz => hF z (by simp [hz]))
    (.inr (fun i s hi => by
      have := hclean i s hi
      unfold refers at this
      simp only [Bool.or_eq_false_iff] at this
      exact this.2)) (fun p hp => absurd hp (hkb p))
  rw [putB_putB] at hb2
  have hd' : DstOk (((σ.take k).kill (1, d)).putB (d, some (boxCells τ m (nv + emN k.em)))) d := ⟨⟨(hdt.kill (k := (1, d))).lt, (hdt.kill (k := (1, d))).free⟩, hdt.kept⟩
  exact ⟨_, _, _, hb2.put_none (d := d) (s := .ptr d 0) hd' ⟨rfl, by simp⟩⟩

theorem sound_call {f : Nat} {ars : List Ar} {nv : Nat} {args : Array Value} (h : InvG sh0 w0 G0 ρ σ a w sh F β) (hrun : callOk P f = true → (execOp a.eval o).run P w = .ok (.enter f args) w)
    (hl : args.toList.length = ars.length) (hv : ∀ (i : Nat) x v, ars[i]? = some x → args.toList[i]? = some v → ArVal a sh w ρ β x v)
    (hd : o.dst = some d) (hlt : DstOk σ d) (hC : ∀ f s, C f = some s → Con P Fn f s) (hs : stCall P C nv d f ars σ = some (st, l)) (he : EmOk Fn ρ nv st.em) :
    o.wp P a w (Inv sh0 w0 G0 ρ (σ.apply st)) Q := by
  unfold stCall at hs
  obtain ⟨s, l1, l2, h1, hs1, _⟩ := Rd.bind_some hs
  have hCf := Rd.ofO_some h1
  cases hsl : s.lt with
  | some pq =>
    obtain ⟨p, q⟩ := pq
    rw [hsl] at hs1
    cases q with
    | mov τ m => exact sound_callM h hrun hl hv hd hlt (hC f s hCf) hsl hs1 he
    | row τ => exact sound_callL h hrun hl hv hd hlt (hC f s hCf) hsl (by simp) hs1 he
    | box τ m m' => exact sound_callL h hrun hl hv hd hlt (hC f s hCf) hsl (by simp) hs1 he
  | none => ?_
  rw [hsl] at hs1
  dsimp only at hs1
  cases hnb : s.nb with
  | true =>
    rw [hnb, if_pos rfl] at hs1
    exact sound_callN h hrun hl hv hd hlt ((hC f s hCf).old hsl) hnb hs1 he
  | false => ?_
  rw [hnb, if_neg (by simp)] at hs1
  obtain ⟨⟨vs, k⟩, l3, l4, h2, hs2, _⟩ := Rd.bind_some hs1
  obtain ⟨_, l5, l6, h3, hs3, _⟩ := Rd.bind_some hs2
  have hg := Rd.guard_some h3
  have := Rd.pure_some hs3
  subst this
  obtain ⟨hea, heb⟩ := he.split
  obtain ⟨sh1, F1, ds, hI, hmi, hta, tk, hds, hrep⟩ := argsA_rep (σ := σ) (k := .nil) h (fun y hy => by simp [Take.nil] at hy) (tame_of fun y hy => by simp [Take.nil] at hy) h2 hea hl hv
  have happ := apply_take (σ := σ) hmi (k.em ++ [.call f vs s.rt.length]) [] [] [(d, resSV (nv + emN k.em) s.rt)]
  rw [List.append_nil, List.append_nil] at happ
  rw [happ]
  have hdt := hlt.take hta
  obtain ⟨ds', rs, k1, k2, k3, k4⟩ := heb.1
  obtain rfl := some_eq hds k1
  have hcon := (hC f s hCf).old hsl w (shCall (s.rt.all fun x => noSh x.1 x.2) sh1 w) args ds rs (fun b hb => by
    unfold shCall at hb
    generalize (s.rt.all fun x => noSh x.1 x.2) = any at hb
    cases any with
    | false => exact hI.sh_lt b hb
    | true => exact hb) hrep k2
  unfold Oper.wp
  rw [hrun hg, Oper.upon_enter]
  refine hcon.mono fun e w' hpost => ?_
  obtain ⟨v, sh', Fr, rfl, hE, hs1', hs2', hres, hnd, hfr⟩ := hpost
  unfold ResR at hres
  rw [hnb] at hres
  rw [hd]
  have hfin : ∀ sh2 : Nat → Prop, (∀ b, sh1 b → sh2 b) → (∀ b, sh2 b → b < w'.heap.size ∧ (sh1 b ∨ w.heap.size ≤ b)) → ResRep sh2 w' s.rt rs v Fr → (∀ b ∈ Fr, ¬ sh2 b) → Inv sh0 w0 G0 ρ ((σ.take k).putS (d, resSV (nv + emN k.em) s.rt)) (a.put (some d) v) w' := by
    intro sh2 g1 g2 g3 g4
    have hb := hI.back hE g1 g2
    exact ⟨_, _, _, hb.putD hdt (resRep_sv g3 k4) (resSV_roots _ _ _) (resSV_ok _ _) hnd (fun b hb' => ⟨.inr (Nat.le_trans hI.ext.size (hfr b hb').1), (hfr b hb').2.1, g4 b hb'⟩)
      (fun b hb' k j _ hm => Nat.lt_irrefl _ (Nat.lt_of_lt_of_le (hI.own k j b hm).2.1 (hfr b hb').1))⟩
  cases hany : (s.rt.all fun x => noSh x.1 x.2) with
  | false =>
    rw [hany] at hs1' hs2'
    exact hfin sh' hs1' hs2' hres (fun b hb => (hfr b hb).2.2)
  | true =>
    obtain ⟨vs, q1, q2⟩ := hres
    exact hfin sh1 (fun _ h => h) (fun b hb => ⟨Nat.lt_of_lt_of_le (hI.sh_lt b hb) hE.size, .inl hb⟩) ⟨vs, noSh_res hany q1, q2⟩ (fun b hb hs => Nat.lt_irrefl _ (Nat.lt_of_lt_of_le (hI.sh_lt b hs) (hfr b hb).1))

theorem CapsRep.get : ∀ {cs : List Cp} {us : List Value}, CapsRep sh w ρ β cs us → us.length = cs.length ∧ ∀ (i : Nat) c u, cs[i]? = some c → us[i]? = some u → CapRep sh w ρ β c u
  | [], us, h => by have h : us = [] := h; subst h; simp
  | c :: cs, us, h => by
    obtain ⟨u, us', rfl, h1, h2⟩ := h
    obtain ⟨k1, k2⟩ := CapsRep.get h2
    refine ⟨by simp [k1], fun i c' u' hc hu => ?_⟩
    cases i with
    | zero => simp at hc hu; subst hc; subst hu; exact h1
    | succ i => simp at hc hu; exact k2 i c' u' hc hu

theorem sound_callV {x : Operand} {ts : List TypeId} {xs : List Operand} {nv : Nat} {c : Call} (h : InvG sh0 w0 G0 ρ σ a w sh F β) (hop : o.op = .call c) (hcal : c.callee = .value x) (hx : c.args = ⟨xs⟩)
    (hd : o.dst = some d) (hlt : DstOk σ d) (hC : ∀ f s, C f = some s → Con P Fn f s) (hs : stCallV P C nv d x ts xs σ = some (st, l)) (he : EmOk Fn ρ nv st.em) :
    o.wp P a w (Inv sh0 w0 G0 ρ (σ.apply st)) Q := by
  unfold stCallV at hs
  obtain ⟨s, l1, l2, h1, hs1, _⟩ := Rd.bind_some hs
  split at hs1
  · rename_i g caps
    obtain ⟨_, l3, l4, h2, hs2, _⟩ := Rd.bind_some hs1
    have hlen := Rd.guard_some h2
    have hlen : ts.length = xs.length := by simpa using hlen
    obtain ⟨_, us, u1, u2⟩ := opnd_fn h h1
    obtain ⟨c1, c2⟩ := u2.get
    have hargs : (c.args.map a.eval ++ us.toArray).toList = xs.map a.eval ++ us := by rw [hx]; simp
    have hal : ((ts.zip xs).map (fun x => Ar.op x.1 x.2)).length = xs.length := by simp [hlen]
    refine sound_call h (args := c.args.map a.eval ++ us.toArray) (fun hok => run_call hop hcal u1 hok) ?_ (fun i y v hy hv => ?_) hd hlt hC hs2 he
    · rw [hargs]; simp [hlen, c1]
    · rw [hargs] at hv
      rcases Nat.lt_or_ge i xs.length with hi | hi
      · rw [List.getElem?_append_left (by rw [hal]; exact hi)] at hy
        rw [List.getElem?_append_left (by simpa using hi)] at hv
        rw [List.getElem?_map] at hy hv
        obtain ⟨z, hz, rfl⟩ := Option.map_eq_some_iff.1 hy
        obtain ⟨q, hq, rfl⟩ := Option.map_eq_some_iff.1 hv
        have hzi := List.getElem?_zip_eq_some.1 hz
        have : z.2 = q := some_eq hzi.2 hq
        show a.eval q = a.eval z.2
        rw [this]
      · rw [List.getElem?_append_right (by rw [hal]; exact hi), hal] at hy
        rw [List.getElem?_append_right (by simpa using hi)] at hv
        rw [List.getElem?_map] at hy
        obtain ⟨z, hz, rfl⟩ := Option.map_eq_some_iff.1 hy
        rw [List.length_map] at hv
        exact c2 _ z v hz hv
  · cases hs1

theorem sound_makeFunc {g : Nat} {xs : List Operand} (h : InvG sh0 w0 G0 ρ σ a w sh F β) (hop : o.op = .makeFunc (.func g) ⟨[]⟩ ⟨xs⟩)
    (hd : o.dst = some d) (hlt : DstOk σ d) (hs : stMakeFunc P d g xs σ = some (st, l)) : o.wp P a w (Inv sh0 w0 G0 ρ (σ.apply st)) Q := by
  unfold stMakeFunc at hs
  obtain ⟨cs, l1, l2, h1, hs1, _⟩ := Rd.bind_some hs
  have := Rd.pure_some hs1
  subst this
  have hc := cpsOf_rep h h1
  refine wp_value (v := .func (.func g) #[] (xs.map a.eval).toArray) (w' := w) ?_ ?_
  · unfold execOp
    rw [hop]
    simp only [Instr.makeFunc, Sem.run_bind, Sem.run_pure, Result.andThen_ok]
    simp
  · rw [hd]
    exact ⟨_, _, _, h.put_none hlt (s := .fn g cs) ⟨rfl, _, rfl, hc⟩⟩

/-- Bounds. -/
def BoundOk (ρ : List Dy) (a : Act) (x : Option Operand) (as : List A) : Prop :=
  match x with
  | none => as = []
  | some x => ∃ c d, as = [c] ∧ evA ρ c = some d ∧ ∀ (k : IntKind) (n : Int), d = ⟨.int k, n⟩ → a.eval x = .int k n

theorem lookO_rep {x : Option Operand} {as : List A} (h : InvG sh0 w0 G0 ρ σ a w sh F β) (ho : lookO P x σ = some (as, l)) :
    BoundOk ρ a x as := by
  cases x with
  | none => exact (Rd.pure_some ho).symm
  | some x =>
    obtain ⟨c, l1, l2, h1, ho1, _⟩ := Rd.bind_some ho
    have := Rd.pure_some ho1
    subst this
    obtain ⟨d, sh2, m, G, q1, q2, _⟩ := look_rep h h1
    refine ⟨c, d, rfl, q1, fun k n hd => ?_⟩
    subst hd
    exact valA_rep q2 rfl

theorem run_bounds_any (isSlice : Bool) {n cap : Nat} {lo hi : Option Operand} {as bs : List A} {ds es : List Dy} {p q : Int} (hlo : BoundOk ρ a lo as)
    (hhi : BoundOk ρ a hi bs)
    (hd : evAs ρ as = some ds) (he : evAs ρ bs = some es) (hb : bounds n lo.isSome hi.isSome (ds ++ es) = some (p, q)) (h0 : 0 ≤ p) (h1 : p ≤ q) (h2 : q ≤ n) (hc : n ≤ cap) :
    (Instr.sliceBounds isSlice n cap (lo.map a.eval) (hi.map a.eval) none).run P w = .ok (p.toNat, q.toNat, cap) w := by
  have hqc : q ≤ (cap : Int) := Int.le_trans h2 (Int.ofNat_le.2 hc)
  cases lo with
  | none =>
    have hlo : as = [] := hlo
    subst hlo
    simp only [evAs, Option.some.injEq] at hd
    subst hd
    cases hi with
    | none =>
      have hhi : bs = [] := hhi
      subst hhi
      simp only [evAs, Option.some.injEq] at he
      subst he
      simp only [bounds, Option.isSome_none, List.append_nil, Option.some.injEq, Prod.mk.injEq] at hb
      obtain ⟨rfl, rfl⟩ := hb
      simp [Instr.sliceBounds]
    | some y =>
      obtain ⟨c, d, rfl, e1, e2⟩ := hhi
      simp only [evAs, e1, Option.some.injEq] at he
      subst he
      obtain ⟨τ, v⟩ := d
      cases τ <;> first | (simp [bounds] at hb; done) | skip
      simp only [bounds, Option.isSome_none, Option.isSome_some, List.nil_append, Option.some.injEq, Prod.mk.injEq] at hb
      obtain ⟨rfl, rfl⟩ := hb
      have hy := e2 _ _ rfl
      simp [Instr.sliceBounds, Instr.sliceBound, hy, asIntOf, h1, hqc]
  | some x =>
    obtain ⟨c, d, rfl, e1, e2⟩ := hlo
    simp only [evAs, e1, Option.some.injEq] at hd
    subst hd
    obtain ⟨τ, u⟩ := d
    cases hi with
    | none =>
      have hhi : bs = [] := hhi
      subst hhi
      simp only [evAs, Option.some.injEq] at he
      subst he
      cases τ <;> first | (simp [bounds] at hb; done) | skip
      simp only [bounds, Option.isSome_none, Option.isSome_some, List.append_nil, Option.some.injEq, Prod.mk.injEq] at hb
      obtain ⟨rfl, rfl⟩ := hb
      have hx := e2 _ _ rfl
      simp [Instr.sliceBounds, Instr.sliceBound, hx, asIntOf, h0, h1]
    | some y =>
      obtain ⟨c', d', rfl, f1, f2⟩ := hhi
      simp only [evAs, f1, Option.some.injEq] at he
      subst he
      obtain ⟨τ', v⟩ := d'
      cases τ <;> first | (simp [bounds] at hb; done) | skip
      cases τ' <;> first | (simp [bounds] at hb; done) | skip
      simp only [bounds, Option.isSome_some, List.cons_append, List.nil_append, Option.some.injEq, Prod.mk.injEq] at hb
      obtain ⟨rfl, rfl⟩ := hb
      have hx := e2 _ _ rfl
      have hy := f2 _ _ rfl
      have hv0 : (0 : Int) ≤ v := Int.le_trans h0 h1
      simp [Instr.sliceBounds, Instr.sliceBound, hx, hy, asIntOf, h0, h1, hv0, hqc, show u ≤ ((v.toNat : Nat) : Int) by rw [Int.toNat_of_nonneg hv0]; exact h1]
      intro hh
      exact absurd (Int.le_trans h1 (Int.le_max_left _ _)) (Int.not_le.2 hh)

theorem bound_of {x : Operand} {c : A} (h : InvG sh0 w0 G0 ρ σ a w sh F β) (ho : look P 0 x σ = some (c, l)) : BoundOk ρ a (some x) [c] := by
  obtain ⟨d, sh2, m, G, q1, q2, _⟩ := look_rep h ho
  refine ⟨c, d, rfl, q1, fun k n hd => ?_⟩
  subst hd
  exact valA_rep q2 rfl

theorem pre_rep {τ : Ty} {xv : D (.sl τ)} {v : Value} {X : List Nat} {q : Nat} (h : ValRep sh w ⟨.sl τ, xv⟩ (.own .sh) v X) (hq : q ≤ List.length xv) :
    ∃ ad cap, v = .slice ad (List.length xv) cap ∧ List.length xv ≤ cap ∧ ValRep sh w ⟨.sl τ, List.take q xv⟩ (.own .sh) (.slice ad q cap) X := by
  obtain ⟨vs, hv, ad, cap, rfl, hc, hr⟩ := h
  have hv : v = .slice ad (List.length xv) cap := hv
  have hlen : List.length (List.take q xv) = q := by rw [List.length_take]; omega
  refine ⟨ad, cap, hv, hc, [.slice ad q cap], rfl, ad, cap, by rw [hlen], by rw [hlen]; exact Nat.le_trans hq hc, ?_⟩
  rcases hr with ⟨h0, h1, h2⟩ | ⟨b, c, ty, fz, F', h1, h2, h3, h4, h5, h6⟩
  · have h0 : xv = [] := h0
    subst h0
    exact .inl ⟨by simp, h1, h2⟩
  · have hF : F' = [] := RepL.empty (fun x vs G h => Rep.sh_nil h) h6
    subst hF
    have hp := RepL.part (fun x vs F h => Rep.len h) 0 q h6
    rw [Nat.mul_zero, List.drop_zero, List.drop_zero, List.take_take, Nat.min_eq_left (Nat.mul_le_mul_left _ hq)] at hp
    exact .inr ⟨b, c, ty, fz, [], h1, h2, h3, h4, h5, by rw [hlen]; exact hp⟩

theorem run_sliced {t : TypeId} {x : Operand} {lo hi : Option Operand} (hop : o.op = .slice t x lo hi none) {e : TypeId} (hel : P.underlying t = some (.slice e)) (v : Value) (hv : (Instr.slice t (a.eval x) (lo.map a.eval) (hi.map a.eval) none).run P w = .ok v w) : (execOp a.eval o).run P w = .ok (.value v) w := by
  unfold execOp
  rw [hop]
  have hsl : (Instr.sliceAt t (a.eval x) (lo.map a.eval) (hi.map a.eval) none).run P w = .ok v w := by
    unfold Instr.sliceAt
    simp only [Sem.run_bind, run_underlying hel, Result.andThen_ok]
    exact hv
  simp only [Sem.run_bind, Option.map_none, hsl, Result.andThen_ok, Sem.run_pure]

theorem elem_under {t e : TypeId} (h : elemOf P t = some e) : P.underlying t = some (.slice e) := by
  unfold elemOf at h
  cases hu : P.underlying t with
  | none => rw [hu] at h; cases h
  | some u => ?_
  rw [hu] at h
  cases u with
  | slice e' => simp at h; rw [h]
  | _ => cases h

theorem sound_pre {t : TypeId} {x : Operand} {lo hi : Option Operand} {nv : Nat} (hlo : lo = none) (h : InvG sh0 w0 G0 ρ σ a w sh F β) (hop : o.op = .slice t x lo hi none)
    (hd : o.dst = some d) (hlt : DstOk σ d) (hs : stPre P nv d t x hi σ = some (st, l)) (he : EmOk Fn ρ nv st.em) : o.wp P a w (Inv sh0 w0 G0 ρ (σ.apply st)) Q := by
  subst hlo
  unfold stPre at hs
  obtain ⟨e, l1, l2, h1, hs1, _⟩ := Rd.bind_some hs
  have hel := elem_under (Rd.ofO_some h1)
  obtain ⟨y, l3, l4, h2, hs2, _⟩ := Rd.bind_some hs1
  have hy := Rd.ofO_some h2
  subst hy
  obtain ⟨j, l5, l6, h3, hs3, _⟩ := Rd.bind_some hs2
  obtain ⟨_, l7, l8, h4, hs4, _⟩ := Rd.bind_some hs3
  have hg := Rd.guard_some h4
  have hg : P.cellsOf e ≠ 0 := by simpa using hg
  obtain ⟨k, l9, l10, h5, hs5, _⟩ := Rd.bind_some hs4
  have hbo : BoundOk ρ a (some y) [j] := bound_of h h3
  have hkm : k.m = .own .sh := by
    cases hq : k.m with
    | own m =>
      cases m with
      | sh => rfl
      | _ => rw [hq] at hs5; cases hs5
    | _ => rw [hq] at hs5; cases hs5
  rw [hkm] at hs5
  · have := Rd.pure_some hs5
    subst this
    obtain ⟨hea, heb⟩ := he.split
    obtain ⟨F', X, d1, hI, e1, r1, tk⟩ := take_rep h h5 hea
    have hmi := takeV_mild h5
    have happ := apply_take (σ := σ) hmi (k.em ++ [.e ⟨.sub (P.cellsOf e) false true, [k.x, j]⟩]) [] [] [(d, .at (.var (nv + emN k.em)) (.own .sh))]
    rw [List.append_nil, List.append_nil] at happ
    rw [happ]
    rw [hkm] at r1
    obtain ⟨dy, k1, k2⟩ := heb.1
    unfold ev at k1
    obtain ⟨ds, hds⟩ : ∃ ds, evAs ρ [k.x, j] = some ds := by
      cases hq : evAs ρ [k.x, j] with
      | none => simp only [hq] at k1; cases k1
      | some ds => exact ⟨ds, rfl⟩
    simp only [hds] at k1
    obtain ⟨d1', r, q1, q2, rfl⟩ := evAs_cons (xs := [j]) hds
    obtain rfl := some_eq e1 q1
    obtain ⟨τ, xv⟩ := d1
    cases τ <;> first | (simp [evX] at k1; done) | skip
    · exfalso
      simp only [evX] at k1
      split at k1
      · split at k1
        · rename_i hc; exact hg hc.1
        · cases k1
      · cases k1
    rename_i τ
    simp only [evX] at k1
    cases hb : bounds (List.length xv) false true r with
    | none => rw [hb] at k1; cases k1
    | some pq => ?_
    obtain ⟨p, q⟩ := pq
    rw [hb] at k1
    dsimp only at k1
    have hp : p = 0 := by
      unfold bounds at hb
      split at hb <;> first | (simp only [Option.some.injEq, Prod.mk.injEq] at hb; exact hb.1.symm) | contradiction
    subst hp
    split at k1
    · rename_i hc
      obtain ⟨hn, _, hp0, hpq, hql⟩ := hc
      simp only [Option.some.injEq] at k1
      subst k1
      obtain ⟨ad, cap, hv, hcap, hrep⟩ := pre_rep (q := q.toNat) r1 (by omega)
      have hbr := run_bounds_any (P := P) (w := w) (a := a) (lo := none) (hi := some y) true (cap := cap) (as := []) (bs := [j]) (ds := []) (es := r) rfl hbo rfl q2 (by simpa using hb) hp0 hpq hql hcap
      refine wp_value (v := .slice ad q.toNat cap) (w' := w) (run_sliced hop hel _ ?_) ?_
      · unfold Instr.slice
        simp only [Sem.run_bind, run_underlying hel, Result.andThen_ok, hv, hbr, run_sizeOf' rfl hg, Sem.run_pure]
        have ha : (ad.map fun x => x.add 0) = ad := by cases ad <;> simp [Addr.add]
        simp [ha]
      · rw [hd]
        have hxx : (List.take q.toNat xv).drop (0 : Int).toNat = List.take q.toNat xv := rfl
        rw [hxx] at k2
        exact hI.putTaken (hlt.take (takeV_tame h5)) (y := .var (nv + emN k.em)) k2 hrep tk.free
    · cases k1

theorem sound_suf {t : TypeId} {x : Operand} {lo hi : Option Operand} {nv : Nat} (hhi : hi = none) (h : InvG sh0 w0 G0 ρ σ a w sh F β) (hop : o.op = .slice t x lo hi none)
    (hd : o.dst = some d) (hlt : DstOk σ d) (hs : stSuf P nv d t x lo σ = some (st, l)) (he : EmOk Fn ρ nv st.em) : o.wp P a w (Inv sh0 w0 G0 ρ (σ.apply st)) Q := by
  subst hhi
  unfold stSuf at hs
  obtain ⟨e, l1, l2, h1, hs1, _⟩ := Rd.bind_some hs
  have hel := elem_under (Rd.ofO_some h1)
  obtain ⟨y, l3, l4, h2, hs2, _⟩ := Rd.bind_some hs1
  have hy := Rd.ofO_some h2
  subst hy
  obtain ⟨c2, l5, l6, h3, hs3, _⟩ := Rd.bind_some hs2
  obtain ⟨_, l7, l8, h4, hs4, _⟩ := Rd.bind_some hs3
  have hg := Rd.guard_some h4
  have hg : P.cellsOf e ≠ 0 := by simpa using hg
  obtain ⟨d2, sqd2, m2, X2, e2, r2, _⟩ := look_rep h h3
  obtain ⟨sv, l9, l10, h5, hs5, _⟩ := Rd.bind_some hs4
  have hbo : BoundOk ρ a (some y) [c2] := bound_of h h3
  have hown : ∀ (b : Bool) (r c : Nat) (v : A) (m : Md), RootIs σ b r c v m →
      HdrIs w β a.tmps F b r c (a.eval x) → rootOk σ (.pel b r c (P.cellsOf e) c2 winK) → roots (.pel b r c (P.cellsOf e) c2 winK) ≠ some (false, d) →
      st = { em := [.e ⟨.idx (P.cellsOf e), [v, c2]⟩], wr := [(d, .pel b r c (P.cellsOf e) c2 winK)] } → o.wp P a w (Inv sh0 w0 G0 ρ (σ.apply st)) Q := by
    intro b r c v m hroot hhdr hro hrt hst
    subst hst
    obtain ⟨d1, G, e1, r1, _⟩ := root_rep h hroot hhdr
    obtain ⟨dy, k1, k2⟩ := he.1
    unfold ev at k1
    simp only [evAs, e1, e2] at k1
    obtain ⟨τ, xs, k, n, yv, rfl, rfl, hm, hn0, hyv, rfl⟩ := idx_inv k1
    obtain ⟨g, cap, ar, ty, fz, G', hv, _, _, _, _⟩ := own_elem r1 hyv
    have hlt' : n.toNat < xs.length := (List.getElem?_eq_some_iff.1 hyv).1
    have hcap : xs.length ≤ cap := by
      obtain ⟨vs, hv2, ad, cap2, rfl, hc, _⟩ := r1
      have hv2 : a.eval x = .slice ad (List.length xs) cap2 := hv2
      rw [hv] at hv2
      simp only [Value.slice.injEq] at hv2
      rw [hv2.2.2]
      exact hc
    have hbr := run_bounds_any (P := P) (w := w) (a := a) (lo := some y) (hi := none) true (n := xs.length) (cap := cap) (as := [c2]) (bs := []) (ds := [⟨.int k, n⟩]) (es := []) (p := n) (q := (xs.length : Nat)) hbo rfl (by simp only [evAs, e2]) rfl rfl hn0 (by omega) (by omega) hcap
    refine sound_ptr (x := x) (r := 0) (f := 0) (f' := 0) h hd hlt (v := .slice (some ⟨g, P.cellsOf e * n.toNat, none⟩) (xs.length - n.toNat) (cap - n.toNat)) (s := .pel b r c (P.cellsOf e) c2 winK)
      ⟨rfl, g, xs.length, cap, k, n, by rw [← hv]; exact hhdr, e2, hn0, hlt', by rw [pelV_win]⟩ hrt hro (hrun := run_sliced hop hel _ ?_)
    unfold Instr.slice
    simp only [Sem.run_bind, run_underlying hel, Result.andThen_ok, hv, hbr, run_sizeOf' rfl hg, Sem.run_pure]
    have hcp : cap ≠ n.toNat := by omega
    simp [hcp, add_off, Nat.mul_comm]
  split at hs5
  · rename_i b r c ln
    obtain ⟨⟨v, m⟩, l11, l12, h6, hs6, _⟩ := Rd.bind_some hs5
    obtain ⟨_, l13, l14, h7, hs7, _⟩ := Rd.bind_some hs6
    have hne := Rd.guard_some h7
    have := Rd.pure_some hs7
    have hroot := rootA_some h6
    obtain ⟨q1, q2⟩ := opnd_rf h h5
    refine hown b r c v m hroot q1 ?_ (fun e => ?_) this.symm
    · exact rootOk_rf q2
    · simp only [roots, Option.some.injEq, Prod.mk.injEq] at e
      obtain ⟨rfl, rfl⟩ := e
      simp at hne
  · rename_i v m
    obtain ⟨s, l11, l12, h6, hs6, _⟩ := Rd.bind_some hs5
    have hx := Rd.ofO_some h6
    have := Rd.pure_some hs6
    cases x with
    | tmp s' =>
      simp only [Option.some.injEq] at hx
      subst hx
      have hsl := Rd.slot_some h5
      obtain ⟨u, hu, _⟩ := h.slot _ _ hsl
      refine hown false s' 0 v m hsl ?_ ?_ (fun e => ?_) this.symm
      · rw [eval_tmp hu]; exact hu
      · simp only [rootOk, hsl, ownSlice]
      · simp only [roots, Option.some.injEq, Prod.mk.injEq, true_and] at e
        subst e
        exact absurd (hlt.at hsl) (by simp)
    | _ => simp at hx
  · cases hs5

theorem sound_sliceF {t : TypeId} {x : Operand} {lo hi : Option Operand} {nv : Nat} (h : InvG sh0 w0 G0 ρ σ a w sh F β) (hop : o.op = .slice t x lo hi none)
    (hd : o.dst = some d) (hlt : DstOk σ d) (hs : stSliceF P nv d t x lo hi σ = some (st, l)) (he : EmOk Fn ρ nv st.em) : o.wp P a w (Inv sh0 w0 G0 ρ (σ.apply st)) Q := by
  unfold stSliceF at hs
  obtain ⟨as, l1, l2, h1, hs1, _⟩ := Rd.bind_some hs
  obtain ⟨bs, l3, l4, h2, hs2, _⟩ := Rd.bind_some hs1
  have hlo := lookO_rep h h1
  have hhi := lookO_rep h h2
  generalize hu : P.underlying t = u at hs2
  have hrun : ∀ v, (Instr.slice t (a.eval x) (lo.map a.eval) (hi.map a.eval) none).run P w = .ok v w → (∀ n e, u ≠ some (.array n e)) → (execOp a.eval o).run P w = .ok (.value v) w := by
    intro v hv hna
    unfold execOp
    rw [hop]
    have hsl : (Instr.sliceAt t (a.eval x) (lo.map a.eval) (hi.map a.eval) none).run P w = .ok v w := by
      unfold Instr.sliceAt
      cases hu' : P.underlying t with
      | none =>
        have := hv
        unfold Instr.slice at this
        simp only [Sem.run_bind] at this
        unfold underlying at this ⊢
        simp [hu'] at this ⊢
      | some ud =>
        simp only [Sem.run_bind, run_underlying hu', Result.andThen_ok]
        cases ud with
        | array n e => exact absurd (hu.symm.trans hu') (hna n e)
        | _ => exact hv
    simp only [Sem.run_bind, Option.map_none, hsl, Result.andThen_ok, Sem.run_pure]
  split at hs2
  · rename_i e
    obtain ⟨k, l5, l6, h3, hs3, _⟩ := Rd.bind_some hs2
    obtain ⟨_, l7, l8, h4, hs4, _⟩ := Rd.bind_some hs3
    have hg := Rd.guard_some h4
    have hg : P.cellsOf e ≠ 0 := by simpa using hg
    have := Rd.pure_some hs4
    subst this
    obtain ⟨hea, heb⟩ := he.split
    obtain ⟨sh1, F1, d1, hI, e1, r1, _, tk⟩ := frz_rep h h3 hea
    have hmi := frzV_mild h3
    have happ := apply_take (σ := σ) hmi (k.em ++ [.e ⟨.sub (P.cellsOf e) lo.isSome hi.isSome, k.x :: as ++ bs⟩]) [] [] [(d, .at (.var (nv + emN k.em)) .sh)]
    rw [List.append_nil, List.append_nil] at happ
    rw [happ]
    refine sound_e (op := .sub (P.cellsOf e) lo.isSome hi.isSome) (args := k.x :: as ++ bs) hI hd (hlt.take (frzV_tame h3)) heb fun ds dy hds hev => ?_
    obtain ⟨d1', r, q1, q2, rfl⟩ := evAs_cons (xs := as ++ bs) hds
    obtain rfl := some_eq e1 q1
    obtain ⟨da, db, rfl, q3, q4⟩ := evAs_split q2
    obtain ⟨τ, xv⟩ := d1
    cases τ <;> first | (simp [evX] at hev; done) | skip
    · exfalso
      simp only [evX] at hev
      split at hev
      · split at hev
        · rename_i hc; exact hg hc.1
        · cases hev
      · cases hev
    rename_i τ
    simp only [evX] at hev
    cases hb : bounds (List.length xv) lo.isSome hi.isSome (da ++ db) with
    | none => rw [hb] at hev; cases hev
    | some pq => ?_
    obtain ⟨p, q⟩ := pq
    rw [hb] at hev
    dsimp only at hev
    split at hev
    · rename_i hc
      obtain ⟨hn, _, hp0, hpq, hql⟩ := hc
      simp only [Option.some.injEq] at hev
      subst hev
      obtain ⟨us, hv, ad, cap, rfl, hcap, _, hr⟩ := r1
      have hv : a.eval x = .slice ad (List.length xv) cap := hv
      have hbr := run_bounds_any (P := P) (w := w) (a := a) true (cap := cap) hlo hhi q3 q4 hb hp0 hpq hql hcap
      refine ⟨.slice (if cap = p.toNat then ad else ad.map (·.add (p.toNat * P.cellsOf e))) (q.toNat - p.toNat) (cap - p.toNat), hrun _ ?_ (by simp), ?_⟩
      · unfold Instr.slice
        simp only [Sem.run_bind, run_underlying hu, Result.andThen_ok, hv, hbr, run_sizeOf' rfl hg, Sem.run_pure]
      · have hlen : List.length ((xv.take q.toNat).drop p.toNat) = q.toNat - p.toNat := by
          simp only [List.length_drop, List.length_take]; omega
        have hcap' : List.length xv ≤ cap := hcap
        refine ⟨_, rfl, _, cap - p.toNat, by rw [hlen], by rw [hlen]; omega, rfl, ?_⟩
        rcases hr with h0 | ⟨b, off, c, ty, fz, rfl, hb', hw, hr⟩
        · have h0 : xv = [] := h0
          subst h0
          exact .inl (by simp)
        · by_cases hemp : q.toNat = p.toNat
          · left
            apply List.eq_nil_of_length_eq_zero
            rw [hlen]; omega
          · right
            have hcp : cap ≠ p.toNat := by omega
            refine ⟨b, off + p.toNat * P.cellsOf e, c, ty, fz, by simp [hcp, add_off], hb', hw, ?_⟩
            have hr : RepL (fun x vs F => Rep sh1 w τ .sh x vs F) xv ((c.toList.drop off).take (τ.n * List.length xv)) [] := hr
            have hpart := RepL.part (fun x vs F h => Rep.len h) p.toNat q.toNat hr
            rw [hlen]
            have : ((c.toList.drop off).take (τ.n * List.length xv)).take (τ.n * q.toNat) = (c.toList.drop off).take (τ.n * q.toNat) := by
              rw [List.take_take, Nat.min_eq_left (Nat.mul_le_mul_left _ (by omega))]
            rw [this] at hpart
            rw [← List.drop_drop, ← hn, Nat.mul_comm p.toNat]
            have h2 : ((c.toList.drop off).take (τ.n * q.toNat)).drop (τ.n * p.toNat) = ((c.toList.drop off).drop (τ.n * p.toNat)).take (τ.n * (q.toNat - p.toNat)) := by
              rw [List.drop_take, Nat.mul_sub]
            rw [h2] at hpart
            exact hpart
    · cases hev
  · obtain ⟨c1, l5, l6, h3, hs3, _⟩ := Rd.bind_some hs2
    have := Rd.pure_some hs3
    subst this
    obtain ⟨d1, sqd1, m1, X1, e1, r1, _⟩ := look_rep h h3
    refine sound_e h hd hlt he fun ds dy hds hev => ?_
    obtain ⟨d1', r, q1, q2, rfl⟩ := evAs_cons (xs := as ++ bs) hds
    obtain rfl := some_eq e1 q1
    obtain ⟨da, db, rfl, q3, q4⟩ := evAs_split q2
    obtain ⟨τ, xv⟩ := d1
    cases τ <;> first | (simp [evX] at hev; done) | skip
    · simp only [evX] at hev
      cases hb : bounds (ByteArray.size xv) lo.isSome hi.isSome (da ++ db) with
      | none => rw [hb] at hev; cases hev
      | some pq => ?_
      obtain ⟨p, q⟩ := pq
      rw [hb] at hev
      dsimp only at hev
      split at hev
      · rename_i hc
        obtain ⟨_, hp0, hpq, hql⟩ := hc
        simp only [Option.some.injEq] at hev
        subst hev
        have hv : a.eval x = .string xv := valA_rep r1 rfl
        have hbr := run_bounds_any (P := P) (w := w) (a := a) false (cap := ByteArray.size xv) hlo hhi q3 q4 hb hp0 hpq hql (Nat.le_refl _)
        refine ⟨.string (xv.extract p.toNat q.toNat), hrun _ ?_ (by simp), valRep_atom ⟨rfl, rfl, rfl⟩⟩
        unfold Instr.slice
        simp only [Sem.run_bind, run_underlying hu, Result.andThen_ok, hv, hbr, Sem.run_pure, Option.isSome_none, Bool.false_eq_true, if_false]
      · cases hev
    · exfalso
      rename_i τ
      simp only [evX] at hev
      split at hev
      · split at hev
        · rename_i hc; exact hc.2.1 rfl
        · cases hev
      · cases hev
  · cases hs2

theorem sound_slice {t : TypeId} {x : Operand} {lo hi : Option Operand} {nv : Nat} (h : InvG sh0 w0 G0 ρ σ a w sh F β) (hop : o.op = .slice t x lo hi none)
    (hd : o.dst = some d) (hlt : DstOk σ d) (hs : stSlice P nv d t x lo hi σ = some (st, l)) (he : EmOk Fn ρ nv st.em) : o.wp P a w (Inv sh0 w0 G0 ρ (σ.apply st)) Q := by
  unfold stSlice at hs
  obtain ⟨n, l1, l2, h1, hs1, _⟩ := Rd.bind_some hs
  have hn : (n = 1 → hi = none) ∧ (n = 2 → lo = none) := by
    unfold winOf at h1
    obtain ⟨b, l3, l4, h2, h3, _⟩ := Rd.bind_some h1
    split at h3
    · have := Rd.pure_some h3
      subst this
      exact ⟨fun e => absurd e (by decide), fun e => absurd e (by decide)⟩
    · obtain ⟨s, l5, l6, h4, h5, _⟩ := Rd.bind_some h3
      have hc : ∀ m : Nat, m = winNo lo hi → (m = 1 → hi = none) ∧ (m = 2 → lo = none) := by
        intro m hm
        unfold winNo at hm
        cases lo <;> cases hi <;> simp at hm <;> subst hm <;> simp
      split at h5
      · exact hc n (Rd.pure_some h5).symm
      · exact hc n (Rd.pure_some h5).symm
      · have := Rd.pure_some h5
        subst this
        exact ⟨fun e => absurd e (by decide), fun e => absurd e (by decide)⟩
  split at hs1
  · exact sound_suf (hn.1 rfl) h hop hd hlt hs1 he
  · exact sound_pre (hn.2 rfl) h hop hd hlt hs1 he
  · exact sound_sliceF h hop hd hlt hs1 he

theorem mnmx_inv {mx : Bool} {d1 d2 dy : Dy} (h : evX (if mx then .mx else .mn) [d1, d2] = some dy) : ∃ (k k' : IntKind) (x y : Int), d1 = ⟨.int k, x⟩ ∧ d2 = ⟨.int k', y⟩ ∧ dy = ⟨.int k, if mx then (if y > x then y else x) else (if y < x then y else x)⟩ := by
  obtain ⟨τ1, x1⟩ := d1
  obtain ⟨τ2, x2⟩ := d2
  cases mx <;> (cases τ1 <;> first | (simp [evX] at h; done) | (cases τ2 <;> first | (simp [evX] at h; done) | skip))
  · simp only [Bool.false_eq_true, if_false, evX, Option.some.injEq] at h
    exact ⟨_, _, x1, x2, rfl, rfl, h.symm⟩
  · simp only [if_true, evX, Option.some.injEq] at h
    exact ⟨_, _, x1, x2, rfl, rfl, h.symm⟩

theorem sound_minmax {mx : Bool} {t u : TypeId} {x y : Operand} {nv : Nat} {c : Call} (h : InvG sh0 w0 G0 ρ σ a w sh F β) (hop : o.op = .call c) (hc : c.callee = .builtin (if mx then .max else .min)) (hx : c.args = ⟨[x, y]⟩)
    (hd : o.dst = some d) (hlt : DstOk σ d) (hs : stE2 P nv d (if mx then .mx else .mn) t x u y σ = some (st, l)) (he : EmOk Fn ρ nv st.em) : o.wp P a w (Inv sh0 w0 G0 ρ (σ.apply st)) Q := by
  unfold stE2 at hs
  obtain ⟨c1, l1, l2, h1, hs1, _⟩ := Rd.bind_some hs
  obtain ⟨c2, l3, l4, h2, hs2, _⟩ := Rd.bind_some hs1
  have := Rd.pure_some hs2
  subst this
  obtain ⟨d1, sqd1, m1, X1, e1, r1, _⟩ := look_rep h h1
  obtain ⟨d2, sqd2, m2, X2, e2, r2, _⟩ := look_rep h h2
  refine sound_e h hd hlt he fun ds dy hds hev => ?_
  obtain ⟨d1', d2', k1, k2, rfl⟩ := evAs2 hds
  obtain rfl := some_eq e1 k1
  obtain rfl := some_eq e2 k2
  obtain ⟨k, k', n, m, rfl, rfl, rfl⟩ := mnmx_inv hev
  have hx' : a.eval x = .int k n := valA_rep r1 rfl
  have hy' : a.eval y = .int k' m := valA_rep r2 rfl
  have hargs : (c.args.map a.eval) = #[.int k n, .int k' m] := by rw [hx]; simp [hx', hy']
  refine ⟨_, ?_, valRep_atom ⟨rfl, rfl, rfl⟩⟩
  unfold execOp
  rw [hop]
  cases mx with
  | false => simp [resolve, hc, invoke, builtin, hargs, Builtin.min_, Builtin.min2]
  | true => simp [resolve, hc, invoke, builtin, hargs, Builtin.max_, Builtin.max2]

end
end Go.Vm
