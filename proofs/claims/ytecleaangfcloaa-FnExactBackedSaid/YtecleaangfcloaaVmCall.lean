/- A call does what its contract says; each operation of a text. Lemmas alone, no statement. -/
import Derived.Test.YtecleaangfcloaaVmNew
namespace Go.Vm
set_option linter.unusedVariables false
set_option linter.unusedSimpArgs false
open Go.RowKit

/-- The arguments' values, which nobody writes. -/
def ArgsRep (sh : Nat → Prop) (w : World) : List Dy → List Value → Prop
  | [], vs => vs = []
  | d :: ds, vs => ∃ v us, vs = v :: us ∧ ValRep sh w d .sh v [] ∧ ArgsRep sh w ds us

/-- The results' values, one behind the other. -/
def ResL (sh : Nat → Prop) (w : World) : List (Ty × Md) → List Dy → List Value → List Nat → Prop
  | [], ds, vs, F => ds = [] ∧ vs = [] ∧ F = []
  | t :: ts, ds, vs, F => ∃ d es v us F1 F2, ds = d :: es ∧ vs = v :: us ∧ F = F1 ++ F2 ∧ d.1 = t.1 ∧ ValRep sh w d t.2 v F1 ∧ ResL sh w ts es us F2

def resVal : List Value → Value
  | [u] => u
  | vs => .tuple vs.toArray

def ResRep (sh : Nat → Prop) (w : World) (rt : List (Ty × Md)) (ds : List Dy) (v : Value) (F : List Nat) : Prop :=
  ∃ vs : List Value, ResL sh w rt ds vs F ∧ v = resVal vs

/-- A function's contract: where its text has an answer, the call returns it; nothing old has turned. -/
def Con (P : Program) (Fn : Fns) (f : Nat) (s : Sig) : Prop :=
  ∀ (w : World) (sh : Nat → Prop) (args : Array Value) (ds rs : List Dy), (∀ b, sh b → b < w.heap.size) → ArgsRep sh w ds args.toList → Fn f ds = some rs →
    Calls P f args w fun e w' => ∃ v sh' Fr, e = .returned v ∧ Ext w w' [] ∧ (∀ b, sh b → sh' b) ∧ (∀ b, sh' b → b < w'.heap.size ∧ (sh b ∨ w.heap.size ≤ b)) ∧
      ResRep sh' w' s.rt rs v Fr ∧ Fr.Nodup ∧ ∀ b ∈ Fr, w.heap.size ≤ b ∧ b < w'.heap.size ∧ ¬ sh' b

section
variable {P : Program} {C : Nat → Option Sig} {Fn : Fns} {sh0 : Nat → Prop} {w0 : World} {G0 : List Nat} {ρ : List Dy} {σ : Sg} {a : Act} {w w' : World}
  {sh sh' : Nat → Prop} {F : Bool → Nat → List Nat} {β : Nat → Nat} {o : Oper} {st : Step} {l : List (Bool × Nat)} {d : Nat} {Q : Exit → Act → World → Prop}

/-- A call has come back. -/
theorem InvG.back (h : InvG sh0 w0 G0 ρ σ a w sh F β) (hE : Ext w w' []) (hs : ∀ b, sh b → sh' b) (hs' : ∀ b, sh' b → b < w'.heap.size ∧ (sh b ∨ w.heap.size ≤ b)) :
    InvG sh0 w0 G0 ρ σ a w' sh' F β :=
  h.turn (L := []) hE (by simp) hs (fun b hb => ⟨(hs' b hb).1, (hs' b hb).2.imp id .inl⟩)

/-- Which blocks a call may take for such that nobody writes. -/
def shCall (any : Bool) (sh : Nat → Prop) (w : World) : Nat → Prop := fun b => bif any then b < w.heap.size else sh b

theorem lookAll_rep {any : Bool} : ∀ {ts : List TypeId} {xs : List Operand} {vs : List A} {l : List (Bool × Nat)}, InvG sh0 w0 G0 ρ σ a w sh F β → lookAll P any ts xs σ = some (vs, l) →
    ∃ ds, evAs ρ vs = some ds ∧ ArgsRep (shCall any sh w) w ds (xs.map a.eval)
  | [], [], vs, l, _, h => by
    have := Rd.pure_some h
    subst this
    exact ⟨[], rfl, rfl⟩
  | t :: ts, x :: xs, vs, l, hI, h => by
    unfold lookAll at h
    obtain ⟨c, l1, l2, h1, hs1, _⟩ := Rd.bind_some h
    obtain ⟨cs, l3, l4, h2, hs2, _⟩ := Rd.bind_some hs1
    have := Rd.pure_some hs2
    subst this
    obtain ⟨ds, e2, r2⟩ := lookAll_rep hI h2
    have h1' : ∃ d, evA ρ c = some d ∧ ValRep (shCall any sh w) w d .sh (a.eval x) [] := by
      cases any with
      | false => exact lookSh_rep hI h1
      | true =>
        obtain ⟨d, sh2, m, G, q1, ⟨us, q2, q3⟩, q4⟩ := look_rep hI h1
        exact ⟨d, q1, us, q2, Rep.freeze (fun b hb => q4 b (.inl hb)) q3 (fun b hb => q4 b (.inr hb))⟩
    obtain ⟨d, e1, r1⟩ := h1'
    exact ⟨d :: ds, by simp [evAs, e1, e2], _, _, rfl, r1, r2⟩
  | [], _ :: _, _, _, _, h => by cases h
  | _ :: _, [], _, _, _, h => by cases h

/-- Where all rows are owned it matters not what nobody writes. -/
theorem noSh_rep {sh2 : Nat → Prop} : ∀ {τ : Ty} {m : Md} {x : D τ} {vs F}, noSh τ m = true → Rep sh w τ m x vs F → Rep sh2 w τ m x vs F
  | .int _, _, _, _, _, _, h => h
  | .bool, _, _, _, _, _, h => h
  | .str, _, _, _, _, _, h => h
  | .unit, _, _, _, _, _, h => h
  | .pair a b, m, x, vs, F, hn, h => by
    simp only [noSh, Bool.and_eq_true] at hn
    obtain ⟨v1, v2, F1, F2, rfl, rfl, h1, h2⟩ := h
    exact ⟨v1, v2, F1, F2, rfl, rfl, noSh_rep hn.1 h1, noSh_rep hn.2 h2⟩
  | .sl e, .sh, x, vs, F, hn, h => by simp [noSh] at hn
  | .sl e, .pair _ _, x, vs, F, hn, h => h.elim
  | .sl e, .own m, x, vs, F, hn, h => by
    obtain ⟨ad, cap, h1, h2, h3⟩ := h
    refine ⟨ad, cap, h1, h2, h3.imp id ?_⟩
    rintro ⟨b, c, ty, fz, F', k1, k2, k3, k4, k5, k6⟩
    exact ⟨b, c, ty, fz, F', k1, k2, k3, k4, k5, RepL.imp k6 (fun x vs G _ h => noSh_rep (by simpa [noSh] using hn) h)⟩

theorem noSh_res {sh2 : Nat → Prop} : ∀ {rt : List (Ty × Md)} {rs : List Dy} {vs : List Value} {X : List Nat}, (rt.all fun x => noSh x.1 x.2) = true → ResL sh w rt rs vs X → ResL sh2 w rt rs vs X
  | [], rs, vs, X, _, h => h
  | t :: rt, rs, vs, X, hn, h => by
    simp only [List.all_cons, Bool.and_eq_true] at hn
    obtain ⟨d, es, v, us, F1, F2, rfl, rfl, rfl, h1, ⟨ws, h4, h5⟩, h3⟩ := h
    exact ⟨d, es, v, us, F1, F2, rfl, rfl, rfl, h1, ⟨ws, h4, noSh_rep (by rw [h1]; exact hn.1) h5⟩, noSh_res hn.2 h3⟩

theorem resL_tup : ∀ {rt : List (Ty × Md)} {rs : List Dy} {vs : List Value} {X : List Nat} (n : Nat), ResL sh w rt rs vs X → ∀ k : Nat,
    (∀ (i : Nat) (r : Dy), rs[i]? = some r → ρ[n + k + i]? = some r) → RepL (one (AtRep sh w ρ)) ((rt.zipIdx k).map fun x => (.var (n + x.2), x.1.2)) vs X
  | [], rs, vs, X, n, h, k, _ => by
    obtain ⟨rfl, rfl, rfl⟩ := h
    exact ⟨rfl, rfl⟩
  | t :: rt, rs, vs, X, n, h, k, hk => by
    obtain ⟨d, es, v, us, F1, F2, rfl, rfl, rfl, h1, h2, h3⟩ := h
    refine ⟨[v], us, F1, F2, rfl, rfl, ⟨v, rfl, d, ?_, h2⟩, ?_⟩
    · have := hk 0 d rfl
      simpa [evA] using this
    · refine resL_tup n h3 (k + 1) (fun i r hr => ?_)
      · have := hk (i + 1) r (by simpa using hr)
        rw [show n + (k + 1) + i = n + k + (i + 1) by omega]
        exact this

theorem ResL.lt : ∀ {rt : List (Ty × Md)} {rs : List Dy} {vs : List Value} {X : List Nat}, ResL sh w rt rs vs X → ∀ b ∈ X, b < w.heap.size
  | [], rs, vs, X, h => by obtain ⟨rfl, rfl, rfl⟩ := h; simp
  | t :: rt, rs, vs, X, h => by
    obtain ⟨d, es, v, us, F1, F2, rfl, rfl, rfl, h1, ⟨vs, _, h2⟩, h3⟩ := h
    intro b hb
    rcases List.mem_append.1 hb with hb | hb
    · exact h2.lt b hb
    · exact ResL.lt h3 b hb

theorem resRep_sv {rt : List (Ty × Md)} {rs : List Dy} {v : Value} {X : List Nat} {n : Nat} (h : ResRep sh w rt rs v X) (hρ : ∀ (i : Nat) (r : Dy), rs[i]? = some r → ρ[n + i]? = some r) : SVRep sh w ρ β a.tmps F (resSV n rt) v X := by
  obtain ⟨vs, hr, rfl⟩ := h
  have htup := resL_tup (ρ := ρ) n hr 0 (by simpa using hρ)
  match rt, rs, hr, htup with
  | [], rs, hr, htup =>
    obtain ⟨rfl, rfl, rfl⟩ := hr
    exact ⟨#[], rfl, rfl, rfl⟩
  | [(τ, m)], rs, hr, htup =>
    obtain ⟨d, es, v, us, F1, F2, rfl, rfl, rfl, h1, h2, rfl, rfl, rfl⟩ := hr
    simp only [List.append_nil]
    exact ⟨d, by have := hρ 0 d rfl; simpa [evA] using this, h2⟩
  | x :: y :: rt, rs, hr, htup =>
    obtain ⟨d, es, v, us, F1, F2, rfl, rfl, rfl, h1, h2, d', es', v', us', F1', F2', rfl, rfl, rfl, hrest⟩ := hr
    exact ⟨_, rfl, htup⟩

theorem resSV_roots (n : Nat) (rt : List (Ty × Md)) (d : Nat) : roots (resSV n rt) ≠ some (false, d) := by
  unfold resSV; split <;> simp [roots]

theorem resSV_ok (n : Nat) (rt : List (Ty × Md)) : rootOk σ (resSV n rt) := by
  unfold resSV; split <;> trivial

theorem run_call {f : Nat} {c : Call} (hop : o.op = .call c) (hc : c.callee = .value (.func f)) (hok : callOk P f = true) :
    (execOp a.eval o).run P w = .ok (.enter f (c.args.map a.eval)) w := by
  unfold callOk at hok
  cases hf : P.funcs[f]? with
  | none => rw [hf] at hok; cases hok
  | some fn => ?_
  rw [hf] at hok
  simp only [Bool.and_eq_true, Bool.not_eq_true'] at hok
  unfold execOp
  rw [hop]
  have hb : ¬ fn.body = none := by
    intro hb
    rw [hb] at hok; simp at hok
  have hname : ¬ fn.name = "runtime.NumGoroutine" := by
    intro hname
    simp [hname] at hok
  simp [resolve, hc, Act.eval, Deferred.ofValue, invoke, callFunc, hf, hb, hname]

theorem sound_call {f : Nat} {ts : List TypeId} {xs : List Operand} {nv : Nat} {c : Call} (h : InvG sh0 w0 G0 ρ σ a w sh F β) (hop : o.op = .call c) (hcal : c.callee = .value (.func f)) (hx : c.args = ⟨xs⟩)
    (hd : o.dst = some d) (hlt : DstOk σ d) (hC : ∀ f s, C f = some s → Con P Fn f s) (hs : stCall P C nv d f ts xs σ = some (st, l)) (he : EmOk Fn ρ nv st.em) :
    o.wp P a w (Inv sh0 w0 G0 ρ (σ.apply st)) Q := by
  unfold stCall at hs
  obtain ⟨s, l1, l2, h1, hs1, _⟩ := Rd.bind_some hs
  have hCf := Rd.ofO_some h1
  obtain ⟨vs, l3, l4, h2, hs2, _⟩ := Rd.bind_some hs1
  obtain ⟨_, l5, l6, h3, hs3, _⟩ := Rd.bind_some hs2
  have hg := Rd.guard_some h3
  have := Rd.pure_some hs3
  subst this
  simp only [Bool.and_eq_true] at hg
  obtain ⟨ds, hds, hrep⟩ := lookAll_rep h h2
  obtain ⟨ds', rs, k1, k2, k3, k4⟩ := he.1
  obtain rfl := some_eq hds k1
  have hcon := hC f s hCf w (shCall (s.rt.all fun x => noSh x.1 x.2) sh w) (c.args.map a.eval) ds rs (fun b hb => by
    unfold shCall at hb
    generalize (s.rt.all fun x => noSh x.1 x.2) = any at hb
    cases any with
    | false => exact h.sh_lt b hb
    | true => exact hb) (by rw [hx]; simpa using hrep) k2
  unfold Oper.wp
  rw [run_call hop hcal hg.2, Oper.upon_enter]
  refine hcon.mono fun e w' hpost => ?_
  obtain ⟨v, sh', Fr, rfl, hE, hs1', hs2', hres, hnd, hfr⟩ := hpost
  rw [hd]
  have hfin : ∀ sh2 : Nat → Prop, (∀ b, sh b → sh2 b) → (∀ b, sh2 b → b < w'.heap.size ∧ (sh b ∨ w.heap.size ≤ b)) → ResRep sh2 w' s.rt rs v Fr → (∀ b ∈ Fr, ¬ sh2 b) → Inv sh0 w0 G0 ρ (σ.putS (d, resSV nv s.rt)) (a.put (some d) v) w' := by
    intro sh2 g1 g2 g3 g4
    have hb := h.back hE g1 g2
    exact ⟨_, _, _, hb.put hlt (resRep_sv g3 k4) (resSV_roots _ _ _) (resSV_ok _ _) hnd (fun b hb' => ⟨.inr (Nat.le_trans h.ext.size (hfr b hb').1), (hfr b hb').2.1, g4 b hb'⟩)
      (fun b hb' k j _ hm => Nat.lt_irrefl _ (Nat.lt_of_lt_of_le (h.own k j b hm).2.1 (hfr b hb').1))⟩
  cases hany : (s.rt.all fun x => noSh x.1 x.2) with
  | false =>
    rw [hany] at hs1' hs2'
    exact hfin sh' hs1' hs2' hres (fun b hb => (hfr b hb).2.2)
  | true =>
    obtain ⟨vs, q1, q2⟩ := hres
    exact hfin sh (fun _ h => h) (fun b hb => ⟨Nat.lt_of_lt_of_le (h.sh_lt b hb) hE.size, .inl hb⟩) ⟨vs, noSh_res hany q1, q2⟩ (fun b hb hs => Nat.lt_irrefl _ (Nat.lt_of_lt_of_le (h.sh_lt b hs) (hfr b hb).1))

end
end Go.Vm
