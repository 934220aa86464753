/- The code, run on names, is the code. Lemmas alone, no statement. -/
import Derived.Test.YtecleaangfcloaaVmCall
import Derived.Test.YtecleaangfcloaaVmRun
namespace Go.Vm
set_option linter.unusedVariables false
set_option linter.unusedSimpArgs false
open Go.RowKit

section
variable {P : Program} {C : Nat → Option Sig} {Fn : Fns} {N : Nat} {sh0 : Nat → Prop} {w0 : World} {G0 : Frm} {ρ δ : List Dy} {σ : Sg} {a : Act} {w w' : World}
  {sh sh' : Nat → Prop} {F : Bool → Nat → List Nat} {β : Nat → Nat} {o : Oper} {st : Step} {l : List (Bool × Nat)} {d : Nat} {Q : Exit → Act → World → Prop}

theorem opStep_sound {dp : Bool} {nv : Nat} (h : InvG sh0 w0 G0 ρ σ a w sh F β) (hC : ∀ f s, C f = some s → Con P Fn f s) (hs : opStep P C dp nv o σ = some (st, l)) (he : EmOk Fn ρ nv st.em) :
    o.wp P a w (Inv sh0 w0 G0 ρ (σ.apply st)) Q := by
  unfold opStep at hs
  have hdst : ∀ {f : Nat → Rd Step} {l : List (Bool × Nat)}, (do f (← dstOf o.dst)) σ = some (st, l) → ∃ d l', o.dst = some d ∧ DstOk σ d ∧ f d σ = some (st, l') := by
    intro f l hf
    obtain ⟨d, l1, l2, h1, h2, _⟩ := Rd.bind_some hf
    obtain ⟨k1, k2⟩ := dstOf_some h1
    exact ⟨d, l2, k1, k2, h2⟩
  generalize hop : o.op = op at hs
  split at hs
  · rename_i x
    obtain ⟨d, l', hd, hlt, hs⟩ := hdst hs
    exact sound_move h hop hd hlt hs he
  · rename_i x
    exact sound_assign h hop hs he
  · rename_i t x
    obtain ⟨d, l', hd, hlt, hs⟩ := hdst hs
    exact sound_box h hop hd hlt hs he
  · rename_i t
    obtain ⟨d, l', hd, hlt, hs⟩ := hdst hs
    exact sound_alloc h hop hd hlt hs
  · rename_i t x
    obtain ⟨d, l', hd, hlt, hs⟩ := hdst hs
    exact sound_load h hop hd hlt hs he
  · rename_i t p x
    obtain ⟨_, l1, l2, h1, hs, _⟩ := Rd.bind_some hs
    have hd := Rd.guard_some h1
    exact sound_store h hop (by simpa using hd) hs he
  · rename_i x
    obtain ⟨d, l', hd, hlt, hs⟩ := hdst hs
    exact sound_nilCheck h hop hd hlt hs
  · rename_i s x f
    obtain ⟨d, l', hd, hlt, hs⟩ := hdst hs
    exact sound_fieldAddr h hop hd hlt hs
  · rename_i t x i
    obtain ⟨d, l', hd, hlt, hs⟩ := hdst hs
    exact sound_indexAddr h hop hd hlt hs he
  · rename_i t x y
    obtain ⟨d, l', hd, hlt, hs⟩ := hdst hs
    exact sound_makeSlice h hop hd hlt hs he
  · rename_i s t x
    obtain ⟨d, l', hd, hlt, hs⟩ := hdst hs
    exact sound_convert h hop hd hlt hs he
  · rename_i bop t x y u
    obtain ⟨d, l', hd, hlt, hs⟩ := hdst hs
    exact sound_bin' h hop hd hlt hs he
  · rename_i uop t x
    obtain ⟨d, l', hd, hlt, hs⟩ := hdst hs
    exact sound_un h hop hd hlt hs he
  · rename_i c x y
    obtain ⟨d, l', hd, hlt, hs⟩ := hdst hs
    exact sound_pick h hop hd hlt hs he
  · rename_i t ps
    obtain ⟨d, l', hd, hlt, hs⟩ := hdst hs
    exact sound_build h hop hd hlt hs he
  · rename_i t n ps
    obtain ⟨d, l', hd, hlt, hs⟩ := hdst hs
    exact sound_buildSlice h hop hd hlt hs he
  · rename_i x y t u
    obtain ⟨_, l1, l2, h1, hs2, _⟩ := Rd.bind_some hs
    clear hs
    have htu := Rd.guard_some h1
    have htu : t = u := by simpa using htu
    subst htu
    obtain ⟨d, l', hd, hlt, hs⟩ := hdst hs2
    exact sound_append h hop rfl rfl rfl hd hlt hs he
  · rename_i x t
    obtain ⟨d, l', hd, hlt, hs⟩ := hdst hs
    exact sound_len h hop rfl rfl rfl hd hlt hs he
  · rename_i c xs ts
    obtain ⟨d, l', hd, hlt, hs⟩ := hdst hs
    exact sound_callV h hop rfl rfl hd hlt hC hs he
  · rename_i g xs
    obtain ⟨d, l', hd, hlt, hs⟩ := hdst hs
    exact sound_makeFunc h hop hd hlt hs
  · rename_i x y t u
    obtain ⟨_, l1, l2, h1, hs2, _⟩ := Rd.bind_some hs
    obtain ⟨d, l', hd, hlt, hs⟩ := hdst hs2
    exact sound_minmax (mx := false) h hop rfl rfl hd hlt hs he
  · rename_i x y t u
    obtain ⟨_, l1, l2, h1, hs2, _⟩ := Rd.bind_some hs
    obtain ⟨d, l', hd, hlt, hs⟩ := hdst hs2
    exact sound_minmax (mx := true) h hop rfl rfl hd hlt hs he
  · rename_i x t
    obtain ⟨_, l1, l2, h1, hs2, _⟩ := Rd.bind_some hs
    have hd := Rd.guard_some h1
    exact sound_clear h hop rfl rfl rfl (by simpa using hd) hs2 he
  · rename_i t x lo hi
    obtain ⟨d, l', hd, hlt, hs⟩ := hdst hs
    exact sound_slice h hop hd hlt hs he
  · rename_i x i
    obtain ⟨d, l', hd, hlt, hs⟩ := hdst hs
    exact sound_extract h hop hd hlt hs
  · cases hs

/-- More names say no less. -/
theorem AtRep.more {x : A × Md} {v : Value} {X : List Nat} (h : AtRep sh w ρ x v X) : AtRep sh w (ρ ++ δ) x v X := by
  obtain ⟨d, h1, h2⟩ := h
  exact ⟨d, evA_append h1, h2⟩

theorem CellRep.more {c : Cell} {v : Value} {X : List Nat} (h : CellRep sh w ρ c v X) : CellRep sh w (ρ ++ δ) c v X := by
  cases c with
  | none => exact h
  | some x => obtain ⟨d, h1, h2⟩ := h; exact ⟨d, evA_append h1, h2⟩

theorem TupRep.more {x : Option (A × Md)} {v : Value} {X : List Nat} (h : TupRep sh w ρ x v X) : TupRep sh w (ρ ++ δ) x v X := by
  cases x with
  | none => exact h
  | some y => exact AtRep.more h

theorem CapsRep.more : ∀ {cs : List Cp} {us : List Value}, CapsRep sh w ρ β cs us → CapsRep sh w (ρ ++ δ) β cs us
  | [], _, h => h
  | c :: cs, us, h => by
    obtain ⟨u, us', rfl, h1, h2⟩ := h
    refine ⟨u, us', rfl, ?_, h2.more⟩
    cases c with
    | ptr r => exact h1
    | psh x => obtain ⟨d, e1, e2⟩ := h1; exact ⟨d, evA_append e1, e2⟩

theorem SVRep.more {s : SV} {v : Value} {X : List Nat} (h : SVRep sh w ρ β a.tmps F s v X) : SVRep sh w (ρ ++ δ) β a.tmps F s v X := by
  cases s with
  | «at» x m => exact AtRep.more h
  | psh x off =>
    obtain ⟨h0, d, b, o, c, ty, fz, h1, h2⟩ := h
    exact ⟨h0, d, b, o, c, ty, fz, evA_append h1, h2⟩
  | tup xs =>
    obtain ⟨vs, hv, hr⟩ := h
    exact ⟨vs, hv, RepL.imp hr (fun x vs G _ hh => by obtain ⟨u, hu, hR⟩ := hh; exact ⟨u, hu, hR.more⟩)⟩
  | undef => exact h
  | void => exact h
  | ptr _ _ => exact h
  | rf _ _ _ ln =>
    refine ⟨h.1, h.2.1, fun z hz => ?_⟩
    obtain ⟨ad, len, cap, e1, e2⟩ := h.2.2 z hz
    exact ⟨ad, len, cap, e1, evA_append e2⟩
  | pel b r c m i f =>
    obtain ⟨h0, g, len, cap, k, n, h1, h2, h3⟩ := h
    exact ⟨h0, g, len, cap, k, n, h1, evA_append h2, h3⟩
  | ea x b r c m i f nn =>
    obtain ⟨h0, ⟨d, sh2, h1, h2⟩, g, len, cap, k, n, cc, ty, fz, e1, e2, e3⟩ := h
    exact ⟨h0, ⟨d, sh2, evA_append h1, h2⟩, g, len, cap, k, n, cc, ty, fz, e1, evA_append e2, e3⟩
  | fn g cs =>
    obtain ⟨h0, us, h1, h2⟩ := h
    exact ⟨h0, us, h1, h2.more⟩
  | ag _ _ _ => exact h
  | tp _ _ => exact h
  | anyb ne x =>
    obtain ⟨h0, b, e, l, h1, h2, h3⟩ := h
    exact ⟨h0, b, e, l, h1, evA_append h2, h3⟩

theorem InvG.more (h : InvG sh0 w0 G0 ρ σ a w sh F β) (δ : List Dy) : InvG sh0 w0 G0 (ρ ++ δ) σ a w sh F β :=
  { h with
    slot := fun i s hi => by
      obtain ⟨v, hv, hr⟩ := h.slot i s hi
      exact ⟨v, hv, hr.more⟩
    box := fun r cs hr => by
      obtain ⟨c, ty, F', h1, h2, h3⟩ := h.box r cs hr
      exact ⟨c, ty, F', h1, h2, RepL.imp h3 (fun x vs G _ hh => by obtain ⟨u, hu, hR⟩ := hh; exact ⟨u, hu, hR.more⟩)⟩
    dec := fun x b hx => evA_append (h.dec x b hx) }

theorem EmOk.more : ∀ {em : List Em} {n : Nat}, EmOk Fn ρ n em → EmOk Fn (ρ ++ δ) n em
  | [], _, _ => trivial
  | .e x :: em, n, h => by
    obtain ⟨⟨d, h1, h2⟩, h3⟩ := h
    exact ⟨⟨d, ev_append h1, by rw [List.getElem?_append_left (List.getElem?_eq_some_iff.1 h2).1]; exact h2⟩, h3.more⟩
  | .call f xs k :: em, n, h => by
    obtain ⟨⟨ds, rs, h1, h2, h3, h4⟩, h5⟩ := h
    exact ⟨⟨ds, rs, evAs_append h1, h2, h3, fun i r hr => by
      have := h4 i r hr
      rw [List.getElem?_append_left (List.getElem?_eq_some_iff.1 this).1]; exact this⟩, h5.more⟩

theorem den_emit : ∀ {em : List Em} {k : IR} {ρ : List Dy} {Ls : List Lb} {r : List Dy}, den Fn N (emit em k) ρ Ls = some r →
    ∃ δ, EmOk Fn (ρ ++ δ) ρ.length em ∧ den Fn N k (ρ ++ δ) Ls = some r ∧ δ.length = emN em
  | [], k, ρ, Ls, r, h => ⟨[], trivial, by simpa [emit] using h, rfl⟩
  | .e x :: em, k, ρ, Ls, r, h => by
    simp only [emit, den] at h
    cases hx : ev ρ x with
    | none => rw [hx] at h; cases h
    | some d =>
      rw [hx] at h
      obtain ⟨δ, h1, h2, h3⟩ := den_emit (em := em) h
      refine ⟨d :: δ, ⟨⟨d, ev_append hx, by simp⟩, ?_⟩, by simpa using h2, by simp [emN, h3]⟩
      simpa using h1
  | .call f xs n :: em, k, ρ, Ls, r, h => by
    simp only [emit, den] at h
    cases hx : evAs ρ xs with
    | none => rw [hx] at h; cases h
    | some ds =>
      rw [hx] at h
      dsimp only at h
      cases hf : Fn f ds with
      | none => rw [hf] at h; cases h
      | some rs =>
        rw [hf] at h
        dsimp only at h
        split at h
        · rename_i hn
          obtain ⟨δ, h1, h2, h3⟩ := den_emit (em := em) h
          refine ⟨rs ++ δ, ⟨⟨ds, rs, evAs_append hx, hf, hn, fun i r hr => ?_⟩, ?_⟩, by simpa using h2, by simp [emN, h3, hn, Nat.add_comm]⟩
          · rw [← List.append_assoc, List.getElem?_append_left (by have := (List.getElem?_eq_some_iff.1 hr).1; simp; omega), List.getElem?_append_right (by omega)]
            simpa using hr
          · simpa [hn] using h1
        · cases h

/-- What comes behind is right. -/
def KOk (P : Program) (Fn : Fns) (N : Nat) (sh0 : Nat → Prop) (w0 : World) (G0 : Frm) (r : List Dy) (ρ0 : List Dy) (Ls : List Lb) (K : Sg → Option IR) (q : Act → World → Prop) : Prop :=
  ∀ (Ls' : List Lb), Ls <+: Ls' → ∀ σ ρ ir a w, ρ0 <+: ρ → K σ = some ir → den Fn N ir ρ Ls' = some r → Inv sh0 w0 G0 ρ σ a w → ρ.length = σ.nv → Ls'.length = σ.nl → q a w

theorem KOk.on {r ρ0 ρ1 : List Dy} {Ls Ls1 : List Lb} {K : Sg → Option IR} {q : Act → World → Prop} (h : KOk P Fn N sh0 w0 G0 r ρ0 Ls K q) (h1 : ρ0 <+: ρ1) (h2 : Ls <+: Ls1) :
    KOk P Fn N sh0 w0 G0 r ρ1 Ls1 K q := fun Ls' hp σ ρ ir a w hρ => h Ls' (h2.trans hp) σ ρ ir a w (h1.trans hρ)

theorem apply_nv (σ : Sg) (st : Step) : (σ.apply st).nv = σ.nv ∧ (σ.apply st).nl = σ.nl := by
  unfold Sg.apply
  have h1 : ∀ (l : List (Nat × Nat)) (σ : Sg), (l.foldl Sg.kill σ).nv = σ.nv ∧ (l.foldl Sg.kill σ).nl = σ.nl := by
    intro l; induction l with
    | nil => intro σ; exact ⟨rfl, rfl⟩
    | cons x l ih => intro σ; exact ih _
  have h2 : ∀ (l : List (Nat × Bx)) (σ : Sg), (l.foldl Sg.putB σ).nv = σ.nv ∧ (l.foldl Sg.putB σ).nl = σ.nl := by
    intro l; induction l with
    | nil => intro σ; exact ⟨rfl, rfl⟩
    | cons x l ih => intro σ; exact ih _
  have h3 : ∀ (l : List (Nat × SV)) (σ : Sg), (l.foldl Sg.putS σ).nv = σ.nv ∧ (l.foldl Sg.putS σ).nl = σ.nl := by
    intro l; induction l with
    | nil => intro σ; exact ⟨rfl, rfl⟩
    | cons x l ih => intro σ; exact ih _
  exact ⟨((h3 _ _).1.trans (h2 _ _).1).trans (h1 _ _).1, ((h3 _ _).2.trans (h2 _ _).2).trans (h1 _ _).2⟩

/-- Slots and boxes alone count. -/
theorem InvG.same {σ τ : Sg} (h : InvG sh0 w0 G0 ρ σ a w sh F β) (h1 : τ.slots = σ.slots) (h2 : τ.boxes = σ.boxes) (h3 : ∀ x b, (x, b) ∈ τ.dec → evA ρ x = some ⟨.bool, b⟩) (h4 : τ.kp = σ.kp := by rfl) (h5 : τ.kb = σ.kb := by rfl) : InvG sh0 w0 G0 ρ τ a w sh F β where
  keep := by rw [h4]; exact h.keep
  keepB := by rw [h5, h2]; exact h.keepB
  defers := h.defers
  size := by rw [h1]; exact h.size
  ext := h.ext
  sh_old := h.sh_old
  sh_lt := h.sh_lt
  sh_new := h.sh_new
  slot := by rw [h1]; exact h.slot
  noslot := by rw [h1]; exact h.noslot
  box := by rw [h2]; exact h.box
  nobox := by rw [h2]; exact h.nobox
  nodup := h.nodup
  own := h.own
  disj := h.disj
  dec := h3
  refs := fun i s hi => by
    have := h.refs i s (by rw [← h1]; exact hi)
    unfold rootOk at this ⊢
    rw [h1, h2]
    exact this

theorem Inv.nv {σ τ : Sg} (h : Inv sh0 w0 G0 ρ σ a w) (h1 : τ.slots = σ.slots) (h2 : τ.boxes = σ.boxes) (h3 : τ.dec = σ.dec) (h4 : τ.kp = σ.kp := by rfl) (h5 : τ.kb = σ.kb := by rfl) : Inv sh0 w0 G0 ρ τ a w := by
  obtain ⟨sh, F, β, h⟩ := h
  exact ⟨sh, F, β, h.same h1 h2 (by rw [h3]; exact h.dec) h4 h5⟩

theorem Inv.say {x : A} {b : Bool} (h : Inv sh0 w0 G0 ρ σ a w) (hx : evA ρ x = some ⟨.bool, b⟩) : Inv sh0 w0 G0 ρ (σ.say x b) a w := by
  obtain ⟨sh, F, β, h⟩ := h
  refine ⟨sh, F, β, h.same rfl rfl ?_⟩
  intro y c hy
  simp only [Sg.say, List.mem_cons] at hy
  rcases hy with hy | hy
  · obtain ⟨rfl, rfl⟩ := Prod.mk.inj hy
    exact hx
  · exact h.dec y c hy

/-- One operation, and what is behind. -/
theorem doOp_sound {dp : Bool} {K : Sg → Option IR} {ir : IR} {Ls : List Lb} {r : List Dy} {q : Act → World → Prop} (hC : ∀ f s, C f = some s → Con P Fn f s) (h : doOp P C dp o K σ = some ir) (hden : den Fn N ir ρ Ls = some r)
    (hI : Inv sh0 w0 G0 ρ σ a w) (hv : ρ.length = σ.nv) (hl : Ls.length = σ.nl) (hK : KOk P Fn N sh0 w0 G0 r ρ Ls K q) : o.wp P a w q Q := by
  unfold doOp at h
  cases hs : opStep P C dp σ.nv o σ with
  | none =>
    rw [hs] at h
    dsimp only at h
    split at h
    · simp only [Option.some.injEq] at h
      subst h
      cases hden
    · cases h
  | some p => ?_
  obtain ⟨st, l⟩ := p
  rw [hs] at h
  dsimp only at h
  cases hk : K { σ.apply st with nv := σ.nv + emN st.em } with
  | none => rw [hk] at h; cases h
  | some ir' => ?_
  rw [hk] at h
  simp only [Option.some.injEq] at h
  subst h
  obtain ⟨δ, hem, hden', hlen⟩ := den_emit hden
  obtain ⟨sh, F, β, hG⟩ := hI
  refine Oper.wp_mono (fun a' w' hI' => ?_) (opStep_sound (hG.more δ) hC hs (by rw [← hv]; exact hem))
  refine hK Ls (List.prefix_refl _) _ _ _ a' w' (List.prefix_append _ _) hk hden' (hI'.nv rfl rfl rfl) (by simp [hlen, hv]) ?_
  rw [hl]
  exact (apply_nv σ st).2.symm

theorem skipB_ok {d : Nat} (h : skipB σ d = true) : DstOk σ d := by
  unfold skipB at h
  rw [getR_eq] at h
  simp only [Bool.and_eq_true, Bool.not_eq_true'] at h
  obtain ⟨hk, h⟩ := h
  cases hs : σ.slots[d]? with
  | none => rw [hs] at h; cases h
  | some s =>
    refine ⟨⟨(List.getElem?_eq_some_iff.1 hs).1, fun x hx => ?_⟩, fun hm => by rw [List.contains_iff_mem.2 hm] at hk; cases hk⟩
    rw [hs] at h hx
    simp only [Option.some.injEq] at hx
    subst hx
    exact h

theorem skipOp_sound {K : Sg → Option IR} {ir : IR} {Ls : List Lb} {r : List Dy} {q : Act → World → Prop} (h : skipOp o K σ = some ir) (hden : den Fn N ir ρ Ls = some r)
    (hI : Inv sh0 w0 G0 ρ σ a w) (hv : ρ.length = σ.nv) (hl : Ls.length = σ.nl) (hK : KOk P Fn N sh0 w0 G0 r ρ Ls K q) : q (a.put o.dst undef) w := by
  unfold skipOp at h
  cases hd : o.dst with
  | none => rw [hd] at h; exact hK Ls (List.prefix_refl _) _ _ _ a w (List.prefix_refl _) h hden hI hv hl
  | some d =>
    rw [hd] at h
    dsimp only at h
    split at h
    · rename_i hlt
      have hlt := skipB_ok hlt
      obtain ⟨sh, F, β, hG⟩ := hI
      exact hK Ls (List.prefix_refl _) _ _ _ _ w (List.prefix_refl _) h hden ⟨_, _, _, hG.put_none (s := .void) hlt ⟨rfl, rfl⟩⟩ hv hl
    · cases h

theorem guardA_rep {ops : Array Oper} {j : Nat} {x : Option A} (h : guardA ops.toList j σ = some x) (hI : Inv sh0 w0 G0 ρ σ a w) :
    match x with
    | none => yielded ops a.tmps j = none
    | some x => ∀ b, evA ρ x = some ⟨.bool, b⟩ → yielded ops a.tmps j = some b := by
  unfold guardA at h
  simp only [getR_eq] at h
  have hj : ops.toList[j]? = ops[j]? := by simp
  rw [hj] at h
  obtain ⟨sh, F, β, hG⟩ := hI
  cases ho : ops[j]? with
  | none => rw [ho] at h; cases h
  | some o => ?_
  rw [ho] at h
  dsimp only at h
  cases hd : o.dst with
  | none => rw [hd] at h; cases h
  | some d => ?_
  rw [hd] at h
  dsimp only at h
  cases hs : σ.slots[d]? with
  | none => rw [hs] at h; cases h
  | some s => ?_
  rw [hs] at h
  obtain ⟨v, hv, hr⟩ := hG.slot d s hs
  unfold yielded
  split at h
  · rename_i c hc
    simp only [Option.some.injEq] at hc h
    subst hc; subst h
    dsimp only
    intro b hb
    obtain ⟨dd, e1, vs, e2, e3⟩ := hr
    obtain rfl := some_eq hb e1
    rw [e3.1] at e2
    simp only [ho, hd, Option.bind_some, hv, e2]
    rfl
  · rename_i hc
    simp only [Option.some.injEq] at hc h
    subst hc; subst h
    dsimp only
    obtain ⟨_, rfl⟩ := hr
    simp only [ho, hd, Option.bind_some, hv]
    rfl
  · cases h

/-- A region, in its own order. -/
theorem sxOps_sound {dp : Bool} {ops : Array Oper} {K : Sg → Option IR} {ρ0 : List Dy} {Ls : List Lb} {r : List Dy} (hC : ∀ f s, C f = some s → Con P Fn f s) (hK : KOk P Fn N sh0 w0 G0 r ρ0 Ls K (Q .normal)) :
    ∀ (rest : List Oper) (k : Nat), (∀ j : Nat, rest[j]? = ops[k + j]?) → KOk P Fn N sh0 w0 G0 r ρ0 Ls (sxOps P C dp ops.toList K rest) (wpOps P ops Q (List.range' k rest.length))
  | [], k, _ => fun Ls' hp σ ρ ir a w hρ h hden hI hv hl => hK Ls' hp σ ρ ir a w hρ h hden hI hv hl
  | o :: rest, k, hr => by
    have ih := sxOps_sound (dp := dp) hC hK rest (k + 1) (fun j => by have := hr (j + 1); rw [List.getElem?_cons_succ] at this; rw [this]; congr 1; omega)
    have ho : ops[k]? = some o := by have := hr 0; simpa using this.symm
    intro Ls' hp σ ρ ir a w hρ h hden hI hv hl
    have ihK : KOk P Fn N sh0 w0 G0 r ρ Ls' (sxOps P C dp ops.toList K rest) (wpOps P ops Q (List.range' (k + 1) rest.length)) := ih.on hρ hp
    rw [List.length_cons, List.range'_succ, wpOps_cons]
    unfold wpOp
    rw [ho]
    dsimp only
    unfold sxOps at h
    cases hg : o.guard with
    | none =>
      rw [hg] at h
      dsimp only at h
      rw [if_pos (by simp [Region.wanted, hg])]
      exact .inl (doOp_sound hC h hden hI hv hl ihK)
    | some p =>
      obtain ⟨j, want⟩ := p
      rw [hg] at h
      dsimp only at h
      cases hx : guardA ops.toList j σ with
      | none => rw [hx] at h; cases h
      | some x => ?_
      rw [hx] at h
      have hy := guardA_rep hx hI
      cases x with
      | none =>
        dsimp only at h hy
        rw [if_neg (by simp [Region.wanted, hg, hy])]
        exact skipOp_sound h hden hI hv hl ihK
      | some x =>
        dsimp only at h hy
        cases hk : known σ x with
        | some b =>
          rw [hk] at h
          dsimp only at h
          obtain ⟨sh, F, β, hG⟩ := id hI
          have hyb := hy b (known_rep hG hk)
          by_cases hb : b = want
          · rw [if_pos (by simpa using hb)] at h
            rw [if_pos (by simp [Region.wanted, hg, hyb, hb])]
            exact .inl (doOp_sound hC h hden hI hv hl ihK)
          · rw [if_neg (by simpa using hb)] at h
            rw [if_neg (by simp [Region.wanted, hg, hyb, hb])]
            exact skipOp_sound h hden hI hv hl ihK
        | none =>
          rw [hk] at h
          dsimp only at h
          cases ht : doOp P C dp o (sxOps P C dp ops.toList K rest) (σ.say x want) with
          | none => rw [ht] at h; cases h
          | some t => ?_
          cases he : skipOp o (sxOps P C dp ops.toList K rest) (σ.say x (!want)) with
          | none => rw [ht, he] at h; cases h
          | some e => ?_
          rw [ht, he] at h
          simp only [Option.some.injEq] at h
          have hden2 : ∃ b, evA ρ x = some ⟨.bool, b⟩ ∧ den Fn N (if b = want then t else e) ρ Ls' = some r := by
            subst h
            cases want with
            | true =>
              simp only [cond_true, den] at hden
              split at hden
              · rename_i b hb
                refine ⟨b, hb, ?_⟩
                cases b <;> simpa using hden
              · cases hden
            | false =>
              simp only [cond_false, den] at hden
              split at hden
              · rename_i b hb
                refine ⟨b, hb, ?_⟩
                cases b <;> simpa using hden
              · cases hden
          obtain ⟨b, hb, hden3⟩ := hden2
          have hyb := hy b hb
          by_cases hbw : b = want
          · subst hbw
            rw [if_pos rfl] at hden3
            rw [if_pos (by simp [Region.wanted, hg, hyb])]
            exact .inl (doOp_sound hC ht hden3 (hI.say hb) hv hl ihK)
          · rw [if_neg hbw] at hden3
            rw [if_neg (by simp [Region.wanted, hg, hyb, hbw])]
            have hb' : b = !want := by cases b <;> cases want <;> simp_all
            subst hb'
            exact skipOp_sound he hden3 (hI.say hb) hv hl ihK

end
end Go.Vm
