/- A region whose order is drawn does the same in every order: the walk. Lemmas alone, no statement. -/
import Derived.Test.YtecleaangfcloaaVmDraw
namespace Go.Vm
set_option linter.unusedVariables false
set_option linter.unusedSimpArgs false
open Go.RowKit

/-- Boxes, and what is kept, are the same. -/
def Same (σ τ : Sg) : Prop := σ.boxes = τ.boxes ∧ σ.kp = τ.kp ∧ σ.kb = τ.kb
theorem Same.refl (σ : Sg) : Same σ σ := ⟨rfl, rfl, rfl⟩
theorem Same.trans {σ τ υ : Sg} (h : Same σ τ) (k : Same τ υ) : Same σ υ := ⟨h.1.trans k.1, h.2.1.trans k.2.1, h.2.2.trans k.2.2⟩
theorem Same.symm {σ τ : Sg} (h : Same σ τ) : Same τ σ := ⟨h.1.symm, h.2.1.symm, h.2.2.symm⟩

section
variable {dp : Bool} {P : Program} {C : Nat → Option Sig} {Fn : Fns} {N : Nat} {sh0 : Nat → Prop} {w0 : World} {G0 : Frm} {ρ δ : List Dy} {σ τ : Sg} {a : Act} {w w' : World}
  {sh sh' : Nat → Prop} {F : Bool → Nat → List Nat} {β : Nat → Nat} {Q : Exit → Act → World → Prop} {ops : Array Oper}

theorem killW_mem {K : List (Nat × Nat)} {x : Nat × SV} (h : x ∈ killW σ K) : x.2 = .undef ∧ ∃ s, σ.slots[x.1]? = some s ∧ ∃ k ∈ K, refers k s = true := by
  unfold killW at h
  split at h
  · simp at h
  · obtain ⟨y, hy, hx⟩ := List.mem_filterMap.1 h
    split at hx
    · rename_i hk
      simp only [Option.some.injEq] at hx
      subst hx
      obtain ⟨k, hk1, hk2⟩ := List.any_eq_true.1 hk
      have := List.mem_zipIdx_iff_getElem?.1 hy
      exact ⟨rfl, y.1, this, k, hk1, hk2⟩
    · cases hx

theorem kills_undef : ∀ (K : List (Nat × Nat)) (σ : Sg) (j : Nat), σ.slots[j]? = some .undef → (K.foldl Sg.kill σ).slots[j]? = some .undef
  | [], _, _, h => h
  | k :: K, σ, j, h => kills_undef K _ j (by
    simp only [Sg.kill, mapR_eq, List.getElem?_map, h, Option.map_some]
    split <;> rfl)

theorem kills_hit : ∀ (K : List (Nat × Nat)) (σ : Sg) (j : Nat) (s : SV), σ.slots[j]? = some s → (∃ k ∈ K, refers k s = true) → (K.foldl Sg.kill σ).slots[j]? = some .undef
  | [], _, _, _, _, h => by obtain ⟨k, hk, _⟩ := h; simp at hk
  | q :: K, σ, j, s, hs, h => by
    rw [List.foldl_cons]
    by_cases hq : refers q s = true
    · refine kills_undef K _ j ?_
      simp only [Sg.kill, mapR_eq, List.getElem?_map, hs, Option.map_some, hq, if_true]
    · refine kills_hit K _ j s ?_ ?_
      · simp only [Sg.kill, mapR_eq, List.getElem?_map, hs, Option.map_some]
        rw [if_neg hq]
      · obtain ⟨k, hk, hr⟩ := h
        rcases List.mem_cons.1 hk with rfl | hk
        · exact absurd hr hq
        · exact ⟨k, hk, hr⟩

/-- What is killed is undefined: to write that is nothing new. -/
theorem killW_same {ς : Sg} {K : List (Nat × Nat)} (B : List (Nat × Bx)) (h : ∀ x ∈ killW σ K, ς.slots[x.1]? = σ.slots[x.1]?) : (killW σ K).foldl Sg.putS (B.foldl Sg.putB (K.foldl Sg.kill ς)) = B.foldl Sg.putB (K.foldl Sg.kill ς) := by
  have hB : ∀ (B : List (Nat × Bx)) (σ : Sg), (B.foldl Sg.putB σ).slots = σ.slots := by intro B; induction B with | nil => intro σ; rfl | cons y B ih => intro σ; exact ih _
  have key : ∀ (L : List (Nat × SV)) (X : Sg), (∀ x ∈ L, x.2 = .undef ∧ X.slots[x.1]? = some .undef) → L.foldl Sg.putS X = X := by
    intro L
    induction L with
    | nil => intro X _; rfl
    | cons x L ih =>
      intro X hX
      obtain ⟨h1, h2⟩ := hX x (by simp)
      have hx : X.putS x = X := by
        obtain ⟨j, s⟩ := x
        dsimp only at h1 h2
        subst h1
        exact putS_same h2
      rw [List.foldl_cons, hx]
      exact ih X (fun y hy => hX y (List.mem_cons_of_mem _ hy))
  refine key _ _ (fun x hx => ?_)
  obtain ⟨h1, s, h2, h3⟩ := killW_mem hx
  refine ⟨h1, ?_⟩
  rw [hB]
  exact kills_hit K ς x.1 s ((h x hx).trans h2) h3

/-- Is the operation wanted? -/
def Wants (ops : Array Oper) (ρ : List Dy) (σ : Sg) (o : Oper) (b : Bool) : Prop :=
  match o.guard with
  | none => b = true
  | some (j, want) => (∃ x bb, guardA ops.toList j σ = some (some x) ∧ evA ρ x = some ⟨.bool, bb⟩ ∧ b = (bb == want)) ∨ (guardA ops.toList j σ = some none ∧ b = false)

def glog (ops : Array Oper) (o : Oper) : List (Bool × Nat) :=
  match o.guard with
  | none => []
  | some (j, _) => guardSlot ops.toList j

def dlog (o : Oper) : List (Bool × Nat) :=
  match o.dst with
  | some d => [(false, d)]
  | none => []

def DecOk (ρ : List Dy) (σ : Sg) : Prop := ∀ x b, (x, b) ∈ σ.dec → evA ρ x = some ⟨.bool, b⟩

def EnOk (P : Program) (C : Nat → Option Sig) (dp : Bool) (Fn : Fns) (ops : Array Oper) (ρ : List Dy) (σ : Sg) (o : Oper) (e : En) : Prop :=
  ∃ σ1 : Sg, σ1.slots = σ.slots ∧ Same σ1 σ ∧ DecOk ρ σ1 ∧
    ((Wants ops ρ σ o true ∧ ∃ nv st l, opStep P C dp nv o σ1 = some (st, l) ∧ EmOk Fn ρ nv st.em ∧ e = enOf σ1 (glog ops o) l st) ∨
     (Wants ops ρ σ o false ∧ e = mkEn σ (dlog o ++ glog ops o) (match o.dst with | some d => [(d, .void)] | none => []) [] [] ∧ ∀ d, o.dst = some d → DstOk σ d))

noncomputable def En.step (σ : Sg) (e : En) : Sg := e.wr.foldl Sg.putS (e.bx.foldl Sg.putB (e.kill.foldl Sg.kill σ))

theorem step_en {ς : Sg} {g l : List (Bool × Nat)} {st : Step} (h : ∀ x ∈ killW σ st.kill, ς.slots[x.1]? = σ.slots[x.1]?) : En.step ς (enOf σ g l st) = ς.apply st := by
  unfold En.step enOf mkEn Sg.apply
  dsimp only
  rw [List.foldl_append, killW_same _ h]

def TrOk (P : Program) (C : Nat → Option Sig) (dp : Bool) (Fn : Fns) (ops : Array Oper) (ρ : List Dy) : List Oper → List En → Sg → Prop
  | [], [], _ => True
  | o :: os, e :: es, σ => EnOk P C dp Fn ops ρ σ o e ∧ TrOk P C dp Fn ops ρ os es (En.step σ e)
  | _, _, _ => False

theorem guardA_same {os : List Oper} {j : Nat} (h : σ.slots = τ.slots) : guardA os j σ = guardA os j τ := by unfold guardA; rw [h]

theorem wants_same {o : Oper} {b : Bool} (h : σ.slots = τ.slots) : Wants ops ρ σ o b = Wants ops ρ τ o b := by
  unfold Wants
  split
  · rfl
  · rw [guardA_same h]

theorem step_same (e : En) {σ τ : Sg} (h1 : σ.slots = τ.slots) (h2 : Same σ τ) : (En.step σ e).slots = (En.step τ e).slots ∧ Same (En.step σ e) (En.step τ e) := by
  have hk : ∀ (l : List (Nat × Nat)) (σ τ : Sg), σ.slots = τ.slots → Same σ τ → (l.foldl Sg.kill σ).slots = (l.foldl Sg.kill τ).slots ∧ Same (l.foldl Sg.kill σ) (l.foldl Sg.kill τ) := by
    intro l; induction l with
    | nil => intro σ τ h1 h2; exact ⟨h1, h2⟩
    | cons x l ih => intro σ τ h1 h2; exact ih _ _ (by simp [Sg.kill, mapR_eq, h1]) ⟨by simp [Sg.kill, h2.1], h2.2.1, h2.2.2⟩
  have hb : ∀ (l : List (Nat × Bx)) (σ τ : Sg), σ.slots = τ.slots → Same σ τ → (l.foldl Sg.putB σ).slots = (l.foldl Sg.putB τ).slots ∧ Same (l.foldl Sg.putB σ) (l.foldl Sg.putB τ) := by
    intro l; induction l with
    | nil => intro σ τ h1 h2; exact ⟨h1, h2⟩
    | cons x l ih => intro σ τ h1 h2; exact ih _ _ (by simp [Sg.putB, setR_eq, h1]) ⟨by simp [Sg.putB, setR_eq, h2.1], h2.2.1, h2.2.2⟩
  have hs : ∀ (l : List (Nat × SV)) (σ τ : Sg), σ.slots = τ.slots → Same σ τ → (l.foldl Sg.putS σ).slots = (l.foldl Sg.putS τ).slots ∧ Same (l.foldl Sg.putS σ) (l.foldl Sg.putS τ) := by
    intro l; induction l with
    | nil => intro σ τ h1 h2; exact ⟨h1, h2⟩
    | cons x l ih => intro σ τ h1 h2; exact ih _ _ (by simp [Sg.putS, setR_eq, h1]) ⟨by simp [Sg.putS, h2.1], h2.2.1, h2.2.2⟩
  obtain ⟨a1, a2⟩ := hk e.kill σ τ h1 h2
  obtain ⟨b1, b2⟩ := hb e.bx _ _ a1 a2
  exact hs e.wr _ _ b1 b2

theorem mkEn_same {l : List (Bool × Nat)} {W : List (Nat × SV)} {B : List (Nat × Bx)} {K : List (Nat × Nat)} (h1 : σ.slots = τ.slots) (h2 : Same σ τ) : mkEn σ l W B K = mkEn τ l W B K := by
  unfold mkEn touchOf
  rw [h1, h2.1]

theorem EnOk.same {o : Oper} {e : En} (h : EnOk P C dp Fn ops ρ σ o e) (h1 : σ.slots = τ.slots) (h2 : Same σ τ) : EnOk P C dp Fn ops ρ τ o e := by
  obtain ⟨σ1, k1, k2, k3, k4⟩ := h
  refine ⟨σ1, k1.trans h1, k2.trans h2, k3, ?_⟩
  rw [wants_same h1, wants_same h1] at k4
  refine k4.imp id (fun k => ⟨k.1, k.2.1.trans (mkEn_same h1 h2), fun d hd => ?_⟩)
  exact ⟨⟨by rw [← h1]; exact (k.2.2 d hd).lt, by rw [← h1]; exact (k.2.2 d hd).free⟩, by rw [← h2.2.1]; exact (k.2.2 d hd).kept⟩

theorem TrOk.same : ∀ {os : List Oper} {es : List En} {σ τ : Sg}, TrOk P C dp Fn ops ρ os es σ → σ.slots = τ.slots → Same σ τ → TrOk P C dp Fn ops ρ os es τ
  | [], [], _, _, _, _, _ => trivial
  | o :: os, e :: es, σ, τ, h, h1, h2 => ⟨h.1.same h1 h2, TrOk.same h.2 (step_same e h1 h2).1 (step_same e h1 h2).2⟩
  | [], _ :: _, _, _, h, _, _ => h.elim
  | _ :: _, [], _, _, h, _, _ => h.elim

theorem DecOk.more (h : DecOk ρ σ) : DecOk (ρ ++ δ) σ := fun x b hx => evA_append (h x b hx)

theorem DecOk.say {x : A} {b : Bool} (h : DecOk ρ σ) (hx : evA ρ x = some ⟨.bool, b⟩) : DecOk ρ (σ.say x b) := by
  intro y c hy
  simp only [Sg.say, List.mem_cons] at hy
  rcases hy with hy | hy
  · obtain ⟨rfl, rfl⟩ := Prod.mk.inj hy
    exact hx
  · exact h y c hy

theorem known_dec (h : DecOk ρ σ) {x : A} {b : Bool} (hk : known σ x = some b) : evA ρ x = some ⟨.bool, b⟩ := by
  have key : ∀ y : A, (σ.dec.find? fun z => z.1 == y).map (·.2) = some b → evA ρ y = some ⟨.bool, b⟩ := by
    intro y hk
    obtain ⟨z, hz, rfl⟩ := Option.map_eq_some_iff.1 hk
    have h1 := List.find?_some hz
    have h2 := List.mem_of_find?_eq_some hz
    have h1 : z.1 = y := by simpa using h1
    subst h1
    exact h z.1 z.2 h2
  cases x with
  | bool c => simp [known] at hk; subst hk; rfl
  | _ => exact key _ hk

/-- What is left behind a drawn region's run. -/
def After (Fn : Fns) (N : Nat) (P : Program) (C : Nat → Option Sig) (dp : Bool) (ops : Array Oper) (K : List En → Sg → Option IR) (T : List En) (rest : List Oper) (σ : Sg) (ρ : List Dy) (Ls : List Lb) (r : List Dy) : Prop :=
  ∃ T' σ' ρ' ir', TrOk P C dp Fn ops ρ' rest T' σ ∧ K (T'.reverse ++ T) σ' = some ir' ∧ den Fn N ir' ρ' Ls = some r ∧ ρ <+: ρ' ∧ ρ'.length = σ'.nv ∧ σ'.nl = σ.nl ∧ DecOk ρ' σ' ∧
    σ'.slots = (T'.foldl En.step σ).slots ∧ Same σ' (T'.foldl En.step σ)

theorem sxOpsT_trace {K : List En → Sg → Option IR} {Ls : List Lb} {r : List Dy} : ∀ (rest : List Oper) (T : List En) (σ : Sg) (ρ : List Dy) (ir : IR), sxOpsT P C dp ops.toList K rest T σ = some ir → den Fn N ir ρ Ls = some r →
    DecOk ρ σ → ρ.length = σ.nv → After Fn N P C dp ops K T rest σ ρ Ls r
  | [], T, σ, ρ, ir, h, hden, hd, hv => ⟨[], σ, ρ, ir, trivial, by simpa [sxOpsT] using h, hden, List.prefix_refl _, hv, rfl, hd, rfl, Same.refl _⟩
  | o :: rest, T, σ, ρ, ir, h, hden, hd, hv => by
    have hfold : ∀ (T' : List En) (σ τ : Sg), σ.slots = τ.slots → Same σ τ → (T'.foldl En.step σ).slots = (T'.foldl En.step τ).slots ∧ Same (T'.foldl En.step σ) (T'.foldl En.step τ) := by
      intro T'; induction T' with
      | nil => intro σ τ h1 h2; exact ⟨h1, h2⟩
      | cons e T' ih => intro σ τ h1 h2; exact ih _ _ (step_same e h1 h2).1 (step_same e h1 h2).2
    -- carried out
    have hdo : ∀ (σ1 : Sg) (ir : IR), σ1.slots = σ.slots → Same σ1 σ → σ1.nv = σ.nv → σ1.nl = σ.nl → DecOk ρ σ1 → Wants ops ρ σ o true → doOpT P C dp o (glog ops o) T (sxOpsT P C dp ops.toList K rest) σ1 = some ir → den Fn N ir ρ Ls = some r →
        After Fn N P C dp ops K T (o :: rest) σ ρ Ls r := by
      intro σ1 ir e1 e2 e3 e4 hd1 hw h hden
      unfold doOpT at h
      cases hs : opStep P C dp σ1.nv o σ1 with
      | none =>
        rw [hs] at h
        dsimp only at h
        split at h
        · simp only [Option.some.injEq] at h
          subst h
          cases hden
        · cases h
      | some p => ?_
      obtain ⟨st, l⟩ := p
      rw [hs] at h
      dsimp only at h
      generalize he : enOf σ1 (glog ops o) l st = e at h
      cases hk : sxOpsT P C dp ops.toList K rest (e :: T) { σ1.apply st with nv := σ1.nv + emN st.em } with
      | none => rw [hk] at h; cases h
      | some ir' => ?_
      rw [hk] at h
      simp only [Option.some.injEq] at h
      subst h
      obtain ⟨δ, hem, hden', hlen⟩ := den_emit hden
      have hdec : (σ1.apply st).dec = σ1.dec := by
        unfold Sg.apply
        have h1 : ∀ (l : List (Nat × Nat)) (σ : Sg), (l.foldl Sg.kill σ).dec = σ.dec := by intro l; induction l with | nil => intro σ; rfl | cons x l ih => intro σ; exact ih _
        have h2 : ∀ (l : List (Nat × Bx)) (σ : Sg), (l.foldl Sg.putB σ).dec = σ.dec := by intro l; induction l with | nil => intro σ; rfl | cons x l ih => intro σ; exact ih _
        have h3 : ∀ (l : List (Nat × SV)) (σ : Sg), (l.foldl Sg.putS σ).dec = σ.dec := by intro l; induction l with | nil => intro σ; rfl | cons x l ih => intro σ; exact ih _
        rw [h3, h2, h1]
      obtain ⟨T', σ', ρ', ir2, k1, k2, k3, k4, k5, k6, k7, k8, k9⟩ := sxOpsT_trace rest (e :: T) _ (ρ ++ δ) ir' hk hden' (fun x b hx => evA_append (hd1 x b (by rw [← hdec]; exact hx))) (by simp [hlen, hv, e3])
      obtain ⟨δ2, rfl⟩ := k4
      have hst : ({ σ1.apply st with nv := σ1.nv + emN st.em } : Sg).slots = (En.step σ e).slots ∧ Same ({ σ1.apply st with nv := σ1.nv + emN st.em } : Sg) (En.step σ e) := by
        subst he
        have h1 := step_same (enOf σ1 (glog ops o) l st) e1 e2
        rw [step_en (fun _ _ => rfl)] at h1
        exact h1
      refine ⟨e :: T', σ', ρ ++ δ ++ δ2, ir2, ⟨⟨σ1, e1, e2, (hd1.more (δ := δ)).more, .inl ⟨?_, σ1.nv, st, l, hs, ?_, he.symm⟩⟩, k1.same hst.1 hst.2⟩, by simpa using k2, k3, ⟨δ ++ δ2, by simp⟩, k5, ?_, k7, ?_, ?_⟩
      · unfold Wants at hw ⊢
        split at hw
        · exact hw
        · rcases hw with ⟨x, bb, q1, q2, q3⟩ | hw
          · exact .inl ⟨x, bb, q1, by rw [List.append_assoc]; exact evA_append q2, q3⟩
          · exact .inr hw
      · rw [e3, ← hv]; exact hem.more
      · rw [k6]
        show (σ1.apply st).nl = σ.nl
        rw [(apply_nv σ1 st).2, e4]
      · rw [k8]; exact (hfold T' _ _ hst.1 hst.2).1
      · exact k9.trans (hfold T' _ _ hst.1 hst.2).2
    -- passed over
    have hskip : ∀ (σ1 : Sg) (ir : IR), σ1.slots = σ.slots → Same σ1 σ → σ1.nv = σ.nv → σ1.nl = σ.nl → DecOk ρ σ1 → Wants ops ρ σ o false → skipOpT o (glog ops o) T (sxOpsT P C dp ops.toList K rest) σ1 = some ir → den Fn N ir ρ Ls = some r →
        After Fn N P C dp ops K T (o :: rest) σ ρ Ls r := by
      intro σ1 ir e1 e2 e3 e4 hd1 hw h hden
      have hfin : ∀ (e : En) (σ2 : Sg), e = mkEn σ (dlog o ++ glog ops o) (match o.dst with | some d => [(d, .void)] | none => []) [] [] → (∀ d, o.dst = some d → DstOk σ d) → σ2.slots = (En.step σ e).slots → Same σ2 (En.step σ e) → σ2.nv = σ1.nv → σ2.nl = σ1.nl → σ2.dec = σ1.dec →
          sxOpsT P C dp ops.toList K rest (e :: T) σ2 = some ir → After Fn N P C dp ops K T (o :: rest) σ ρ Ls r := by
        intro e σ2 he hlt f1 f2 f3 f4 f5 hk
        obtain ⟨T', σ', ρ', ir2, k1, k2, k3, k4, k5, k6, k7, k8, k9⟩ := sxOpsT_trace rest (e :: T) σ2 ρ ir hk hden (fun x b hx => hd1 x b (by rw [← f5]; exact hx)) (by rw [f3, e3]; exact hv)
        obtain ⟨δ, rfl⟩ := k4
        refine ⟨e :: T', σ', ρ ++ δ, ir2, ⟨⟨σ1, e1, e2, hd1.more, .inr ⟨?_, he, hlt⟩⟩, k1.same f1 f2⟩, by simpa using k2, k3, ⟨δ, rfl⟩, k5, by rw [k6, f4, e4], k7, ?_, ?_⟩
        · unfold Wants at hw ⊢
          split at hw
          · exact hw
          · rcases hw with ⟨x, bb, q1, q2, q3⟩ | hw
            · exact .inl ⟨x, bb, q1, evA_append q2, q3⟩
            · exact .inr hw
        · rw [k8]; exact (hfold T' _ _ f1 f2).1
        · exact k9.trans (hfold T' _ _ f1 f2).2
      unfold skipOpT at h
      cases hdst : o.dst with
      | none =>
        rw [hdst] at h
        exact hfin (mkEn σ1 (glog ops o) [] [] []) σ1 (by rw [mkEn_same e1 e2]; simp [dlog, hdst]) (by simp [hdst]) e1 e2 rfl rfl rfl h
      | some d =>
        rw [hdst] at h
        dsimp only at h
        split at h
        · rename_i hlt
          have hlt := skipB_ok hlt
          refine hfin (mkEn σ1 ((false, d) :: glog ops o) [(d, .void)] [] []) (σ1.putS (d, .void)) (by rw [mkEn_same e1 e2]; simp [dlog, hdst]) (fun d' hd' => ?_) ?_ ?_ rfl rfl rfl h
          · rw [hdst] at hd'
            simp only [Option.some.injEq] at hd'
            subst hd'
            exact ⟨⟨by rw [← e1]; exact hlt.lt, by rw [← e1]; exact hlt.free⟩, by rw [← e2.2.1]; exact hlt.kept⟩
          · simp [En.step, mkEn, Sg.putS, setR_eq, e1]
          · exact ⟨by simp [En.step, mkEn, Sg.putS, e2.1], e2.2.1, e2.2.2⟩
        · cases h
    unfold sxOpsT at h
    cases hg : o.guard with
    | none =>
      rw [hg] at h
      dsimp only at h
      exact hdo σ ir rfl ⟨rfl, rfl, rfl⟩ rfl rfl hd (by simp [Wants, hg]) (by simpa [glog, hg] using h) hden
    | some p =>
      obtain ⟨j, want⟩ := p
      rw [hg] at h
      dsimp only at h
      have hgl : glog ops o = guardSlot ops.toList j := by simp [glog, hg]
      rw [← hgl] at h
      cases hx : guardA ops.toList j σ with
      | none => rw [hx] at h; cases h
      | some x => ?_
      rw [hx] at h
      cases x with
      | none => exact hskip σ ir rfl ⟨rfl, rfl, rfl⟩ rfl rfl hd (by unfold Wants; rw [hg]; exact .inr ⟨hx, rfl⟩) h hden
      | some x =>
        dsimp only at h
        cases hk : known σ x with
        | some b =>
          rw [hk] at h
          dsimp only at h
          have hb := known_dec hd hk
          by_cases hbw : b = want
          · rw [if_pos (by simpa using hbw)] at h
            exact hdo σ ir rfl ⟨rfl, rfl, rfl⟩ rfl rfl hd (by unfold Wants; rw [hg]; exact .inl ⟨x, b, hx, hb, by simp [hbw]⟩) h hden
          · rw [if_neg (by simpa using hbw)] at h
            exact hskip σ ir rfl ⟨rfl, rfl, rfl⟩ rfl rfl hd (by unfold Wants; rw [hg]; exact .inl ⟨x, b, hx, hb, by simp [hbw]⟩) h hden
        | none =>
          rw [hk] at h
          dsimp only at h
          cases ht : doOpT P C dp o (glog ops o) T (sxOpsT P C dp ops.toList K rest) (σ.say x want) with
          | none => rw [ht] at h; cases h
          | some t => ?_
          cases he : skipOpT o (glog ops o) T (sxOpsT P C dp ops.toList K rest) (σ.say x (!want)) with
          | none => rw [ht, he] at h; cases h
          | some e => ?_
          rw [ht, he] at h
          simp only [Option.some.injEq] at h
          have hden2 : ∃ b, evA ρ x = some ⟨.bool, b⟩ ∧ den Fn N (if b = want then t else e) ρ Ls = some r := by
            subst h
            cases want with
            | true =>
              simp only [cond_true, den] at hden
              split at hden
              · rename_i b hb
                refine ⟨b, hb, ?_⟩
                cases b <;> simpa using hden
              · cases hden
            | false =>
              simp only [cond_false, den] at hden
              split at hden
              · rename_i b hb
                refine ⟨b, hb, ?_⟩
                cases b <;> simpa using hden
              · cases hden
          obtain ⟨b, hb, hden3⟩ := hden2
          by_cases hbw : b = want
          · subst hbw
            rw [if_pos rfl] at hden3
            exact hdo (σ.say x b) t rfl ⟨rfl, rfl, rfl⟩ rfl rfl (hd.say hb) (by unfold Wants; rw [hg]; exact .inl ⟨x, b, hx, hb, by simp⟩) ht hden3
          · rw [if_neg hbw] at hden3
            have hb' : b = !want := by cases b <;> cases want <;> simp_all
            subst hb'
            exact hskip (σ.say x (!want)) e rfl ⟨rfl, rfl, rfl⟩ rfl rfl (hd.say hb) (by unfold Wants; rw [hg]; exact .inl ⟨x, _, hx, hb, by cases want <;> rfl⟩) he hden3

/-- The state ahead of operation i, in the region's own order. -/
noncomputable def pre (T : List En) (σ : Sg) (i : Nat) : Sg := (T.take i).foldl En.app σ

theorem pre_sel (T : List En) : ∀ (m k : Nat) (σ : Sg), sel (fun j => decide (j < k + m)) k T σ = (T.take m).foldl En.app σ := by
  induction T with
  | nil => intro m k σ; simp [sel]
  | cons e T ih =>
    intro m k σ
    cases m with
    | zero =>
      have := ih 0 (k + 1) σ
      simp only [sel, Nat.add_zero, Nat.lt_irrefl, decide_false, Bool.false_eq_true, if_false, List.take_zero, List.foldl_nil]
      have hfe : sel (fun j => decide (j < k)) (k + 1) T σ = sel (fun j => decide (j < k + 1 + 0)) (k + 1) T σ := by
        have hgen : ∀ (D D' : Nat → Bool) (T : List En) (k : Nat) (σ : Sg), (∀ j, k ≤ j → D j = D' j) → sel D k T σ = sel D' k T σ := by
          intro D D' T
          induction T with
          | nil => intro k σ _; rfl
          | cons e T ih => intro k σ h; simp only [sel, h k (Nat.le_refl _)]; exact ih (k + 1) _ (fun j hj => h j (by omega))
        refine hgen _ _ T (k + 1) σ (fun j hj => ?_)
        have h1 : ¬ j < k := by omega
        have h2 : ¬ j < k + 1 + 0 := by omega
        simp [h1, h2]
      rw [hfe, this]
      rfl
    | succ m =>
      have := ih m (k + 1) (En.app σ e)
      simp only [sel, List.take_succ_cons, List.foldl_cons]
      rw [if_pos (by simp), ← this]
      rw [show k + 1 + m = k + (m + 1) by omega]

theorem pre_eq (T : List En) (σ : Sg) (i : Nat) : sel (fun j => decide (j < i)) 0 T σ = pre T σ i := by
  have := pre_sel T i 0 σ
  simpa [pre] using this

/-- What is killed is written anew. -/
theorem step_app {e : En} {σ : Sg} (h : ∀ k ∈ e.kill, ∀ (q : Nat) (s : SV), σ.slots[q]? = some s → refers k s = false ∨ e.wrs q = true) : En.step σ e = En.app σ e := by
  have hk : ∀ (l : List (Nat × Nat)) (τ : Sg), (∀ k ∈ l, ∀ (q : Nat) (s : SV), τ.slots[q]? = some s → refers k s = false ∨ e.wrs q = true) →
      ∃ S : List SV, l.foldl Sg.kill τ = { τ with slots := S } ∧ S.length = τ.slots.length ∧ ∀ q, S[q]? = τ.slots[q]? ∨ e.wrs q = true := by
    intro l
    induction l with
    | nil => intro τ _; exact ⟨τ.slots, rfl, rfl, fun _ => .inl rfl⟩
    | cons k l ih =>
      intro τ h
      have h1 : ∀ (q : Nat), (τ.kill k).slots[q]? = τ.slots[q]? ∨ e.wrs q = true := by
        intro q
        simp only [Sg.kill, mapR_eq, List.getElem?_map]
        cases hs : τ.slots[q]? with
        | none => exact .inl rfl
        | some s =>
          rcases h k (by simp) q s hs with h2 | h2
          · left; simp [h2]
          · exact .inr h2
      obtain ⟨S, e1, e2, e3⟩ := ih (τ.kill k) (fun k' hk' q s hs => by
        rcases h1 q with h2 | h2
        · exact h k' (List.mem_cons_of_mem _ hk') q s (by rw [← h2]; exact hs)
        · exact .inr h2)
      refine ⟨S, by rw [List.foldl_cons, e1]; rfl, by rw [e2]; simp [Sg.kill, mapR_eq], fun q => ?_⟩
      rcases e3 q with h2 | h2
      · rcases h1 q with h3 | h3
        · exact .inl (h2.trans h3)
        · exact .inr h3
      · exact .inr h2
  obtain ⟨S, e1, e2, e3⟩ := hk e.kill σ h
  unfold En.step En.app
  rw [e1]
  -- the same, slot for slot
  have hb : ∀ (B : List (Nat × Bx)) (σ : Sg) (S : List SV), B.foldl Sg.putB { σ with slots := S } = { B.foldl Sg.putB σ with slots := S } := by
    intro B; induction B with
    | nil => intro σ S; rfl
    | cons x B ih => intro σ S; exact ih (σ.putB x) S
  have hs : ∀ (W : List (Nat × SV)) (σ : Sg) (S : List SV), W.foldl Sg.putS { σ with slots := S } = { W.foldl Sg.putS σ with slots := (W.foldl Sg.putS { σ with slots := S }).slots } := by
    intro W; induction W with
    | nil => intro σ S; rfl
    | cons x W ih =>
      intro σ S
      rw [List.foldl_cons, List.foldl_cons]
      exact ih (σ.putS x) (setR S x.1 x.2)
  rw [hb, hs]
  have hsl : (e.wr.foldl Sg.putS { e.bx.foldl Sg.putB σ with slots := S }).slots = (e.wr.foldl Sg.putS (e.bx.foldl Sg.putB σ)).slots := by
    have hB : (e.bx.foldl Sg.putB σ).slots = σ.slots := (foldl_putB e.bx σ).1
    obtain ⟨_, l1, g1⟩ := foldl_putS e.wr { e.bx.foldl Sg.putB σ with slots := S }
    obtain ⟨_, l2, g2⟩ := foldl_putS e.wr (e.bx.foldl Sg.putB σ)
    have hlen : S.length = (e.bx.foldl Sg.putB σ).slots.length := by rw [hB, e2]
    apply List.ext_getElem?
    intro q
    by_cases hq : q < S.length
    · rw [g1 q hq, g2 q (by rw [← hlen]; exact hq)]
      rcases e3 q with h3 | h3
      · show _ = Option.or _ ((e.bx.foldl Sg.putB σ).slots[q]?)
        rw [hB]
        show Option.or _ S[q]? = _
        rw [h3]
      · have := wrs_wS.1 h3
        unfold En.wS at this
        cases hf : (e.wr.reverse.find? fun x => x.1 == q).map (·.2) with
        | none => exact absurd hf this
        | some z => rfl
    · have hq1 : S.length ≤ q := by omega
      have l1' : (e.wr.foldl Sg.putS { e.bx.foldl Sg.putB σ with slots := S }).slots.length = S.length := l1
      rw [List.getElem?_eq_none (by omega), List.getElem?_eq_none (by rw [l2, ← hlen]; exact hq1)]
  rw [hsl]

/-- No slot leans on what the operation makes anew, but such as it writes itself. -/
theorem no_refer {T : List En} {σ0 : Sg} (hO : Ordered ops.toList σ0 T) {D : Nat → Bool} {i : Nat} {e : En} (he : T[i]? = some e)
    (hD : ∀ j, D j = true → j ≠ i ∧ ¬ An ops.toList i j) (hB : ∀ j, An ops.toList j i → D j = true) : ∀ k ∈ e.kill, ∀ (q : Nat) (s : SV), (sel D 0 T σ0).slots[q]? = some s → refers k s = false ∨ e.wrs q = true := by
  intro k hk j s hj
  obtain ⟨h1, h2, h3, h4⟩ := sel_spec D T 0 σ0
  have hlt : j < σ0.slots.length := by rw [← h1]; exact (List.getElem?_eq_some_iff.1 hj).1
  rw [h3 j hlt] at hj
  cases hl : lastS D j 0 T with
  | none =>
    rw [hl] at hj
    simp only [Option.none_or] at hj
    rcases hO.kill0 i e he k hk j s hj with h | h | ⟨y, ey, k1, k2, k3⟩
    · exact .inl h
    · exact .inr h
    · exfalso
      have := lastS_last.lastS_none hl y ey k1 (by rw [Nat.zero_add]; exact hB y k2)
      exact wrs_wS.1 k3 this
  | some s' =>
    rw [hl] at hj
    simp only [Option.some_or, Option.some.injEq] at hj
    subst hj
    obtain ⟨m, b, hb, hDm, hw, hlast⟩ := lastS_last hl
    rw [Nat.zero_add] at hDm
    obtain ⟨n1, n2⟩ := hD m hDm
    rcases hO.kill i m e b he hb k hk with h | h | h
    · exact absurd h n1
    · exact absurd h n2
    · rcases h _ hw with h | h | ⟨z, ez, k1, k2, k3, k4⟩
      · exact .inl h
      · exact .inr h
      · exfalso
        have := hlast z ez k2 k1 (by rw [Nat.zero_add]; exact hB z k3)
        exact wrs_wS.1 k4 this

theorem trOk_get {T : List En} {σ0 : Sg} (hO : Ordered ops.toList σ0 T) (h : TrOk P C dp Fn ops ρ ops.toList T σ0) : ∀ (i : Nat), i ≤ T.length →
    TrOk P C dp Fn ops ρ (ops.toList.drop i) (T.drop i) (pre T σ0 i)
  | 0, _ => by simpa [pre] using h
  | i + 1, hi => by
    have ih := trOk_get hO h i (by omega)
    have hlt : i < T.length := by omega
    have hlo : i < ops.toList.length := by rw [← hO.len]; exact hlt
    rw [List.drop_eq_getElem_cons hlt, List.drop_eq_getElem_cons hlo] at ih
    have hst : En.step (pre T σ0 i) T[i] = pre T σ0 (i + 1) := by
      rw [step_app]
      · unfold pre
        rw [List.take_add_one, List.getElem?_eq_getElem hlt, List.foldl_append]
        rfl
      · rw [← pre_eq]
        refine no_refer hO (i := i) (List.getElem?_eq_getElem hlt) (fun j hj => ?_) (fun j hj => ?_)
        · have hj : j < i := by simpa using hj
          refine ⟨by omega, fun hc => ?_⟩
          have := (ancs_in hO (D := fun _ => true) (fun _ _ _ _ _ _ _ => rfl) (j := j) (by omega) (fun _ _ _ _ _ => rfl) hc).2
          omega
        · have := (ancs_in hO (D := fun _ => true) (fun _ _ _ _ _ _ _ => rfl) (j := i) (by omega) (fun _ _ _ _ _ => rfl) hj).2
          simpa using this
    rw [← hst]
    exact ih.2

theorem trOk_at {T : List En} {σ0 : Sg} (hO : Ordered ops.toList σ0 T) (h : TrOk P C dp Fn ops ρ ops.toList T σ0) {i : Nat} {o : Oper} {e : En} (ho : ops[i]? = some o) (he : T[i]? = some e) :
    EnOk P C dp Fn ops ρ (pre T σ0 i) o e := by
  have hlt := (List.getElem?_eq_some_iff.1 he).1
  have := trOk_get hO h i (by omega)
  have hlo : i < ops.toList.length := by rw [← hO.len]; exact hlt
  rw [List.drop_eq_getElem_cons hlt, List.drop_eq_getElem_cons hlo] at this
  have e1 : T[i] = e := (List.getElem?_eq_some_iff.1 he).2
  have e2 : ops.toList[i] = o := by
    have h2 : ops.toList[i]? = some o := by simpa using ho
    exact (List.getElem?_eq_some_iff.1 h2).2
  rw [e1, e2] at this
  exact this.1

theorem app_kpb (e : En) (σ : Sg) : (En.app σ e).kp = σ.kp ∧ (En.app σ e).kb = σ.kb := by
  unfold En.app
  have h1 : ∀ (W : List (Nat × SV)) (σ : Sg), (W.foldl Sg.putS σ).kp = σ.kp ∧ (W.foldl Sg.putS σ).kb = σ.kb := by
    intro W; induction W with
    | nil => intro σ; exact ⟨rfl, rfl⟩
    | cons y W ih => intro σ; exact ih _
  have h3 : ∀ (B : List (Nat × Bx)) (σ : Sg), (B.foldl Sg.putB σ).kp = σ.kp ∧ (B.foldl Sg.putB σ).kb = σ.kb := by
    intro W; induction W with
    | nil => intro σ; exact ⟨rfl, rfl⟩
    | cons y W ih => intro σ; exact ih _
  exact ⟨(h1 _ _).1.trans (h3 _ _).1, (h1 _ _).2.trans (h3 _ _).2⟩
theorem sel_kpb (D : Nat → Bool) : ∀ (T : List En) (k : Nat) (σ : Sg), (sel D k T σ).kp = σ.kp ∧ (sel D k T σ).kb = σ.kb
  | [], _, _ => ⟨rfl, rfl⟩
  | e :: es, k, σ => by
    unfold sel
    obtain ⟨h1, h2⟩ := sel_kpb D es (k + 1) (if D k then En.app σ e else σ)
    split at h1
    · rename_i hd
      rw [if_pos hd] at h2 ⊢
      exact ⟨h1.trans (app_kpb e σ).1, h2.trans (app_kpb e σ).2⟩
    · rename_i hd
      rw [if_neg hd] at h2 ⊢
      exact ⟨h1, h2⟩

theorem sg_ext {σ τ : Sg} (h1 : σ.slots.length = τ.slots.length) (h2 : σ.boxes.length = τ.boxes.length) (h3 : ∀ i, i < σ.slots.length → σ.slots[i]? = τ.slots[i]?) (h4 : ∀ i, i < σ.boxes.length → σ.boxes[i]? = τ.boxes[i]?)
    (h5 : σ.kp = τ.kp ∧ σ.kb = τ.kb) : σ.slots = τ.slots ∧ Same σ τ := by
  refine ⟨List.ext_getElem? fun i => ?_, List.ext_getElem? fun i => ?_, h5⟩
  · by_cases hi : i < σ.slots.length
    · exact h3 i hi
    · rw [List.getElem?_eq_none (by omega), List.getElem?_eq_none (by omega)]
  · by_cases hi : i < σ.boxes.length
    · exact h4 i hi
    · rw [List.getElem?_eq_none (by omega), List.getElem?_eq_none (by omega)]

/-- Which operations have come, that are closed. -/
structure Closed (ops : Array Oper) (D : Nat → Bool) : Prop where
  lt : ∀ j, D j = true → j < ops.size
  cl : ∀ (j : Nat) (o : Oper), ops.toList[j]? = some o → D j = true → ∀ e ∈ o.after.toList, Region.binds .any e = true → D e.on = true

theorem ocSame_eq : ∀ {x y : Option (A × Md)}, ocSame x y = true → x = y
  | none, none, _ => rfl
  | some (x, m), some (y, m'), h => by
    simp only [ocSame, Bool.and_eq_true] at h
    rw [A.same_eq h.1, Md.same_eq h.2]
  | none, some _, h => by simp [ocSame] at h
  | some _, none, h => by simp [ocSame] at h

theorem mem_allF {k : Bool} {r c : Nat} (hc : c < 64) : (k, Rd.fineC r c) ∈ allF k r := List.mem_map.2 ⟨c, List.mem_range.2 hc, rfl⟩

theorem diffF_spec {k : Bool} {r c : Nat} {xs ys : List (Option (A × Md))} (hc : c < 64) (h : (k, Rd.fineC r c) ∉ diffF k r xs ys) : xs[c]? = ys[c]? := by
  unfold diffF at h
  split at h
  · rename_i hl
    have hl : xs.length = ys.length := Nat.eq_of_beq_eq_true hl
    by_cases hx : c < xs.length
    · have hy : c < ys.length := by omega
      have hz : (List.zipWith ocSame xs ys)[c]? = some (ocSame xs[c] ys[c]) := by
        rw [List.getElem?_zipWith, List.getElem?_eq_getElem hx, List.getElem?_eq_getElem hy]
      cases hb : ocSame xs[c] ys[c] with
      | true => rw [List.getElem?_eq_getElem hx, List.getElem?_eq_getElem hy, ocSame_eq hb]
      | false =>
        rw [hb] at hz
        exact (h (List.mem_filterMap.2 ⟨((false, c) : Bool × Nat), zip_mem hz, rfl⟩)).elim
    · rw [List.getElem?_eq_none (by omega), List.getElem?_eq_none (by omega)]
  · exact absurd (mem_allF hc) h

theorem wB_mem {e : En} {r : Nat} {b : Bx} (h : e.wB r = some b) : (r, b) ∈ e.bx := by
  unfold En.wB at h
  obtain ⟨y, hy, rfl⟩ := Option.map_eq_some_iff.1 h
  have h1 := List.find?_some hy
  have h2 := List.mem_of_find?_eq_some hy
  have h1 : y.1 = r := by simpa using h1
  subst h1
  simpa using h2

theorem wS_mem {e : En} {r : Nat} {b : SV} (h : e.wS r = some b) : (r, b) ∈ e.wr := by
  unfold En.wS at h
  obtain ⟨y, hy, rfl⟩ := Option.map_eq_some_iff.1 h
  have h1 := List.find?_some hy
  have h2 := List.mem_of_find?_eq_some hy
  have h1 : y.1 = r := by simpa using h1
  subst h1
  simpa using h2

/-- What is not touched is as it was. -/
theorem touch_cel {e : En} (h : e.touch = touchOf σ e.wr e.bx) {r c : Nat} (hc : c < 64) (hn : (true, Rd.fineC r c) ∉ e.touch) : celAt (En.app σ e) r c = celAt σ r c := by
  obtain ⟨a1, a2, a3, a4⟩ := app_spec e σ
  unfold celAt
  by_cases hr : r < σ.boxes.length
  · rw [a4 r hr]
    cases hw : e.wB r with
    | none => rfl
    | some b =>
      rw [Option.some_or]
      have hn2 : (true, Rd.fineC r c) ∉ touchB (getR σ.boxes r) r b := fun hm => hn (by
        rw [h]
        exact List.mem_append_right _ (List.mem_flatMap.2 ⟨(r, b), wB_mem hw, hm⟩))
      rw [getR_eq] at hn2
      unfold touchB at hn2
      split at hn2
      · rename_i xs ys ho
        rw [ho]
        simp only [Option.map_some, celV, Option.some.injEq]
        exact (diffF_spec hc hn2).symm
      · exact absurd (mem_allF hc) hn2
  · rw [List.getElem?_eq_none (by omega), List.getElem?_eq_none (by omega)]

theorem tupV_not {c : Nat} {s : SV} (h : s.isTup = false) : tupV c s = none := by
  cases s <;> first | rfl | simp [SV.isTup] at h

theorem touch_tup {e : En} (h : e.touch = touchOf σ e.wr e.bx) {r c : Nat} (hc : c < 64) (hn : (false, Rd.fineC r c) ∉ e.touch) : tupAt (En.app σ e) r c = tupAt σ r c := by
  obtain ⟨a1, a2, a3, a4⟩ := app_spec e σ
  unfold tupAt
  by_cases hr : r < σ.slots.length
  · rw [a3 r hr]
    cases hw : e.wS r with
    | none => rfl
    | some b =>
      rw [Option.some_or]
      have hn2 : (false, Rd.fineC r c) ∉ touchS (getR σ.slots r) r b := fun hm => hn (by
        rw [h]
        exact List.mem_append_left _ (List.mem_flatMap.2 ⟨(r, b), wS_mem hw, hm⟩))
      rw [getR_eq] at hn2
      cases ho : σ.slots[r]? with
      | none => rw [List.getElem?_eq_none_iff] at ho; omega
      | some t =>
        rw [ho] at hn2
        by_cases hb : (t.isTup || b.isTup) = true
        · by_cases hbb : t.isTup = true ∧ b.isTup = true
          · cases t with
            | tup xs => cases b with
              | tup ys =>
                simp only [Option.map_some, tupV, Option.some.injEq]
                exact (diffF_spec hc hn2).symm
              | _ => simp [SV.isTup] at hbb
            | _ => simp [SV.isTup] at hbb
          · exfalso
            have : touchS (some t) r b = allF false r := by
              cases t <;> cases b <;> first | rfl | simp [SV.isTup] at hb hbb
            rw [this] at hn2
            exact absurd (mem_allF hc) hn2
        · simp only [Bool.or_eq_true, not_or, Bool.not_eq_true] at hb
          simp only [Option.map_some, tupV_not hb.1, tupV_not hb.2]
  · rw [List.getElem?_eq_none (by omega), List.getElem?_eq_none (by omega)]

theorem EnOk.touched {o : Oper} {e : En} (h : EnOk P C dp Fn ops ρ σ o e) : e.touch = touchOf σ e.wr e.bx := by
  obtain ⟨σ1, k1, k2, k3, k4⟩ := h
  rcases k4 with ⟨_, nv, st, l, _, _, rfl⟩ | ⟨_, rfl, _⟩
  · unfold enOf mkEn touchOf
    rw [k1, k2.1]
  · rfl

theorem sel_snoc (D : Nat → Bool) (e : En) : ∀ (T : List En) (k : Nat) (σ : Sg), sel D k (T ++ [e]) σ = if D (k + T.length) then En.app (sel D k T σ) e else sel D k T σ
  | [], k, σ => by simp [sel]
  | x :: T, k, σ => by
    simp only [List.cons_append, sel, List.length_cons]
    rw [sel_snoc D e T (k + 1) _, show k + 1 + T.length = k + (T.length + 1) by omega]

/-- The writers that have come are the same up to a place; what comes behind does not touch what is looked at. -/
theorem fine_core {X Y : Type} (get : Sg → X) (obs : X → Y) (T : List En) (σ0 : Sg) (D D' : Nat → Bool) (wr : Nat → Bool)
    (hno : ∀ m e σ, T[m]? = some e → wr m = false → get (En.app σ e) = get σ)
    (hwr : ∀ m e (D1 D2 : Nat → Bool), T[m]? = some e → wr m = true → get (En.app (sel D1 0 (T.take m) σ0) e) = get (En.app (sel D2 0 (T.take m) σ0) e))
    (h1 : ∀ m, m < T.length → wr m = true → D m = true → D' m = false → get (sel D 0 (T.take m) σ0) = get (pre T σ0 m))
    (h2 : ∀ m, m < T.length → wr m = true → D' m = true → D m = false → get (sel D' 0 (T.take m) σ0) = get (pre T σ0 m))
    (htch : ∀ m e, T[m]? = some e → wr m = true → D m ≠ D' m → obs (get (En.app (pre T σ0 m) e)) = obs (get (pre T σ0 m))) :
    ∀ m, m ≤ T.length → obs (get (sel D 0 (T.take m) σ0)) = obs (get (sel D' 0 (T.take m) σ0))
  | 0, _ => by simp [sel]
  | m + 1, hm => by
    have ih := fine_core get obs T σ0 D D' wr hno hwr h1 h2 htch m (by omega)
    have hlt : m < T.length := by omega
    have he : T[m]? = some T[m] := List.getElem?_eq_getElem hlt
    have hlen : (T.take m).length = m := by rw [List.length_take]; omega
    rw [List.take_add_one, he, Option.toList_some, sel_snoc, sel_snoc, hlen, Nat.zero_add]
    have hpre : pre T σ0 m = sel (fun j => decide (j < m)) 0 (T.take m) σ0 := by
      have := pre_eq (T.take m) σ0 m
      rw [this]
      unfold pre
      rw [List.take_take, Nat.min_self]
    cases hw : wr m with
    | false =>
      have k1 : get (if D m then En.app (sel D 0 (T.take m) σ0) T[m] else sel D 0 (T.take m) σ0) = get (sel D 0 (T.take m) σ0) := by
        split
        · exact hno m _ _ he hw
        · rfl
      have k2 : get (if D' m then En.app (sel D' 0 (T.take m) σ0) T[m] else sel D' 0 (T.take m) σ0) = get (sel D' 0 (T.take m) σ0) := by
        split
        · exact hno m _ _ he hw
        · rfl
      rw [k1, k2]; exact ih
    | true =>
      cases hD : D m with
      | true =>
        cases hD' : D' m with
        | true =>
          simp only [if_true]
          rw [hwr m _ D D' he hw]
        | false =>
          simp only [if_true, Bool.false_eq_true, if_false]
          rw [← ih, h1 m hlt hw hD hD', hwr m _ D (fun j => decide (j < m)) he hw, ← hpre]
          exact htch m _ he hw (by rw [hD, hD']; simp)
      | false =>
        cases hD' : D' m with
        | true =>
          simp only [if_true, Bool.false_eq_true, if_false]
          rw [ih, h2 m hlt hw hD' hD, hwr m _ D' (fun j => decide (j < m)) he hw, ← hpre]
          exact (htch m _ he hw (by rw [hD, hD']; simp)).symm
        | false =>
          simp only [Bool.false_eq_true, if_false]
          exact ih

/-- What is read of a box's cell, of a tuple's component, is the same. -/
theorem sees_fine {T : List En} {σ0 : Sg} (hO : Ordered ops.toList σ0 T) (hT : TrOk P C dp Fn ops ρ ops.toList T σ0) {D : Nat → Bool} (hD : Closed ops D) {i : Nat}
    {k : Bool} {r c : Nat} (hc : c < 64) (heq : ∀ (j : Nat) (b : En), T[j]? = some b → (k, Rd.fineC r c) ∈ b.writes → decide (j < i) = D j) :
    (k = true → celAt (pre T σ0 i) r c = celAt (sel D 0 T σ0) r c) ∧ (k = false → tupAt (pre T σ0 i) r c = tupAt (sel D 0 T σ0) r c) := by
  have hlen : ops.toList.length = ops.size := by simp
  -- writers of one place have come in their order
  have hchain : ∀ (x : Bool × Nat) (m j : Nat) (a b : En), T[j]? = some a → T[m]? = some b → x ∈ a.writes → x ∈ b.writes → j < m → D m = true → D j = true := by
    intro x m j a b ha hb hxa hxb hjm hDm
    have hcl := hO.clash j m a b ha hb hjm (by unfold clash; rw [meetsAny_mem hxa (List.mem_append_right _ hxb)]; rfl)
    exact (ancs_in hO hD.cl (j := m) (by rw [hlen]; exact hD.lt m hDm) (fun o ho e' he' hb' => hD.cl m o ho hDm e' he' hb') hcl).1
  have hent : ∀ m e, T[m]? = some e → e.touch = touchOf (pre T σ0 m) e.wr e.bx := by
    intro m e he
    have hml := (List.getElem?_eq_some_iff.1 he).1
    have ho : ops[m]? = some (ops[m]'(by rw [← hlen, ← hO.len]; exact hml)) := by simp
    exact (trOk_at hO hT ho he).touched
  have hpre : pre T σ0 i = sel (fun j => decide (j < i)) 0 T σ0 := (pre_eq T σ0 i).symm
  rw [hpre]
  refine ⟨fun hk => ?_, fun hk => ?_⟩
  · subst hk
    have := fine_core (fun σ : Sg => σ.boxes[r]?) (Option.map (celV c)) T σ0 (fun j => decide (j < i)) D (fun m => match T[m]? with | some e => (e.wB r).isSome | none => false)
      (fun m e σ he hw => by
        simp only [he] at hw
        obtain ⟨a1, a2, a3, a4⟩ := app_spec e σ
        try dsimp only
        by_cases hr : r < σ.boxes.length
        · rw [a4 r hr]
          cases hwb : e.wB r with
          | none => rfl
          | some b => rw [hwb] at hw; simp at hw
        · rw [List.getElem?_eq_none (by omega), List.getElem?_eq_none (by omega)])
      (fun m e D1 D2 he hw => by
        simp only [he] at hw
        obtain ⟨a1, a2, a3, a4⟩ := app_spec e (sel D1 0 (T.take m) σ0)
        obtain ⟨b1, b2, b3, b4⟩ := app_spec e (sel D2 0 (T.take m) σ0)
        have c1 := (sel_spec D1 (T.take m) 0 σ0).2.1
        have c2 := (sel_spec D2 (T.take m) 0 σ0).2.1
        try dsimp only
        by_cases hr : r < σ0.boxes.length
        · rw [a4 r (by omega), b4 r (by omega)]
          cases hwb : e.wB r with
          | none => rw [hwb] at hw; simp at hw
          | some b => rfl
        · rw [List.getElem?_eq_none (by omega), List.getElem?_eq_none (by omega)])
      (fun m hm hw h1 h2 => by
        have h1 : m < i := by simpa using h1
        try dsimp only
        rw [← pre_eq]
        have : ∀ (T2 : List En) (k : Nat) (σ : Sg), (∀ j, j < k + T2.length → (decide (j < i)) = true) → sel (fun j => decide (j < i)) k T2 σ = T2.foldl En.app σ := by
          intro T2
          induction T2 with
          | nil => intro k σ _; rfl
          | cons e T2 ih =>
            intro k σ hk
            simp only [sel, List.foldl_cons]
            rw [if_pos (hk k (by simp))]
            exact ih (k + 1) _ (fun j hj => hk j (by simp only [List.length_cons]; omega))
        rw [this (T.take m) 0 σ0 (fun j hj => by
          have hj : j < m := by rw [List.length_take] at hj; omega
          simpa using (by omega : j < i)), pre_eq]
        rfl)
      (fun m hm hw h1 h2 => by
        try dsimp only
        have hme : T[m]? = some T[m] := List.getElem?_eq_getElem hm
        simp only [hme] at hw
        rw [← pre_eq]
        obtain ⟨a1, a2, a3, a4⟩ := sel_spec D (T.take m) 0 σ0
        obtain ⟨b1, b2, b3, b4⟩ := sel_spec (fun j => decide (j < m)) T 0 σ0
        have hpm : sel (fun j => decide (j < m)) 0 T σ0 = sel (fun j => decide (j < m)) 0 (T.take m) σ0 := by
          rw [pre_eq, pre_eq]
          unfold pre
          rw [List.take_take, Nat.min_self]
        rw [hpm]
        obtain ⟨b1, b2, b3, b4⟩ := sel_spec (fun j => decide (j < m)) (T.take m) 0 σ0
        by_cases hr : r < σ0.boxes.length
        · rw [a4 r hr, b4 r hr]
          rw [lastB_congr (D' := fun j => decide (j < m)) (fun j e he hwe => ?_)]
          rw [Nat.zero_add]
          have hjm : j < m := by
            have := (List.getElem?_eq_some_iff.1 he).1
            rw [List.length_take] at this; omega
          have he' : T[j]? = some e := by rw [List.getElem?_take_of_lt hjm] at he; exact he
          have := hchain (true, r) m j e T[m] he' hme (mem_writes_B hwe) (mem_writes_B (by intro hh; rw [hh] at hw; simp at hw)) hjm h1
          rw [this]; simp [hjm]
        · rw [List.getElem?_eq_none (by omega), List.getElem?_eq_none (by omega)])
      (fun m e he hw hne => by
        refine touch_cel (hent m e he) hc (fun hm => hne ?_)
        exact heq m e he (List.mem_append_right _ hm))
      T.length (Nat.le_refl _)
    rw [List.take_length] at this
    exact this
  · subst hk
    have := fine_core (fun σ : Sg => σ.slots[r]?) (Option.map (tupV c)) T σ0 (fun j => decide (j < i)) D (fun m => match T[m]? with | some e => (e.wS r).isSome | none => false)
      (fun m e σ he hw => by
        simp only [he] at hw
        obtain ⟨a1, a2, a3, a4⟩ := app_spec e σ
        try dsimp only
        by_cases hr : r < σ.slots.length
        · rw [a3 r hr]
          cases hwb : e.wS r with
          | none => rfl
          | some b => rw [hwb] at hw; simp at hw
        · rw [List.getElem?_eq_none (by omega), List.getElem?_eq_none (by omega)])
      (fun m e D1 D2 he hw => by
        simp only [he] at hw
        obtain ⟨a1, a2, a3, a4⟩ := app_spec e (sel D1 0 (T.take m) σ0)
        obtain ⟨b1, b2, b3, b4⟩ := app_spec e (sel D2 0 (T.take m) σ0)
        have c1 := (sel_spec D1 (T.take m) 0 σ0).1
        have c2 := (sel_spec D2 (T.take m) 0 σ0).1
        try dsimp only
        by_cases hr : r < σ0.slots.length
        · rw [a3 r (by omega), b3 r (by omega)]
          cases hwb : e.wS r with
          | none => rw [hwb] at hw; simp at hw
          | some b => rfl
        · rw [List.getElem?_eq_none (by omega), List.getElem?_eq_none (by omega)])
      (fun m hm hw h1 h2 => by
        have h1 : m < i := by simpa using h1
        try dsimp only
        rw [← pre_eq]
        have : ∀ (T2 : List En) (k : Nat) (σ : Sg), (∀ j, j < k + T2.length → (decide (j < i)) = true) → sel (fun j => decide (j < i)) k T2 σ = T2.foldl En.app σ := by
          intro T2
          induction T2 with
          | nil => intro k σ _; rfl
          | cons e T2 ih =>
            intro k σ hk
            simp only [sel, List.foldl_cons]
            rw [if_pos (hk k (by simp))]
            exact ih (k + 1) _ (fun j hj => hk j (by simp only [List.length_cons]; omega))
        rw [this (T.take m) 0 σ0 (fun j hj => by
          have hj : j < m := by rw [List.length_take] at hj; omega
          simpa using (by omega : j < i)), pre_eq]
        rfl)
      (fun m hm hw h1 h2 => by
        try dsimp only
        have hme : T[m]? = some T[m] := List.getElem?_eq_getElem hm
        simp only [hme] at hw
        rw [← pre_eq]
        have hpm : sel (fun j => decide (j < m)) 0 T σ0 = sel (fun j => decide (j < m)) 0 (T.take m) σ0 := by
          rw [pre_eq, pre_eq]
          unfold pre
          rw [List.take_take, Nat.min_self]
        rw [hpm]
        obtain ⟨a1, a2, a3, a4⟩ := sel_spec D (T.take m) 0 σ0
        obtain ⟨b1, b2, b3, b4⟩ := sel_spec (fun j => decide (j < m)) (T.take m) 0 σ0
        by_cases hr : r < σ0.slots.length
        · rw [a3 r hr, b3 r hr]
          rw [lastS_congr (D' := fun j => decide (j < m)) (fun j e he hwe => ?_)]
          rw [Nat.zero_add]
          have hjm : j < m := by
            have := (List.getElem?_eq_some_iff.1 he).1
            rw [List.length_take] at this; omega
          have he' : T[j]? = some e := by rw [List.getElem?_take_of_lt hjm] at he; exact he
          have := hchain (false, r) m j e T[m] he' hme (mem_writes_S hwe) (mem_writes_S (by intro hh; rw [hh] at hw; simp at hw)) hjm h1
          rw [this]; simp [hjm]
        · rw [List.getElem?_eq_none (by omega), List.getElem?_eq_none (by omega)])
      (fun m e he hw hne => by
        refine touch_tup (hent m e he) hc (fun hm => hne ?_)
        exact heq m e he (List.mem_append_right _ hm))
      T.length (Nat.le_refl _)
    rw [List.take_length] at this
    exact this

/-- An operation whose turn it is sees what it saw in the region's own order. -/
theorem sees {T : List En} {σ0 : Sg} (hO : Ordered ops.toList σ0 T) (hT : TrOk P C dp Fn ops ρ ops.toList T σ0) {D : Nat → Bool} (hD : Closed ops D) {i : Nat} {e : En} (he : T[i]? = some e) (hi : D i = false)
    (hr : ∀ (o : Oper), ops.toList[i]? = some o → ∀ e ∈ o.after.toList, Region.binds .any e = true → D e.on = true) :
    (∀ c ∈ e.log, SameAt (pre T σ0 i) (sel D 0 T σ0) c ∧ (c.1 = false → (pre T σ0 i).slots[c.2]? = (sel D 0 T σ0).slots[c.2]?) ∧ (c.1 = true → (pre T σ0 i).boxes[c.2]? = (sel D 0 T σ0).boxes[c.2]?)) ∧
    (∀ j, D j = true → j ≠ i ∧ ¬ An ops.toList i j) ∧ (∀ j, An ops.toList j i → D j = true) := by
  have hlen : ops.toList.length = ops.size := by simp
  have hilt : i < ops.toList.length := by rw [← hO.len]; exact (List.getElem?_eq_some_iff.1 he).1
  have hanc : ∀ j, D j = true → j ≠ i ∧ ¬ An ops.toList i j := by
    intro j hj
    refine ⟨fun hji => (by rw [hji] at hj; rw [hj] at hi; cases hi), fun hc => ?_⟩
    have := (ancs_in hO hD.cl (j := j) (by rw [hlen]; exact hD.lt j hj) (fun o ho e' he' hb => hD.cl j o ho hj e' he' hb) hc).1
    rw [this] at hi; cases hi
  have hback : ∀ j, An ops.toList j i → D j = true := fun j hj => (ancs_in hO hD.cl hilt hr hj).1
  have heq : ∀ c ∈ e.log, ∀ (j : Nat) (b : En), T[j]? = some b → c ∈ b.writes → decide (j < i) = D j := by
    intro c hc j b hb hw
    rcases Nat.lt_trichotomy j i with hlt | rfl | hgt
    · have hcl := hO.clash j i b e hb he hlt (by unfold clash; rw [meetsAny_mem hw (List.mem_append_left _ hc)]; rfl)
      simp [hlt, hback j hcl]
    · simp [hi]
    · have hnl : ¬ j < i := by omega
      cases hDj : D j with
      | false => simp [hnl]
      | true =>
        have hcl := hO.clash i j e b he hb hgt (by unfold clash; rw [meetsAny_mem hc hw, Bool.or_true])
        exact absurd hcl (hanc j hDj).2
  have hcoarse : ∀ c ∈ e.log, (c.1 = false → (pre T σ0 i).slots[c.2]? = (sel D 0 T σ0).slots[c.2]?) ∧ (c.1 = true → (pre T σ0 i).boxes[c.2]? = (sel D 0 T σ0).boxes[c.2]?) := by
    refine fun c hc => ⟨fun h0 => ?_, fun h1 => ?_⟩
    · obtain ⟨b, k⟩ := c
      dsimp only at h0
      subst h0
      rw [← pre_eq]
      obtain ⟨a1, a2, a3, a4⟩ := sel_spec (fun j => decide (j < i)) T 0 σ0
      obtain ⟨b1, b2, b3, b4⟩ := sel_spec D T 0 σ0
      by_cases hk : k < σ0.slots.length
      · rw [a3 k hk, b3 k hk]
        rw [lastS_congr (D' := D) (fun j b hb hw => ?_)]
        rw [Nat.zero_add]
        exact heq _ hc j b hb (mem_writes_S hw)
      · rw [List.getElem?_eq_none (by omega), List.getElem?_eq_none (by omega)]
    · obtain ⟨b, k⟩ := c
      dsimp only at h1
      subst h1
      rw [← pre_eq]
      obtain ⟨a1, a2, a3, a4⟩ := sel_spec (fun j => decide (j < i)) T 0 σ0
      obtain ⟨b1, b2, b3, b4⟩ := sel_spec D T 0 σ0
      by_cases hk : k < σ0.boxes.length
      · rw [a4 k hk, b4 k hk]
        rw [lastB_congr (D' := D) (fun j b hb hw => ?_)]
        rw [Nat.zero_add]
        exact heq _ hc j b hb (mem_writes_B hw)
      · rw [List.getElem?_eq_none (by omega), List.getElem?_eq_none (by omega)]
  refine ⟨fun c hc => ⟨⟨fun _ => hcoarse c hc, fun hg => ?_⟩, hcoarse c hc⟩, hanc, hback⟩
  obtain ⟨k, n⟩ := c
  dsimp only at hg ⊢
  have hfc : Rd.fineC ((n - 1024) / 64) ((n - 1024) % 64) = n := by unfold Rd.fineC; omega
  have := sees_fine hO hT hD (i := i) (k := k) (r := (n - 1024) / 64) (c := (n - 1024) % 64) (by omega) (fun j b hb hw => by
    rw [hfc] at hw
    exact heq _ hc j b hb hw)
  exact ⟨this.2, this.1⟩

/-- What it does goes to where it would go. -/
theorem does {T : List En} {σ0 : Sg} (hO : Ordered ops.toList σ0 T) {D D' : Nat → Bool} (hD : Closed ops D) {i : Nat} {e : En} (he : T[i]? = some e) (hi : D i = false)
    (hanc : ∀ j, D j = true → j ≠ i ∧ ¬ An ops.toList i j) (hD' : ∀ j, D' j = (D j || j == i)) :
    (En.app (sel D 0 T σ0) e).slots = (sel D' 0 T σ0).slots ∧ Same (En.app (sel D 0 T σ0) e) (sel D' 0 T σ0) := by
  obtain ⟨b1, b2, b3, b4⟩ := sel_spec D T 0 σ0
  obtain ⟨c1, c2, c3, c4⟩ := sel_spec D' T 0 σ0
  obtain ⟨a1, a2, a3, a4⟩ := app_spec e (sel D 0 T σ0)
  -- behind i none of D writes where i writes
  have hno : ∀ c ∈ e.writes, ∀ (j : Nat) (b : En), T[j]? = some b → c ∈ b.writes → i < j → D j = false := by
    intro c hc j b hb hw hlt
    cases hDj : D j with
    | false => rfl
    | true =>
      have hcl := hO.clash i j e b he hb hlt (by unfold clash; rw [meetsAny_mem hc (List.mem_append_right _ hw)]; rfl)
      exact absurd hcl (hanc j hDj).2
  have hlast : ∀ (c : Nat), lastS D' c 0 T = (e.wS c).or (lastS D c 0 T) := by
    intro c
    cases hw : e.wS c with
    | none =>
      rw [Option.none_or]
      refine lastS_congr (fun j b hb hbw => ?_)
      rw [Nat.zero_add, hD' j]
      by_cases hji : j = i
      · subst hji
        obtain rfl := some_eq he hb
        exact absurd hw hbw
      · simp [hji]
    | some s =>
      rw [Option.some_or]
      -- the last writer of c in D' is i
      have key : ∀ (T2 : List En) (k : Nat), (∀ j b, T2[j]? = some b → T[k + j]? = some b) → k ≤ i → i < k + T2.length → lastS D' c k T2 = some s := by
        intro T2
        induction T2 with
        | nil => intro k _ h1 h2; simp at h2; omega
        | cons b T2 ih =>
          intro k hT hk hlt
          simp only [lastS]
          by_cases hki : k = i
          · subst hki
            have hb : b = e := some_eq (hT 0 b rfl) (by simpa using he)
            subst hb
            have hnone : lastS D' c (k + 1) T2 = none := by
              have : ∀ (T3 : List En) (m : Nat), k < m → (∀ j b, T3[j]? = some b → T[m + j]? = some b) → lastS D' c m T3 = none := by
                intro T3
                induction T3 with
                | nil => intro m _ _; rfl
                | cons b3 T3 ih3 =>
                  intro m hm hT3
                  simp only [lastS]
                  rw [ih3 (m + 1) (by omega) (fun j b hb => by have := hT3 (j + 1) b (by simpa using hb); rwa [show m + 1 + j = m + (j + 1) by omega])]
                  rw [Option.none_or]
                  by_cases hb3 : b3.wS c = none
                  · simp [hb3]
                  · have hDm := hno (false, c) (mem_writes_S (by rw [hw]; simp)) m b3 (by have := hT3 0 b3 rfl; simpa using this) (mem_writes_S hb3) hm
                    rw [hD' m, hDm]
                    have hmk : ¬ m = k := by omega
                    simp [hmk]
              exact this T2 (k + 1) (by omega) (fun j b hb => by have := hT (j + 1) b (by simpa using hb); rwa [show k + 1 + j = k + (j + 1) by omega])
            rw [hnone, Option.none_or, hD' k]
            simp [hw]
          · rw [ih (k + 1) (fun j b hb => by have := hT (j + 1) b (by simpa using hb); rwa [show k + 1 + j = k + (j + 1) by omega]) (by omega) (by simp at hlt; omega)]
            rfl
      have hlt := (List.getElem?_eq_some_iff.1 he).1
      exact key T 0 (fun j b hb => by rwa [Nat.zero_add]) (Nat.zero_le _) (by omega)
  have hlastB : ∀ (c : Nat), lastB D' c 0 T = (e.wB c).or (lastB D c 0 T) := by
    intro c
    cases hw : e.wB c with
    | none =>
      rw [Option.none_or]
      refine lastB_congr (fun j b hb hbw => ?_)
      rw [Nat.zero_add, hD' j]
      by_cases hji : j = i
      · subst hji
        obtain rfl := some_eq he hb
        exact absurd hw hbw
      · simp [hji]
    | some s =>
      rw [Option.some_or]
      have key : ∀ (T2 : List En) (k : Nat), (∀ j b, T2[j]? = some b → T[k + j]? = some b) → k ≤ i → i < k + T2.length → lastB D' c k T2 = some s := by
        intro T2
        induction T2 with
        | nil => intro k _ h1 h2; simp at h2; omega
        | cons b T2 ih =>
          intro k hT hk hlt
          simp only [lastB]
          by_cases hki : k = i
          · subst hki
            have hb : b = e := some_eq (hT 0 b rfl) (by simpa using he)
            subst hb
            have hnone : lastB D' c (k + 1) T2 = none := by
              have : ∀ (T3 : List En) (m : Nat), k < m → (∀ j b, T3[j]? = some b → T[m + j]? = some b) → lastB D' c m T3 = none := by
                intro T3
                induction T3 with
                | nil => intro m _ _; rfl
                | cons b3 T3 ih3 =>
                  intro m hm hT3
                  simp only [lastB]
                  rw [ih3 (m + 1) (by omega) (fun j b hb => by have := hT3 (j + 1) b (by simpa using hb); rwa [show m + 1 + j = m + (j + 1) by omega])]
                  rw [Option.none_or]
                  by_cases hb3 : b3.wB c = none
                  · simp [hb3]
                  · have hDm := hno (true, c) (mem_writes_B (by rw [hw]; simp)) m b3 (by have := hT3 0 b3 rfl; simpa using this) (mem_writes_B hb3) hm
                    rw [hD' m, hDm]
                    have hmk : ¬ m = k := by omega
                    simp [hmk]
              exact this T2 (k + 1) (by omega) (fun j b hb => by have := hT (j + 1) b (by simpa using hb); rwa [show k + 1 + j = k + (j + 1) by omega])
            rw [hnone, Option.none_or, hD' k]
            simp [hw]
          · rw [ih (k + 1) (fun j b hb => by have := hT (j + 1) b (by simpa using hb); rwa [show k + 1 + j = k + (j + 1) by omega]) (by omega) (by simp at hlt; omega)]
            rfl
      have hlt := (List.getElem?_eq_some_iff.1 he).1
      exact key T 0 (fun j b hb => by rwa [Nat.zero_add]) (Nat.zero_le _) (by omega)
  refine sg_ext (by rw [a1, b1, c1]) (by rw [a2, b2, c2]) (fun c hc => ?_) (fun c hc => ?_) ⟨by rw [(app_kpb e _).1, (sel_kpb D T 0 σ0).1, (sel_kpb D' T 0 σ0).1], by rw [(app_kpb e _).2, (sel_kpb D T 0 σ0).2, (sel_kpb D' T 0 σ0).2]⟩
  · rw [a1] at hc
    rw [a3 c hc, b3 c (by rw [← b1]; exact hc), c3 c (by rw [← b1]; exact hc), hlast c, Option.or_assoc]
  · rw [a2] at hc
    rw [a4 c hc, b4 c (by rw [← b2]; exact hc), c4 c (by rw [← b2]; exact hc), hlastB c, Option.or_assoc]

/-- How many are still to come. -/
def left (D : Nat → Bool) : Nat → Nat
  | 0 => 0
  | n + 1 => left D n + if D n then 0 else 1

theorem left_zero {D : Nat → Bool} : ∀ {n : Nat}, left D n = 0 → ∀ j, j < n → D j = true
  | 0, _, j, hj => absurd hj (Nat.not_lt_zero _)
  | n + 1, h, j, hj => by
    simp only [left] at h
    have h1 : left D n = 0 := by omega
    rcases Nat.lt_or_ge j n with hlt | hge
    · exact left_zero h1 j hlt
    · have : j = n := by omega
      subst this
      cases hD : D j with
      | true => rfl
      | false => rw [hD] at h; simp at h

theorem left_less {D D' : Nat → Bool} {i : Nat} (hi : D i = false) (hD' : ∀ j, D' j = (D j || j == i)) : ∀ {n : Nat}, (i < n → left D' n + 1 = left D n) ∧ (n ≤ i → left D' n = left D n)
  | 0 => ⟨fun h => absurd h (Nat.not_lt_zero _), fun _ => rfl⟩
  | n + 1 => by
    obtain ⟨h1, h2⟩ := left_less hi hD' (n := n)
    refine ⟨fun h => ?_, fun h => ?_⟩
    · simp only [left]
      rcases Nat.lt_or_ge i n with hlt | hge
      · have := h1 hlt
        have hne : (n == i) = false := by simp; omega
        rw [hD' n, hne, Bool.or_false]
        omega
      · have : n = i := by omega
        subst this
        have := h2 (Nat.le_refl _)
        rw [hD' n, hi]
        simp; omega
    · simp only [left]
      have := h2 (by omega)
      have hne : (n == i) = false := by simp; omega
      rw [hD' n, hne, Bool.or_false, this]

theorem draw_any {T : List En} {σ0 : Sg} (hC : ∀ f s, C f = some s → Con P Fn f s) (hO : Ordered ops.toList σ0 T) (hT : TrOk P C dp Fn ops ρ ops.toList T σ0)
    (hq : ∀ a w, (∃ τ : Sg, τ.slots = (sel (fun j => decide (j < ops.size)) 0 T σ0).slots ∧ Same τ (sel (fun j => decide (j < ops.size)) 0 T σ0) ∧ Inv sh0 w0 G0 ρ τ a w) → Q .normal a w) :
    ∀ (fuel : Nat) (listed : Array Bool) (a : Act) (w : World), listed.size = ops.size → Closed ops (fun j => listed.getD j false) → left (fun j => listed.getD j false) ops.size ≤ fuel →
      (∃ τ : Sg, τ.slots = (sel (fun j => listed.getD j false) 0 T σ0).slots ∧ Same τ (sel (fun j => listed.getD j false) 0 T σ0) ∧ Inv sh0 w0 G0 ρ τ a w) →
      wpAny P .any ops Q fuel listed a w := by
  have hdone : ∀ (listed : Array Bool) (a : Act) (w : World), listed.size = ops.size → Closed ops (fun j => listed.getD j false) →
      (∃ τ : Sg, τ.slots = (sel (fun j => listed.getD j false) 0 T σ0).slots ∧ Same τ (sel (fun j => listed.getD j false) 0 T σ0) ∧ Inv sh0 w0 G0 ρ τ a w) →
      (∀ j, j < ops.size → listed.getD j false = true) → Q .normal a w := by
    intro listed a w hsz hcl hI hall
    refine hq a w ?_
    have : (fun j => listed.getD j false) = (fun j => decide (j < ops.size)) := by
      funext j
      by_cases hj : j < ops.size
      · rw [hall j hj]; simp [hj]
      · simp [hj, Array.getD_eq_getD_getElem?, Array.getElem?_eq_none (by omega : listed.size ≤ j)]
    rw [this] at hI
    exact hI
  have hready : ∀ (listed : Array Bool), listed.size = ops.size → Region.ready .any ops listed = [] → ∀ j, j < ops.size → listed.getD j false = true := by
    intro listed hsz hr j
    induction j using Nat.strongRecOn with
    | _ j ih =>
      intro hj
      cases hd : listed.getD j false with
      | true => rfl
      | false =>
        exfalso
        have hmem : j ∈ Region.ready .any ops listed := by
          rw [mem_ready]
          refine ⟨?_, ops[j], by simp [hj], fun e he hb => ?_⟩
          · have hlt : j < listed.size := by omega
            simp only [Array.getD_eq_getD_getElem?, Array.getElem?_eq_getElem hlt, Option.getD_some] at hd ⊢
            exact hd
          · have hon := hO.back j ops[j] (by simp [hj]) e (by simpa using he) hb
            exact ih e.on hon (by omega)
        rw [hr] at hmem
        simp at hmem
  intro fuel
  induction fuel with
  | zero =>
    intro listed a w hsz hcl hleft hI
    have hall := left_zero (Nat.le_zero.1 hleft)
    refine ⟨?_, hdone listed a w hsz hcl hI hall⟩
    apply List.eq_nil_iff_forall_not_mem.2
    intro j hj
    rw [mem_ready] at hj
    obtain ⟨h1, o, ho, _⟩ := hj
    have hlt : j < ops.size := (Array.getElem?_eq_some_iff.1 ho).1
    have h2 := hall j hlt
    have hlt' : j < listed.size := by omega
    simp only [Array.getD_eq_getD_getElem?, Array.getElem?_eq_getElem hlt', Option.getD_some] at h1 h2
    rw [h1] at h2; cases h2
  | succ fuel ih =>
    intro listed a w hsz hcl hleft hI
    refine ⟨fun hr => hdone listed a w hsz hcl hI (hready listed hsz hr), fun i hi => ?_⟩
    rw [mem_ready] at hi
    obtain ⟨h1, o, ho, hdeps⟩ := hi
    have hlt : i < ops.size := (Array.getElem?_eq_some_iff.1 ho).1
    have hlt' : i < listed.size := by omega
    have hDi : listed.getD i false = false := by
      simp only [Array.getD_eq_getD_getElem?, Array.getElem?_eq_getElem hlt', Option.getD_some] at h1 ⊢
      exact h1
    have hol : ops.toList[i]? = some o := by simpa using ho
    have hTi : i < T.length := by rw [hO.len]; simpa using hlt
    have he : T[i]? = some T[i] := List.getElem?_eq_getElem hTi
    generalize T[i] = e at he
    obtain ⟨hsee, hanc, hbk⟩ := sees hO hT hcl he hDi (fun o' ho' e' he' hb => by
      obtain rfl := some_eq hol ho'
      exact hdeps e' (by simpa using he') hb)
    have hD' : ∀ j, (listed.setIfInBounds i true).getD j false = (listed.getD j false || j == i) := by
      intro j
      by_cases hji : j = i
      · subst hji
        simp [Array.getD_eq_getD_getElem?, Array.getElem?_setIfInBounds, hlt']
      · rw [getD_set_ne false (Ne.symm hji)]
        simp [hji]
    have hcl' : Closed ops (fun j => (listed.setIfInBounds i true).getD j false) := by
      refine ⟨fun j hj => ?_, fun j o' ho' hj e' he' hb => ?_⟩
      · rw [hD' j] at hj
        simp only [Bool.or_eq_true, beq_iff_eq] at hj
        rcases hj with hj | rfl
        · exact hcl.lt j hj
        · exact hlt
      · rw [hD' j] at hj
        rw [hD' e'.on]
        simp only [Bool.or_eq_true, beq_iff_eq] at hj ⊢
        rcases hj with hj | rfl
        · exact .inl (hcl.cl j o' ho' hj e' he' hb)
        · obtain rfl := some_eq hol ho'
          exact .inl (hdeps e' (by simpa using he') hb)
    have hleft' : left (fun j => (listed.setIfInBounds i true).getD j false) ops.size ≤ fuel := by
      have := (left_less (D := fun j => listed.getD j false) (D' := fun j => (listed.setIfInBounds i true).getD j false) hDi hD' (n := ops.size)).1 hlt
      omega
    have hgo : ∀ a' w', (∃ τ : Sg, τ.slots = (En.app (sel (fun j => listed.getD j false) 0 T σ0) e).slots ∧ Same τ (En.app (sel (fun j => listed.getD j false) 0 T σ0) e) ∧ Inv sh0 w0 G0 ρ τ a' w') →
        wpAny P .any ops Q fuel (listed.setIfInBounds i true) a' w' := by
      rintro a' w' ⟨τ, t1, t2, hτ⟩
      obtain ⟨d1, d2⟩ := does hO hcl he hDi hanc hD' (σ0 := σ0) (T := T)
      exact ih _ a' w' (by simpa using hsz) hcl' hleft' ⟨τ, t1.trans d1, t2.trans d2, hτ⟩
    obtain ⟨τ, t1, t2, hτ⟩ := hI
    obtain ⟨σ1, s1, s2, s3, s4⟩ := trOk_at hO hT ho he
    -- the state as this operation knows it
    have hknow : Inv sh0 w0 G0 ρ { sel (fun j => listed.getD j false) 0 T σ0 with dec := σ1.dec } a w := by
      obtain ⟨sh, F, β, hG⟩ := hτ
      exact ⟨sh, F, β, hG.same t1.symm t2.1.symm s3 t2.2.1.symm t2.2.2.symm⟩
    have hglog : ∀ c ∈ glog ops o, c ∈ e.log := by
      intro c hc
      rcases s4 with ⟨_, nv, st, l, _, _, rfl⟩ | ⟨_, rfl, _⟩
      · exact List.mem_append_left _ hc
      · exact List.mem_append_right _ hc
    have hgsame : ∀ j want, o.guard = some (j, want) → guardA ops.toList j (pre T σ0 i) = guardA ops.toList j { sel (fun j => listed.getD j false) 0 T σ0 with dec := σ1.dec } := by
      intro j want hg
      unfold guardA
      simp only [getR_eq]
      cases hoj : ops.toList[j]? with
      | none => rfl
      | some oj =>
        dsimp only
        cases hdj : oj.dst with
        | none => rfl
        | some d =>
          dsimp only
          have hin : ((false, d) : Bool × Nat) ∈ glog ops o := by simp [glog, hg, guardSlot, hoj, hdj]
          rw [(hsee _ (hglog _ hin)).2.1 rfl]
    have hwant : ∀ b, Wants ops ρ (pre T σ0 i) o b → Region.wanted o (yielded ops a.tmps) = b := by
      intro b hw
      unfold Wants at hw
      unfold Region.wanted
      cases hg : o.guard with
      | none => rw [hg] at hw; exact hw.symm
      | some p =>
        obtain ⟨j, want⟩ := p
        rw [hg] at hw
        dsimp only at hw ⊢
        rcases hw with ⟨x, bb, q1, q2, rfl⟩ | ⟨q1, rfl⟩
        · rw [hgsame j want hg] at q1
          have := guardA_rep q1 hknow
          dsimp only at this
          rw [this bb q2]
          cases bb <;> cases want <;> rfl
        · rw [hgsame j want hg] at q1
          have := guardA_rep q1 hknow
          dsimp only at this
          rw [this]
          cases want <;> rfl
    unfold wpOp
    rw [ho]
    dsimp only
    rcases s4 with ⟨hw, nv, st, l, hs, hem, rfl⟩ | ⟨hw, rfl, hdl⟩
    · rw [if_pos (hwant true hw)]
      left
      have hloc := local_opStep (P := P) (C := C) dp nv o σ1 { sel (fun j => listed.getD j false) 0 T σ0 with dec := σ1.dec } st l hs ⟨⟨rfl, by rw [s2.2.1, ← pre_eq, (sel_kpb _ T 0 σ0).1]; exact ((sel_kpb _ T 0 σ0).1).symm, by rw [s2.2.2, ← pre_eq, (sel_kpb _ T 0 σ0).2]; exact ((sel_kpb _ T 0 σ0).2).symm,
          by rw [s1, ← pre_eq, (sel_spec _ T 0 σ0).1]; exact hO.small.1, by rw [s2.1, ← pre_eq, (sel_spec _ T 0 σ0).2.1]; exact hO.small.2⟩, fun c hc => by
        have := (hsee c (List.mem_append_right _ (List.mem_append_left _ hc))).1
        unfold SameAt tupAt celAt at this ⊢
        rw [s1, s2.1]
        exact this⟩
      have hkw : ∀ x ∈ killW σ1 st.kill, ({ sel (fun j => listed.getD j false) 0 T σ0 with dec := σ1.dec } : Sg).slots[x.1]? = σ1.slots[x.1]? := by
        intro x hx
        have := (hsee (false, x.1) (List.mem_append_right _ (List.mem_append_right _ (List.mem_map.2 ⟨x, hx, rfl⟩)))).2.1 rfl
        rw [s1]
        exact this.symm
      obtain ⟨sh, F, β, hG⟩ := hknow
      refine Oper.wp_mono (fun a' w' hI' => hgo a' w' ⟨_, ?_, ?_, hI'⟩) (opStep_sound hG hC hloc hem)
      · have hk := step_app (e := enOf σ1 (glog ops o) l st) (σ := { sel (fun j => listed.getD j false) 0 T σ0 with dec := σ1.dec }) (no_refer hO he hanc hbk)
        rw [← step_en (g := glog ops o) (l := l) hkw, hk]
        exact (step_same ⟨[], killW σ1 st.kill ++ st.wr, st.bx, [], []⟩ (σ := { sel (fun j => listed.getD j false) 0 T σ0 with dec := σ1.dec }) (τ := sel (fun j => listed.getD j false) 0 T σ0) rfl ⟨rfl, rfl, rfl⟩).1
      · have hk := step_app (e := enOf σ1 (glog ops o) l st) (σ := { sel (fun j => listed.getD j false) 0 T σ0 with dec := σ1.dec }) (no_refer hO he hanc hbk)
        rw [← step_en (g := glog ops o) (l := l) hkw, hk]
        exact (step_same ⟨[], killW σ1 st.kill ++ st.wr, st.bx, [], []⟩ (σ := { sel (fun j => listed.getD j false) 0 T σ0 with dec := σ1.dec }) (τ := sel (fun j => listed.getD j false) 0 T σ0) rfl ⟨rfl, rfl, rfl⟩).2
    · rw [if_neg (by rw [hwant false hw]; simp)]
      refine hgo _ _ ?_
      obtain ⟨sh, F, β, hG⟩ := hknow
      cases hdst : o.dst with
      | none => exact ⟨_, by simp [En.app, mkEn], by refine ⟨?_, ?_, ?_⟩ <;> simp [En.app, mkEn], sh, F, β, hG⟩
      | some d =>
        have hdd := hdl d hdst
        have hsl : (pre T σ0 i).slots[d]? = (sel (fun j => listed.getD j false) 0 T σ0).slots[d]? := (hsee (false, d) (by simp [mkEn, dlog, hdst])).2.1 rfl
        have hok : DstOk ({ sel (fun j => listed.getD j false) 0 T σ0 with dec := σ1.dec } : Sg) d := by
          refine ⟨⟨?_, fun x hx => hdd.free x (by rw [hsl]; exact hx)⟩, fun hm => hdd.kept (by
            have hm : d ∈ (sel (fun j => listed.getD j false) 0 T σ0).kp := hm
            rw [(sel_kpb _ T 0 σ0).1] at hm
            rw [← pre_eq, (sel_kpb _ T 0 σ0).1]; exact hm)⟩
          have := hdd.lt
          rw [← pre_eq] at this
          rw [(sel_spec _ T 0 σ0).1] at this
          show d < (sel _ 0 T σ0).slots.length
          rw [(sel_spec _ T 0 σ0).1]
          exact this
        refine ⟨_, ?_, ?_, _, _, _, hG.put_none (d := d) (s := .void) (v := undef) hok ⟨rfl, rfl⟩⟩
        · simp [En.app, mkEn, Sg.putS, setR_eq]
        · refine ⟨?_, ?_, ?_⟩ <;> simp [En.app, mkEn, Sg.putS]

/-- A DRAWN REGION. -/
theorem draw_region {id : Nat} {K : Sg → Option IR} {Ls : List Lb} {r : List Dy} {ir : IR} (hm : P.follows .mixedOrders = true) (hC : ∀ f s, C f = some s → Con P Fn f s) (hK : KOk P Fn N sh0 w0 G0 r ρ Ls K (Q .normal))
    (h : sxOpsT P C dp ops.toList (fun T σ' => if orderOk ops.toList σ T.reverse then K σ' else none) ops.toList [] σ = some ir) (hden : den Fn N ir ρ Ls = some r)
    (hI : Inv sh0 w0 G0 ρ σ a w) (hv : ρ.length = σ.nv) (hl : Ls.length = σ.nl) : (Code.region id ops true).wp P Q a w := by
  have hd : DecOk ρ σ := by obtain ⟨sh, F, β, hG⟩ := hI; exact hG.dec
  obtain ⟨T, σ', ρ', ir', k1, k2, k3, k4, k5, k6, k7, k8, k9⟩ := sxOpsT_trace ops.toList [] σ ρ ir h hden hd hv
  simp only [List.append_nil, List.reverse_reverse] at k2
  split at k2
  case isFalse => cases k2
  rename_i hord
  have hO := orderOk_spec hord
  refine wp_region_any hm ?_
  obtain ⟨δ, rfl⟩ := k4
  have hlen : T.length = ops.size := by rw [hO.len]; simp
  have hpre : ∀ i, i ≤ T.length → ((T.take i).foldl En.step σ).slots = (pre T σ i).slots ∧ Same ((T.take i).foldl En.step σ) (pre T σ i) := by
    intro i
    induction i with
    | zero => intro _; exact ⟨rfl, Same.refl _⟩
    | succ i ih =>
      intro hi
      obtain ⟨h1, h2⟩ := ih (by omega)
      have hlt : i < T.length := by omega
      have hst : En.step (pre T σ i) T[i] = pre T σ (i + 1) := by
        rw [step_app]
        · unfold pre
          rw [List.take_add_one, List.getElem?_eq_getElem hlt, List.foldl_append]
          rfl
        · rw [← pre_eq]
          refine no_refer hO (i := i) (List.getElem?_eq_getElem hlt) (fun j hj => ?_) (fun j hj => ?_)
          · have hj : j < i := by simpa using hj
            refine ⟨by omega, fun hc => ?_⟩
            have := (ancs_in hO (D := fun _ => true) (fun _ _ _ _ _ _ _ => rfl) (j := j) (by rw [← hO.len]; omega) (fun _ _ _ _ _ => rfl) hc).2
            omega
          · have := (ancs_in hO (D := fun _ => true) (fun _ _ _ _ _ _ _ => rfl) (j := i) (by rw [← hO.len]; omega) (fun _ _ _ _ _ => rfl) hj).2
            simpa using this
      rw [← hst, List.take_add_one, List.getElem?_eq_getElem hlt, List.foldl_append]
      exact step_same _ h1 h2
  refine draw_any (sh0 := sh0) (w0 := w0) (G0 := G0) hC hO k1 (fun a' w' hI' => ?_) ops.size _ a _ (by simp) ⟨fun j hj => ?_, fun j o ho hj => ?_⟩ ?_ ?_
  · obtain ⟨τ, t1, t2, hτ⟩ := hI'
    refine hK Ls (List.prefix_refl _) σ' (ρ ++ δ) ir' a' w' (List.prefix_append _ _) k2 k3 ?_ k5 (by rw [k6]; exact hl)
    have hfull := hpre T.length (Nat.le_refl _)
    rw [List.take_length] at hfull
    have hp : pre T σ T.length = sel (fun j => decide (j < ops.size)) 0 T σ := by rw [← pre_eq, hlen]
    obtain ⟨sh, F, β, hG⟩ := hτ
    have e1 : σ'.slots = τ.slots := by rw [k8, hfull.1, hp, t1]
    have e2 : Same σ' τ := (k9.trans hfull.2).trans (by rw [hp]; exact t2.symm)
    exact ⟨sh, F, β, hG.same e1 e2.1 k7 e2.2.1 e2.2.2⟩
  · simp [Array.getD_eq_getD_getElem?, Array.getElem?_replicate] at hj
    split at hj <;> simp at hj
  · simp [Array.getD_eq_getD_getElem?, Array.getElem?_replicate] at hj
    split at hj <;> simp at hj
  · have : ∀ n, left (fun j => (Array.replicate ops.size false).getD j false) n ≤ n := by
      intro n
      induction n with
      | zero => exact Nat.le_refl _
      | succ n ih => simp only [left]; split <;> omega
    exact this ops.size
  · have hzero : sel (fun j => (Array.replicate ops.size false).getD j false) 0 T σ = σ := by
      have : (fun j => (Array.replicate ops.size false).getD j false) = (fun j => decide (j < 0)) := by
        funext j
        by_cases hj : j < ops.size <;> simp [Array.getD_eq_getD_getElem?, Array.getElem?_replicate, hj]
      rw [this, pre_eq]
      rfl
    obtain ⟨sh, F, β, hG⟩ := hI
    refine ⟨σ, by rw [hzero], by rw [hzero]; exact Same.refl _, sh, F, β, ?_⟩
    exact (hG.more δ).grow ((Below.refl _ _).drew)

end
end Go.Vm
