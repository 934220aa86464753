/- Each operation does what its name says: assignments, stores, loads. Lemmas alone, no statement. -/
import Derived.Test.YtecleaangfcloaaVmRw
namespace Go.Vm
set_option linter.unusedVariables false
set_option linter.unusedSimpArgs false
open Go.RowKit

section
variable {P : Program} {C : Nat → Option Sig} {Fn : Fns} {sh0 : Nat → Prop} {w0 : World} {G0 : Frm} {ρ : List Dy} {σ : Sg} {a : Act} {w w' : World}
  {sh : Nat → Prop} {F : Bool → Nat → List Nat} {β : Nat → Nat} {o : Oper} {st : Step} {l : List (Bool × Nat)} {d : Nat} {Q : Exit → Act → World → Prop}

/-- A taken value leaves nothing behind that is killed. -/
def Take.mild (k : Take) : Prop := ∀ y ∈ k.wr, ∀ q, refers q y.2 = false

theorem Take.mild.nil {x : A} {m : Md} {em : List Em} {bx : List (Nat × Bx)} {K : List (Nat × Nat)} : Take.mild { x := x, m := m, em := em, wr := [], bx := bx, kill := K } := fun y hy => by simp at hy

theorem mild_wrOf {x : Operand} {s : SV} (hs : ∀ q, refers q s = false) : ∀ y ∈ wrOf x s, ∀ q, refers q y.2 = false := by
  intro y hy
  cases x with
  | tmp j =>
    simp only [wrOf, List.mem_singleton] at hy
    subst hy; exact hs
  | _ => simp [wrOf] at hy

theorem takeV_mild {t : TypeId} {x : Operand} {k : Take} {nv : Nat} (ho : takeV P nv t x σ = some (k, l)) : k.mild := by
  unfold takeV at ho
  obtain ⟨s, l1, l2, h1, ho2, _⟩ := Rd.bind_some ho
  have hu : ∀ q : Nat × Nat, refers q .undef = false := fun q => kill_undef
  cases s with
  | «at» y m =>
    cases m with
    | sh => have := Rd.pure_some ho2; subst this; exact .nil
    | own m => cases x with
      | tmp i => have := Rd.pure_some ho2; subst this; intro y hy; simp at hy; subst hy; exact hu
      | _ => have := Rd.pure_some ho2; subst this; exact .nil
    | pair m1 m2 => cases x with
      | tmp i => have := Rd.pure_some ho2; subst this; intro y hy; simp at hy; subst hy; exact hu
      | _ => have := Rd.pure_some ho2; subst this; exact .nil
  | rf b r c ln =>
    cases b with
    | false =>
      obtain ⟨s2, l3, l4, h2, ho3, _⟩ := Rd.bind_some ho2
      cases s2 with
      | «at» y m =>
        cases m with
        | own m =>
          have := Rd.pure_some ho3; subst this; intro y hy
          rcases List.mem_cons.1 hy with rfl | hy
          · exact hu
          · exact mild_wrOf hu y hy
        | _ => cases ho3
      | _ => cases ho3
    | true =>
      obtain ⟨cs, l3, l4, h2, ho3, _⟩ := Rd.bind_some ho2
      cases hy : cs[c]? with
      | none => rw [hy] at ho3; cases ho3
      | some yy => ?_
      rw [hy] at ho3
      match yy, ho3 with
      | none, ho3 => cases ho3
      | some (y, .sh), ho3 => cases ho3
      | some (y, .pair _ _), ho3 => cases ho3
      | some (y, .own m), ho3 => have := Rd.pure_some ho3; subst this; exact mild_wrOf hu
  | ag r off n =>
    obtain ⟨b, l3, l4, h2, ho3, _⟩ := Rd.bind_some ho2
    obtain ⟨xs, l5, l6, h3, ho4, _⟩ := Rd.bind_some ho3
    obtain ⟨_, _, _, _, ho5, _⟩ := Rd.bind_some ho4
    have := Rd.pure_some ho5
    subst this
    exact mild_wrOf hu
  | tp r c =>
    obtain ⟨s2, l3, l4, h2, ho3, _⟩ := Rd.bind_some ho2
    cases s2 with
    | tup xs =>
      dsimp only at ho3
      cases hy : xs[c]? with
      | none => rw [hy] at ho3; cases ho3
      | some yy => ?_
      rw [hy] at ho3
      match yy, ho3 with
      | none, ho3 => cases ho3
      | some (y, m), ho3 =>
        obtain ⟨_, l5, l6, h3, ho4, _⟩ := Rd.bind_some ho3
        have := Rd.pure_some ho4
        subst this
        intro z hz
        rcases List.mem_cons.1 hz with rfl | hz
        · exact hu
        · exact mild_wrOf hu z hz
    | _ => cases ho3
  | _ => cases ho2

theorem frzV_mild {t : TypeId} {x : Operand} {k : Take} {nv : Nat} (ho : frzV P nv t x σ = some (k, l)) : k.mild := by
  unfold frzV at ho
  obtain ⟨s, l1, l2, h1, ho2, _⟩ := Rd.bind_some ho
  have hu : ∀ q : Nat × Nat, refers q .undef = false := fun q => kill_undef
  have ha : ∀ (q : Nat × Nat) (y : A), refers q (.at y .sh) = false := fun q y => kill_at
  cases s with
  | «at» y m =>
    cases m with
    | sh => have := Rd.pure_some ho2; subst this; exact .nil
    | own m => cases x with
      | tmp i => have := Rd.pure_some ho2; subst this; intro y hy; simp at hy; subst hy; exact fun q => ha q _
      | _ => have := Rd.pure_some ho2; subst this; exact .nil
    | pair m1 m2 => cases x with
      | tmp i => have := Rd.pure_some ho2; subst this; intro y hy; simp at hy; subst hy; exact fun q => ha q _
      | _ => have := Rd.pure_some ho2; subst this; exact .nil
  | rf b r c ln =>
    cases b with
    | false =>
      obtain ⟨s2, l3, l4, h2, ho3, _⟩ := Rd.bind_some ho2
      cases s2 with
      | «at» y m =>
        cases m with
        | own m =>
          have := Rd.pure_some ho3; subst this; intro y hy
          rcases List.mem_cons.1 hy with rfl | hy
          · exact fun q => ha q _
          · exact mild_wrOf (fun q => ha q _) y hy
        | _ => cases ho3
      | _ => cases ho3
    | true =>
      obtain ⟨cs, l3, l4, h2, ho3, _⟩ := Rd.bind_some ho2
      cases hy : cs[c]? with
      | none => rw [hy] at ho3; cases ho3
      | some yy => ?_
      rw [hy] at ho3
      match yy, ho3 with
      | none, ho3 => cases ho3
      | some (y, .sh), ho3 => cases ho3
      | some (y, .pair _ _), ho3 => cases ho3
      | some (y, .own m), ho3 => have := Rd.pure_some ho3; subst this; exact mild_wrOf (fun q => ha q _)
  | ag r off n =>
    obtain ⟨b, l3, l4, h2, ho3, _⟩ := Rd.bind_some ho2
    obtain ⟨xs, l5, l6, h3, ho4, _⟩ := Rd.bind_some ho3
    obtain ⟨_, _, _, _, ho5, _⟩ := Rd.bind_some ho4
    have := Rd.pure_some ho5
    subst this
    exact mild_wrOf hu
  | tp r c =>
    obtain ⟨s2, l3, l4, h2, ho3, _⟩ := Rd.bind_some ho2
    cases s2 with
    | tup xs =>
      dsimp only at ho3
      cases hy : xs[c]? with
      | none => rw [hy] at ho3; cases ho3
      | some yy => ?_
      rw [hy] at ho3
      match yy, ho3 with
      | none, ho3 => cases ho3
      | some (y, m), ho3 =>
        obtain ⟨_, l5, l6, h3, ho4, _⟩ := Rd.bind_some ho3
        have := Rd.pure_some ho4
        subst this
        intro z hz
        rcases List.mem_cons.1 hz with rfl | hz
        · exact hu
        · exact mild_wrOf (fun q => ha q _) z hz
    | _ => cases ho3
  | _ => cases ho2

theorem Take.mild.and {k k' : Take} (h : k.mild) (h' : k'.mild) : (k.and k').mild := by
  intro y hy
  simp only [Take.and, List.mem_append] at hy
  rcases hy with hy | hy
  · exact h y hy
  · exact h' y hy

theorem kill_putB (σ : Sg) (x : Nat × Bx) (k : Nat × Nat) : (σ.putB x).kill k = (σ.kill k).putB x := rfl
theorem putB_putS (σ : Sg) (x : Nat × Bx) (y : Nat × SV) : (σ.putS y).putB x = (σ.putB x).putS y := rfl

theorem kills_putBs (K : List (Nat × Nat)) : ∀ (B : List (Nat × Bx)) (σ : Sg), K.foldl Sg.kill (B.foldl Sg.putB σ) = B.foldl Sg.putB (K.foldl Sg.kill σ) := by
  induction K with
  | nil => intro B σ; rfl
  | cons k K ih =>
    intro B σ
    have h1 : ∀ (B : List (Nat × Bx)) (σ : Sg), (B.foldl Sg.putB σ).kill k = B.foldl Sg.putB (σ.kill k) := by
      intro B; induction B with
      | nil => intro σ; rfl
      | cons b B ih => intro σ; exact ih (σ.putB b)
    rw [List.foldl_cons, h1, ih]; rfl

theorem kills_putSs (K : List (Nat × Nat)) : ∀ (W : List (Nat × SV)) (σ : Sg), (∀ y ∈ W, ∀ q, refers q y.2 = false) → K.foldl Sg.kill (W.foldl Sg.putS σ) = W.foldl Sg.putS (K.foldl Sg.kill σ) := by
  induction K with
  | nil => intro W σ _; rfl
  | cons k K ih =>
    intro W σ hW
    have h1 : ∀ (W : List (Nat × SV)) (σ : Sg), (∀ y ∈ W, ∀ q, refers q y.2 = false) → (W.foldl Sg.putS σ).kill k = W.foldl Sg.putS (σ.kill k) := by
      intro W; induction W with
      | nil => intro σ _; rfl
      | cons y W ih =>
        intro σ hW
        rw [List.foldl_cons, ih _ (fun z hz => hW z (List.mem_cons_of_mem _ hz)), putS_kill _ _ _ (hW y (by simp) k)]
        rfl
    rw [List.foldl_cons, h1 W σ hW, ih W _ hW]; rfl

theorem putBs_putSs (B : List (Nat × Bx)) : ∀ (W : List (Nat × SV)) (σ : Sg), B.foldl Sg.putB (W.foldl Sg.putS σ) = W.foldl Sg.putS (B.foldl Sg.putB σ) := by
  induction B with
  | nil => intro W σ; rfl
  | cons b B ih =>
    intro W σ
    have h1 : ∀ (W : List (Nat × SV)) (σ : Sg), (W.foldl Sg.putS σ).putB b = W.foldl Sg.putS (σ.putB b) := by
      intro W; induction W with
      | nil => intro σ; rfl
      | cons y W ih => intro σ; exact ih (σ.putS y)
    rw [List.foldl_cons, h1, ih]; rfl

theorem apply_take {k : Take} (hk : k.mild) (em : List Em) (K : List (Nat × Nat)) (B : List (Nat × Bx)) (W : List (Nat × SV)) :
    σ.apply { em := em, kill := k.kill ++ K, bx := k.bx ++ B, wr := k.wr ++ W } = W.foldl Sg.putS (B.foldl Sg.putB (K.foldl Sg.kill (σ.take k))) := by
  unfold Sg.apply Sg.take
  rw [List.foldl_append, List.foldl_append, List.foldl_append, kills_putSs K _ _ hk, kills_putBs K, putBs_putSs B]

theorem take_and {k k' : Take} (hk : k.mild) : σ.take (k.and k') = (σ.take k).take k' := by
  have := apply_take (σ := σ) hk [] k'.kill k'.bx k'.wr
  unfold Sg.apply at this
  unfold Sg.take Take.and at *
  exact this

theorem emN_app : ∀ {e1 e2 : List Em}, emN (e1 ++ e2) = emN e1 + emN e2
  | [], e2 => by simp [emN]
  | .e x :: e1, e2 => by simp [emN, emN_app (e1 := e1)]; omega
  | .call f xs k :: e1, e2 => by simp [emN, emN_app (e1 := e1)]; omega

theorem EmOk.split : ∀ {e1 : List Em} {n : Nat} {e2 : List Em}, EmOk Fn ρ n (e1 ++ e2) → EmOk Fn ρ n e1 ∧ EmOk Fn ρ (n + emN e1) e2
  | [], n, e2, h => ⟨trivial, by simpa [emN] using h⟩
  | .e x :: e1, n, e2, h => by
    obtain ⟨h1, h2⟩ := h
    obtain ⟨k1, k2⟩ := EmOk.split (e1 := e1) h2
    exact ⟨⟨h1, k1⟩, by simpa [emN, Nat.add_assoc, Nat.add_comm, Nat.add_left_comm] using k2⟩
  | .call f xs k :: e1, n, e2, h => by
    obtain ⟨h1, h2⟩ := h
    obtain ⟨k1, k2⟩ := EmOk.split (e1 := e1) h2
    exact ⟨⟨h1, k1⟩, by simpa [emN, Nat.add_assoc, Nat.add_comm, Nat.add_left_comm] using k2⟩

theorem take_kpb (k : Take) : (σ.take k).kp = σ.kp ∧ (σ.take k).kb = σ.kb := by
  unfold Sg.take
  have h1 : ∀ (W : List (Nat × SV)) (σ : Sg), (W.foldl Sg.putS σ).kp = σ.kp ∧ (W.foldl Sg.putS σ).kb = σ.kb := by
    intro W; induction W with
    | nil => intro σ; exact ⟨rfl, rfl⟩
    | cons y W ih => intro σ; exact ih _
  have h2 : ∀ (K : List (Nat × Nat)) (σ : Sg), (K.foldl Sg.kill σ).kp = σ.kp ∧ (K.foldl Sg.kill σ).kb = σ.kb := by
    intro W; induction W with
    | nil => intro σ; exact ⟨rfl, rfl⟩
    | cons y W ih => intro σ; exact ih _
  have h3 : ∀ (B : List (Nat × Bx)) (σ : Sg), (B.foldl Sg.putB σ).kp = σ.kp ∧ (B.foldl Sg.putB σ).kb = σ.kb := by
    intro W; induction W with
    | nil => intro σ; exact ⟨rfl, rfl⟩
    | cons y W ih => intro σ; exact ih _
  exact ⟨((h1 _ _).1.trans (h3 _ _).1).trans (h2 _ _).1, ((h1 _ _).2.trans (h3 _ _).2).trans (h2 _ _).2⟩

theorem take_len (k : Take) : (σ.take k).slots.length = σ.slots.length ∧ (σ.take k).boxes.length = σ.boxes.length := by
  unfold Sg.take
  have h1 : ∀ (W : List (Nat × SV)) (σ : Sg), (W.foldl Sg.putS σ).slots.length = σ.slots.length ∧ (W.foldl Sg.putS σ).boxes.length = σ.boxes.length := by
    intro W; induction W with
    | nil => intro σ; exact ⟨rfl, rfl⟩
    | cons y W ih => intro σ; rw [List.foldl_cons, (ih _).1, (ih _).2]; exact ⟨by simp [Sg.putS, setR_eq], rfl⟩
  have h2 : ∀ (K : List (Nat × Nat)) (σ : Sg), (K.foldl Sg.kill σ).slots.length = σ.slots.length ∧ (K.foldl Sg.kill σ).boxes.length = σ.boxes.length := by
    intro W; induction W with
    | nil => intro σ; exact ⟨rfl, rfl⟩
    | cons y W ih => intro σ; rw [List.foldl_cons, (ih _).1, (ih _).2]; exact ⟨by simp [Sg.kill, mapR_eq], rfl⟩
  have h3 : ∀ (B : List (Nat × Bx)) (σ : Sg), (B.foldl Sg.putB σ).slots.length = σ.slots.length ∧ (B.foldl Sg.putB σ).boxes.length = σ.boxes.length := by
    intro W; induction W with
    | nil => intro σ; exact ⟨rfl, rfl⟩
    | cons y W ih => intro σ; rw [List.foldl_cons, (ih _).1, (ih _).2]; exact ⟨rfl, by simp [Sg.putB, setR_eq]⟩
  rw [(h1 _ _).1, (h1 _ _).2, (h3 _ _).1, (h3 _ _).2, (h2 _ _).1, (h2 _ _).2]
  exact ⟨rfl, rfl⟩

/-- What a taken value writes to a slot that may be written is nobody's rows. -/
def Take.tame (k : Take) (σ : Sg) : Prop := ∀ d, DstOk σ d → ∀ y ∈ k.wr, y.1 = d → y.2.free = true

/-- A slot that may be written may be written still, when something was taken. -/
theorem DstOk.take {k : Take} (hk : k.tame σ) (h : DstOk σ d) : DstOk (σ.take k) d := by
  have hk := hk d h
  unfold Sg.take
  have h1 : ∀ (K : List (Nat × Nat)) (σ : Sg), DstOk σ d → DstOk (K.foldl Sg.kill σ) d := by
    intro K; induction K with
    | nil => intro σ h; exact h
    | cons x K ih => intro σ h; exact ih _ h.kill
  have h2 : ∀ (B : List (Nat × Bx)) (σ : Sg), DstOk σ d → DstOk (B.foldl Sg.putB σ) d := by
    intro B; induction B with
    | nil => intro σ h; exact h
    | cons x B ih => intro σ h; exact ih _ ⟨⟨h.lt, h.free⟩, h.kept⟩
  have h3 : ∀ (W : List (Nat × SV)) (σ : Sg), (∀ y ∈ W, y.1 = d → y.2.free = true) → DstOk σ d → DstOk (W.foldl Sg.putS σ) d := by
    intro W; induction W with
    | nil => intro σ _ h; exact h
    | cons x W ih =>
      intro σ hW h
      refine ih _ (fun y hy => hW y (List.mem_cons_of_mem _ hy)) ⟨⟨by simpa [Sg.putS, setR_eq] using h.lt, fun y hy => ?_⟩, h.kept⟩
      simp only [Sg.putS, setR_eq] at hy
      by_cases hxd : x.1 = d
      · rw [hxd, List.getElem?_set_self h.lt] at hy
        simp only [Option.some.injEq] at hy
        subst hy
        exact hW x (by simp) hxd
      · rw [List.getElem?_set_ne hxd] at hy
        exact h.free y hy
  exact h3 _ _ hk (h2 _ _ (h1 _ _ h))

theorem tame_of {k : Take} (h : ∀ y ∈ k.wr, y.2.free = true) : k.tame σ := fun _ _ y hy _ => h y hy

theorem tame_wrOf {x : Operand} {s : SV} (hs : s.free = true) : ∀ y ∈ wrOf x s, y.2.free = true := by
  intro y hy
  cases x with
  | tmp j =>
    simp only [wrOf, List.mem_singleton] at hy
    subst hy; exact hs
  | _ => simp [wrOf] at hy

theorem takeV_tame {t : TypeId} {x : Operand} {k : Take} {nv : Nat} (ho : takeV P nv t x σ = some (k, l)) : k.tame σ := by
  unfold takeV at ho
  obtain ⟨s, l1, l2, h1, ho2, _⟩ := Rd.bind_some ho
  have hu : SV.undef.free = true := rfl
  have hnil : ∀ {x : A} {m : Md} {em : List Em} {bx : List (Nat × Bx)} {K : List (Nat × Nat)}, Take.tame { x := x, m := m, em := em, wr := [], bx := bx, kill := K } σ := tame_of (fun y hy => by simp at hy)
  cases s with
  | «at» y m =>
    cases m with
    | sh => have := Rd.pure_some ho2; subst this; exact hnil
    | own m => cases x with
      | tmp i => have := Rd.pure_some ho2; subst this; refine tame_of ?_; intro y hy; simp at hy; subst hy; exact hu
      | _ => have := Rd.pure_some ho2; subst this; exact hnil
    | pair m1 m2 => cases x with
      | tmp i => have := Rd.pure_some ho2; subst this; refine tame_of ?_; intro y hy; simp at hy; subst hy; exact hu
      | _ => have := Rd.pure_some ho2; subst this; exact hnil
  | rf b r c ln =>
    cases b with
    | false =>
      obtain ⟨s2, l3, l4, h2, ho3, _⟩ := Rd.bind_some ho2
      cases s2 with
      | «at» y m =>
        cases m with
        | own m =>
          have := Rd.pure_some ho3; subst this; refine tame_of ?_; intro y hy
          rcases List.mem_cons.1 hy with rfl | hy
          · exact hu
          · exact tame_wrOf hu y hy
        | _ => cases ho3
      | _ => cases ho3
    | true =>
      obtain ⟨cs, l3, l4, h2, ho3, _⟩ := Rd.bind_some ho2
      cases hy : cs[c]? with
      | none => rw [hy] at ho3; cases ho3
      | some yy => ?_
      rw [hy] at ho3
      match yy, ho3 with
      | none, ho3 => cases ho3
      | some (y, .sh), ho3 => cases ho3
      | some (y, .pair _ _), ho3 => cases ho3
      | some (y, .own m), ho3 => have := Rd.pure_some ho3; subst this; exact tame_of (tame_wrOf hu)
  | ag r off n =>
    obtain ⟨b, l3, l4, h2, ho3, _⟩ := Rd.bind_some ho2
    obtain ⟨xs, l5, l6, h3, ho4, _⟩ := Rd.bind_some ho3
    obtain ⟨_, _, _, _, ho5, _⟩ := Rd.bind_some ho4
    have := Rd.pure_some ho5
    subst this
    exact tame_of (tame_wrOf hu)
  | tp r c =>
    obtain ⟨s2, l3, l4, h2, ho3, _⟩ := Rd.bind_some ho2
    cases s2 with
    | tup xs =>
      dsimp only at ho3
      cases hy : xs[c]? with
      | none => rw [hy] at ho3; cases ho3
      | some yy => ?_
      rw [hy] at ho3
      match yy, ho3 with
      | none, ho3 => cases ho3
      | some (y, m), ho3 =>
        obtain ⟨_, l5, l6, h3, ho4, _⟩ := Rd.bind_some ho3
        have := Rd.pure_some ho4
        subst this
        intro e he z hz hze
        rcases List.mem_cons.1 hz with rfl | hz
        · dsimp only at hze
          subst hze
          have h5 := he.free _ (Rd.slot_some h2)
          have h6 := List.all_eq_true.1 (show (xs.all fun x => match x with | some (_, .sh) => true | some _ => false | none => true) = true from h5) _ (List.mem_of_getElem? hy)
          have h7 := Rd.guard_some h3
          cases m <;> simp [Md.isSh] at h6 h7
        · exact tame_wrOf hu z hz
    | _ => cases ho3
  | _ => cases ho2

theorem frzV_tame {t : TypeId} {x : Operand} {k : Take} {nv : Nat} (ho : frzV P nv t x σ = some (k, l)) : k.tame σ := by
  unfold frzV at ho
  obtain ⟨s, l1, l2, h1, ho2, _⟩ := Rd.bind_some ho
  have hu : SV.undef.free = true := rfl
  have ha : ∀ y : A, (SV.at y .sh).free = true := fun _ => rfl
  have hnil : ∀ {x : A} {m : Md} {em : List Em} {bx : List (Nat × Bx)} {K : List (Nat × Nat)}, Take.tame { x := x, m := m, em := em, wr := [], bx := bx, kill := K } σ := tame_of (fun y hy => by simp at hy)
  cases s with
  | «at» y m =>
    cases m with
    | sh => have := Rd.pure_some ho2; subst this; exact hnil
    | own m => cases x with
      | tmp i => have := Rd.pure_some ho2; subst this; refine tame_of ?_; intro y hy; simp at hy; subst hy; exact ha _
      | _ => have := Rd.pure_some ho2; subst this; exact hnil
    | pair m1 m2 => cases x with
      | tmp i => have := Rd.pure_some ho2; subst this; refine tame_of ?_; intro y hy; simp at hy; subst hy; exact ha _
      | _ => have := Rd.pure_some ho2; subst this; exact hnil
  | rf b r c ln =>
    cases b with
    | false =>
      obtain ⟨s2, l3, l4, h2, ho3, _⟩ := Rd.bind_some ho2
      cases s2 with
      | «at» y m =>
        cases m with
        | own m =>
          have := Rd.pure_some ho3; subst this; refine tame_of ?_; intro y hy
          rcases List.mem_cons.1 hy with rfl | hy
          · exact ha _
          · exact tame_wrOf (ha _) y hy
        | _ => cases ho3
      | _ => cases ho3
    | true =>
      obtain ⟨cs, l3, l4, h2, ho3, _⟩ := Rd.bind_some ho2
      cases hy : cs[c]? with
      | none => rw [hy] at ho3; cases ho3
      | some yy => ?_
      rw [hy] at ho3
      match yy, ho3 with
      | none, ho3 => cases ho3
      | some (y, .sh), ho3 => cases ho3
      | some (y, .pair _ _), ho3 => cases ho3
      | some (y, .own m), ho3 => have := Rd.pure_some ho3; subst this; exact tame_of (tame_wrOf (ha _))
  | ag r off n =>
    obtain ⟨b, l3, l4, h2, ho3, _⟩ := Rd.bind_some ho2
    obtain ⟨xs, l5, l6, h3, ho4, _⟩ := Rd.bind_some ho3
    obtain ⟨_, _, _, _, ho5, _⟩ := Rd.bind_some ho4
    have := Rd.pure_some ho5
    subst this
    exact tame_of (tame_wrOf hu)
  | tp r c =>
    obtain ⟨s2, l3, l4, h2, ho3, _⟩ := Rd.bind_some ho2
    cases s2 with
    | tup xs =>
      dsimp only at ho3
      cases hy : xs[c]? with
      | none => rw [hy] at ho3; cases ho3
      | some yy => ?_
      rw [hy] at ho3
      match yy, ho3 with
      | none, ho3 => cases ho3
      | some (y, m), ho3 =>
        obtain ⟨_, l5, l6, h3, ho4, _⟩ := Rd.bind_some ho3
        have := Rd.pure_some ho4
        subst this
        intro e he z hz hze
        rcases List.mem_cons.1 hz with rfl | hz
        · dsimp only at hze
          subst hze
          have h5 := he.free _ (Rd.slot_some h2)
          have h6 := List.all_eq_true.1 (show (xs.all fun x => match x with | some (_, .sh) => true | some _ => false | none => true) = true from h5) _ (List.mem_of_getElem? hy)
          have h7 := Rd.guard_some h3
          cases m <;> simp [Md.isSh] at h6 h7
        · exact tame_wrOf (ha _) z hz
    | _ => cases ho3
  | _ => cases ho2

theorem Take.tame.and {k k' : Take} (h : k.tame σ) (h' : k'.tame (σ.take k)) : (k.and k').tame σ := by
  intro d hd y hy
  simp only [Take.and, List.mem_append] at hy
  rcases hy with hy | hy
  · exact h d hd y hy
  · exact h' d (hd.take h) y hy

/-- A taken value is put into a slot that may be written. -/
theorem InvG.putTaken (h : InvG sh0 w0 G0 ρ σ a w sh F β) {y : A} {m : Md} {dy : Dy} {v : Value} {X : List Nat} (hd : DstOk σ d) (e1 : evA ρ y = some dy) (e2 : ValRep sh w dy m v X) (hX : Free G0 w0 w sh F X) :
    Inv sh0 w0 G0 ρ (σ.putS (d, .at y m)) (a.put (some d) v) w :=
  ⟨_, _, _, h.putD (d := d) (s := .at y m) (X := X) hd ⟨dy, e1, e2⟩ (by simp [roots]) trivial hX.nd hX.own (fun b hb i j _ => hX.out b hb i j)⟩

theorem sound_moved {t : TypeId} {x : Operand} {nv : Nat} (h : InvG sh0 w0 G0 ρ σ a w sh F β) (hrun : (execOp a.eval o).run P w = .ok (.value (a.eval x)) w) (hd : o.dst = some d) (hlt : DstOk σ d)
    (hs : stMove P nv d t x σ = some (st, l)) (he : EmOk Fn ρ nv st.em) : o.wp P a w (Inv sh0 w0 G0 ρ (σ.apply st)) Q := by
  refine wp_value hrun ?_
  rw [hd]
  unfold stMove at hs
  obtain ⟨s, l1, l2, h1, hs1, _⟩ := Rd.bind_some hs
  cases s with
  | «at» y m =>
    cases m with
    | sh =>
      have := Rd.pure_some hs1
      subst this
      obtain ⟨dy, hdy, hv⟩ := opnd_sh h h1
      exact h.putSh hlt hdy hv
    | own m =>
      cases x with
      | tmp i =>
        obtain ⟨_, l3, l4, h2, hs2, _⟩ := Rd.bind_some hs1
        have hg := Rd.guard_some h2
        have := Rd.pure_some hs2
        subst this
        have hsl := Rd.slot_some h1
        obtain ⟨v, hv, hr⟩ := h.slot i _ hsl
        have hne : i ≠ d := by simpa using hg
        refine ⟨_, _, _, h.put_none hlt (s := .rf false i 0 none) ⟨rfl, ?_⟩ (by simp [roots, hne]) (by simp only [rootOk, hsl, ownSlice])⟩
        rw [eval_tmp hv]
        exact ⟨hv, fun _ e => by cases e⟩
      | const v =>
        obtain ⟨k, l3, l4, h2, hs2, _⟩ := Rd.bind_some hs1
        have := Rd.pure_some hs2
        subst this
        unfold takeV at h2
        obtain ⟨s2, l5, l6, h3, h4, _⟩ := Rd.bind_some h2
        rw [h1] at h3
        simp only [Option.some.injEq, Prod.mk.injEq] at h3
        obtain ⟨rfl, _⟩ := h3
        have := Rd.pure_some h4
        subst this
        rcases opnd_rep h h1 with ⟨i, hx, _⟩ | ⟨c', d', v', _, hc, hd', hr⟩ | ⟨_, _, hc⟩
        · cases hx
        · simp only [SV.at.injEq] at hc
          obtain ⟨rfl, hm⟩ := hc
          rw [← hm] at hr
          exact ⟨_, _, _, h.put_none hlt (s := .at _ _) ⟨d', hd', valRep_atom hr⟩⟩
        · cases hc
      | func f => have := Rd.pure_some h1; cases this
      | global g => cases h1
    | pair m1 m2 =>
      obtain ⟨k, l3, l4, h2, hs2, _⟩ := Rd.bind_some hs1
      have := Rd.pure_some hs2
      subst this
      obtain ⟨F', X, dy, hI, e1, e2, e3⟩ := take_rep h h2 he
      have happ := apply_take (σ := σ) (takeV_mild h2) k.em [] [] [(d, .at k.x k.m)]
      simp only [List.append_nil] at happ
      rw [happ]
      exact hI.putTaken (hlt.take (takeV_tame h2)) e1 e2 e3.free
  | ptr r f =>
    have := Rd.pure_some hs1
    subst this
    exact ⟨_, _, _, h.put_none hlt (s := .ptr _ _) ⟨rfl, opnd_ptr h h1⟩⟩
  | psh y f =>
    have := Rd.pure_some hs1
    subst this
    exact ⟨_, _, _, h.put_none hlt (s := .psh _ _) (opnd_psh h h1)⟩
  | fn g cs =>
    have := Rd.pure_some hs1
    subst this
    exact ⟨_, _, _, h.put_none hlt (s := .fn _ _) (opnd_fn h h1)⟩
  | ag r f n =>
    have := Rd.pure_some hs1
    subst this
    obtain ⟨j, rfl, hsj, hr⟩ := opnd_ag h h1
    exact ⟨_, _, _, h.put_none hlt (s := .ag _ _ _) ⟨rfl, hr.2⟩ (by simp [roots]) (h.refs j _ hsj)⟩
  | tup xs =>
    cases x with
    | tmp i =>
      obtain ⟨_, l3, l4, h2, hs2, _⟩ := Rd.bind_some hs1
      have hg := Rd.guard_some h2
      have := Rd.pure_some hs2
      subst this
      have hne : i ≠ d := by simpa using hg
      have hsl := Rd.slot_some h1
      obtain ⟨v, hv, hr⟩ := h.slot i _ hsl
      have hfor := (h.kill (0, i)).forgetSlot (d := i) killed0
      have hlk := hlt.kill (k := (0, i))
      have hdok : DstOk ((σ.kill (0, i)).putS (i, .undef)) d := by
        refine ⟨⟨by simpa [Sg.putS, setR_eq] using hlk.lt, fun y hy => ?_⟩, hlk.kept⟩
        simp only [Sg.putS, setR_eq] at hy
        rw [List.getElem?_set_ne hne] at hy
        exact hlk.free y hy
      rw [eval_tmp hv]
      refine ⟨_, _, _, hfor.putD (d := d) (s := .tup xs) (v := v) (X := F false i) hdok hr (by simp [roots]) trivial (h.nodup _ _) (h.own _ _) (fun b hb k j _ => ?_)⟩
      unfold setF
      split
      · simp
      · rename_i hn
        exact h.disj false i k j (fun e => hn ⟨(congrArg Prod.fst e).symm, (congrArg Prod.snd e).symm⟩) b hb
    | const v => cases hs1
    | global g => cases hs1
    | func g => cases hs1
  | rf b r c ln =>
    obtain ⟨_, l3, l4, h2, hs2, _⟩ := Rd.bind_some hs1
    have hg := Rd.guard_some h2
    have := Rd.pure_some hs2
    subst this
    obtain ⟨i, rfl, hsl, hr⟩ := opnd_tmp h h1 (by simp) (by simp)
    refine ⟨_, _, _, h.put_none hlt (s := .rf b r c ln) ⟨rfl, hr.2⟩ (fun e => ?_) (h.refs i _ hsl)⟩
    simp only [roots, Option.some.injEq, Prod.mk.injEq] at e
    obtain ⟨rfl, rfl⟩ := e
    simp at hg
  | tp r c =>
    obtain ⟨_, l3, l4, h2, hs2, _⟩ := Rd.bind_some hs1
    have hg := Rd.guard_some h2
    have := Rd.pure_some hs2
    subst this
    obtain ⟨i, rfl, hsl, hr⟩ := opnd_tmp h h1 (by simp) (by simp)
    refine ⟨_, _, _, h.put_none hlt (s := .tp r c) ⟨rfl, hr.2⟩ (fun e => ?_) (h.refs i _ hsl)⟩
    simp only [roots, Option.some.injEq, Prod.mk.injEq, true_and] at e
    subst e
    simp at hg
  | _ => cases hs1

theorem sound_move {t : TypeId} {x : Operand} {nv : Nat} (h : InvG sh0 w0 G0 ρ σ a w sh F β) (hop : o.op = .move x) (hd : o.dst = some d) (hlt : DstOk σ d)
    (hs : stMove P nv d t x σ = some (st, l)) (he : EmOk Fn ρ nv st.em) : o.wp P a w (Inv sh0 w0 G0 ρ (σ.apply st)) Q := by
  have hrun : (execOp a.eval o).run P w = .ok (.value (a.eval x)) w := by unfold execOp; rw [hop]; rfl
  exact sound_moved h hrun hd hlt hs he

theorem sound_assign {t : TypeId} {x : Operand} {nv : Nat} (h : InvG sh0 w0 G0 ρ σ a w sh F β) (hop : o.op = .assign x)
    (hs : stAssign P nv o.dst t x σ = some (st, l)) (he : EmOk Fn ρ nv st.em) : o.wp P a w (Inv sh0 w0 G0 ρ (σ.apply st)) Q := by
  have hrun : (execOp a.eval o).run P w = .ok (.value (a.eval x)) w := by unfold execOp; rw [hop]; rfl
  refine wp_value hrun ?_
  unfold stAssign at hs
  split at hs
  · obtain ⟨d, l1, l2, h1, hs1, _⟩ := Rd.bind_some hs
    have := Rd.pure_some hs1
    subst this
    obtain ⟨e1, e2⟩ := dstOf_some h1
    rw [e1]
    exact ⟨_, _, _, h.put_none e2 (s := .undef) rfl⟩
  obtain ⟨d, l1, l2, h1, hs1, _⟩ := Rd.bind_some hs
  have hd := Rd.ofO_some h1
  rw [hd]
  obtain ⟨s, l3, l4, h2, hs2, _⟩ := Rd.bind_some hs1
  have hval : ∀ {l5 : List (Bool × Nat)}, (do
      let k ← takeV P nv t x
      let _ ← Rd.slotK d
      pure { em := k.em, kill := k.kill ++ [(0, d)], bx := k.bx, wr := k.wr ++ [(d, .undef), (d, .at k.x k.m)] } : Rd Step) σ = some (st, l5) → Inv sh0 w0 G0 ρ (σ.apply st) (a.put (some d) (a.eval x)) w := by
    intro l5 hs
    obtain ⟨k, l6, l7, h3, hs3, _⟩ := Rd.bind_some hs
    obtain ⟨s0, l8, l9, h4, hs4, _⟩ := Rd.bind_some hs3
    have := Rd.pure_some hs4
    subst this
    have hlt : d < σ.slots.length := (List.getElem?_eq_some_iff.1 (Rd.slotK_some h4).1).1
    have hkd : d ∉ (σ.take k).kp := by rw [(take_kpb k).1]; exact (Rd.slotK_some h4).2
    obtain ⟨F', X, dy, hI, e1, e2, tk⟩ := take_rep h h3 he
    have x1 := tk.free
    have happ := apply_take (σ := σ) (takeV_mild h3) k.em [(0, d)] [] [(d, .undef), (d, .at k.x k.m)]
    rw [List.append_nil] at happ
    rw [happ]
    have hI2 := (hI.kill (0, d)).forgetSlot (d := d) killed0
    have hlen : (σ.take k).slots.length = σ.slots.length := (take_len k).1
    have hdok : DstOk (((σ.take k).kill (0, d)).putS (d, .undef)) d := by
      have hl : d < ((σ.take k).kill (0, d)).slots.length := by simp [Sg.kill, mapR_eq, hlen]; exact hlt
      refine ⟨⟨by simpa [Sg.putS, setR_eq] using hl, fun y hy => ?_⟩, hkd⟩
      simp only [Sg.putS, setR_eq] at hy
      rw [List.getElem?_set_self hl] at hy
      simp only [Option.some.injEq] at hy
      subst hy; rfl
    exact hI2.putTaken hdok e1 e2 ⟨x1.nd, x1.own, fun b hb i j => by
      unfold setF
      split
      · simp
      · exact x1.out b hb i j⟩
  have hsimple : ∀ {s : SV} {l5 : List (Bool × Nat)}, SVRep sh w ρ β a.tmps F s (a.eval x) [] → (∀ d, roots s ≠ some (false, d)) → rootOk σ s → (do
      let d ← dstOf o.dst
      pure { wr := [(d, s)] } : Rd Step) σ = some (st, l5) → Inv sh0 w0 G0 ρ (σ.apply st) (a.put (some d) (a.eval x)) w := by
    intro s l5 hv hr hro hs
    obtain ⟨d', l5, l6, h3, hs3, _⟩ := Rd.bind_some hs
    have := Rd.pure_some hs3
    subst this
    obtain ⟨e1, e2⟩ := dstOf_some h3
    rw [hd] at e1
    simp only [Option.some.injEq] at e1
    subst e1
    exact ⟨_, _, _, h.put_none e2 hv (hr _) hro⟩
  cases s with
  | ptr r f => exact hsimple (s := .ptr r f) ⟨rfl, opnd_ptr h h2⟩ (by simp [roots]) trivial hs2
  | psh y f => exact hsimple (opnd_psh h h2) (by simp [roots]) trivial hs2
  | fn g cs => exact hsimple (opnd_fn h h2) (by simp [roots]) trivial hs2
  | undef => exact hval hs2
  | anyb _ _ => exact hval hs2
  | void => exact hval hs2
  | «at» _ _ => exact hval hs2
  | rf _ _ _ _ => exact hval hs2
  | pel _ _ _ _ _ _ => exact hval hs2
  | ea _ _ _ _ _ _ _ _ => exact hval hs2
  | tp _ _ => exact hval hs2
  | tup _ => exact hval hs2
  | ag _ _ _ => exact hval hs2

theorem sound_box {t : TypeId} {x : Operand} {nv : Nat} (h : InvG sh0 w0 G0 ρ σ a w sh F β) (hop : o.op = .box t x) (hd : o.dst = some d) (hlt : DstOk σ d)
    (hs : stBox P nv d t x σ = some (st, l)) (he : EmOk Fn ρ nv st.em) : o.wp P a w (Inv sh0 w0 G0 ρ (σ.apply st)) Q := by
  unfold stBox at hs
  obtain ⟨k, l1, l2, h1, hs1, _⟩ := Rd.bind_some hs
  obtain ⟨_, l3, l4, h2, hs2, _⟩ := Rd.bind_some hs1
  obtain ⟨_, l5, l6, h3, hs3, _⟩ := Rd.bind_some hs2
  obtain ⟨hb, hkb⟩ := Rd.boxFor_some h2
  have := Rd.pure_some hs3
  subst this
  obtain ⟨he1, he2⟩ := he.split
  obtain ⟨F', X, dd, hI, e1, e2, tk⟩ := take_rep h h1 he1
  have x1 := tk.free
  obtain ⟨dy, k1, k2⟩ := he2.1
  unfold ev at k1
  simp only [evAs, e1] at k1
  obtain ⟨vs, hvs, hl, hrep, _⟩ := all_rep k1 e2 k2
  rw [apply_take (takeV_mild h1)]
  refine wp_value (v := .pointer (some ⟨w.heap.size, 0, none⟩)) (w' := w.alloc (.cells vs.toArray t (0, 0))) ?_ ?_
  · unfold execOp
    rw [hop]
    subst hvs
    simp only [Instr.box, newVar, newRow, Array.toArray_toList]
    rfl
  · rw [hd]
    exact hI.newbox (hlt.take (takeV_tame h1)) (by rw [(take_len k).2]; exact hb) hrep x1.nd x1.own x1.out (fun p hp => by
      rw [(take_kpb k).2] at hp
      obtain ⟨rfl, hm⟩ := hkb p hp
      rw [← hvs, eval_tmp (h.keep p hm)])

theorem take_boxes {k : Take} {r : Nat} (hr : ∀ y ∈ k.bx, y.1 ≠ r) : (σ.take k).boxes[r]? = σ.boxes[r]? := by
  unfold Sg.take
  have h1 : ∀ (W : List (Nat × SV)) (σ : Sg), (W.foldl Sg.putS σ).boxes = σ.boxes := by intro W; induction W with | nil => intro σ; rfl | cons y W ih => intro σ; exact ih _
  have h2 : ∀ (K : List (Nat × Nat)) (σ : Sg), (K.foldl Sg.kill σ).boxes = σ.boxes := by intro W; induction W with | nil => intro σ; rfl | cons y W ih => intro σ; exact ih _
  have h3 : ∀ (B : List (Nat × Bx)) (σ : Sg), (∀ y ∈ B, y.1 ≠ r) → (B.foldl Sg.putB σ).boxes[r]? = σ.boxes[r]? := by
    intro B; induction B with
    | nil => intro σ _; rfl
    | cons y B ih =>
      intro σ hB
      rw [List.foldl_cons, ih _ (fun z hz => hB z (List.mem_cons_of_mem _ hz))]
      simp only [Sg.putB, setR_eq]
      rw [List.getElem?_set_ne (hB y (by simp))]
  rw [h1, h3 _ _ hr, h2]

theorem take_slot {k : Take} {r : Nat} {y : A} {m : Md} (hr : ∀ z ∈ k.wr, z.1 ≠ r) (hs : σ.slots[r]? = some (.at y m)) : (σ.take k).slots[r]? = some (.at y m) := by
  unfold Sg.take
  have h1 : ∀ (W : List (Nat × SV)) (σ : Sg), (∀ z ∈ W, z.1 ≠ r) → (W.foldl Sg.putS σ).slots[r]? = σ.slots[r]? := by
    intro W; induction W with
    | nil => intro σ _; rfl
    | cons y W ih =>
      intro σ hB
      rw [List.foldl_cons, ih _ (fun z hz => hB z (List.mem_cons_of_mem _ hz))]
      simp only [Sg.putS, setR_eq]
      rw [List.getElem?_set_ne (hB y (by simp))]
  have h2 : ∀ (K : List (Nat × Nat)) (σ : Sg), σ.slots[r]? = some (.at y m) → (K.foldl Sg.kill σ).slots[r]? = some (.at y m) := by
    intro K; induction K with
    | nil => intro σ h; exact h
    | cons y K ih => intro σ h; exact ih _ (kill_get h)
  have h3 : ∀ (B : List (Nat × Bx)) (σ : Sg), (B.foldl Sg.putB σ).slots = σ.slots := by intro W; induction W with | nil => intro σ; rfl | cons y W ih => intro σ; exact ih _
  rw [h1 _ _ hr, h3]
  exact h2 _ _ hs

/-- A VALUE IS TAKEN, TO BE ONE OF MODE m. -/
theorem fit_rep {t : TypeId} {x : Operand} {k : Take} {nv : Nat} {m : Md} (h : InvG sh0 w0 G0 ρ σ a w sh F β) (ho : fitV P nv t x m σ = some (k, l)) (he : EmOk Fn ρ nv k.em) :
    ∃ sh' F' X d, InvG sh0 w0 G0 ρ (σ.take k) a w sh' F' β ∧ evA ρ k.x = some d ∧ ValRep sh' w d m (a.eval x) X ∧ k.mild ∧ k.tame σ ∧ Took G0 w0 w sh F sh' F' X := by
  unfold fitV at ho
  split at ho
  · rename_i hm
    have hm : m = .sh := by cases m <;> simp [Md.isSh] at hm; rfl
    subst hm
    obtain ⟨sh', F', d, hI, e1, e2, e3, e4⟩ := frz_rep h ho he
    exact ⟨sh', F', [], d, hI, e1, e2, frzV_mild ho, frzV_tame ho, e4⟩
  · obtain ⟨k', l1, l2, h1, ho2, _⟩ := Rd.bind_some ho
    obtain ⟨_, l3, l4, h2, ho3, _⟩ := Rd.bind_some ho2
    have hg := Rd.guard_some h2
    have := Rd.pure_some ho3
    subst this
    obtain ⟨F', X, d, hI, e1, e2, e3⟩ := take_rep h h1 he
    have hmi := takeV_mild h1
    have hta := takeV_tame h1
    refine ⟨sh, F', X, d, hI, e1, ?_, hmi, hta, e3⟩
    clear hmi hta h1 hI
    change evA ρ k'.x = some d at e1
    revert hg e1 e2
    generalize k'.x = kx
    generalize k'.m = km
    intro hg e2 e1
    unfold coe at hg
    simp only [Bool.or_eq_true, beq_iff_eq] at hg
    rcases hg with rfl | hg
    · exact e2
    · split at hg
      · simp only [evA, Option.some.injEq] at e1
        subst e1
        obtain ⟨us, hv, ad, cap, h1, h2, h3⟩ := e2
        refine ⟨us, hv, ad, cap, h1, h2, h3.imp id ?_⟩
        rintro ⟨b, c, ty, fz, F', k1, k2, k3, k4, k5, k6⟩
        exact ⟨b, c, ty, fz, F', k1, k2, k3, k4, k5, k6⟩
      · cases hg

/-- Atoms, one behind the other, of a struct's modes. -/
def AtomsM (sh : Nat → Prop) (w : World) (m : Md) : Nat → List Dy → List Value → List Nat → Prop
  | _, [], us, Y => us = [] ∧ Y = []
  | off, d :: ds, us, Y => ∃ v us' Y1 Y2, us = v :: us' ∧ Y = Y1 ++ Y2 ∧ AtomRep sh w d (m.cell off) v Y1 ∧ AtomsM sh w m (off + 1) ds us' Y2

theorem AtomsM.shift {m : Md} : ∀ {ds : List Dy} {off : Nat} {us : List Value} {Y : List Nat}, AtomsM sh w m (off + 1) ds us Y → AtomsM sh w m.r off ds us Y
  | [], _, _, _, h => h
  | d :: ds, off, us, Y, h => by
    obtain ⟨v, us', Y1, Y2, rfl, rfl, h1, h2⟩ := h
    exact ⟨v, us', Y1, Y2, rfl, rfl, h1, h2.shift⟩

theorem AtomsM.of_sh : ∀ {ds : List Dy} {off : Nat} {us : List Value}, shAtoms sh w ds us → AtomsM sh w .sh off ds us []
  | [], _, us, h => ⟨h, rfl⟩
  | d :: ds, off, us, h => by
    obtain ⟨v, us', rfl, h1, h2⟩ := h
    exact ⟨v, us', [], [], rfl, rfl, by rw [Md.cell_sh]; exact h1, AtomsM.of_sh h2⟩

/-- Cells of a struct are written. -/
theorem setCells_rep : ∀ {τ : Ty} {m : Md} {x z : D τ} {vs : List Value} {G : List Nat} {off : Nat} {ds : List Dy} {us : List Value} {Y : List Nat}, Rep sh w τ m x vs G → setCells τ x off ds = some z → AtomsM sh w m off ds us Y →
    ∃ A X B, G = A ++ (X ++ B) ∧ (off = 0 → A = []) ∧ off + us.length ≤ τ.n ∧ Rep sh w τ m z (vs.take off ++ us ++ vs.drop (off + us.length)) (A ++ (Y ++ B))
  | τ, m, x, z, vs, G, 0, [], us, Y, h, hs, ha => by
    have hz : x = z := by
      cases τ <;> (unfold setCells at hs; exact Option.some.inj hs)
    subst hz
    obtain ⟨rfl, rfl⟩ := ha
    exact ⟨[], [], G, rfl, fun _ => rfl, by simp, by simpa using h⟩
  | .pair α τ, m, x, z, vs, G, 0, d :: ds, us, Y, h, hs, ha => by
    obtain ⟨v1, v2, F1, F2, rfl, rfl, h1, h2⟩ := h
    obtain ⟨v, us', Y1, Y2, rfl, rfl, a1, a2⟩ := ha
    simp only [setCells] at hs
    cases hd : d.as α with
    | none => rw [hd] at hs; cases hs
    | some y => ?_
    cases hr : setCells τ x.2 0 ds with
    | none => rw [hd, hr] at hs; cases hs
    | some r => ?_
    rw [hd, hr] at hs
    simp only [Option.some.injEq] at hs
    subst hs
    have hdy : d = ⟨α, y⟩ := by
      unfold Dy.as at hd
      split at hd
      · rename_i heq
        simp only [Option.some.injEq] at hd
        obtain ⟨τ', x'⟩ := d
        dsimp only at heq
        subst heq
        subst hd
        rfl
      · cases hd
    subst hdy
    obtain ⟨u, rfl⟩ := h1.single a1.1
    obtain ⟨A, X, B, rfl, e0, e1, e2⟩ := setCells_rep h2 hr a2.shift
    have e0 := e0 rfl
    subst e0
    refine ⟨[], F1 ++ X, B, by simp, fun _ => rfl, by simp [Ty.n, n_of_atom a1.1] at e1 ⊢; omega, [v], us' ++ v2.drop us'.length, Y1, Y2 ++ B, by simp, by simp, a1.2, ?_⟩
    simpa using e2
  | .pair α τ, m, x, z, vs, G, off + 1, ds, us, Y, h, hs, ha => by
    obtain ⟨v1, v2, F1, F2, rfl, rfl, h1, h2⟩ := h
    simp only [setCells] at hs
    split at hs
    · cases hs
    · rename_i hag
      obtain ⟨r, hr, rfl⟩ := Option.map_eq_some_iff.1 hs
      have hag : α.isAgg = false := by simpa using hag
      obtain ⟨u, rfl⟩ := h1.single hag
      obtain ⟨A, X, B, rfl, _, e1, e2⟩ := setCells_rep h2 hr ha.shift
      refine ⟨F1 ++ A, X, B, by simp, fun h => by simp at h, by simp [Ty.n, n_of_atom hag] at e1 ⊢; omega, [u], _, F1, _, ?_, by simp, h1, e2⟩
      simp [Nat.add_right_comm off 1]
  | .unit, _, _, _, _, _, 0, _ :: _, _, _, _, hs, _ => by simp [setCells] at hs
  | .unit, _, _, _, _, _, _ + 1, _, _, _, _, hs, _ => by simp [setCells] at hs
  | .int _, _, _, _, _, _, 0, _ :: _, _, _, _, hs, _ => by simp [setCells] at hs
  | .int _, _, _, _, _, _, _ + 1, _, _, _, _, hs, _ => by simp [setCells] at hs
  | .bool, _, _, _, _, _, 0, _ :: _, _, _, _, hs, _ => by simp [setCells] at hs
  | .bool, _, _, _, _, _, _ + 1, _, _, _, _, hs, _ => by simp [setCells] at hs
  | .str, _, _, _, _, _, 0, _ :: _, _, _, _, hs, _ => by simp [setCells] at hs
  | .str, _, _, _, _, _, _ + 1, _, _, _, _, hs, _ => by simp [setCells] at hs
  | .sl _, _, _, _, _, _, 0, _ :: _, _, _, _, hs, _ => by simp [setCells] at hs
  | .sl _, _, _, _, _, _, _ + 1, _, _, _, _, hs, _ => by simp [setCells] at hs

/-- An atom's mode. -/
theorem atom_mode : ∀ {τ : Ty} {m : Md} {y z : D τ} {vs : List Value} {G : List Nat} {us : List Value} {Y : List Nat}, τ.isAgg = false → Rep sh w τ m y vs G → Rep sh w τ m.l z us Y → Rep sh w τ m z us Y
  | .int _, _, _, _, _, _, _, _, _, _, h => h
  | .bool, _, _, _, _, _, _, _, _, _, h => h
  | .str, _, _, _, _, _, _, _, _, _, h => h
  | .sl _, .sh, _, _, _, _, _, _, _, _, h => h
  | .sl _, .own _, _, _, _, _, _, _, _, _, h => h
  | .sl _, .pair _ _, _, _, _, _, _, _, _, h0, _ => h0.elim
  | .unit, _, _, _, _, _, _, _, h, _, _ => by simp [Ty.isAgg] at h
  | .pair _ _, _, _, _, _, _, _, _, h, _, _ => by simp [Ty.isAgg] at h

theorem set_inv {m off n : Nat} {d1 d2 d3 dy : Dy} (h : evX (.set m off n) [d1, d2, d3] = some dy) :
    ∃ (e : Ty) (l : D (.sl e)) (k : IntKind) (j : Int) (y z : D e), d1 = ⟨.sl e, l⟩ ∧ d2 = ⟨.int k, j⟩ ∧ e.n = m ∧ 0 ≤ j ∧ l[j.toNat]? = some y ∧ setElem e y off n d3 = some z ∧ dy = ⟨.sl e, List.set l j.toNat z⟩ := by
  obtain ⟨τ1, x1⟩ := d1
  obtain ⟨τ2, x2⟩ := d2
  cases τ1 <;> first | (simp [evX] at h; done) | (cases τ2 <;> first | (simp [evX] at h; done) | skip)
  rename_i e k
  simp only [evX] at h
  split at h
  · rename_i hc
    split at h
    · rename_i y hy
      split at h
      · rename_i z hz
        simp only [Option.some.injEq] at h
        exact ⟨e, x1, k, x2, y, z, rfl, rfl, hc.1, hc.2, by simpa using hy, hz, h.symm⟩
      · cases h
    · cases h
  · cases h

/-- A part of an element is written: what it is then. -/
theorem setElem_rep {τ : Ty} {m : Md} {y z : D τ} {off n : Nat} {d : Dy} {v : Value} {X : List Nat} {vs : List Value} {G : List Nat} (h : Rep sh w τ m y vs G) (hs : setElem τ y off n d = some z)
    (hm : (m = .sh ∧ X = [] ∧ ValRep sh w d .sh v X) ∨ (d.1.isAgg = false ∧ ValRep sh w d (m.cell off) v X)) :
    v.cells.toList.length = n ∧ off + n ≤ τ.n ∧ ∃ A X' B, G = A ++ (X' ++ B) ∧ Rep sh w τ m z (vs.take off ++ v.cells.toList ++ vs.drop (off + n)) (A ++ (X ++ B)) := by
  -- the atoms
  have hat : ∀ ds, (if d.1.isAgg then (if d.1.n = n ∧ n ≠ 1 then cellsAt d 0 n else none) else if n = 1 then some [d] else none) = some ds → v.cells.toList.length = n ∧ AtomsM sh w m off ds v.cells.toList X := by
    intro ds hds
    rcases hm with ⟨rfl, rfl, hv⟩ | ⟨hag, hv⟩
    · have hr := valRep_cells hv
      have hl := hr.len
      split at hds
      · rename_i hag
        split at hds
        · rename_i hn
          have hn := hn.1
          refine ⟨by rw [hl, hn], AtomsM.of_sh ?_⟩
          have := cellsAt_rep hr hds
          rwa [List.drop_zero, List.take_of_length_le (by rw [hl, hn]; exact Nat.le_refl _)] at this
        · cases hds
      · rename_i hag
        split at hds
        · rename_i hn
          simp only [Option.some.injEq] at hds
          subst hds; subst hn
          have hag : d.1.isAgg = false := by simpa using hag
          obtain ⟨u, hu⟩ := hr.single hag
          rw [hu] at hr ⊢
          exact ⟨rfl, AtomsM.of_sh ⟨u, [], rfl, ⟨hag, hr⟩, rfl⟩⟩
        · cases hds
    · rw [if_neg (by simp [hag])] at hds
      split at hds
      · rename_i hn
        simp only [Option.some.injEq] at hds
        subst hds; subst hn
        have hr := valRep_cells hv
        obtain ⟨u, hu⟩ := hr.single hag
        rw [hu] at hr ⊢
        exact ⟨rfl, u, [], X, [], rfl, by simp, ⟨hag, hr⟩, rfl, rfl⟩
      · cases hds
  unfold setElem at hs
  split at hs
  · rename_i hag
    split at hs
    · rename_i ds hds
      obtain ⟨h1, h2⟩ := hat ds hds
      obtain ⟨A, X', B, rfl, _, e1, e2⟩ := setCells_rep h hs h2
      rw [h1] at e1 e2
      exact ⟨h1, e1, A, X', B, rfl, e2⟩
    · cases hs
  · rename_i hag
    have hag : τ.isAgg = false := by simpa using hag
    split at hs
    · rename_i hc
      obtain ⟨rfl, rfl⟩ := hc
      have hdz : d = ⟨τ, z⟩ := by
        unfold Dy.as at hs
        split at hs
        · rename_i heq
          simp only [Option.some.injEq] at hs
          obtain ⟨τ', x'⟩ := d
          dsimp only at heq
          subst heq
          subst hs
          rfl
        · cases hs
      subst hdz
      have hv : ValRep sh w ⟨τ, z⟩ m.l v X := by
        rcases hm with ⟨rfl, rfl, hv⟩ | ⟨_, hv⟩
        · exact hv
        · exact hv
      have hr := valRep_cells hv
      obtain ⟨u, hu⟩ := hr.single hag
      obtain ⟨u0, rfl⟩ := h.single hag
      rw [hu] at hr ⊢
      exact ⟨rfl, by rw [n_of_atom hag]; exact Nat.le_refl _, [], G, [], by simp, by simpa using atom_mode hag h hr⟩
    · cases hs

theorem as_inv {d : Dy} {τ : Ty} {z : D τ} (h : d.as τ = some z) : d = ⟨τ, z⟩ := by
  unfold Dy.as at h
  split at h
  · rename_i heq
    simp only [Option.some.injEq] at h
    obtain ⟨τ', x⟩ := d
    dsimp only at heq
    subst heq
    subst h
    rfl
  · cases h

theorem setE_inv {m : Nat} {d1 d2 d3 dy : Dy} (h : evX (.setE m) [d1, d2, d3] = some dy) :
    ∃ (e : Ty) (l : D (.sl e)) (k : IntKind) (n : Int) (z : D e), d1 = ⟨.sl e, l⟩ ∧ d2 = ⟨.int k, n⟩ ∧ d3 = ⟨e, z⟩ ∧ e.n = m ∧ 0 ≤ n ∧ n.toNat < List.length l ∧ dy = ⟨.sl e, List.set l n.toNat z⟩ := by
  obtain ⟨τ1, x1⟩ := d1
  obtain ⟨τ2, x2⟩ := d2
  cases τ1 <;> first | (simp [evX] at h; done) | (cases τ2 <;> first | (simp [evX] at h; done) | skip)
  rename_i e k
  simp only [evX] at h
  split at h
  · rename_i hc
    split at h
    · rename_i z hz
      simp only [Option.some.injEq] at h
      exact ⟨e, x1, k, x2, z, rfl, rfl, as_inv hz, hc.1, hc.2.1, hc.2.2, h.symm⟩
    · cases h
  · cases h

theorem sound_store {t : TypeId} {p x : Operand} {nv : Nat} (h : InvG sh0 w0 G0 ρ σ a w sh F β) (hop : o.op = .store t p x) (hd : o.dst = none)
    (hs : stStore P nv t p x σ = some (st, l)) (he : EmOk Fn ρ nv st.em) : o.wp P a w (Inv sh0 w0 G0 ρ (σ.apply st)) Q := by
  unfold stStore at hs
  obtain ⟨sv, l1, l2, h1, hs1, _⟩ := Rd.bind_some hs
  split at hs1
  · rename_i r f
    obtain ⟨k, l3, l4, h2, hs2, _⟩ := Rd.bind_some hs1
    obtain ⟨b, l5, l6, h3, hs3, _⟩ := Rd.bind_some hs2
    obtain ⟨_, l7, l8, h4, hs4, _⟩ := Rd.bind_some hs3
    have hgb := Rd.guard_some h4
    obtain ⟨hb, hkb⟩ := Rd.boxW_some h3
    have hkb1 : ∀ p, (r, p) ∉ (σ.take k).kb := by rw [(take_kpb k).2]; exact hkb
    have hp := opnd_ptr h h1
    have hek : ∃ em, st.em = k.em ++ em := by
      cases hagg : isAggB P t with
      | true =>
        simp only [hagg, if_true] at hs4
        obtain ⟨_, l9, l10, h5, hs5, _⟩ := Rd.bind_some hs4
        have := Rd.pure_some hs5
        exact ⟨_, by rw [← this]⟩
      | false =>
        simp only [hagg, Bool.false_eq_true, if_false] at hs4
        obtain ⟨_, l9, l10, h5, hs5, _⟩ := Rd.bind_some hs4
        have := Rd.pure_some hs5
        exact ⟨_, by rw [← this]⟩
    obtain ⟨em0, hem0⟩ := hek
    have he' := he
    rw [hem0] at he'
    obtain ⟨F', X, d1, hI, e1, r1, tk⟩ := take_rep h h2 he'.split.1
    have xf := tk.free
    have hb1 : (σ.take k).boxes[r]? = some (some b) := by
      rw [take_boxes (fun y hy => by have := List.all_eq_true.1 hgb y hy; simpa using this)]
      exact hb
    have hfin : ∀ w', (storeVar t ⟨β r, f, none⟩ (a.eval x)).run P w = .ok () w' → (execOp a.eval o).run P w = .ok .skip w' := by
      intro w' hw
      unfold execOp
      rw [hop]
      simp only [Instr.storeAt, hp, Instr.sureAddr, Sem.run_bind, Sem.run_pure, Result.andThen_ok, hw]
    -- the store itself
    have hgo : ∀ (em : List Em) (cells : List Cell) (us : List Value), RepL (one (CellRep sh w ρ)) cells us X → f + cells.length ≤ b.length → (∀ u ∈ us, u.oneCell' = true) → (a.eval x).cells.toList = us → P.cellsOf t = cells.length → cells.length ≠ 0 →
        st = { em := em, kill := k.kill ++ (if b.any Cell.isOwn then [(2, r)] else []), bx := k.bx ++ [(r, some (b.take f ++ cells ++ b.drop (f + cells.length)))], wr := k.wr } → o.wp P a w (Inv sh0 w0 G0 ρ (σ.apply st)) Q := by
      intro em cells us hrep hle hone hv hn h0 hst
      have hst' : st = { em := em, kill := k.kill ++ (if b.any Cell.isOwn then [(2, r)] else []), bx := k.bx ++ [(r, some (b.take f ++ cells ++ b.drop (f + cells.length)))], wr := k.wr ++ [] } := by rw [hst, List.append_nil]
      rw [hst', apply_take (takeV_mild h2)]
      cases hany : b.any Cell.isOwn with
      | true =>
        simp only [if_true]
        have hfk : Free G0 w0 w sh F' X := xf
        obtain ⟨w', hrun, hinv⟩ := (hI.kill (2, r)).storebox (P := P) (f := f) (t := t) killed2 hb1 hrep xf.nd xf.own xf.out hle hone hv hn h0 hkb1
        refine wp_skip' (hfin w' hrun) ?_
        rw [hd]
        exact hinv
      | false =>
        simp only [Bool.false_eq_true, if_false]
        obtain ⟨w', hrun, hinv⟩ := hI.storebox (P := P) (f := f) (t := t) (hI.noalias hb1 hany) hb1 hrep xf.nd xf.own xf.out hle hone hv hn h0 hkb1
        refine wp_skip' (hfin w' hrun) ?_
        rw [hd]
        exact hinv
    cases hagg : isAggB P t with
    | true =>
      simp only [hagg, if_true] at hs4
      obtain ⟨_, l9, l10, h5, hs5, _⟩ := Rd.bind_some hs4
      have hg := Rd.guard_some h5
      have := Rd.pure_some hs5
      simp only [Bool.and_eq_true, decide_eq_true_eq, bne_iff_ne] at hg
      have hem : EmOk Fn ρ nv (k.em ++ [.e ⟨.all (P.cellsOf t), [k.x]⟩]) := by rw [← this] at he; exact he
      obtain ⟨dy, k1, k2⟩ := hem.split.2.1
      unfold ev at k1
      simp only [evAs, e1] at k1
      obtain ⟨vs, hvs, hl, hrep, hone⟩ := all_rep k1 r1 k2
      have hcl : (cellsM (.var (nv + emN k.em)) 0 k.m (P.cellsOf t)).length = P.cellsOf t := cellsM_length
      exact hgo _ _ vs hrep (by rw [hcl]; exact hg.1) hone hvs hcl.symm (by rw [hcl]; exact hg.2) (by rw [hcl]; exact this.symm)
    | false =>
      simp only [hagg, Bool.false_eq_true, if_false] at hs4
      obtain ⟨_, l9, l10, h5, hs5, _⟩ := Rd.bind_some hs4
      have hg := Rd.guard_some h5
      have := Rd.pure_some hs5
      simp only [Bool.and_eq_true, decide_eq_true_eq, beq_iff_eq] at hg
      have hem : EmOk Fn ρ nv (k.em ++ [.e ⟨.atom, [k.x]⟩]) := by rw [← this] at he; exact he
      obtain ⟨dy, k1, k2⟩ := hem.split.2.1
      unfold ev at k1
      simp only [evAs, e1, evX] at k1
      split at k1
      · cases k1
      · rename_i hna
        simp only [Option.some.injEq] at k1
        subst k1
        have hna : d1.1.isAgg = false := by simpa using hna
        obtain ⟨vs, hv, hr⟩ := r1
        obtain ⟨u, rfl⟩ := hr.single hna
        have hv : a.eval x = u := by rw [hv, hna]; rfl
        refine hgo _ [some (.var (nv + emN k.em), k.m)] [u] ⟨[u], [], X, [], rfl, by simp, ⟨u, rfl, d1, k2, hna, hr⟩, rfl, rfl⟩ hg.1 (fun y hy => Rep.one' hr y hy) (by rw [hv, atom_cells hna hr]) hg.2 (by simp) this.symm
  · rename_i b r c m i f
    obtain ⟨⟨x0, mm⟩, l3, l4, h2, hs2, _⟩ := Rd.bind_some hs1
    obtain ⟨y, l5, l6, h3, hs3, _⟩ := Rd.bind_some hs2
    obtain ⟨_, l7, l8, h4, hs4, _⟩ := Rd.bind_some hs3
    have hg := Rd.guard_some h4
    simp only [Bool.and_eq_true, bne_iff_ne] at hg
    obtain ⟨⟨⟨⟨⟨hwk, hm0⟩, hn0⟩, hcase⟩, hwr⟩, hbx⟩ := hg
    obtain ⟨⟨_, g, len, cap, k, n, e1, e2, e3, e4, e5⟩, hro⟩ := opnd_pel (i := p) h h1
    rw [pelV_ptr hwk] at e5
    have hroot := rootA_some h2
    obtain ⟨d1, G, q1, r1, _⟩ := root_rep h hroot e1
    have hfin : ∀ w', (storeVar t ⟨g, m * n.toNat + f, none⟩ (a.eval x)).run P w = .ok () w' → (execOp a.eval o).run P w = .ok .skip w' := by
      intro w' hw
      unfold execOp
      rw [hop]
      simp only [Instr.storeAt, e5, Instr.sureAddr, Sem.run_bind, Sem.run_pure, Result.andThen_ok, hw]
    have hgo : EmOk Fn ρ nv (y.em ++ [if f == 0 && P.cellsOf t == m then .e ⟨.setE m, [x0, i, y.x]⟩ else .e ⟨.set m f (P.cellsOf t), [x0, i, y.x]⟩]) → ∃ w', (storeVar t ⟨g, m * n.toNat + f, none⟩ (a.eval x)).run P w = .ok () w' ∧
        ElDone sh0 w0 G0 ρ (σ.take y) a w' (.var (nv + emN y.em)) mm r c b ∧ y.mild := by
      intro hem
      obtain ⟨hem1, hem2⟩ := hem.split
      obtain ⟨sh', F', X, d2, hI, p1, p2, p4, p5, p6⟩ := fit_rep h h3 hem1
      have p3 := p6.free
      have hroot' : RootIs (σ.take y) b r c x0 mm := by
        cases b with
        | false => exact take_slot (fun z hz => by have := List.all_eq_true.1 hwr z hz; simpa using this) hroot
        | true =>
          obtain ⟨cs, c1, c2⟩ := hroot
          exact ⟨cs, by rw [take_boxes (fun z hz => by have := List.all_eq_true.1 hbx z hz; simpa using this)]; exact c1, c2⟩
      have hhdr' : HdrIs w β a.tmps F' b r c (.slice (some ⟨g, 0, none⟩) len cap) := by
        cases b with
        | false => exact e1
        | true =>
          obtain ⟨cs, c1, c2⟩ := hroot'
          obtain ⟨_, _, F'', _, k2, _⟩ := hI.box r cs c1
          exact ⟨by rw [k2]; simp, e1.2⟩
      have hcells := valRep_cells p2
      have hone := Rep.one' hcells
      by_cases hw : (f == 0 && P.cellsOf t == m) = true
      · rw [if_pos hw] at hem2
        simp only [if_pos hw] at p2 hcells
        simp only [Bool.and_eq_true, beq_iff_eq] at hw
        obtain ⟨rfl, hnm⟩ := hw
        obtain ⟨dy, k1, k2⟩ := hem2.1
        unfold ev at k1
        simp only [evAs, q1, e2, p1] at k1
        obtain ⟨τ, xs, k', n', z, rfl, hn', rfl, hτ, hn0', hlt, rfl⟩ := setE_inv k1
        simp only [Sigma.mk.injEq, Ty.int.injEq] at hn'
        obtain ⟨rfl, hn'⟩ := hn'
        have hn' : n = n' := by simpa using hn'
        subst hn'
        have hl : (a.eval x).cells.toList.length = τ.n := hcells.len
        have hlt' : n.toNat < List.length xs := hlt
        obtain ⟨w', s1, s2⟩ := hI.storeEl (P := P) (t := t) (off := 0) (x1 := .var (nv + emN y.em)) (y := xs[n.toNat]) (z := z) (n := n.toNat) (v := a.eval x) hroot' hhdr' q1 (List.getElem?_eq_getElem hlt') p3 rfl hone
          (by rw [hl, hnm, hτ]) (by rw [hl, hτ]; exact hm0) (by rw [hl]; simp) (fun vs G hvs => ⟨[], G, [], by simp, by
            have hvl := hvs.len
            rw [List.take_zero, List.nil_append, Nat.zero_add, List.drop_of_length_le (by rw [hl, hvl]; exact Nat.le_refl _), List.append_nil]
            simpa using hcells⟩) k2
        rw [hτ] at s1
        exact ⟨w', s1, s2, p4⟩
      · rw [if_neg hw] at hem2
        rw [if_neg hw] at p2
        obtain ⟨dy, k1, k2⟩ := hem2.1
        unfold ev at k1
        simp only [evAs, q1, e2, p1] at k1
        obtain ⟨τ, xs, k', n', y0, z, rfl, hn', hτ, hn0', hy0, hz, rfl⟩ := set_inv k1
        simp only [Sigma.mk.injEq, Ty.int.injEq] at hn'
        obtain ⟨rfl, hn'⟩ := hn'
        have hn' : n = n' := by simpa using hn'
        subst hn'
        have hmode : (mm = .sh ∧ X = [] ∧ ValRep sh' w d2 .sh (a.eval x) X) ∨ (d2.1.isAgg = false ∧ ValRep sh' w d2 (mm.cell f) (a.eval x) X) := by
          by_cases hsh : mm.isSh = true
          · have hmm : mm = .sh := by cases mm <;> simp [Md.isSh] at hsh; rfl
            subst hmm
            rw [Md.cell_sh] at p2
            obtain ⟨us, u1, u2⟩ := p2
            have hX := u2.sh_nil
            exact .inl ⟨rfl, hX, us, u1, u2⟩
          · refine .inr ⟨?_, p2⟩
            simp only [Bool.or_eq_true, hsh, hw, false_or, Bool.false_eq_true] at hcase
            simp only [Bool.and_eq_true, beq_iff_eq] at hcase
            -- one cell, no struct
            cases hag : d2.1.isAgg with
            | false => rfl
            | true =>
              exfalso
              unfold setElem at hz
              rw [hcase.1] at hz
              simp only [hag, if_true, ne_eq, not_true_eq_false, and_false, if_false] at hz
              split at hz
              · cases hz
              · split at hz
                · unfold Dy.as at hz
                  split at hz
                  · rename_i hna _ heq
                    rw [heq] at hag
                    exact hna hag
                  · cases hz
                · cases hz
        obtain ⟨d1', G', q1', r1', _⟩ := root_rep hI hroot' hhdr'
        obtain rfl := some_eq' q1 q1'
        obtain ⟨_, _, _, _, _, _, _, _, _, hrepy, _⟩ := own_elem r1' hy0
        obtain ⟨u1, u2, _⟩ := setElem_rep hrepy hz hmode
        obtain ⟨w', s1, s2⟩ := hI.storeEl (P := P) (t := t) (off := f) (us := (a.eval x).cells.toList) (x1 := .var (nv + emN y.em)) (y := y0) (z := z) (n := n.toNat) (v := a.eval x) (Y := X) hroot' hhdr' q1 hy0 p3 rfl hone
          u1.symm (by rw [u1]; exact hn0) (by rw [u1]; exact u2) (fun vs G hvs => by
            obtain ⟨u1, u2, A, X', B, u3, u4⟩ := setElem_rep hvs hz hmode
            exact ⟨A, X', B, u3, by rw [u1]; exact u4⟩) k2
        rw [hτ] at s1
        exact ⟨w', s1, s2, p4⟩
    cases b with
    | false =>
      have := Rd.pure_some hs4
      subst this
      obtain ⟨w', hw, hI, hmild⟩ := hgo he
      refine wp_skip' (hfin w' hw) ?_
      have happ := apply_take (σ := σ) hmild (y.em ++ [if f == 0 && P.cellsOf t == m then .e ⟨.setE m, [x0, i, y.x]⟩ else .e ⟨.set m f (P.cellsOf t), [x0, i, y.x]⟩]) [(5, r)] [] [(r, .at (.var (nv + emN y.em)) (.own mm))]
      rw [List.append_nil] at happ
      rw [hd]
      show Inv sh0 w0 G0 ρ (σ.apply _) _ _
      rw [happ]
      exact hI
    | true =>
      obtain ⟨bx, l9, l10, h5, hs5, _⟩ := Rd.bind_some hs4
      have hbx5 := Rd.box_some h5
      have := Rd.pure_some hs5
      subst this
      obtain ⟨w', hw, hI, hmild⟩ := hgo he
      refine wp_skip' (hfin w' hw) ?_
      have happ := apply_take (σ := σ) hmild (y.em ++ [if f == 0 && P.cellsOf t == m then .e ⟨.setE m, [x0, i, y.x]⟩ else .e ⟨.set m f (P.cellsOf t), [x0, i, y.x]⟩]) [(6, r)] [(r, some (bx.set c (some (.var (nv + emN y.em), .own mm))))] []
      rw [List.append_nil] at happ
      rw [hd]
      show Inv sh0 w0 G0 ρ (σ.apply _) _ _
      rw [happ]
      exact hI bx (by rw [take_boxes (fun z hz => by have := List.all_eq_true.1 hbx z hz; simpa using this)]; exact hbx5)
  · cases hs1

/-- A part of a value is read. -/
theorem load_agg {t : TypeId} {nv f : Nat} {dd : Dy} {c : A} {b o' : Nat} {ar : Array Value} {ty : TypeId} {fz : Nat × Nat} (h : InvG sh0 w0 G0 ρ σ a w sh F β) (hd : o.dst = some d) (hlt : DstOk σ d)
    (e1 : evA ρ c = some dd) (e4 : w.heap[b]? = some (.cells ar ty fz)) (e5 : Rep sh w dd.1 .sh dd.2 ((ar.toList.drop o').take dd.1.n) []) (e6 : o' + dd.1.n ≤ ar.size)
    (hfin : ∀ v, (loadVar t ⟨b, o' + f, none⟩).run P w = .ok v w → (execOp a.eval o).run P w = .ok (.value v) w) (hagg : isAggB P t = true) (hnz : P.cellsOf t ≠ 0)
    (he : EmOk Fn ρ nv [.e ⟨.cells f (P.cellsOf t), [c]⟩]) : o.wp P a w (Inv sh0 w0 G0 ρ (σ.putS (d, .at (.var nv) .sh))) Q := by
  refine sound_e h hd hlt he fun ds dy hds hev => ?_
  obtain ⟨d1', q1, rfl⟩ := evAs1 hds
  obtain rfl := some_eq e1 q1
  simp only [evX] at hev
  cases hcs : cellsAt dd f (P.cellsOf t) with
  | none => rw [hcs] at hev; cases hev
  | some cs =>
    rw [hcs] at hev
    have hat := cellsAt_rep e5 hcs
    have hlen := hat.length
    have hcl := cellsAt_len hcs
    obtain ⟨r1, r2, r3, r4⟩ := ofCells_rep hat hev
    have hl2 : ((ar.toList.drop o').take dd.1.n).length = dd.1.n := e5.len
    have hfit : f + P.cellsOf t ≤ dd.1.n := by
      rw [hcl, List.length_take, List.length_drop, hl2] at hlen
      omega
    refine ⟨_, hfin _ (loadVar_agg hagg e4 rfl hnz (by omega)), _, by rw [r2]; rfl, ?_⟩
    have : (((ar.toList.drop o').take dd.1.n).drop f).take (P.cellsOf t) = (ar.toList.drop (o' + f)).take (P.cellsOf t) := by
      rw [List.drop_take, List.take_take, List.drop_drop, Nat.min_eq_left (by omega)]
    rw [← this]
    exact r1

theorem cell_repM' {d : Dy} {m : Md} {vs : List Value} {G : List Nat} {c : Nat} {d' : Dy} (h : Rep sh w d.1 m d.2 vs G) (hc : d.cell c = some d') :
    ∃ v G', vs[c]? = some v ∧ (∀ k ∈ G', k ∈ G) ∧ AtomRep sh w d' (m.cell c) v G' := by
  unfold Dy.cell at hc
  cases ha : d.1.isAgg with
  | true =>
    rw [if_pos ha] at hc
    obtain ⟨v, G', hv, hG, hr⟩ := cellAt_rep h hc
    exact ⟨v, G', hv, hG, hr⟩
  | false =>
    rw [if_neg (by simp [ha])] at hc
    obtain ⟨v, rfl⟩ := h.single ha
    split at hc
    · rename_i h0
      subst h0
      simp only [Option.some.injEq] at hc
      subst hc
      refine ⟨v, G, rfl, fun _ h => h, ha, ?_⟩
      obtain ⟨τ, x⟩ := d
      cases τ with
      | sl e => cases m with
        | pair _ _ => exact h.elim
        | _ => exact h
      | pair _ _ => simp [Ty.isAgg] at ha
      | _ => exact h
    · cases hc

theorem cell_repM {d : Dy} {m : Md} {vs : List Value} {G : List Nat} {c : Nat} {d' : Dy} (h : Rep sh w d.1 m d.2 vs G) (hc : d.cell c = some d') :
    ∃ v G', vs[c]? = some v ∧ AtomRep sh w d' (m.cell c) v G' := by
  obtain ⟨v, G', h1, _, h2⟩ := cell_repM' h hc
  exact ⟨v, G', h1, h2⟩

theorem rootOk_pel_ea {x : A} {b : Bool} {r c m f nn : Nat} {i : A} (h : rootOk σ (.pel b r c m i f)) : rootOk σ (.ea x b r c m i f nn) := by
  cases b <;> exact h

/-- A struct inside an element of an owned row is read. -/
theorem load_ownA {t : TypeId} {nv f : Nat} {dd : Dy} {c : A} {b q : Nat} {ar : Array Value} {ty : TypeId} {fz : Nat × Nat} {m : Md} {G : List Nat} {rb : Bool} {r rc len cap : Nat} {i : A} {k : IntKind} {n : Int} (h : InvG sh0 w0 G0 ρ σ a w sh F β) (hd : o.dst = some d) (hlt : DstOk σ d)
    (e1 : evA ρ c = some dd) (e4 : w.heap[b]? = some (.cells ar ty fz)) (e5 : Rep sh w dd.1 m dd.2 ((ar.toList.drop (q * n.toNat)).take dd.1.n) G) (e6 : q * n.toNat + dd.1.n ≤ ar.size) (hbF : b ∈ F rb r) (hGF : ∀ z ∈ G, z ∈ F rb r)
    (hh : HdrIs w β a.tmps F rb r rc (.slice (some ⟨b, 0, none⟩) len cap)) (hi : evA ρ i = some ⟨.int k, n⟩) (hn0 : 0 ≤ n) (hnl : n.toNat < len) (hrd : ¬(rb = false ∧ r = d)) (hro : rootOk σ (.ea (.var nv) rb r rc q i f (P.cellsOf t)))
    (hfin : ∀ v, (loadVar t ⟨b, q * n.toNat + f, none⟩).run P w = .ok v w → (execOp a.eval o).run P w = .ok (.value v) w) (hagg : isAggB P t = true) (hnz : P.cellsOf t ≠ 0)
    (he : EmOk Fn ρ nv [.e ⟨.cells f (P.cellsOf t), [c]⟩]) : o.wp P a w (Inv sh0 w0 G0 ρ (σ.putS (d, .ea (.var nv) rb r rc q i f (P.cellsOf t)))) Q := by
  obtain ⟨dy, k1, k2⟩ := he.e1
  unfold ev at k1
  simp only [evAs, e1, evX] at k1
  cases hcs : cellsAt dd f (P.cellsOf t) with
  | none => rw [hcs] at k1; cases k1
  | some cs =>
    rw [hcs] at k1
    have e5' : Rep (fun z => sh z ∨ z ∈ G) w dd.1 .sh dd.2 ((ar.toList.drop (q * n.toNat)).take dd.1.n) [] := Rep.freeze (fun _ hb => .inl hb) e5 (fun _ hb => .inr hb)
    have hat := cellsAt_rep e5' hcs
    have hlen := hat.length
    have hcl := cellsAt_len hcs
    obtain ⟨r1, r2, r3, r4⟩ := ofCells_rep hat k1
    have hl2 : ((ar.toList.drop (q * n.toNat)).take dd.1.n).length = dd.1.n := e5.len
    have hfit : f + P.cellsOf t ≤ dd.1.n := by
      rw [hcl, List.length_take, List.length_drop, hl2] at hlen
      omega
    have hsame : (((ar.toList.drop (q * n.toNat)).take dd.1.n).drop f).take (P.cellsOf t) = (ar.toList.drop (q * n.toNat + f)).take (P.cellsOf t) := by
      rw [List.drop_take, List.take_take, List.drop_drop, Nat.min_eq_left (by omega)]
    rw [hsame] at r1
    refine wp_value (hfin _ (loadVar_agg hagg e4 rfl hnz (by omega))) ?_
    rw [hd]
    refine ⟨_, _, _, h.put_none hlt (s := .ea (.var nv) rb r rc q i f (P.cellsOf t)) ⟨rfl, ⟨dy, fun z => sh z ∨ z ∈ G, k2, ⟨_, by rw [r2]; rfl, r1⟩, fun z hz => hz.imp id (hGF z)⟩,
      b, len, cap, k, n, ar, ty, fz, hh, hi, hn0, hnl, hbF, e4, fun h0 => absurd h0 hnz, fun _ => ⟨by omega, rfl⟩⟩ (fun e => ?_) hro⟩
    simp only [roots, Option.some.injEq, Prod.mk.injEq] at e
    exact hrd e

/-- A row that an element of an owned row owns is read. -/
theorem load_own {t : TypeId} {nv f : Nat} {dd : Dy} {c : A} {b q : Nat} {ar : Array Value} {ty : TypeId} {fz : Nat × Nat} {m : Md} {G : List Nat} {rb : Bool} {r rc len cap : Nat} {i : A} {k : IntKind} {n : Int} (h : InvG sh0 w0 G0 ρ σ a w sh F β) (hd : o.dst = some d) (hlt : DstOk σ d)
    (e1 : evA ρ c = some dd) (e4 : w.heap[b]? = some (.cells ar ty fz)) (e5 : Rep sh w dd.1 m dd.2 ((ar.toList.drop (q * n.toNat)).take dd.1.n) G) (hbF : b ∈ F rb r) (hGF : ∀ z ∈ G, z ∈ F rb r)
    (hh : HdrIs w β a.tmps F rb r rc (.slice (some ⟨b, 0, none⟩) len cap)) (hi : evA ρ i = some ⟨.int k, n⟩) (hn0 : 0 ≤ n) (hnl : n.toNat < len) (hrd : ¬(rb = false ∧ r = d)) (hro : rootOk σ (.ea (.var nv) rb r rc q i f 0))
    (hfin : ∀ v, (loadVar t ⟨b, q * n.toNat + f, none⟩).run P w = .ok v w → (execOp a.eval o).run P w = .ok (.value v) w) (hna : notAggB P t = true)
    (he : EmOk Fn ρ nv [.e ⟨.a, [.fld c f]⟩]) : o.wp P a w (Inv sh0 w0 G0 ρ (σ.putS (d, .ea (.var nv) rb r rc q i f 0))) Q := by
  obtain ⟨dy, k1, k2⟩ := he.e1
  unfold ev at k1
  cases hc : evA ρ (.fld c f) with
  | none => simp only [evAs, hc] at k1; cases k1
  | some d1 =>
    simp only [evAs, hc, evX, Option.some.injEq] at k1
    subst k1
    simp only [evA, e1] at hc
    obtain ⟨v, G', hv, hG, hat⟩ := cell_repM' e5 hc
    have hcf : ar[q * n.toNat + f]? = some v := by
      rw [List.getElem?_take] at hv
      split at hv
      · rw [List.getElem?_drop] at hv
        simpa using hv
      · cases hv
    refine wp_value (hfin _ (loadVar_atom hna e4 hcf)) ?_
    rw [hd]
    refine ⟨_, _, _, h.put_none hlt (s := .ea (.var nv) rb r rc q i f 0) ⟨rfl, ⟨d1, fun z => sh z ∨ z ∈ G', by simpa [evA] using k2, valRep_atom ⟨hat.1, Rep.freeze (fun _ hb => .inl hb) hat.2 (fun _ hb => .inr hb)⟩, fun z hz => hz.imp id (fun hz => hGF z (hG z hz))⟩,
      b, len, cap, k, n, ar, ty, fz, hh, hi, hn0, hnl, hbF, e4, fun _ => hcf, fun h0 => absurd rfl h0⟩ (fun e => ?_) hro⟩
    simp only [roots, Option.some.injEq, Prod.mk.injEq] at e
    exact hrd e

theorem load_cell {t : TypeId} {nv f : Nat} {dd : Dy} {c : A} {b o' : Nat} {ar : Array Value} {ty : TypeId} {fz : Nat × Nat} {m : Md} {G : List Nat} (h : InvG sh0 w0 G0 ρ σ a w sh F β) (hd : o.dst = some d) (hlt : DstOk σ d)
    (e1 : evA ρ c = some dd) (e4 : w.heap[b]? = some (.cells ar ty fz)) (e5 : Rep sh w dd.1 m dd.2 ((ar.toList.drop o').take dd.1.n) G) (hm : (m.cell f).isSh = true)
    (hfin : ∀ v, (loadVar t ⟨b, o' + f, none⟩).run P w = .ok v w → (execOp a.eval o).run P w = .ok (.value v) w) (hna : notAggB P t = true)
    (he : EmOk Fn ρ nv [.e ⟨.a, [.fld c f]⟩]) : o.wp P a w (Inv sh0 w0 G0 ρ (σ.putS (d, .at (.var nv) .sh))) Q := by
  refine sound_e h hd hlt he fun ds dy hds hev => ?_
  obtain ⟨d1', q1, rfl⟩ := evAs1 hds
  simp only [evX, Option.some.injEq] at hev
  subst hev
  simp only [evA, e1] at q1
  obtain ⟨v, G', hv, hat⟩ := cell_repM e5 q1
  have hcf : ar[o' + f]? = some v := by
    rw [List.getElem?_take] at hv
    split at hv
    · rw [List.getElem?_drop] at hv
      simpa using hv
    · cases hv
  have hms : m.cell f = .sh := by
    generalize m.cell f = m' at hm
    cases m' <;> simp [Md.isSh] at hm
    rfl
  rw [hms] at hat
  obtain ⟨h1, h2⟩ := hat
  have := h2.sh_nil
  subst this
  exact ⟨v, hfin _ (loadVar_atom hna e4 hcf), valRep_atom ⟨h1, h2⟩⟩

theorem load_atom {t : TypeId} {nv f : Nat} {dd : Dy} {c : A} {b o' : Nat} {ar : Array Value} {ty : TypeId} {fz : Nat × Nat} (h : InvG sh0 w0 G0 ρ σ a w sh F β) (hd : o.dst = some d) (hlt : DstOk σ d)
    (e1 : evA ρ c = some dd) (e4 : w.heap[b]? = some (.cells ar ty fz)) (e5 : Rep sh w dd.1 .sh dd.2 ((ar.toList.drop o').take dd.1.n) [])
    (hfin : ∀ v, (loadVar t ⟨b, o' + f, none⟩).run P w = .ok v w → (execOp a.eval o).run P w = .ok (.value v) w) (hna : notAggB P t = true)
    (he : EmOk Fn ρ nv [.e ⟨.a, [.fld c f]⟩]) : o.wp P a w (Inv sh0 w0 G0 ρ (σ.putS (d, .at (.var nv) .sh))) Q := by
  refine sound_e h hd hlt he fun ds dy hds hev => ?_
  obtain ⟨d1', q1, rfl⟩ := evAs1 hds
  simp only [evX, Option.some.injEq] at hev
  subst hev
  simp only [evA, e1] at q1
  obtain ⟨v, hv, hat⟩ := cell_rep e5 q1
  have hcf : ar[o' + f]? = some v := by
    rw [List.getElem?_take] at hv
    split at hv
    · rw [List.getElem?_drop] at hv
      simpa using hv
    · cases hv
  exact ⟨v, hfin _ (loadVar_atom hna e4 hcf), valRep_atom hat⟩

theorem sound_load {t : TypeId} {x : Operand} {nv : Nat} (h : InvG sh0 w0 G0 ρ σ a w sh F β) (hop : o.op = .load t x) (hd : o.dst = some d) (hlt : DstOk σ d)
    (hs : stLoad P nv d t x σ = some (st, l)) (he : EmOk Fn ρ nv st.em) : o.wp P a w (Inv sh0 w0 G0 ρ (σ.apply st)) Q := by
  unfold stLoad at hs
  obtain ⟨sv, l1, l2, h1, hs1, _⟩ := Rd.bind_some hs
  have hfin : ∀ b f v, a.eval x = .pointer (some ⟨b, f, none⟩) → (loadVar t ⟨b, f, none⟩).run P w = .ok v w → (execOp a.eval o).run P w = .ok (.value v) w := by
    intro b f v hx hv
    unfold execOp
    rw [hop]
    simp only [Instr.loadAt, hx, Instr.sureAddr, Sem.run_bind, Sem.run_pure, Result.andThen_ok, hv]
  split at hs1
  · rename_i r f
    have hp := opnd_ptr h h1
    cases hagg : isAggB P t with
    | true =>
      simp only [hagg, if_true] at hs1
      obtain ⟨b, l3, l4, h2, hs2, _⟩ := Rd.bind_some hs1
      have hb := Rd.box_some h2
      obtain ⟨c, ty, F', k1, k2, k3⟩ := h.box r b hb
      have hsz : c.size = b.length := by
        have := RepL.len (n := 1) (fun x vs F hh => by obtain ⟨v, rfl, _⟩ := hh; rfl) k3
        simpa using this
      obtain ⟨_, l5, l6, h3, hs3, _⟩ := Rd.bind_some hs2
      have hg := Rd.guard_some h3
      simp only [Bool.and_eq_true, decide_eq_true_eq, bne_iff_ne] at hg
      cases hxs : shCells ((b.drop f).take (P.cellsOf t)) with
      | none =>
        rw [hxs] at hs3
        obtain ⟨_, l7, l8, h4, hs4, _⟩ := Rd.bind_some hs3
        have hany := Rd.guard_some h4
        have := Rd.pure_some hs4
        subst this
        refine wp_value (hfin _ _ _ hp (loadVar_agg hagg k1 rfl hg.2 (by omega))) ?_
        rw [hd]
        refine ⟨_, _, _, h.put_none hlt (s := .ag r f (P.cellsOf t)) ⟨rfl, by rw [k2]; simp, c, ty, (0, 0), k1, by omega, rfl⟩ (by simp [roots]) ⟨b, hb, ?_⟩⟩
        obtain ⟨y, hy, hy2⟩ := List.any_eq_true.1 hany
        exact List.any_eq_true.2 ⟨y, List.mem_of_mem_drop (List.mem_of_mem_take hy), hy2⟩
      | some xs => ?_
      rw [hxs] at hs3
      have := Rd.pure_some hs3
      subst this
      obtain ⟨G, hG, hsub⟩ := RepL.sub (R := CellRep sh w ρ) f (P.cellsOf t) k3
      obtain ⟨ds, hds, hat⟩ := shCells_rep hxs hsub
      refine sound_e h hd hlt he fun ds' dy hds' hev => ?_
      obtain rfl := some_eq hds hds'
      simp only [evX] at hev
      obtain ⟨q1, q2, q3, q4⟩ := ofCells_rep hat hev
      exact ⟨_, hfin _ _ _ hp (loadVar_agg hagg k1 rfl hg.2 (by omega)), _, by rw [q2]; rfl, q1⟩
    | false =>
      simp only [hagg, Bool.false_eq_true, if_false] at hs1
      obtain ⟨_, l5, l6, h3, hs2, _⟩ := Rd.bind_some hs1
      have hna := Rd.guard_some h3
      obtain ⟨z, l3, l4, h2, hs3, _⟩ := Rd.bind_some hs2
      obtain ⟨b, hb, rfl⟩ := Rd.cell_some h2
      obtain ⟨c, ty, F', k1, k2, k3⟩ := h.box r b hb
      have hsz : c.size = b.length := by
        have := RepL.len (n := 1) (fun x vs F hh => by obtain ⟨v, rfl, _⟩ := hh; rfl) k3
        simpa using this
      cases hy : b[f]? with
      | none => rw [hy] at hs3; cases hs3
      | some yy => ?_
      rw [hy] at hs3
      match yy, hy, hs3 with
      | none, _, hs3 => cases hs3
      | some (y, .own m), hy, hs3 =>
        have := Rd.pure_some hs3
        subst this
        obtain ⟨v, A, X, B, hcf, _, ⟨d0, e0, hna0, hrep⟩, _⟩ := RepL.pick (y := (none : Cell)) (fun _ => rfl) k3 hy
        have hcf : c[f]? = some v := by simpa using hcf
        refine wp_value (hfin _ _ _ hp (loadVar_atom hna k1 hcf)) ?_
        rw [hd]
        have hln : LenIs ρ (some (.var nv)) v := by
          intro z hz
          obtain rfl := Option.some.inj hz
          obtain ⟨dy, q1, q2⟩ := he.1
          obtain ⟨ds, q3, q4⟩ : ∃ ds, evAs ρ [y] = some ds ∧ evX .len ds = some dy := by
            unfold ev at q1
            cases hq : evAs ρ [y] with
            | none => rw [hq] at q1; cases q1
            | some ds => rw [hq] at q1; exact ⟨ds, rfl, q1⟩
          obtain ⟨d1, q5, rfl⟩ := evAs1 q3
          obtain rfl := some_eq e0 q5
          obtain ⟨τ, l⟩ := d0
          cases τ with
          | sl e =>
            simp only [evX, Option.some.injEq] at q4
            subst q4
            obtain ⟨ad, cap, hv, _⟩ := sl_val (v := v) ⟨[v], rfl, hrep⟩
            exact ⟨ad, _, cap, hv, q2⟩
          | _ => simp [evX] at q4
        exact ⟨_, _, _, h.put_none hlt (s := .rf true r f (some (.var nv))) ⟨rfl, ⟨by rw [k2]; simp, by simp [World.cell?, k1, hcf]⟩, hln⟩ (by simp [roots]) ⟨b, hb, by rw [hy]; trivial⟩⟩
      | some (y, .pair _ _), _, hs3 => cases hs3
      | some (y, .sh), hy, hs3 =>
        have := Rd.pure_some hs3
        subst this
        obtain ⟨G, hG, hget⟩ := RepL.get (n := 1) (fun x vs F hh => by obtain ⟨v, rfl, _⟩ := hh; rfl) k3 hy
        obtain ⟨v, hv, dy, e1, e2, e3⟩ := hget
        have hcf : c[f]? = some v := by
          have := congrArg List.head? hv
          simp [List.head?_take, List.head?_drop] at this
          simpa using this
        refine wp_value (hfin _ _ _ hp (loadVar_atom hna k1 hcf)) ?_
        rw [hd]
        have := e3.sh_nil
        rw [this] at e3
        exact h.putSh hlt e1 (valRep_atom ⟨e2, e3⟩)
  · rename_i b r c m i f
    obtain ⟨⟨x0, mm⟩, l3, l4, h2, hs2, _⟩ := Rd.bind_some hs1
    obtain ⟨_, l5, l6, h3, hs3, _⟩ := Rd.bind_some hs2
    have hg := Rd.guard_some h3
    simp only [Bool.and_eq_true, bne_iff_ne] at hg
    have hnz : P.cellsOf t ≠ 0 := hg.1
    have hwk := hg.2
    obtain ⟨⟨_, g, len, cap, k, n, e1, e2, e3, e4, e5⟩, hro⟩ := opnd_pel (i := x) h h1
    rw [pelV_ptr hwk] at e5
    obtain ⟨d1, G, q1, r1, hinF⟩ := root_rep h (rootA_some h2) e1
    -- the element
    have hidx : ∀ (em : List Em), EmOk Fn ρ nv (.e ⟨.idx m, [x0, i]⟩ :: em) → ∃ (τ : Ty) (y : D τ) (ar : Array Value) (ty : TypeId) (fz : Nat × Nat) (G' : List Nat), ρ[nv]? = some ⟨τ, y⟩ ∧ τ.n = m ∧ w.heap[g]? = some (.cells ar ty fz) ∧
        Rep sh w τ mm y ((ar.toList.drop (m * n.toNat)).take τ.n) G' ∧ (τ.n ≠ 0 → m * n.toNat + τ.n ≤ ar.size) ∧ g ∈ F b r ∧ ∀ k ∈ G', k ∈ F b r := by
      intro em hem
      obtain ⟨dy, k1, k2⟩ := hem.1
      unfold ev at k1
      simp only [evAs, q1, e2] at k1
      obtain ⟨τ, xs, k', n', y, rfl, hn', hm, hn0, hy, rfl⟩ := idx_inv k1
      simp only [Sigma.mk.injEq, Ty.int.injEq] at hn'
      obtain ⟨rfl, hn'⟩ := hn'
      have hn' : n = n' := by simpa using hn'
      subst hn'
      obtain ⟨g', cap', ar, ty, fz, G', hv, hgG, hw, hr, hsub, hle⟩ := own_elem' r1 hy
      simp only [Value.slice.injEq, Option.some.injEq, Addr.mk.injEq, and_true] at hv
      obtain ⟨rfl, rfl, rfl⟩ := hv
      exact ⟨τ, y, ar, ty, fz, G', k2, hm, hw, by rw [← hm]; exact hr, by rw [← hm]; exact hle, hinF _ hgG, fun k hk => hinF _ (hsub k hk)⟩
    cases hagg : isAggB P t with
    | true =>
      simp only [hagg, if_true] at hs3
      have hτ' : ∀ (em : List Em), EmOk Fn ρ (nv + 1) (.e ⟨.cells f (P.cellsOf t), [.var nv]⟩ :: em) → ∀ {τ : Ty} {y : D τ} {vs : List Value} {G : List Nat}, ρ[nv]? = some ⟨τ, y⟩ → Rep sh w τ mm y vs G → τ.n ≠ 0 := by
        intro em hem τ y vs G p1 p4
        obtain ⟨dy, k1, k2⟩ := hem.1
        intro h0
        unfold ev at k1
        simp only [evAs, evA, p1, evX] at k1
        cases hcs : cellsAt ⟨τ, y⟩ f (P.cellsOf t) with
        | none => rw [hcs] at k1; cases k1
        | some cs =>
          have p4' : Rep (fun z => sh z ∨ z ∈ G) w τ .sh y vs [] := Rep.freeze (fun _ hb => .inl hb) p4 (fun _ hb => .inr hb)
          have hat := (cellsAt_rep (d := ⟨τ, y⟩) p4' hcs).length
          have hl := cellsAt_len hcs
          have hlen := p4.len
          rw [h0] at hlen
          have hvs : vs = [] := List.eq_nil_of_length_eq_zero hlen
          subst hvs
          simp at hat
          rw [hat] at hl
          exact hnz (by simpa using hl.symm)
      split at hs3
      case isFalse =>
        obtain ⟨_, l9, l10, h5, hs5, _⟩ := Rd.bind_some hs3
        have hg5 := Rd.guard_some h5
        have := Rd.pure_some hs5
        subst this
        obtain ⟨τ, y, ar, ty, fz, G', p1, p2, p3, p4, p5, p6, p7⟩ := hidx _ he
        exact load_ownA (nv := nv + 1) (f := f) (dd := ⟨τ, y⟩) (c := .var nv) h hd hlt p1 p3 p4 (p5 (hτ' _ he.2 p1 p4)) p6 p7 e1 e2 e3 e4 (fun e => by rw [e.1, e.2] at hg5; simp at hg5) (rootOk_pel_ea hro) (fun v hv => hfin _ _ _ e5 hv) hagg hnz he.2
      rename_i hmm
      have hmm : mm = .sh := by cases mm <;> simp [Md.isSh] at hmm; rfl
      subst hmm
      have := Rd.pure_some hs3
      subst this
      obtain ⟨τ, y, ar, ty, fz, G', p1, p2, p3, p4, p5, _⟩ := hidx _ he
      have hG := p4.sh_nil
      subst hG
      obtain ⟨dy, k1, k2⟩ := he.2.1
      have hτ : τ.n ≠ 0 := by
        intro h0
        unfold ev at k1
        simp only [evAs, evA, p1, evX] at k1
        cases hcs : cellsAt ⟨τ, y⟩ f (P.cellsOf t) with
        | none => rw [hcs] at k1; cases k1
        | some cs =>
          have hat := (cellsAt_rep p4 hcs).length
          have hl := cellsAt_len hcs
          rw [h0] at hat
          simp at hat
          rw [hat] at hl
          exact hnz (by simpa using hl.symm)
      exact load_agg (nv := nv + 1) (f := f) (dd := ⟨τ, y⟩) (c := .var nv) h hd hlt p1 p3 p4 (p5 hτ) (fun v hv => hfin _ _ _ e5 hv) hagg hnz he.2
    | false =>
      simp only [hagg, Bool.false_eq_true, if_false] at hs3
      obtain ⟨_, l7, l8, h4, hs4, _⟩ := Rd.bind_some hs3
      have hg4 := Rd.guard_some h4
      simp only [Bool.and_eq_true, beq_iff_eq] at hg4
      split at hs4
      · rename_i hsh
        have := Rd.pure_some hs4
        subst this
        obtain ⟨τ, y, ar, ty, fz, G', p1, p2, p3, p4, p5, _⟩ := hidx _ he
        exact load_cell (nv := nv + 1) (f := f) (dd := ⟨τ, y⟩) (c := .var nv) h hd hlt p1 p3 p4 hsh (fun v hv => hfin _ _ _ e5 hv) hg4.1 he.2
      · obtain ⟨_, l9, l10, h5, hs5, _⟩ := Rd.bind_some hs4
        have hg5 := Rd.guard_some h5
        have := Rd.pure_some hs5
        subst this
        obtain ⟨τ, y, ar, ty, fz, G', p1, p2, p3, p4, p5, p6, p7⟩ := hidx _ he
        exact load_own (nv := nv + 1) (f := f) (dd := ⟨τ, y⟩) (c := .var nv) h hd hlt p1 p3 p4 p6 p7 e1 e2 e3 e4 (fun e => by rw [e.1, e.2] at hg5; simp at hg5) (rootOk_pel_ea hro) (fun v hv => hfin _ _ _ e5 hv) hg4.1 he.2
  · rename_i c f
    obtain ⟨_, dd, b, o', ar, ty, fz, e1, e2, e3, e4, e5, e6⟩ := opnd_psh h h1
    cases hagg : isAggB P t with
    | true =>
      simp only [hagg, if_true] at hs1
      obtain ⟨_, l5, l6, h3, hs3, _⟩ := Rd.bind_some hs1
      have hg := Rd.guard_some h3
      have := Rd.pure_some hs3
      subst this
      exact load_agg h hd hlt e1 e4 e5 e6 (fun v hv => hfin _ _ _ e2 hv) hagg (by simpa using hg) he
    | false =>
      simp only [hagg, Bool.false_eq_true, if_false] at hs1
      obtain ⟨_, l5, l6, h3, hs3, _⟩ := Rd.bind_some hs1
      have hna := Rd.guard_some h3
      have := Rd.pure_some hs3
      subst this
      exact load_atom h hd hlt e1 e4 e5 (fun v hv => hfin _ _ _ e2 hv) hna he
  · cases hs1

theorem sound_pick {t : TypeId} {c x y : Operand} {nv : Nat} (h : InvG sh0 w0 G0 ρ σ a w sh F β) (hop : o.op = .pick c x y) (hd : o.dst = some d) (hlt : DstOk σ d)
    (hs : stPick P nv d t c x y σ = some (st, l)) (he : EmOk Fn ρ nv st.em) : o.wp P a w (Inv sh0 w0 G0 ρ (σ.apply st)) Q := by
  unfold stPick at hs
  obtain ⟨c1, l1, l2, h1, hs0, _⟩ := Rd.bind_some hs
  obtain ⟨d1, sqd1, m1, X1, e1, r1, _⟩ := look_rep h h1
  obtain ⟨kb, l7, l8, h0, hs1, _⟩ := Rd.bind_some hs0
  have hkn := Rd.known_some h0
  cases kb with
  | some b =>
    have hb := known_rep h hkn
    obtain rfl := some_eq e1 hb
    have hb : a.eval c = .bool b := valA_rep r1 rfl
    refine sound_moved (x := if b then x else y) h ?_ hd hlt hs1 he
    unfold execOp
    rw [hop]
    simp only [hb, asBool, Sem.run_bind, Sem.run_pure, Result.andThen_ok]
    cases b <;> rfl
  | none => ?_
  obtain ⟨ka, l3, l4, h2, hs2, _⟩ := Rd.bind_some hs1
  obtain ⟨kb', l5, l6, h3, hs3, _⟩ := Rd.bind_some hs2
  have := Rd.pure_some hs3
  subst this
  obtain ⟨hea, heb⟩ := he.split
  obtain ⟨hea1, hea2⟩ := (show EmOk Fn ρ nv (ka.em ++ kb'.em) from hea).split
  obtain ⟨sh1, F1, d2, hI1, e2, r2, q1, q2⟩ := frz_rep h h2 hea1
  obtain ⟨sh2, F2, d3, hI2, e3, r3, q4, q5⟩ := frz_rep (σ := σ.take ka) hI1 h3 hea2
  have hm1 := frzV_mild h2
  have hm2 : kb'.mild := frzV_mild (σ := σ.take ka) h3
  have hI : InvG sh0 w0 G0 ρ (σ.take (ka.and kb')) a w sh2 F2 β := by rw [take_and hm1]; exact hI2
  have happ := apply_take (σ := σ) (hm1.and hm2) ((ka.and kb').em ++ [.e ⟨.pick, [c1, ka.x, kb'.x]⟩]) [] [] [(d, .at (.var (nv + emN (ka.and kb').em)) .sh)]
  simp only [List.append_nil] at happ
  rw [happ]
  have hlt2 : DstOk (σ.take (ka.and kb')) d := hlt.take ((frzV_tame h2).and (frzV_tame (σ := σ.take ka) h3))
  have r2' : ValRep sh2 w d2 .sh (a.eval x) [] := r2.frame (fun b hb => ⟨q5.mono b hb, rfl⟩) (by simp)
  refine sound_e (op := .pick) (args := [c1, ka.x, kb'.x]) hI hd hlt2 heb fun ds dy hds hev => ?_
  obtain ⟨d1', d2', d3', k1, k2, k3, rfl⟩ := evAs3 hds
  obtain rfl := some_eq e1 k1
  obtain rfl := some_eq e2 k2
  obtain rfl := some_eq e3 k3
  obtain ⟨τ1, x1⟩ := d1
  cases τ1 with
  | bool =>
    simp only [evX] at hev
    cases hz : d3.as d2.1 with
    | none => rw [hz] at hev; cases hev
    | some z =>
      rw [hz] at hev
      simp only [Option.some.injEq] at hev
      subst hev
      have hb : a.eval c = .bool x1 := valA_rep r1 rfl
      refine ⟨if x1 then a.eval x else a.eval y, ?_, ?_⟩
      · unfold execOp
        rw [hop]
        simp only [hb, asBool, Sem.run_bind, Sem.run_pure, Result.andThen_ok]
      · unfold Dy.as at hz
        split at hz
        · rename_i heq
          simp only [Option.some.injEq] at hz
          subst hz
          obtain ⟨τ2, x2⟩ := d2
          obtain ⟨τ3, x3⟩ := d3
          dsimp only at heq
          subst heq
          cases x1 <;> simpa
        · cases hz
  | _ => simp [evX] at hev

theorem sound_extract {x : Operand} {i : Nat} (h : InvG sh0 w0 G0 ρ σ a w sh F β) (hop : o.op = .extract x i) (hd : o.dst = some d) (hlt : DstOk σ d)
    (hs : stExtract P d x i σ = some (st, l)) : o.wp P a w (Inv sh0 w0 G0 ρ (σ.apply st)) Q := by
  unfold stExtract at hs
  cases x with
  | tmp j =>
    obtain ⟨z, l1, l2, h1, hs1, _⟩ := Rd.bind_some hs
    obtain ⟨xs, hsl, rfl⟩ := Rd.comp_some h1
    cases hy : xs[i]? with
    | none => rw [hy] at hs1; cases hs1
    | some yy => ?_
    rw [hy] at hs1
    obtain ⟨u0, hu0, vs, rfl, hrep⟩ := h.slot j _ hsl
    have hv : a.eval (.tmp j) = .tuple vs := eval_tmp hu0
    have hrun : ∀ v, vs[i]? = some v → (execOp a.eval o).run P w = .ok (.value v) w := by
      intro v hcf
      unfold execOp
      rw [hop]
      simp [Instr.extract, hv, hcf]
    -- a component that owns
    have hown : ∀ (y : A) (m : Md), xs[i]? = some (some (y, m)) → m ≠ .sh → j ≠ d → st = { wr := [(d, .tp j i)] } → o.wp P a w (Inv sh0 w0 G0 ρ (σ.apply st)) Q := by
      intro y m hy hm hne hst
      subst hst
      obtain ⟨v, A, X, B, e1, hF, _, _⟩ := RepL.pick (y := (none : Option (A × Md))) (fun _ => rfl) hrep hy
      have hcf : vs[i]? = some v := by simpa using e1
      refine wp_value (hrun v hcf) ?_
      rw [hd]
      refine ⟨_, _, _, h.put_none hlt (s := .tp j i) ⟨rfl, vs, hu0, hcf⟩ (fun e => ?_) ⟨xs, y, m, hsl, hy, hm⟩⟩
      simp only [roots, Option.some.injEq, Prod.mk.injEq, true_and] at e
      exact hne e
    match yy, hy, hs1 with
    | none, _, hs1 => cases hs1
    | some (y, .own m), hy, hs1 =>
      obtain ⟨_, l3, l4, h2, hs2, _⟩ := Rd.bind_some hs1
      exact hown y _ hy (by simp) (by simpa using Rd.guard_some h2) (Rd.pure_some hs2).symm
    | some (y, .pair m1 m2), hy, hs1 =>
      obtain ⟨_, l3, l4, h2, hs2, _⟩ := Rd.bind_some hs1
      exact hown y _ hy (by simp) (by simpa using Rd.guard_some h2) (Rd.pure_some hs2).symm
    | some (y, .sh), hy, hs1 =>
      have := Rd.pure_some hs1
      subst this
      obtain ⟨G, hG, hget⟩ := RepL.get (n := 1) (fun x vs F hh => by obtain ⟨v, rfl, _⟩ := hh; rfl) hrep hy
      obtain ⟨v, hvv, dy, e1, us, e2, e3⟩ := hget
      have hcf : vs[i]? = some v := by
        have := congrArg List.head? hvv
        simp [List.head?_take, List.head?_drop] at this
        simpa using this
      refine wp_value (hrun v hcf) ?_
      rw [hd]
      have := e3.sh_nil
      rw [this] at e3
      exact h.putSh hlt e1 ⟨us, e2, e3⟩
  | _ => cases hs

end
end Go.Vm
