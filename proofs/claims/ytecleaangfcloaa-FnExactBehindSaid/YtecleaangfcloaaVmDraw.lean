/- A region whose order is drawn does the same in every order. Lemmas alone, no statement. -/
import Derived.Test.YtecleaangfcloaaVmSound
namespace Go.Vm
set_option linter.unusedVariables false
set_option linter.unusedSimpArgs false
open Go.RowKit

/-- Component c of a tuple. -/
def tupV (c : Nat) : SV → Option (Option (Option (A × Md)))
  | .tup xs => some xs[c]?
  | _ => none

def tupAt (σ : Sg) (r c : Nat) : Option (Option (Option (Option (A × Md)))) := (σ.slots[r]?).map (tupV c)

def celV (c : Nat) (b : Bx) : Option (Option Cell) := b.map fun cs => cs[c]?

def celAt (σ : Sg) (r c : Nat) : Option (Option (Option Cell)) := (σ.boxes[r]?).map (celV c)

/-- The same, as far as the code says. -/
def SameAt (σ τ : Sg) (c : Bool × Nat) : Prop :=
  (c.2 < 1024 → (c.1 = false → σ.slots[c.2]? = τ.slots[c.2]?) ∧ (c.1 = true → σ.boxes[c.2]? = τ.boxes[c.2]?)) ∧
  (1024 ≤ c.2 → (c.1 = false → tupAt σ ((c.2 - 1024) / 64) ((c.2 - 1024) % 64) = tupAt τ ((c.2 - 1024) / 64) ((c.2 - 1024) % 64)) ∧
    (c.1 = true → celAt σ ((c.2 - 1024) / 64) ((c.2 - 1024) % 64) = celAt τ ((c.2 - 1024) / 64) ((c.2 - 1024) % 64)))

/-- The two states are the same, as far as was read. -/
def Agree (l : List (Bool × Nat)) (σ τ : Sg) : Prop :=
  (σ.dec = τ.dec ∧ σ.kp = τ.kp ∧ σ.kb = τ.kb ∧ σ.slots.length ≤ 1024 ∧ σ.boxes.length ≤ 1024) ∧ ∀ c ∈ l, SameAt σ τ c

theorem Agree.left {l l' : List (Bool × Nat)} {σ τ : Sg} (h : Agree (l ++ l') σ τ) : Agree l σ τ := ⟨h.1, fun c hc => h.2 c (List.mem_append_left _ hc)⟩
theorem Agree.right {l l' : List (Bool × Nat)} {σ τ : Sg} (h : Agree (l ++ l') σ τ) : Agree l' σ τ := ⟨h.1, fun c hc => h.2 c (List.mem_append_right _ hc)⟩

theorem Agree.slotEq {l : List (Bool × Nat)} {σ τ : Sg} {i : Nat} {s : SV} (h : Agree l σ τ) (hm : (false, i) ∈ l) (hs : σ.slots[i]? = some s) : τ.slots[i]? = some s := by
  have hlt := (List.getElem?_eq_some_iff.1 hs).1
  have h4 := h.1.2.2.2.1
  exact (((h.2 _ hm).1 (show i < 1024 by omega)).1 rfl).symm.trans hs

theorem Agree.boxEq {l : List (Bool × Nat)} {σ τ : Sg} {i : Nat} {b : Bx} (h : Agree l σ τ) (hm : (true, i) ∈ l) (hs : σ.boxes[i]? = some b) : τ.boxes[i]? = some b := by
  have hlt := (List.getElem?_eq_some_iff.1 hs).1
  have h4 := h.1.2.2.2.2
  exact (((h.2 _ hm).1 (show i < 1024 by omega)).2 rfl).symm.trans hs

def Local {α : Type} (x : Rd α) : Prop := ∀ σ τ a l, x σ = some (a, l) → Agree l σ τ → x τ = some (a, l)

section
variable {α β : Type} {P : Program} {C : Nat → Option Sig}

theorem Local.bind {x : Rd α} {f : α → Rd β} (hx : Local x) (hf : ∀ a, Local (f a)) : Local (x >>= f) := by
  intro σ τ b l h hag
  obtain ⟨a, l1, l2, h1, h2, rfl⟩ := Rd.bind_some h
  have k1 := hx σ τ a l1 h1 hag.left
  have k2 := hf a σ τ b l2 h2 hag.right
  change Rd.bind x f τ = _
  unfold Rd.bind
  rw [k1]
  dsimp only
  rw [k2]

theorem Local.pure (a : α) : Local (Pure.pure a : Rd α) := fun _ _ _ _ h _ => h
theorem Local.fail : Local (Rd.fail : Rd α) := fun _ _ _ _ h _ => h
theorem Local.ofO (o : Option α) : Local (Rd.ofO o) := fun _ _ _ _ h _ => h
theorem Local.guard (b : Bool) : Local (Rd.guard b) := fun _ _ _ _ h _ => h
theorem Local.known (x : A) : Local (Rd.known x) := by
  intro σ τ a l h hag
  unfold Rd.known at h ⊢
  rw [← h]
  simp only [Option.some.injEq, Prod.mk.injEq, and_true]
  cases x <;> simp [Vm.known, hag.1.1]
theorem Local.slot (i : Nat) : Local (Rd.slot i) := by
  intro σ τ a l h hag
  unfold Rd.slot at h ⊢
  rw [getR_eq] at h ⊢
  cases hs : σ.slots[i]? with
  | none => rw [hs] at h; cases h
  | some s =>
    rw [hs] at h
    simp only [Option.some.injEq, Prod.mk.injEq] at h
    obtain ⟨rfl, rfl⟩ := h
    rw [hag.slotEq (by simp) hs]
theorem Local.box (i : Nat) : Local (Rd.box i) := by
  intro σ τ a l h hag
  unfold Rd.box at h ⊢
  rw [getR_eq] at h ⊢
  split at h
  · rename_i b hb
    simp only [Option.some.injEq, Prod.mk.injEq] at h
    obtain ⟨rfl, rfl⟩ := h
    rw [hag.boxEq (by simp) hb]
  · cases h
theorem fine_dec {r c : Nat} (hc : c < 64) : (Rd.fineC r c - 1024) / 64 = r ∧ (Rd.fineC r c - 1024) % 64 = c ∧ 1024 ≤ Rd.fineC r c := by
  unfold Rd.fineC
  refine ⟨by omega, by omega, by omega⟩
theorem Local.cell (r c : Nat) : Local (Rd.cell r c) := by
  intro σ τ a l h hag
  unfold Rd.cell at h ⊢
  rw [getR_eq] at h ⊢
  split at h
  · rename_i b hb
    simp only [Option.some.injEq, Prod.mk.injEq] at h
    obtain ⟨rfl, rfl⟩ := h
    by_cases hc : c < 64
    · rw [if_pos hc] at hag ⊢
      obtain ⟨h1, h2, h3⟩ := fine_dec (r := r) hc
      have := ((hag.2 (true, Rd.fineC r c) (by simp)).2 h3).2 rfl
      dsimp only at this
      rw [h1, h2] at this
      unfold celAt at this
      rw [hb] at this
      cases ht : τ.boxes[r]? with
      | none => rw [ht] at this; simp at this
      | some b' =>
        rw [ht] at this
        cases b' with
        | none => simp [celV] at this
        | some cs' =>
          simp only [celV, Option.map_some, Option.some.injEq] at this
          rw [this]
    · rw [if_neg hc] at hag ⊢
      rw [hag.boxEq (by simp) hb]
  · cases h
theorem Local.comp (r c : Nat) : Local (Rd.comp r c) := by
  intro σ τ a l h hag
  unfold Rd.comp at h ⊢
  rw [getR_eq] at h ⊢
  split at h
  · rename_i xs hb
    simp only [Option.some.injEq, Prod.mk.injEq] at h
    obtain ⟨rfl, rfl⟩ := h
    by_cases hc : c < 64
    · rw [if_pos hc] at hag ⊢
      obtain ⟨h1, h2, h3⟩ := fine_dec (r := r) hc
      have := ((hag.2 (false, Rd.fineC r c) (by simp)).2 h3).1 rfl
      dsimp only at this
      rw [h1, h2] at this
      unfold tupAt at this
      rw [hb] at this
      cases ht : τ.slots[r]? with
      | none => rw [ht] at this; simp at this
      | some s' =>
        rw [ht] at this
        cases s' with
        | tup ys =>
          simp only [tupV, Option.map_some, Option.some.injEq] at this
          rw [this]
        | _ => simp [tupV] at this
    · rw [if_neg hc] at hag ⊢
      rw [hag.slotEq (by simp) hb]
  · cases h
theorem Local.kp : Local Rd.kp := by
  intro σ τ a l h hag
  unfold Rd.kp at h ⊢
  rw [← hag.1.2.1]; exact h
theorem Local.slotK (i : Nat) : Local (Rd.slotK i) := by
  intro σ τ a l h hag
  unfold Rd.slotK at h ⊢
  rw [← hag.1.2.1]
  split at h
  · cases h
  · rename_i hk
    rw [if_neg hk]
    exact Local.slot i σ τ a l h hag
theorem local_any (i : Nat) : ∀ (σ τ : Sg) (a : Bx) (l : List (Bool × Nat)), (match getR σ.boxes i with | some b => some (b, [(true, i)]) | _ => none) = some (a, l) → Agree l σ τ → (match getR τ.boxes i with | some b => some (b, [(true, i)]) | _ => none) = some (a, l) := by
  intro σ τ a l h hag
  rw [getR_eq] at h ⊢
  split at h
  · rename_i b hb
    simp only [Option.some.injEq, Prod.mk.injEq] at h
    obtain ⟨rfl, rfl⟩ := h
    rw [hag.boxEq (by simp) hb]
  · cases h
theorem Local.boxAny (i : Nat) : Local (Rd.boxAny i) := by
  intro σ τ a l h hag
  unfold Rd.boxAny at h ⊢
  rw [← hag.1.2.2.1]
  split at h
  · rename_i hk
    rw [if_pos hk]
    exact local_any i σ τ a l h hag
  · cases h
theorem Local.boxFor (i : Nat) (x : Operand) : Local (Rd.boxFor i x) := by
  intro σ τ a l h hag
  unfold Rd.boxFor at h ⊢
  rw [← hag.1.2.2.1, ← hag.1.2.1]
  split at h
  · rename_i hk
    rw [if_pos hk]
    exact local_any i σ τ a l h hag
  · cases h
theorem Local.boxW (i : Nat) : Local (Rd.boxW i) := by
  intro σ τ a l h hag
  unfold Rd.boxW at h ⊢
  rw [← hag.1.2.2.1]
  split at h
  · rename_i hk
    rw [if_pos hk]
    exact Local.box i σ τ a l h hag
  · cases h

theorem local_opnd (t : TypeId) (x : Operand) : Local (opnd P t x) := by
  cases x with
  | tmp i => exact Local.slot i
  | const v => exact Local.ofO _
  | func f => exact Local.pure _
  | _ => exact Local.fail

theorem kills_len : ∀ (l : List (Nat × Nat)) (σ : Sg), (l.foldl Sg.kill σ).slots.length = σ.slots.length ∧ (l.foldl Sg.kill σ).boxes = σ.boxes ∧ (l.foldl Sg.kill σ).dec = σ.dec
  | [], _ => ⟨rfl, rfl, rfl⟩
  | x :: l, σ => by
    obtain ⟨h1, h2, h3⟩ := kills_len l (σ.kill x)
    exact ⟨by rw [List.foldl_cons, h1]; simp [Sg.kill, mapR_eq], h2, h3⟩
theorem putBs_len : ∀ (l : List (Nat × Bx)) (σ : Sg), (l.foldl Sg.putB σ).slots = σ.slots ∧ (l.foldl Sg.putB σ).boxes.length = σ.boxes.length ∧ (l.foldl Sg.putB σ).dec = σ.dec
  | [], _ => ⟨rfl, rfl, rfl⟩
  | x :: l, σ => by
    obtain ⟨h1, h2, h3⟩ := putBs_len l (σ.putB x)
    exact ⟨h1, by rw [List.foldl_cons, h2]; simp [Sg.putB, setR_eq], h3⟩
theorem putSs_len : ∀ (l : List (Nat × SV)) (σ : Sg), (l.foldl Sg.putS σ).boxes = σ.boxes ∧ (l.foldl Sg.putS σ).slots.length = σ.slots.length ∧ (l.foldl Sg.putS σ).dec = σ.dec
  | [], _ => ⟨rfl, rfl, rfl⟩
  | x :: l, σ => by
    obtain ⟨h1, h2, h3⟩ := putSs_len l (σ.putS x)
    exact ⟨h1, by rw [List.foldl_cons, h2]; simp [Sg.putS, setR_eq], h3⟩
theorem take_lens (σ : Sg) (k : Take) : (σ.take k).slots.length = σ.slots.length ∧ (σ.take k).boxes.length = σ.boxes.length ∧ (σ.take k).dec = σ.dec := by
  unfold Sg.take
  obtain ⟨a1, a2, a3⟩ := kills_len k.kill σ
  obtain ⟨b1, b2, b3⟩ := putBs_len k.bx (k.kill.foldl Sg.kill σ)
  obtain ⟨c1, c2, c3⟩ := putSs_len k.wr (k.bx.foldl Sg.putB (k.kill.foldl Sg.kill σ))
  exact ⟨by rw [c2, b1, a1], by rw [c1, b2, a2], by rw [c3, b3, a3]⟩

/-- What is told of a slot by f, when something was put. -/
theorem putS_view {γ : Type} {f : SV → γ} {σ τ : Sg} {i : Nat} (x : Nat × SV) (h : (σ.slots[i]?).map f = (τ.slots[i]?).map f) : ((σ.putS x).slots[i]?).map f = ((τ.putS x).slots[i]?).map f := by
  simp only [Sg.putS, setR_eq, List.getElem?_set]
  by_cases hx : x.1 = i
  · subst hx
    simp only [if_true]
    have h5 : (x.1 < σ.slots.length) ↔ (x.1 < τ.slots.length) := by
      have g1 := @List.getElem?_eq_none_iff _ σ.slots x.1
      have g2 := @List.getElem?_eq_none_iff _ τ.slots x.1
      have g3 : σ.slots[x.1]? = none ↔ τ.slots[x.1]? = none := by
        cases h1 : σ.slots[x.1]? <;> cases h2 : τ.slots[x.1]? <;> rw [h1, h2] at h <;> simp at h ⊢
      have := (g1.symm.trans g3).trans g2
      omega
    simp only [h5]
  · simp only [hx, if_false, h]

theorem putB_view {γ : Type} {f : Bx → γ} {σ τ : Sg} {i : Nat} (x : Nat × Bx) (h : (σ.boxes[i]?).map f = (τ.boxes[i]?).map f) : ((σ.putB x).boxes[i]?).map f = ((τ.putB x).boxes[i]?).map f := by
  simp only [Sg.putB, setR_eq, List.getElem?_set]
  by_cases hx : x.1 = i
  · subst hx
    simp only [if_true]
    have h5 : (x.1 < σ.boxes.length) ↔ (x.1 < τ.boxes.length) := by
      have g1 := @List.getElem?_eq_none_iff _ σ.boxes x.1
      have g2 := @List.getElem?_eq_none_iff _ τ.boxes x.1
      have g3 : σ.boxes[x.1]? = none ↔ τ.boxes[x.1]? = none := by
        cases h1 : σ.boxes[x.1]? <;> cases h2 : τ.boxes[x.1]? <;> rw [h1, h2] at h <;> simp at h ⊢
      have := (g1.symm.trans g3).trans g2
      omega
    simp only [h5]
  · simp only [hx, if_false, h]

/-- What is told of a slot, of a box, when something was taken. -/
theorem take_slotV {γ : Type} {f : SV → γ} (hf : ∀ (q : Nat × Nat) (s t : SV), f s = f t → f (if refers q s then .undef else s) = f (if refers q t then .undef else t)) (k : Take) {σ τ : Sg} {i : Nat}
    (h : (σ.slots[i]?).map f = (τ.slots[i]?).map f) : ((σ.take k).slots[i]?).map f = ((τ.take k).slots[i]?).map f := by
  unfold Sg.take
  have h1 : ∀ (l : List (Nat × Nat)) (σ τ : Sg), (σ.slots[i]?).map f = (τ.slots[i]?).map f → ((l.foldl Sg.kill σ).slots[i]?).map f = ((l.foldl Sg.kill τ).slots[i]?).map f := by
    intro l; induction l with
    | nil => intro σ τ h; exact h
    | cons x l ih =>
      intro σ τ h
      refine ih _ _ ?_
      simp only [Sg.kill, mapR_eq, List.getElem?_map]
      cases h1 : σ.slots[i]? <;> cases h2 : τ.slots[i]? <;> rw [h1, h2] at h <;> simp at h ⊢
      exact hf x _ _ h
  have h2 : ∀ (l : List (Nat × Bx)) (σ τ : Sg), (σ.slots[i]?).map f = (τ.slots[i]?).map f → ((l.foldl Sg.putB σ).slots[i]?).map f = ((l.foldl Sg.putB τ).slots[i]?).map f := by
    intro l; induction l with
    | nil => intro σ τ h; exact h
    | cons x l ih => intro σ τ h; exact ih _ _ h
  have h3 : ∀ (l : List (Nat × SV)) (σ τ : Sg), (σ.slots[i]?).map f = (τ.slots[i]?).map f → ((l.foldl Sg.putS σ).slots[i]?).map f = ((l.foldl Sg.putS τ).slots[i]?).map f := by
    intro l; induction l with
    | nil => intro σ τ h; exact h
    | cons x l ih => intro σ τ h; exact ih _ _ (putS_view x h)
  exact h3 _ _ _ (h2 _ _ _ (h1 _ _ _ h))

theorem take_boxV {γ : Type} {f : Bx → γ} (k : Take) {σ τ : Sg} {i : Nat} (h : (σ.boxes[i]?).map f = (τ.boxes[i]?).map f) : ((σ.take k).boxes[i]?).map f = ((τ.take k).boxes[i]?).map f := by
  unfold Sg.take
  have h2 : ∀ (l : List (Nat × Bx)) (σ τ : Sg), (σ.boxes[i]?).map f = (τ.boxes[i]?).map f → ((l.foldl Sg.putB σ).boxes[i]?).map f = ((l.foldl Sg.putB τ).boxes[i]?).map f := by
    intro l; induction l with
    | nil => intro σ τ h; exact h
    | cons x l ih => intro σ τ h; exact ih _ _ (putB_view x h)
  rw [(putSs_len _ _).1, (putSs_len _ _).1]
  refine h2 _ _ _ ?_
  rw [(kills_len _ _).2.1, (kills_len _ _).2.1]
  exact h

theorem tupV_kill (c : Nat) (q : Nat × Nat) (s : SV) : tupV c (if refers q s then .undef else s) = tupV c s := by
  cases s with
  | tup xs => rw [refers_none (s := .tup xs) rfl (by simp) (by simp)]; rfl
  | _ => split <;> rfl

/-- When something was taken. -/
theorem Local.under {x : Rd α} (k : Take) (hx : Local x) : Local (Rd.under k x) := by
  intro σ τ a l h hag
  unfold Rd.under at h ⊢
  obtain ⟨a1, a2, a3⟩ := take_lens σ k
  obtain ⟨b1, b2, b3⟩ := take_lens τ k
  refine hx (σ.take k) (τ.take k) a l h ⟨⟨by rw [a3, b3, hag.1.1], ?_, ?_, by rw [a1]; exact hag.1.2.2.2.1, by rw [a2]; exact hag.1.2.2.2.2⟩, fun c hc => ⟨fun hl => ⟨fun h0 => ?_, fun h1 => ?_⟩, fun hg => ⟨fun h0 => ?_, fun h1 => ?_⟩⟩⟩
  · rw [(take_kpb (σ := σ) k).1, (take_kpb (σ := τ) k).1]; exact hag.1.2.1
  · rw [(take_kpb (σ := σ) k).2, (take_kpb (σ := τ) k).2]; exact hag.1.2.2.1
  · have := take_slotV (f := id) (fun q s t h => by rw [show s = t from h]) k (congrArg (Option.map id) ((((hag.2 c hc).1 hl).1 h0)))
    simpa using this
  · have := take_boxV (f := id) k (congrArg (Option.map id) ((((hag.2 c hc).1 hl).2 h1)))
    simpa using this
  · exact take_slotV (f := tupV _) (fun q s t h => by rw [tupV_kill, tupV_kill]; exact h) k (((hag.2 c hc).2 hg).1 h0)
  · exact take_boxV (f := celV _) k (((hag.2 c hc).2 hg).2 h1)

theorem local_look (t : TypeId) (x : Operand) : Local (look P t x) := by
  unfold look
  refine (local_opnd t x).bind fun s => ?_
  cases s with
  | «at» x m => exact Local.pure _
  | ea x b r c m i f nn => exact Local.pure _
  | rf b r c ln =>
    cases b with
    | false =>
      refine (Local.slot r).bind fun s => ?_
      split
      · exact Local.pure _
      · exact Local.fail
    | true =>
      refine (Local.cell r c).bind fun s => ?_
      split
      · exact Local.pure _
      · exact Local.fail
  | tp r c =>
    refine (Local.comp r c).bind fun y => ?_
    split
    · exact Local.pure _
    · exact Local.fail
  | _ => exact Local.fail

theorem local_lookSh (t : TypeId) (x : Operand) : Local (lookSh P t x) := by
  unfold lookSh
  refine (local_opnd t x).bind fun s => ?_
  split
  · exact Local.pure _
  · exact Local.pure _
  · exact Local.fail

theorem local_rootA (b : Bool) (r c : Nat) : Local (rootA b r c) := by
  unfold rootA
  cases b with
  | false =>
    refine (Local.slot r).bind fun s => ?_
    split
    · exact Local.pure _
    · exact Local.fail
  | true =>
    refine (Local.cell r c).bind fun y => ?_
    split
    · exact Local.pure _
    · exact Local.fail

theorem local_lookEl (t : TypeId) (x : Operand) : Local (lookEl P t x) := by
  unfold lookEl
  refine (local_opnd t x).bind fun s => ?_
  split
  · exact Local.pure _
  · exact Local.pure _
  · exact Local.pure _
  · exact (local_rootA _ _ _).bind fun _ => (Local.guard _).bind fun _ => Local.pure _
  · exact Local.fail

theorem local_E1 (nv d : Nat) (op : Xo) (t : TypeId) (x : Operand) : Local (stE1 P nv d op t x) := by
  unfold stE1
  exact (local_look _ _).bind fun _ => Local.pure _

theorem local_dst (o : Option Tmp) : Local (dstOf o) := by
  unfold dstOf
  exact (Local.ofO _).bind fun d => (Local.slot d).bind fun _ => Local.kp.bind fun _ => (Local.guard _).bind fun _ => Local.pure _

theorem local_take (nv : Nat) (t : TypeId) (x : Operand) : Local (takeV P nv t x) := by
  unfold takeV
  refine (local_opnd t x).bind fun s => ?_
  cases s with
  | «at» y m =>
    cases m with
    | sh => exact Local.pure _
    | own m => cases x <;> exact Local.pure _
    | pair _ _ => cases x <;> exact Local.pure _
  | rf b r c ln =>
    cases b with
    | false =>
      refine (Local.slot r).bind fun s => ?_
      split
      · exact Local.pure _
      · exact Local.fail
    | true =>
      refine (Local.box r).bind fun b => ?_
      generalize b[c]? = y
      split
      · exact Local.pure _
      · exact Local.fail
  | tp r c =>
    refine (Local.slot r).bind fun s => ?_
    split
    · rename_i xs
      generalize xs[c]? = y
      split
      · exact (Local.guard _).bind fun _ => Local.pure _
      · exact Local.fail
    · exact Local.fail
  | ag r off n => exact (Local.box r).bind fun b => (Local.ofO _).bind fun _ => (Local.guard _).bind fun _ => Local.pure _
  | _ => exact Local.fail

theorem local_frz (nv : Nat) (t : TypeId) (x : Operand) : Local (frzV P nv t x) := by
  unfold frzV
  refine (local_opnd t x).bind fun s => ?_
  cases s with
  | «at» y m =>
    cases m with
    | sh => exact Local.pure _
    | own m => cases x <;> exact Local.pure _
    | pair _ _ => cases x <;> exact Local.pure _
  | rf b r c ln =>
    cases b with
    | false =>
      refine (Local.slot r).bind fun s => ?_
      split
      · exact Local.pure _
      · exact Local.fail
    | true =>
      refine (Local.box r).bind fun b => ?_
      generalize b[c]? = y
      split
      · exact Local.pure _
      · exact Local.fail
  | tp r c =>
    refine (Local.slot r).bind fun s => ?_
    split
    · rename_i xs
      generalize xs[c]? = y
      split
      · exact (Local.guard _).bind fun _ => Local.pure _
      · exact Local.fail
    · exact Local.fail
  | ag r off n => exact (Local.box r).bind fun b => (Local.ofO _).bind fun _ => (Local.guard _).bind fun _ => Local.pure _
  | _ => exact Local.fail

theorem local_fit (nv : Nat) (t : TypeId) (x : Operand) (m : Md) : Local (fitV P nv t x m) := by
  unfold fitV
  split
  · exact local_frz _ _ _
  · exact (local_take _ _ _).bind fun _ => (Local.guard _).bind fun _ => Local.pure _

theorem Local.flag : Local Rd.flag := by
  intro σ τ a l h hag
  unfold Rd.flag at h ⊢
  rw [← hag.1.2.2.1]
  exact h
theorem local_winOf (t : TypeId) (x : Operand) (lo hi : Option Operand) : Local (winOf P t x lo hi) := by
  unfold winOf
  refine Local.flag.bind fun b => ?_
  split
  · exact Local.pure _
  · refine (local_opnd _ _).bind fun s => ?_
    split
    · exact Local.pure _
    · exact Local.pure _
    · exact Local.pure _
theorem local_frzCap (nv : Nat) (xs : List Ar) : Local (frzCap nv xs) := by
  unfold frzCap
  split
  · refine (Local.slot _).bind fun s => ?_
    split
    · exact (Local.boxW _).bind fun _ => (Local.ofO _).bind fun _ => Local.pure _
    · exact Local.pure _
  · exact Local.pure _
theorem local_elV (nv : Nat) (e : Md) (t : TypeId) (x : Operand) : Local (elV P nv e t x) := by
  unfold elV
  split
  · refine (local_opnd _ _).bind fun s => ?_
    split
    · exact Local.pure _
    · exact (local_lookEl _ _).bind fun _ => Local.pure _
    · exact local_frz _ _ _
  · exact (local_take _ _ _).bind fun _ => (Local.guard _).bind fun _ => Local.pure _

theorem local_fitParts (nv : Nat) (e : TypeId) (m : Md) : ∀ (ps : List (Nat × Operand)) (i : Nat) (k : Take), Local (fitParts P nv e m i k ps)
  | [], _, _ => Local.pure _
  | (_, _) :: ps, i, k => (Local.guard _).bind fun _ => (Local.under k (local_fit _ _ _ _)).bind fun _ => (local_fitParts nv e m ps (i + 1) _).bind fun _ => Local.pure _

theorem local_buildParts (s : TypeId) (nv : Nat) : ∀ (ps : List (Nat × Operand)) (k : Take) (cs : List Cell), Local (buildParts P s nv k cs ps)
  | [], _, _ => Local.pure _
  | (i, x) :: ps, k, cs => by
    unfold buildParts
    refine (Local.ofO _).bind fun _ => (Local.under k (local_take _ _ _)).bind fun _ => (Local.guard _).bind fun _ => ?_
    split
    · exact local_buildParts s nv ps _ _
    · exact (Local.guard _).bind fun _ => local_buildParts s nv ps _ _

theorem local_capA (any : Bool) (nv : Nat) (c : Cp) : Local (capA any nv c) := by
  cases c with
  | psh x => exact Local.pure _
  | ptr r => exact (Local.guard _).bind fun _ => (Local.box _).bind fun _ => (Local.ofO _).bind fun _ => Local.pure _

theorem local_capsA (any : Bool) : ∀ (cs : List Cp) (nv : Nat), Local (capsA any nv cs)
  | [], _ => Local.pure _
  | c :: cs, nv => (local_capA any nv c).bind fun _ => (local_capsA any cs _).bind fun _ => Local.pure _

theorem local_cpOf (x : Operand) : Local (cpOf P x) := by
  unfold cpOf
  refine (local_opnd _ _).bind fun s => ?_
  split
  · exact (Local.guard _).bind fun _ => Local.pure _
  · exact (Local.guard _).bind fun _ => Local.pure _
  · exact Local.fail

theorem local_cpsOf : ∀ (xs : List Operand), Local (cpsOf P xs)
  | [] => Local.pure _
  | x :: xs => (local_cpOf x).bind fun _ => (local_cpsOf xs).bind fun _ => Local.pure _

theorem local_lookAg (nv : Nat) (t : TypeId) (x : Operand) : Local (lookAg P nv t x) := by
  unfold lookAg
  refine (local_opnd _ _).bind fun s => ?_
  split
  · exact (Local.box _).bind fun _ => (Local.ofO _).bind fun _ => Local.pure _
  · exact (local_look _ _).bind fun _ => Local.pure _

theorem local_argA (any : Bool) (nv : Nat) (k : Take) (p : PK) (x : Ar) : Local (argA P any nv k p x) := by
  cases p with
  | val => cases x with
    | op t x => cases any with
      | true => exact (Local.under k (local_lookAg _ _ _)).bind fun _ => Local.pure _
      | false => exact (Local.under k (local_frz _ _ _)).bind fun _ => Local.pure _
    | cp c => exact Local.fail
  | rd => cases x with
    | op t x => exact (Local.under k (local_cpOf _)).bind fun _ => (Local.under k (local_capA _ _ _)).bind fun _ => Local.pure _
    | cp c => exact (Local.under k (local_capA _ _ _)).bind fun _ => Local.pure _
  | fn g n => cases x with
    | op t x =>
      refine (Local.under k (local_opnd _ _)).bind fun s => ?_
      split
      · exact (Local.guard _).bind fun _ => (Local.under k (local_capsA _ _ _)).bind fun _ => Local.pure _
      · exact Local.fail
    | cp c => exact Local.fail
  | nil =>
    exact (Local.guard _).bind fun _ => Local.pure _

theorem local_argsA (any : Bool) (nv : Nat) : ∀ (pk : List PK) (xs : List Ar) (k : Take), Local (argsA P any nv k pk xs)
  | [], [], _ => Local.pure _
  | p :: pk, x :: xs, k => (local_argA any nv k p x).bind fun _ => (local_argsA any nv pk xs _).bind fun _ => Local.pure _
  | [], _ :: _, _ => Local.fail
  | _ :: _, [], _ => Local.fail

theorem local_lendBox (nv no : Nat) (τ : Ty) (m m' : Md) (r : Nat) : Local (lendBox nv no τ m m' r) := by
  unfold lendBox
  refine (Local.boxW _).bind fun b => ?_
  split
  · exact (Local.guard _).bind fun _ => (Local.ofO _).bind fun _ => Local.pure _
  · split
    · exact (Local.guard _).bind fun _ => Local.pure _
    · exact Local.fail

theorem local_lendV (nv no : Nat) (q : Lk) (y : Ar) : Local (lendV P nv no q y) := by
  cases q with
  | mov τ m => cases y <;> exact Local.fail
  | box τ m m' =>
    cases y with
    | cp c => cases c with
      | ptr r => exact local_lendBox _ _ _ _ _ _
      | psh x => exact Local.fail
    | op t x =>
      refine (local_opnd _ _).bind fun s => ?_
      split
      · exact (Local.guard _).bind fun _ => local_lendBox _ _ _ _ _ _
      · exact Local.fail
  | row τ =>
    cases y with
    | cp c => exact Local.fail
    | op t x =>
      refine (Local.guard _).bind fun _ => (local_opnd _ _).bind fun s => ?_
      split
      · split
        · exact (Local.guard _).bind fun _ => Local.pure _
        · exact Local.fail
      · refine (Local.slot _).bind fun s => ?_
        split
        · exact (Local.guard _).bind fun _ => Local.pure _
        · exact Local.fail
      · rename_i r c ln
        refine (Local.box _).bind fun b => ?_
        generalize b[c]? = y
        split
        · exact (Local.guard _).bind fun _ => Local.pure _
        · exact Local.fail
      · exact (Local.box _).bind fun _ => (Local.ofO _).bind fun _ => (Local.guard _).bind fun _ => Local.pure _
      · rename_i x1 bb r c m i off nn
        refine (local_rootA _ _ _).bind fun _ => (Local.guard _).bind fun _ => ?_
        cases bb
        · exact Local.pure _
        · exact (Local.box _).bind fun _ => Local.pure _
      · exact Local.fail

theorem local_lookO (x : Option Operand) : Local (lookO P x) := by
  cases x with
  | none => exact Local.pure _
  | some x => exact (local_look _ _).bind fun _ => Local.pure _

theorem local_move (nv d : Nat) (t : TypeId) (x : Operand) : Local (stMove P nv d t x) := by
  unfold stMove
  refine (local_opnd t x).bind fun s => ?_
  cases s with
  | «at» y m =>
    cases m with
    | sh => exact Local.pure _
    | own m => cases x with
      | tmp s => exact (Local.guard _).bind fun _ => Local.pure _
      | _ => exact (local_take _ _ _).bind fun _ => Local.pure _
    | pair _ _ => exact (local_take _ _ _).bind fun _ => Local.pure _
  | ptr _ _ => exact Local.pure _
  | psh _ _ => exact Local.pure _
  | fn _ _ => exact Local.pure _
  | ag _ _ _ => exact Local.pure _
  | tup xs => cases x with
    | tmp s => exact (Local.guard _).bind fun _ => Local.pure _
    | _ => exact Local.fail
  | tp r c => exact (Local.guard _).bind fun _ => Local.pure _
  | rf b r c ln => exact (Local.guard _).bind fun _ => Local.pure _
  | _ => exact Local.fail

theorem local_assign (nv : Nat) (o : Option Tmp) (t : TypeId) (x : Operand) : Local (stAssign P nv o t x) := by
  unfold stAssign
  split
  · exact (local_dst o).bind fun _ => Local.pure _
  refine (Local.ofO _).bind fun d => (local_opnd t x).bind fun s => ?_
  split
  · exact (local_dst o).bind fun _ => Local.pure _
  · exact (local_dst o).bind fun _ => Local.pure _
  · exact (local_dst o).bind fun _ => Local.pure _
  · exact (local_take _ t x).bind fun _ => (Local.slotK d).bind fun _ => Local.pure _

theorem local_opStep (dp : Bool) (nv : Nat) (o : Oper) : Local (opStep P C dp nv o) := by
  have hdst : ∀ {f : Nat → Rd Step}, (∀ d, Local (f d)) → Local (do f (← dstOf o.dst)) := by
    intro f hf
    exact Local.bind (local_dst _) hf
  unfold opStep
  generalize o.op = op
  split
  · exact hdst fun d => local_move _ _ _ _
  · exact local_assign _ _ _ _
  · refine hdst fun d => ?_
    unfold stBox
    exact (local_take _ _ _).bind fun _ => (Local.boxFor _ _).bind fun _ => (Local.guard _).bind fun _ => Local.pure _
  · refine hdst fun d => ?_
    unfold stAlloc
    exact (Local.ofO _).bind fun _ => (Local.ofO _).bind fun _ => (Local.boxAny _).bind fun _ => (Local.guard _).bind fun _ => Local.pure _
  · refine hdst fun d => ?_
    unfold stLoad
    refine (local_opnd _ _).bind fun s => ?_
    split
    · split
      · refine (Local.box _).bind fun b => (Local.guard _).bind fun _ => ?_
        split
        · exact Local.pure _
        · exact (Local.guard _).bind fun _ => Local.pure _
      · refine (Local.guard _).bind fun _ => (Local.cell _ _).bind fun _ => ?_
        split <;> first | exact Local.pure _ | exact Local.fail
    · refine (local_rootA _ _ _).bind fun _ => (Local.guard _).bind fun _ => ?_
      split
      · split
        · exact Local.pure _
        · exact (Local.guard _).bind fun _ => Local.pure _
      · refine (Local.guard _).bind fun _ => ?_
        split
        · exact Local.pure _
        · exact (Local.guard _).bind fun _ => Local.pure _
    · split
      · exact (Local.guard _).bind fun _ => Local.pure _
      · exact (Local.guard _).bind fun _ => Local.pure _
    · exact Local.fail
  · refine (Local.guard _).bind fun _ => ?_
    unfold stStore
    refine (local_opnd _ _).bind fun s => ?_
    split
    · refine (local_take _ _ _).bind fun _ => (Local.boxW _).bind fun b => (Local.guard _).bind fun _ => ?_
      split
      · exact (Local.guard _).bind fun _ => Local.pure _
      · exact (Local.guard _).bind fun _ => Local.pure _
    · refine (local_rootA _ _ _).bind fun _ => (local_fit _ _ _ _).bind fun _ => (Local.guard _).bind fun _ => ?_
      rename_i bb _ _ _ _ _ _ _ _
      cases bb
      · exact Local.pure _
      · exact (Local.box _).bind fun _ => Local.pure _
    · exact Local.fail
  · refine hdst fun d => ?_
    unfold stNilCheck
    refine (local_opnd _ _).bind fun s => ?_
    split <;> first | exact Local.pure _ | exact Local.fail
  · refine hdst fun d => ?_
    unfold stFieldAddr
    refine (Local.ofO _).bind fun _ => (Local.guard _).bind fun _ => (local_opnd _ _).bind fun s => ?_
    split <;> first | exact Local.pure _ | exact (Local.guard _).bind fun _ => Local.pure _ | exact Local.fail
  · refine hdst fun d => ?_
    unfold stIndexAddr
    refine (Local.ofO _).bind fun _ => (local_look _ _).bind fun _ => (Local.guard _).bind fun _ => (local_opnd _ _).bind fun s => ?_
    split
    · exact (local_rootA _ _ _).bind fun _ => (Local.guard _).bind fun _ => Local.pure _
    · exact (Local.ofO _).bind fun _ => Local.pure _
    · exact (local_lookSh _ _).bind fun _ => Local.pure _
  · refine hdst fun d => ?_
    unfold stMakeSlice
    refine (Local.ofO _).bind fun _ => (Local.ofO _).bind fun _ => (local_look _ _).bind fun _ => (Local.guard _).bind fun _ => (Local.ofO _).bind fun _ => (Local.ofO _).bind fun _ => (Local.guard _).bind fun _ => ?_
    split
    · exact Local.pure _
    · split <;> first | exact Local.pure _ | exact Local.fail
  · refine hdst fun d => ?_
    unfold stConvert
    generalize P.underlying _ = u1
    generalize P.underlying _ = u2
    split
    · exact local_E1 _ _ _ _ _
    · exact (Local.guard _).bind fun _ => local_E1 _ _ _ _ _
    · exact (Local.guard _).bind fun _ => (local_look _ _).bind fun _ => Local.pure _
    · exact (Local.guard _).bind fun _ => (local_take _ _ _).bind fun _ => (Local.guard _).bind fun _ => Local.pure _
    · exact Local.fail
  · refine hdst fun d => ?_
    unfold stBin
    split
    · exact (Local.ofO _).bind fun _ => (local_look _ _).bind fun _ => Local.pure _
    · unfold stE2
      exact (local_look _ _).bind fun _ => (local_look _ _).bind fun _ => Local.pure _
  · refine hdst fun d => ?_
    unfold stE1
    exact (local_look _ _).bind fun _ => Local.pure _
  · refine hdst fun d => ?_
    unfold stPick
    refine (local_look _ _).bind fun _ => (Local.known _).bind fun b => ?_
    cases b with
    | some b => exact local_move _ _ _ _
    | none => exact (local_frz _ _ _).bind fun k => (Local.under k (local_frz _ _ _)).bind fun _ => Local.pure _
  · refine hdst fun d => ?_
    unfold stBuild
    exact (Local.ofO _).bind fun _ => (Local.ofO _).bind fun _ => (Local.guard _).bind fun _ => (Local.ofO _).bind fun _ => (local_buildParts _ _ _ _ _).bind fun _ => (Local.ofO _).bind fun _ => Local.pure _
  · refine hdst fun d => ?_
    unfold stBuildSlice
    exact (Local.ofO _).bind fun _ => (Local.ofO _).bind fun _ => (Local.guard _).bind fun _ => (local_fitParts _ _ _ _ _ _).bind fun _ => Local.pure _
  · refine (Local.guard _).bind fun _ => hdst fun d => ?_
    unfold stAppend
    exact (Local.ofO _).bind fun _ => (Local.ofO _).bind fun _ => (Local.guard _).bind fun _ => (local_take _ _ _).bind fun k => (Local.guard _).bind fun _ => (Local.under k (local_elV _ _ _ _)).bind fun _ => Local.pure _
  · refine hdst fun d => ?_
    unfold stLen
    refine (local_opnd _ _).bind fun s => ?_
    split
    · exact (Local.guard _).bind fun _ => Local.pure _
    · refine (local_look _ _).bind fun _ => ?_
      generalize P.underlying _ = u
      split <;> first | exact Local.pure _ | exact Local.fail
  · refine hdst fun d => ?_
    unfold stCallV
    refine (local_opnd _ _).bind fun s => ?_
    split
    · refine (Local.guard _).bind fun _ => ?_
      unfold stCall
      refine (Local.ofO _).bind fun s => ?_
      split
      · unfold stCallM
        refine (Local.ofO _).bind fun _ => (local_frzCap _ _).bind fun _ => (local_argsA _ _ _ _ _).bind fun r => ?_
        split
        · exact (Local.under r.2 (local_take _ _ _)).bind fun _ => (Local.guard _).bind fun _ => Local.pure _
        · exact Local.fail
      · unfold stCallL
        exact (Local.ofO _).bind fun _ => (local_argsA _ _ _ _ _).bind fun r => (Local.under r.2 (local_lendV _ _ _ _)).bind fun _ => (Local.guard _).bind fun _ => Local.pure _
      · split
        · unfold stCallN
          split
          · exact (local_argsA _ _ _ _ _).bind fun r => (Local.under r.2 (Local.boxAny _)).bind fun _ => (Local.guard _).bind fun _ => Local.pure _
          · exact Local.fail
        · exact (local_argsA _ _ _ _ _).bind fun _ => (Local.guard _).bind fun _ => Local.pure _
    · exact Local.fail
  · refine hdst fun d => ?_
    unfold stMakeFunc
    exact (local_cpsOf _).bind fun _ => Local.pure _
  · refine (Local.guard _).bind fun _ => hdst fun d => ?_
    unfold stE2
    exact (local_look _ _).bind fun _ => (local_look _ _).bind fun _ => Local.pure _
  · refine (Local.guard _).bind fun _ => hdst fun d => ?_
    unfold stE2
    exact (local_look _ _).bind fun _ => (local_look _ _).bind fun _ => Local.pure _
  · refine (Local.guard _).bind fun _ => ?_
    unfold stClear
    refine (Local.ofO _).bind fun _ => (Local.ofO _).bind fun _ => (Local.ofO _).bind fun _ => (Local.ofO _).bind fun _ => (Local.guard _).bind fun _ => (local_opnd _ _).bind fun s => ?_
    split
    · refine (local_rootA _ _ _).bind fun _ => (Local.guard _).bind fun _ => ?_
      split
      · exact Local.pure _
      · exact (Local.box _).bind fun _ => Local.pure _
    · refine (local_rootA _ _ _).bind fun _ => (Local.guard _).bind fun _ => ?_
      split
      · exact Local.pure _
      · exact (Local.box _).bind fun _ => Local.pure _
    · exact Local.fail
  · refine hdst fun d => ?_
    unfold stSlice
    refine (local_winOf _ _ _ _).bind fun n => ?_
    split
    · unfold stSuf
      refine (Local.ofO _).bind fun _ => (Local.ofO _).bind fun _ => (local_look _ _).bind fun _ => (Local.guard _).bind fun _ => (local_opnd _ _).bind fun s => ?_
      split
      · exact (local_rootA _ _ _).bind fun _ => (Local.guard _).bind fun _ => Local.pure _
      · exact (Local.ofO _).bind fun _ => Local.pure _
      · exact Local.fail
    · unfold stPre
      refine (Local.ofO _).bind fun _ => (Local.ofO _).bind fun _ => (local_look _ _).bind fun _ => (Local.guard _).bind fun _ => (local_take _ _ _).bind fun k => ?_
      split
      · exact Local.pure _
      · exact Local.fail
    · unfold stSliceF
      refine (local_lookO _).bind fun _ => (local_lookO _).bind fun _ => ?_
      generalize P.underlying _ = u
      split
      · exact (local_frz _ _ _).bind fun _ => (Local.guard _).bind fun _ => Local.pure _
      · exact (local_look _ _).bind fun _ => Local.pure _
      · exact Local.fail
  · rename_i x i
    refine hdst fun d => ?_
    unfold stExtract
    split
    · refine (Local.comp _ _).bind fun y => ?_
      split
      · exact Local.pure _
      · exact (Local.guard _).bind fun _ => Local.pure _
      · exact Local.fail
    · exact Local.fail
  · exact Local.fail
end

/-- What an operation wrote last into a slot, a box. -/
def En.wS (e : En) (i : Nat) : Option SV := (e.wr.reverse.find? fun x => x.1 == i).map (·.2)
def En.wB (e : En) (i : Nat) : Option Bx := (e.bx.reverse.find? fun x => x.1 == i).map (·.2)

noncomputable def En.app (σ : Sg) (e : En) : Sg := e.wr.foldl Sg.putS (e.bx.foldl Sg.putB σ)

theorem foldl_putS : ∀ (l : List (Nat × SV)) (σ : Sg), (l.foldl Sg.putS σ).boxes = σ.boxes ∧ (l.foldl Sg.putS σ).slots.length = σ.slots.length ∧
    ∀ i, i < σ.slots.length → (l.foldl Sg.putS σ).slots[i]? = ((l.reverse.find? fun x => x.1 == i).map (·.2)).or σ.slots[i]?
  | [], σ => ⟨rfl, rfl, fun i _ => by simp⟩
  | x :: l, σ => by
    obtain ⟨h1, h2, h3⟩ := foldl_putS l (σ.putS x)
    refine ⟨h1, by simpa [Sg.putS, setR_eq] using h2, fun i hi => ?_⟩
    rw [List.foldl_cons, h3 i (by simpa [Sg.putS, setR_eq] using hi), List.reverse_cons, List.find?_append]
    cases hf : l.reverse.find? fun x => x.1 == i with
    | some y => simp
    | none =>
      simp only [Option.map_none, Option.none_or]
      by_cases hx : x.1 = i
      · subst hx
        simp [Sg.putS, setR_eq, List.getElem?_set_self hi]
      · simp [Sg.putS, setR_eq, hx, List.getElem?_set_ne hx]

theorem foldl_putB : ∀ (l : List (Nat × Bx)) (σ : Sg), (l.foldl Sg.putB σ).slots = σ.slots ∧ (l.foldl Sg.putB σ).boxes.length = σ.boxes.length ∧
    ∀ i, i < σ.boxes.length → (l.foldl Sg.putB σ).boxes[i]? = ((l.reverse.find? fun x => x.1 == i).map (·.2)).or σ.boxes[i]?
  | [], σ => ⟨rfl, rfl, fun i _ => by simp⟩
  | x :: l, σ => by
    obtain ⟨h1, h2, h3⟩ := foldl_putB l (σ.putB x)
    refine ⟨h1, by simpa [Sg.putB, setR_eq] using h2, fun i hi => ?_⟩
    rw [List.foldl_cons, h3 i (by simpa [Sg.putB, setR_eq] using hi), List.reverse_cons, List.find?_append]
    cases hf : l.reverse.find? fun x => x.1 == i with
    | some y => simp
    | none =>
      simp only [Option.map_none, Option.none_or]
      by_cases hx : x.1 = i
      · subst hx
        simp [Sg.putB, setR_eq, List.getElem?_set_self hi]
      · simp [Sg.putB, setR_eq, hx, List.getElem?_set_ne hx]

theorem app_spec (e : En) (σ : Sg) : (En.app σ e).slots.length = σ.slots.length ∧ (En.app σ e).boxes.length = σ.boxes.length ∧
    (∀ i, i < σ.slots.length → (En.app σ e).slots[i]? = (e.wS i).or σ.slots[i]?) ∧ (∀ i, i < σ.boxes.length → (En.app σ e).boxes[i]? = (e.wB i).or σ.boxes[i]?) := by
  obtain ⟨h1, h2, h3⟩ := foldl_putS e.wr (e.bx.foldl Sg.putB σ)
  obtain ⟨k1, k2, k3⟩ := foldl_putB e.bx σ
  unfold En.app
  refine ⟨by rw [h2, k1], by rw [h1, k2], fun i hi => ?_, fun i hi => ?_⟩
  · rw [h3 i (by rw [k1]; exact hi), k1]; rfl
  · rw [h1, k3 i hi]; rfl

/-- Those operations alone that D names. -/
noncomputable def sel (D : Nat → Bool) : Nat → List En → Sg → Sg
  | _, [], σ => σ
  | k, e :: es, σ => sel D (k + 1) es (if D k then En.app σ e else σ)

def lastS (D : Nat → Bool) (i : Nat) : Nat → List En → Option SV
  | _, [] => none
  | k, e :: es => (lastS D i (k + 1) es).or (if D k then e.wS i else none)
def lastB (D : Nat → Bool) (i : Nat) : Nat → List En → Option Bx
  | _, [] => none
  | k, e :: es => (lastB D i (k + 1) es).or (if D k then e.wB i else none)

theorem sel_spec (D : Nat → Bool) : ∀ (T : List En) (k : Nat) (σ : Sg), (sel D k T σ).slots.length = σ.slots.length ∧ (sel D k T σ).boxes.length = σ.boxes.length ∧
    (∀ i, i < σ.slots.length → (sel D k T σ).slots[i]? = (lastS D i k T).or σ.slots[i]?) ∧ (∀ i, i < σ.boxes.length → (sel D k T σ).boxes[i]? = (lastB D i k T).or σ.boxes[i]?)
  | [], k, σ => ⟨rfl, rfl, fun i _ => by simp [sel, lastS], fun i _ => by simp [sel, lastB]⟩
  | e :: T, k, σ => by
    obtain ⟨a1, a2, a3, a4⟩ := app_spec e σ
    obtain ⟨h1, h2, h3, h4⟩ := sel_spec D T (k + 1) (if D k then En.app σ e else σ)
    cases hD : D k with
    | true =>
      rw [hD] at h1 h2 h3 h4
      simp only [if_true] at h1 h2 h3 h4
      simp only [sel, lastS, lastB, hD, if_true]
      refine ⟨h1.trans a1, h2.trans a2, fun i hi => ?_, fun i hi => ?_⟩
      · rw [h3 i (by rw [a1]; exact hi), a3 i hi, Option.or_assoc]
      · rw [h4 i (by rw [a2]; exact hi), a4 i hi, Option.or_assoc]
    | false =>
      rw [hD] at h1 h2 h3 h4
      simp only [Bool.false_eq_true, if_false] at h1 h2 h3 h4
      simp only [sel, lastS, lastB, hD, Bool.false_eq_true, if_false, Option.or_none]
      exact ⟨h1, h2, h3, h4⟩

theorem lastS_congr {D D' : Nat → Bool} {i : Nat} : ∀ {T : List En} {k : Nat}, (∀ j e, T[j]? = some e → e.wS i ≠ none → D (k + j) = D' (k + j)) → lastS D i k T = lastS D' i k T
  | [], _, _ => rfl
  | e :: T, k, h => by
    have ih := lastS_congr (D := D) (D' := D') (i := i) (T := T) (k := k + 1) (fun j e' he hw => by have := h (j + 1) e' (by simpa using he) hw; rwa [show k + 1 + j = k + (j + 1) by omega])
    simp only [lastS, ih]
    congr 1
    by_cases hw : e.wS i = none
    · simp [hw]
    · have := h 0 e (by simp) hw
      rw [Nat.add_zero] at this
      rw [this]

theorem lastB_congr {D D' : Nat → Bool} {i : Nat} : ∀ {T : List En} {k : Nat}, (∀ j e, T[j]? = some e → e.wB i ≠ none → D (k + j) = D' (k + j)) → lastB D i k T = lastB D' i k T
  | [], _, _ => rfl
  | e :: T, k, h => by
    have ih := lastB_congr (D := D) (D' := D') (i := i) (T := T) (k := k + 1) (fun j e' he hw => by have := h (j + 1) e' (by simpa using he) hw; rwa [show k + 1 + j = k + (j + 1) by omega])
    simp only [lastB, ih]
    congr 1
    by_cases hw : e.wB i = none
    · simp [hw]
    · have := h 0 e (by simp) hw
      rw [Nat.add_zero] at this
      rw [this]

theorem mem_writes_S {e : En} {i : Nat} (h : e.wS i ≠ none) : (false, i) ∈ e.writes := by
  unfold En.wS at h
  cases hf : e.wr.reverse.find? fun x => x.1 == i with
  | none => rw [hf] at h; exact absurd rfl h
  | some y =>
    have h1 := List.find?_some hf
    have h2 := List.mem_of_find?_eq_some hf
    have h1 : y.1 = i := by simpa using h1
    subst h1
    exact List.mem_append_left _ (List.mem_append_left _ (List.mem_map.2 ⟨y, by simpa using h2, rfl⟩))

theorem mem_writes_B {e : En} {i : Nat} (h : e.wB i ≠ none) : (true, i) ∈ e.writes := by
  unfold En.wB at h
  cases hf : e.bx.reverse.find? fun x => x.1 == i with
  | none => rw [hf] at h; exact absurd rfl h
  | some y =>
    have h1 := List.find?_some hf
    have h2 := List.mem_of_find?_eq_some hf
    have h1 : y.1 = i := by simpa using h1
    subst h1
    exact List.mem_append_left _ (List.mem_append_right _ (List.mem_map.2 ⟨y, by simpa using h2, rfl⟩))

theorem lastS_from {D : Nat → Bool} {i : Nat} {s : SV} : ∀ {T : List En} {k : Nat}, lastS D i k T = some s → ∃ j e, T[j]? = some e ∧ D (k + j) = true ∧ (i, s) ∈ e.wr
  | [], _, h => by simp [lastS] at h
  | e :: T, k, h => by
    simp only [lastS] at h
    cases hl : lastS D i (k + 1) T with
    | some s' =>
      rw [hl] at h
      simp only [Option.some_or, Option.some.injEq] at h
      subst h
      obtain ⟨j, e', h1, h2, h3⟩ := lastS_from hl
      exact ⟨j + 1, e', by simpa using h1, by rwa [show k + (j + 1) = k + 1 + j by omega], h3⟩
    | none =>
      rw [hl] at h
      simp only [Option.none_or] at h
      split at h
      · rename_i hD
        unfold En.wS at h
        obtain ⟨y, hy, rfl⟩ := Option.map_eq_some_iff.1 h
        have h1 := List.find?_some hy
        have h2 := List.mem_of_find?_eq_some hy
        have h1 : y.1 = i := by simpa using h1
        subst h1
        exact ⟨0, e, rfl, hD, by simpa using h2⟩
      · cases h

theorem wrs_wS {e : En} {i : Nat} : e.wrs i = true ↔ e.wS i ≠ none := by
  unfold En.wrs En.wS
  constructor
  · intro h
    obtain ⟨y, hy, h1⟩ := List.any_eq_true.1 h
    have h1 : y.1 = i := Nat.eq_of_beq_eq_true h1
    cases hf : e.wr.reverse.find? fun x => x.1 == i with
    | none =>
      have := List.find?_eq_none.1 hf y (by simpa using hy)
      simp [h1] at this
    | some z => simp
  · intro h
    cases hf : e.wr.reverse.find? fun x => x.1 == i with
    | none => rw [hf] at h; exact absurd rfl h
    | some z =>
      have h1 := List.find?_some hf
      have h2 := List.mem_of_find?_eq_some hf
      have h1 : z.1 = i := by simpa using h1
      exact List.any_eq_true.2 ⟨z, by simpa using h2, by rw [h1]; exact Nat.beq_refl _⟩

/-- What was written last. -/
theorem lastS_last {D : Nat → Bool} {i : Nat} {s : SV} : ∀ {T : List En} {k : Nat}, lastS D i k T = some s → ∃ j e, T[j]? = some e ∧ D (k + j) = true ∧ (i, s) ∈ e.wr ∧ ∀ j' e', j < j' → T[j']? = some e' → D (k + j') = true → e'.wS i = none
  | [], _, h => by simp [lastS] at h
  | e :: T, k, h => by
    simp only [lastS] at h
    cases hl : lastS D i (k + 1) T with
    | some s' =>
      rw [hl] at h
      simp only [Option.some_or, Option.some.injEq] at h
      subst h
      obtain ⟨j, e', h1, h2, h3, h4⟩ := lastS_last hl
      refine ⟨j + 1, e', by simpa using h1, by rwa [show k + (j + 1) = k + 1 + j by omega], h3, fun j' e2 hj he hD => ?_⟩
      cases j' with
      | zero => omega
      | succ j' => exact h4 j' e2 (by omega) (by simpa using he) (by rwa [show k + 1 + j' = k + (j' + 1) by omega])
    | none =>
      rw [hl] at h
      simp only [Option.none_or] at h
      split at h
      · rename_i hD
        unfold En.wS at h
        obtain ⟨y, hy, rfl⟩ := Option.map_eq_some_iff.1 h
        have h1 := List.find?_some hy
        have h2 := List.mem_of_find?_eq_some hy
        have h1 : y.1 = i := by simpa using h1
        subst h1
        refine ⟨0, e, rfl, hD, by simpa using h2, fun j' e2 hj he hD' => ?_⟩
        cases j' with
        | zero => omega
        | succ j' => exact lastS_none hl j' e2 (by simpa using he) (by rwa [show k + 1 + j' = k + (j' + 1) by omega])
      · cases h
where
  lastS_none {D : Nat → Bool} {i : Nat} : ∀ {T : List En} {k : Nat}, lastS D i k T = none → ∀ j e, T[j]? = some e → D (k + j) = true → e.wS i = none
    | [], _, _, j, e, he, _ => by simp at he
    | x :: T, k, h, j, e, he, hD => by
      simp only [lastS, Option.or_eq_none_iff] at h
      obtain ⟨h1, h2⟩ := h
      cases j with
      | zero =>
        simp at he; subst he
        rw [Nat.add_zero] at hD
        rw [if_pos hD] at h2
        exact h2
      | succ j => exact lastS_none h1 j e (by simpa using he) (by rwa [show k + 1 + j = k + (j + 1) by omega])

theorem meetsAny_mem {xs ys : List (Bool × Nat)} {c : Bool × Nat} (h1 : c ∈ xs) (h2 : c ∈ ys) : meetsAny xs ys = true := by
  unfold meetsAny
  exact List.any_eq_true.2 ⟨c, h1, by simpa using h2⟩

/-- What orderOk says. -/
structure Ordered (ops : List Oper) (σ0 : Sg) (T : List En) : Prop where
  small : σ0.slots.length ≤ 1024 ∧ σ0.boxes.length ≤ 1024
  back : ∀ (j : Nat) (o : Oper), ops[j]? = some o → ∀ e ∈ o.after.toList, Region.binds .any e = true → e.on < j
  len : T.length = ops.length
  clash : ∀ (i j : Nat) (a b : En), T[i]? = some a → T[j]? = some b → i < j → clash a b = true → An ops i j
  kill0 : ∀ (i : Nat) (e : En), T[i]? = some e → ∀ k ∈ e.kill, ∀ (q : Nat) (s : SV), σ0.slots[q]? = some s → refers k s = false ∨ e.wrs q = true ∨ ∃ y ey, T[y]? = some ey ∧ An ops y i ∧ ey.wrs q = true
  kill : ∀ (i j : Nat) (e b : En), T[i]? = some e → T[j]? = some b → ∀ k ∈ e.kill, j = i ∨ An ops i j ∨ ∀ y ∈ b.wr, refers k y.2 = false ∨ e.wrs y.1 = true ∨ ∃ z ez, T[z]? = some ez ∧ j < z ∧ An ops z i ∧ ez.wrs y.1 = true

theorem zip_mem {α : Type} {l : List α} {i : Nat} {x : α} (h : l[i]? = some x) : (x, i) ∈ l.zipIdx := by
  rw [List.mem_zipIdx_iff_getElem?]; exact h

theorem tb_eq (m n : Nat) : tb m n = m.testBit n := by
  unfold tb Nat.testBit
  have h : Nat.land 1 (Nat.shiftRight m n) = (m >>> n) % 2 := Nat.one_and_eq_mod_two (m >>> n)
  have h2 : (1 &&& (m >>> n)) = (m >>> n) % 2 := Nat.one_and_eq_mod_two (m >>> n)
  rw [h, h2]
  rcases Nat.mod_two_eq_zero_or_one (m >>> n) with h | h <;> rw [h] <;> rfl

theorem maskOf_bit : ∀ {l : List (Bool × Nat)} {c : Bool × Nat}, c ∈ l → (maskOf l).testBit (bitOf c) = true
  | [], _, h => by simp at h
  | d :: l, c, h => by
    show (Nat.lor (Nat.shiftLeft 1 (bitOf d)) (maskOf l)).testBit (bitOf c) = true
    have : (Nat.lor (Nat.shiftLeft 1 (bitOf d)) (maskOf l)).testBit (bitOf c) = ((1 <<< bitOf d) ||| maskOf l).testBit (bitOf c) := rfl
    rw [this, Nat.testBit_or]
    rcases List.mem_cons.1 h with rfl | h
    · rw [Nat.testBit_shiftLeft]; simp
    · rw [maskOf_bit h]; simp

theorem land_bit {x y n : Nat} (hx : x.testBit n = true) (hy : y.testBit n = true) : Nat.beq (Nat.land x y) 0 = false := by
  have h : (x &&& y).testBit n = true := by rw [Nat.testBit_and, hx, hy]; rfl
  cases hb : Nat.beq (Nat.land x y) 0 with
  | false => rfl
  | true =>
    have h0 : x &&& y = 0 := Nat.eq_of_beq_eq_true hb
    rw [h0] at h
    simp at h

theorem meetsAny_bits {xs ys : List (Bool × Nat)} (h : meetsAny xs ys = true) : ∃ n, (maskOf xs).testBit n = true ∧ (maskOf ys).testBit n = true := by
  unfold meetsAny at h
  obtain ⟨c, h1, h2⟩ := List.any_eq_true.1 h
  exact ⟨bitOf c, maskOf_bit h1, maskOf_bit (by simpa using h2)⟩

theorem maskOf_app {xs ys : List (Bool × Nat)} {n : Nat} (h : (maskOf (xs ++ ys)).testBit n = true) : (Nat.lor (maskOf xs) (maskOf ys)).testBit n = true := by
  induction xs with
  | nil =>
    have : Nat.lor (maskOf []) (maskOf ys) = 0 ||| maskOf ys := rfl
    rw [this, Nat.zero_or]; exact h
  | cons c xs ih =>
    have h' : ((1 <<< bitOf c) ||| maskOf (xs ++ ys)).testBit n = true := h
    rw [Nat.testBit_or, Bool.or_eq_true] at h'
    have : Nat.lor (maskOf (c :: xs)) (maskOf ys) = ((1 <<< bitOf c) ||| maskOf xs) ||| maskOf ys := rfl
    rw [this, Nat.testBit_or, Nat.testBit_or]
    rcases h' with h' | h'
    · rw [h']; rfl
    · have := ih h'
      have e : Nat.lor (maskOf xs) (maskOf ys) = maskOf xs ||| maskOf ys := rfl
      rw [e, Nat.testBit_or] at this
      rw [Bool.or_assoc, this]; simp

theorem pairsOk_spec {anc W : Nat} : ∀ {T : List En} {j0 : Nat} {prev : List (Nat × Nat × Nat)}, pairsOk anc W T j0 prev = true →
    (∀ j e, T[j]? = some e → ∀ p ∈ prev, anc.testBit ((j0 + j) * W + p.1) = true ∨ (Nat.beq (Nat.land p.2.2 (Nat.lor (maskOf e.log) (maskOf e.writes))) 0 = true ∧ Nat.beq (Nat.land p.2.1 (maskOf e.writes)) 0 = true)) ∧
    (∀ i j a e, T[i]? = some a → T[j]? = some e → i < j → anc.testBit ((j0 + j) * W + (j0 + i)) = true ∨ (Nat.beq (Nat.land (maskOf a.writes) (Nat.lor (maskOf e.log) (maskOf e.writes))) 0 = true ∧ Nat.beq (Nat.land (maskOf a.log) (maskOf e.writes)) 0 = true))
  | [], _, _, _ => ⟨fun j e h => by simp at h, fun i j a e h => by simp at h⟩
  | x :: T, j0, prev, h => by
    simp only [pairsOk, Bool.and_eq_true, allR_eq, List.all_eq_true] at h
    obtain ⟨h1, h2⟩ := h
    obtain ⟨k1, k2⟩ := pairsOk_spec h2
    have hx : ∀ p ∈ prev, anc.testBit (j0 * W + p.1) = true ∨ (Nat.beq (Nat.land p.2.2 (Nat.lor (maskOf x.log) (maskOf x.writes))) 0 = true ∧ Nat.beq (Nat.land p.2.1 (maskOf x.writes)) 0 = true) := by
      intro p hp
      have := h1 p hp
      rw [tb_eq, Bool.or_eq_true, Bool.and_eq_true] at this
      exact this
    refine ⟨fun j e he p hp => ?_, fun i j a e ha he hij => ?_⟩
    · cases j with
      | zero => simp at he; subst he; exact hx p hp
      | succ j =>
        have := k1 j e (by simpa using he) p (List.mem_cons_of_mem _ hp)
        rwa [show j0 + 1 + j = j0 + (j + 1) by omega] at this
    · cases j with
      | zero => omega
      | succ j =>
        cases i with
        | zero =>
          simp at ha; subst ha
          have := k1 j e (by simpa using he) (j0, maskOf x.log, maskOf x.writes) (by simp)
          rwa [show j0 + 1 + j = j0 + (j + 1) by omega] at this
        | succ i =>
          have := k2 i j a e (by simpa using ha) (by simpa using he) (by omega)
          rwa [show j0 + 1 + j = j0 + (j + 1) by omega, show j0 + 1 + i = j0 + (i + 1) by omega] at this

theorem orderOk_spec {ops : List Oper} {σ0 : Sg} {T : List En} (h : orderOk ops σ0 T = true) : Ordered ops σ0 T := by
  unfold orderOk backOk at h
  simp only [Bool.and_eq_true, allR_eq, List.all_eq_true] at h
  obtain ⟨⟨⟨⟨h00, h1⟩, h3⟩, h2⟩, h4⟩ := h
  have h3 : T.length = ops.length := Nat.eq_of_beq_eq_true h3
  have hlt : ∀ {i : Nat} {a : En}, T[i]? = some a → i < ops.length := fun ha => by have := (List.getElem?_eq_some_iff.1 ha).1; omega
  have hover : ∀ {i n q : Nat}, overR T (ancM ops) ops.length i n q = true → ∃ y ey, T[y]? = some ey ∧ n ≤ y ∧ (ancM ops).testBit (i * ops.length + y) = true ∧ ey.wrs q = true := by
    intro i n q h
    unfold overR at h
    obtain ⟨y, hy, h⟩ := List.any_eq_true.1 h
    simp only [Bool.and_eq_true, tb_eq, Nat.ble_eq] at h
    exact ⟨y.2, y.1, List.mem_zipIdx_iff_getElem?.1 hy, h.1.1, h.1.2, h.2⟩
  refine ⟨⟨Nat.le_of_ble_eq_true h00.1, Nat.le_of_ble_eq_true h00.2⟩, fun j o ho e he hb => ?_, h3, fun i j a b ha hb hij hc => ?_, fun i e he k hk q s hs => ?_, fun i j e b he hb k hk => ?_⟩
  · have := h1 (o, j) (zip_mem ho) e he
    simp only [hb, Bool.not_true, Bool.false_or, Nat.ble_eq] at this
    omega
  · have := (pairsOk_spec h2).2 i j a b ha hb hij
    simp only [Nat.zero_add] at this
    rcases this with h5 | ⟨h5, h6⟩
    · exact ⟨h5, hlt ha, hlt hb⟩
    · exfalso
      unfold Vm.clash at hc
      rw [Bool.or_eq_true] at hc
      rcases hc with hc | hc
      · obtain ⟨n, k1, k2⟩ := meetsAny_bits hc
        rw [land_bit k1 (maskOf_app k2)] at h5
        cases h5
      · obtain ⟨n, k1, k2⟩ := meetsAny_bits hc
        rw [land_bit k1 k2] at h6
        cases h6
  · have := h4 (e, i) (zip_mem he)
    unfold killsOk at this
    simp only [allR_eq, List.all_eq_true, Bool.and_eq_true] at this
    have := (this k hk).1 (s, q) (zip_mem hs)
    simp only [Bool.or_eq_true, Bool.not_eq_true'] at this
    rcases this with (h5 | h5) | h5
    · exact .inl h5
    · exact .inr (.inl h5)
    · obtain ⟨y, ey, k1, _, k3, k4⟩ := hover h5
      exact .inr (.inr ⟨y, ey, k1, ⟨k3, hlt k1, hlt he⟩, k4⟩)
  · have := h4 (e, i) (zip_mem he)
    unfold killsOk at this
    simp only [allR_eq, List.all_eq_true, Bool.and_eq_true] at this
    have := (this k hk).2 (b, j) (zip_mem hb)
    simp only [Bool.or_eq_true, List.all_eq_true, tb_eq] at this
    rcases this with (h5 | h5) | h5
    · exact .inl (Nat.eq_of_beq_eq_true h5)
    · exact .inr (.inl ⟨h5, hlt he, hlt hb⟩)
    · refine .inr (.inr (fun y hy => ?_))
      have := h5 y hy
      simp only [Bool.not_eq_true'] at this
      rcases this with (h6 | h6) | h6
      · exact .inl h6
      · exact .inr (.inl h6)
      · obtain ⟨z, ez, k1, k2, k3, k4⟩ := hover h6
        exact .inr (.inr ⟨z, ez, k1, k2, ⟨k3, hlt k1, hlt he⟩, k4⟩)

theorem ancOf_bit {W acc : Nat} {o : Oper} {i : Nat} (h : (ancOf W acc o).testBit i = true) :
    ∃ e ∈ o.after.toList, Region.binds .any e = true ∧ (i = e.on ∨ (i < W ∧ acc.testBit (e.on * W + i) = true)) := by
  unfold ancOf at h
  have key : ∀ (es : List Edge) (s : Nat), (es.foldl (fun s e => bif Region.binds .any e then Nat.lor (Nat.lor s (Nat.shiftLeft 1 e.on)) (Nat.land (Nat.shiftRight acc (e.on * W)) (2 ^ W - 1)) else s) s).testBit i = true →
      s.testBit i = true ∨ ∃ e ∈ es, Region.binds .any e = true ∧ (i = e.on ∨ (i < W ∧ acc.testBit (e.on * W + i) = true)) := by
    intro es
    induction es with
    | nil => intro s h; exact .inl h
    | cons e es ih =>
      intro s h
      rw [List.foldl_cons] at h
      rcases ih _ h with h | ⟨e', he', h'⟩
      · cases hb : Region.binds .any e with
        | false => rw [hb] at h; exact .inl h
        | true =>
          rw [hb] at h
          have h' : ((s ||| (1 <<< e.on)) ||| ((acc >>> (e.on * W)) &&& (2 ^ W - 1))).testBit i = true := h
          rw [Nat.testBit_or, Nat.testBit_or, Nat.testBit_and, Nat.testBit_two_pow_sub_one, Nat.testBit_shiftRight] at h'
          simp only [Bool.or_eq_true, Bool.and_eq_true, decide_eq_true_eq] at h'
          rcases h' with (h' | h') | h'
          · exact .inl h'
          · refine .inr ⟨e, by simp, hb, .inl ?_⟩
            rw [Nat.testBit_shiftLeft] at h'
            simp only [Bool.and_eq_true, decide_eq_true_eq] at h'
            obtain ⟨h1, h2⟩ := h'
            by_cases hz : i - e.on = 0
            · omega
            · rw [Nat.testBit_one_eq_true_iff_self_eq_zero] at h2
              omega
          · exact .inr ⟨e, by simp, hb, .inr ⟨h'.2, h'.1⟩⟩
      · exact .inr ⟨e', List.mem_cons_of_mem _ he', h'⟩
  rcases key _ _ h with h | h
  · simp at h
  · exact h

/-- Every one for whose end an operation waits comes ahead of it. -/
theorem ancGo_spec {W : Nat} {D : Nat → Bool} {all : List Oper} (hcl : ∀ (j : Nat) (o : Oper), all[j]? = some o → D j = true → ∀ e ∈ o.after.toList, Region.binds .any e = true → D e.on = true)
    (hback : ∀ (j : Nat) (o : Oper), all[j]? = some o → ∀ e ∈ o.after.toList, Region.binds .any e = true → e.on < j) : ∀ (ops : List Oper) (j0 acc : Nat),
    (∀ j, all[j0 + j]? = ops[j]?) →
    (∀ j, j < j0 → (∀ (o : Oper), all[j]? = some o → ∀ e ∈ o.after.toList, Region.binds .any e = true → D e.on = true) → ∀ i, i < W → acc.testBit (j * W + i) = true → D i = true ∧ i < j) →
    (∀ b, j0 * W ≤ b → acc.testBit b = false) →
    ∀ j, j < j0 + ops.length → (∀ (o : Oper), all[j]? = some o → ∀ e ∈ o.after.toList, Region.binds .any e = true → D e.on = true) → ∀ i, i < W → (ancGo W ops j0 acc).testBit (j * W + i) = true → D i = true ∧ i < j
  | [], j0, acc, _, hacc, _, j, hj, hd, i, hi, h => hacc j (by simpa using hj) hd i hi h
  | o :: ops, j0, acc, hall, hacc, hhi, j, hj, hd, i, hi, h => by
    have ho : all[j0]? = some o := by have := hall 0; simpa using this
    have hbit : ∀ b, (Nat.lor acc (Nat.shiftLeft (Nat.land (ancOf W acc o) (2 ^ W - 1)) (j0 * W))).testBit b = (acc.testBit b || (decide (j0 * W ≤ b) && ((ancOf W acc o).testBit (b - j0 * W) && decide (b - j0 * W < W)))) := by
      intro b
      have e : Nat.lor acc (Nat.shiftLeft (Nat.land (ancOf W acc o) (2 ^ W - 1)) (j0 * W)) = acc ||| ((ancOf W acc o &&& (2 ^ W - 1)) <<< (j0 * W)) := rfl
      rw [e, Nat.testBit_or, Nat.testBit_shiftLeft, Nat.testBit_and, Nat.testBit_two_pow_sub_one]
    refine ancGo_spec hcl hback ops (j0 + 1) _ (fun m => ?_) (fun m hm hdm q hq hb => ?_) (fun b hb => ?_) j (by simp at hj ⊢; omega) hd i hi h
    · have := hall (m + 1)
      rw [List.getElem?_cons_succ] at this
      rw [← this]; congr 1; omega
    · rw [hbit, Bool.or_eq_true] at hb
      rcases Nat.lt_or_ge m j0 with hlt | hge
      · rcases hb with hb | hb
        · exact hacc m hlt hdm q hq hb
        · exfalso
          simp only [Bool.and_eq_true, decide_eq_true_eq] at hb
          have h1 := hb.1
          have h2 : m * W + W ≤ j0 * W := by
            have : (m + 1) * W ≤ j0 * W := Nat.mul_le_mul_right _ hlt
            rw [Nat.add_mul, Nat.one_mul] at this
            exact this
          omega
      · have hm' : m = j0 := by omega
        subst hm'
        rcases hb with hb | hb
        · rw [hhi _ (by omega)] at hb; cases hb
        · simp only [Bool.and_eq_true, decide_eq_true_eq] at hb
          obtain ⟨_, hb, _⟩ := hb
          rw [show m * W + q - m * W = q by omega] at hb
          obtain ⟨e, he, hbind, h5⟩ := ancOf_bit hb
          have hon := hdm o ho e he hbind
          have hlt := hback m o ho e he hbind
          rcases h5 with rfl | ⟨h5, h6⟩
          · exact ⟨hon, hlt⟩
          · obtain ⟨h7, h8⟩ := hacc e.on hlt (fun o' ho' e' he' hb' => hcl e.on o' ho' hon e' he' hb') q hq h6
            exact ⟨h7, by omega⟩
    · rw [Nat.add_mul, Nat.one_mul] at hb
      rw [hbit, hhi b (by omega)]
      have : ¬ (b - j0 * W < W) := by omega
      simp [this]

theorem ancs_in {ops : List Oper} {σ0 : Sg} {T : List En} (h : Ordered ops σ0 T) {D : Nat → Bool}
    (hcl : ∀ (j : Nat) (o : Oper), ops[j]? = some o → D j = true → ∀ e ∈ o.after.toList, Region.binds .any e = true → D e.on = true)
    {j : Nat} (hj : j < ops.length) (hd : ∀ (o : Oper), ops[j]? = some o → ∀ e ∈ o.after.toList, Region.binds .any e = true → D e.on = true) {i : Nat} (hi : An ops i j) : D i = true ∧ i < j :=
  ancGo_spec hcl h.back ops 0 0 (fun j => by simp) (fun j hj => by omega) (fun b _ => by simp) j (by simpa using hj) hd i hi.2.1 hi.1

end Go.Vm
