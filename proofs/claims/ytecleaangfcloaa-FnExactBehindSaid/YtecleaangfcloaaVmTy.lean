/- Values of the program as plain data: types' codes, what a value's cells say, and that this lasts. Lemmas alone, no statement. -/
import Derived.WalkKit
import Derived.Below
namespace Go.Vm
set_option linter.unusedVariables false
set_option linter.unusedSimpArgs false

/-- A type's code. A struct is its cells, one behind the other: pair .. (pair .. unit). -/
inductive Ty where
  | int (k : IntKind)
  | bool
  | str
  | unit
  | pair (a b : Ty)
  | sl (e : Ty)
  deriving DecidableEq, Inhabited

/-- What the code stands for. -/
@[reducible] def D : Ty → Type
  | .int _ => Int
  | .bool => Bool
  | .str => ByteArray
  | .unit => Unit
  | .pair a b => D a × D b
  | .sl e => List (D e)

/-- How many cells. -/
def Ty.n : Ty → Nat
  | .unit => 0
  | .pair a b => a.n + b.n
  | _ => 1

/-- A struct's code. -/
def Ty.isAgg : Ty → Bool
  | .unit => true
  | .pair _ _ => true
  | _ => false

/-- Who owns a value's rows: nobody that writes (sh), or this value alone (own; m: the rows inside). -/
inductive Md where
  | sh
  | own (m : Md)
  | pair (a b : Md)
  deriving DecidableEq, Inhabited

def Md.l : Md → Md
  | .pair a _ => a
  | m => m
def Md.r : Md → Md
  | .pair _ b => b
  | m => m

/-- A list of values, one behind the other. -/
def RepL {α : Type} (R : α → List Value → List Nat → Prop) : List α → List Value → List Nat → Prop
  | [], vs, F => vs = [] ∧ F = []
  | x :: xs, vs, F => ∃ v1 v2 F1 F2, vs = v1 ++ v2 ∧ F = F1 ++ F2 ∧ R x v1 F1 ∧ RepL R xs v2 F2

/-- No cell is frozen. -/
def FzOk (fz : Nat × Nat) (n : Nat) : Prop := fz = (0, 0) ∨ n ≤ fz.1

theorem FzOk.all {fz : Nat × Nat} {n : Nat} (h : FzOk fz n) : ∀ i, fz.1 ≤ i → i < fz.2 → n ≤ i := by
  intro i h1 h2
  rcases h with rfl | h
  · simp at h2
  · omega

/-- The cells vs say x (of code τ); F: the blocks that this value alone owns; sh: blocks that nobody writes. -/
def Rep (sh : Nat → Prop) (w : World) : (τ : Ty) → Md → D τ → List Value → List Nat → Prop
  | .int k, _, n, vs, F => vs = [.int k n] ∧ F = []
  | .bool, _, b, vs, F => vs = [.bool b] ∧ F = []
  | .str, _, s, vs, F => vs = [.string s] ∧ F = []
  | .unit, _, _, vs, F => vs = [] ∧ F = []
  | .pair a b, md, x, vs, F => ∃ v1 v2 F1 F2, vs = v1 ++ v2 ∧ F = F1 ++ F2 ∧ Rep sh w a md.l x.1 v1 F1 ∧ Rep sh w b md.r x.2 v2 F2
  | .sl e, .sh, xs, vs, F => ∃ a cap, vs = [.slice a xs.length cap] ∧ xs.length ≤ cap ∧ F = [] ∧
      (xs = [] ∨ ∃ b off c ty fz, a = some ⟨b, off, none⟩ ∧ sh b ∧ w.heap[b]? = some (.cells c ty fz) ∧
        RepL (fun x vs F => Rep sh w e .sh x vs F) xs ((c.toList.drop off).take (e.n * xs.length)) [])
  | .sl _, .pair _ _, _, _, _ => False
  | .sl e, .own md, xs, vs, F => ∃ a cap, vs = [.slice a xs.length cap] ∧ xs.length ≤ cap ∧
      ((xs = [] ∧ cap = 0 ∧ F = []) ∨ ∃ b c ty fz F', a = some ⟨b, 0, none⟩ ∧ F = b :: F' ∧ w.heap[b]? = some (.cells c ty fz) ∧
        c.size = e.n * cap ∧ FzOk fz c.size ∧
        RepL (fun x vs F => Rep sh w e md x vs F) xs (c.toList.take (e.n * xs.length)) F')

section
variable {sh sh' : Nat → Prop} {w w' : World}

theorem RepL.imp {α : Type} {R R' : α → List Value → List Nat → Prop} :
    ∀ {xs : List α} {vs F}, RepL R xs vs F → (∀ x vs G, (∀ b ∈ G, b ∈ F) → R x vs G → R' x vs G) → RepL R' xs vs F
  | [], _, _, h, _ => h
  | x :: xs, _, _, h, hi => by
    obtain ⟨v1, v2, F1, F2, rfl, rfl, h1, h2⟩ := h
    exact ⟨v1, v2, F1, F2, rfl, rfl, hi _ _ _ (fun b hb => List.mem_append_left _ hb) h1,
      RepL.imp h2 (fun x vs G hG => hi x vs G (fun b hb => List.mem_append_right _ (hG b hb)))⟩

/-- Blocks that stay keep what they say. -/
theorem Rep.frame (hs : ∀ b, sh b → sh' b ∧ w'.heap[b]? = w.heap[b]?) :
    ∀ {τ : Ty} {md : Md} {x : D τ} {vs F}, Rep sh w τ md x vs F → (∀ b ∈ F, w'.heap[b]? = w.heap[b]?) → Rep sh' w' τ md x vs F
  | .int _, _, _, _, _, h, _ => h
  | .bool, _, _, _, _, h, _ => h
  | .str, _, _, _, _, h, _ => h
  | .unit, _, _, _, _, h, _ => h
  | .pair a b, md, x, vs, F, h, hF => by
    obtain ⟨v1, v2, F1, F2, rfl, rfl, h1, h2⟩ := h
    exact ⟨v1, v2, F1, F2, rfl, rfl, Rep.frame hs h1 (fun b hb => hF b (List.mem_append_left _ hb)),
      Rep.frame hs h2 (fun b hb => hF b (List.mem_append_right _ hb))⟩
  | .sl e, .sh, xs, vs, F, h, hF => by
    obtain ⟨a, cap, rfl, hc, rfl, h⟩ := h
    refine ⟨a, cap, rfl, hc, rfl, h.imp id ?_⟩
    rintro ⟨b, off, c, ty, fz, rfl, hb, hw, hr⟩
    exact ⟨b, off, c, ty, fz, rfl, (hs b hb).1, (hs b hb).2.trans hw, RepL.imp hr (fun x vs G hG h => Rep.frame hs h (fun b hb => absurd (hG b hb) (by simp)))⟩
  | .sl _, .pair _ _, _, _, _, h, _ => h.elim
  | .sl e, .own md, xs, vs, F, h, hF => by
    obtain ⟨a, cap, rfl, hc, h⟩ := h
    refine ⟨a, cap, rfl, hc, h.imp id ?_⟩
    rintro ⟨b, c, ty, fz, F', rfl, rfl, hw, hn, hz, hr⟩
    exact ⟨b, c, ty, fz, F', rfl, rfl, (hF b (by simp)).trans hw, hn, hz,
      RepL.imp hr (fun x vs G hG h => Rep.frame hs h (fun b hb => hF b (List.mem_cons_of_mem _ (hG b hb))))⟩

theorem RepL.nil {α : Type} {R R' : α → List Value → List Nat → Prop} :
    ∀ {xs : List α} {vs F}, RepL R xs vs F → (∀ x vs G, (∀ b ∈ G, b ∈ F) → R x vs G → R' x vs []) → RepL R' xs vs []
  | [], _, _, h, _ => ⟨h.1, rfl⟩
  | x :: xs, _, _, h, hi => by
    obtain ⟨v1, v2, F1, F2, rfl, rfl, h1, h2⟩ := h
    exact ⟨v1, v2, [], [], rfl, rfl, hi _ _ _ (fun b hb => List.mem_append_left _ hb) h1,
      RepL.nil h2 (fun x vs G hG => hi x vs G (fun b hb => List.mem_append_right _ (hG b hb)))⟩

/-- What is owned may be taken for what nobody writes. -/
theorem Rep.freeze (hs : ∀ b, sh b → sh' b) :
    ∀ {τ : Ty} {md : Md} {x : D τ} {vs F}, Rep sh w τ md x vs F → (∀ b ∈ F, sh' b) → Rep sh' w τ .sh x vs []
  | .int _, _, _, _, _, h, _ => ⟨h.1, rfl⟩
  | .bool, _, _, _, _, h, _ => ⟨h.1, rfl⟩
  | .str, _, _, _, _, h, _ => ⟨h.1, rfl⟩
  | .unit, _, _, _, _, h, _ => ⟨h.1, rfl⟩
  | .pair a b, md, x, vs, F, h, hF => by
    obtain ⟨v1, v2, F1, F2, rfl, rfl, h1, h2⟩ := h
    exact ⟨v1, v2, [], [], rfl, rfl, Rep.freeze hs h1 (fun b hb => hF b (List.mem_append_left _ hb)),
      Rep.freeze hs h2 (fun b hb => hF b (List.mem_append_right _ hb))⟩
  | .sl e, .sh, xs, vs, F, h, hF => by
    obtain ⟨a, cap, rfl, hc, rfl, h⟩ := h
    refine ⟨a, cap, rfl, hc, rfl, h.imp id ?_⟩
    rintro ⟨b, off, c, ty, fz, rfl, hb, hw, hr⟩
    exact ⟨b, off, c, ty, fz, rfl, hs b hb, hw, RepL.imp hr (fun x vs G hG h => by
      have hG0 : G = [] := List.eq_nil_iff_forall_not_mem.2 (fun b hb => absurd (hG b hb) (by simp))
      subst hG0
      exact Rep.freeze hs h (by simp))⟩
  | .sl _, .pair _ _, _, _, _, h, _ => h.elim
  | .sl e, .own md, xs, vs, F, h, hF => by
    obtain ⟨a, cap, rfl, hc, h⟩ := h
    refine ⟨a, cap, rfl, hc, rfl, ?_⟩
    rcases h with ⟨rfl, _, _⟩ | ⟨b, c, ty, fz, F', rfl, rfl, hw, hn, hz, hr⟩
    · exact .inl rfl
    · exact .inr ⟨b, 0, c, ty, fz, rfl, hF b (by simp), hw,
        by simpa using RepL.nil hr (fun x vs G hG h => Rep.freeze hs h (fun b hb => hF b (List.mem_cons_of_mem _ (hG b hb))))⟩

theorem RepL.len {α : Type} {R : α → List Value → List Nat → Prop} {n : Nat} (hn : ∀ x vs F, R x vs F → vs.length = n) :
    ∀ {xs : List α} {vs F}, RepL R xs vs F → vs.length = n * xs.length
  | [], _, _, h => by simp [h.1]
  | x :: xs, _, _, h => by
    obtain ⟨v1, v2, F1, F2, rfl, rfl, h1, h2⟩ := h
    simp [hn _ _ _ h1, RepL.len hn h2, Nat.mul_add, Nat.add_comm]

theorem Rep.len : ∀ {τ : Ty} {md : Md} {x : D τ} {vs F}, Rep sh w τ md x vs F → vs.length = τ.n
  | .int _, _, _, _, _, h => by simp [h.1, Ty.n]
  | .bool, _, _, _, _, h => by simp [h.1, Ty.n]
  | .str, _, _, _, _, h => by simp [h.1, Ty.n]
  | .unit, _, _, _, _, h => by simp [h.1, Ty.n]
  | .pair a b, md, x, vs, F, h => by
    obtain ⟨v1, v2, F1, F2, rfl, rfl, h1, h2⟩ := h
    simp [Ty.n, Rep.len h1, Rep.len h2]
  | .sl e, .sh, xs, vs, F, h => by
    obtain ⟨a, cap, rfl, hc, rfl, h⟩ := h
    simp [Ty.n]
  | .sl _, .pair _ _, _, _, _, h => h.elim
  | .sl e, .own md, xs, vs, F, h => by
    obtain ⟨a, cap, rfl, hc, h⟩ := h
    simp [Ty.n]

/-- Owned blocks and unwritten blocks are blocks of the heap. -/
theorem RepL.lt {α : Type} {R : α → List Value → List Nat → Prop} {p : Nat → Prop} (hn : ∀ x vs F, R x vs F → ∀ b ∈ F, p b) :
    ∀ {xs : List α} {vs F}, RepL R xs vs F → ∀ b ∈ F, p b
  | [], _, _, h => by simp [h.2]
  | x :: xs, _, _, h => by
    obtain ⟨v1, v2, F1, F2, rfl, rfl, h1, h2⟩ := h
    intro b hb
    rcases List.mem_append.1 hb with hb | hb
    · exact hn _ _ _ h1 b hb
    · exact RepL.lt hn h2 b hb

theorem lt_of_get {b : Nat} {o : Obj} (h : w.heap[b]? = some o) : b < w.heap.size := (Array.getElem?_eq_some_iff.1 h).1

theorem Rep.lt : ∀ {τ : Ty} {md : Md} {x : D τ} {vs F}, Rep sh w τ md x vs F → ∀ b ∈ F, b < w.heap.size
  | .int _, _, _, _, _, h => by simp [h.2]
  | .bool, _, _, _, _, h => by simp [h.2]
  | .str, _, _, _, _, h => by simp [h.2]
  | .unit, _, _, _, _, h => by simp [h.2]
  | .pair a b, md, x, vs, F, h => by
    obtain ⟨v1, v2, F1, F2, rfl, rfl, h1, h2⟩ := h
    intro b hb
    rcases List.mem_append.1 hb with hb | hb
    · exact Rep.lt h1 b hb
    · exact Rep.lt h2 b hb
  | .sl e, .sh, xs, vs, F, h => by
    obtain ⟨a, cap, rfl, hc, rfl, h⟩ := h
    simp
  | .sl _, .pair _ _, _, _, _, h => h.elim
  | .sl e, .own md, xs, vs, F, h => by
    obtain ⟨a, cap, rfl, hc, h⟩ := h
    rcases h with ⟨rfl, _, rfl⟩ | ⟨b, c, ty, fz, F', rfl, rfl, hw, hn, hz, hr⟩
    · simp
    · intro b' hb
      rcases List.mem_cons.1 hb with rfl | hb
      · exact lt_of_get hw
      · exact RepL.lt (fun x vs F h => Rep.lt h) hr b' hb

/-- A value with nothing owned may be taken for one that nobody writes. -/
theorem Rep.sh_nil : ∀ {τ : Ty} {x : D τ} {vs F}, Rep sh w τ .sh x vs F → F = []
  | .int _, _, _, _, h => h.2
  | .bool, _, _, _, h => h.2
  | .str, _, _, _, h => h.2
  | .unit, _, _, _, h => h.2
  | .pair a b, x, vs, F, h => by
    obtain ⟨v1, v2, F1, F2, rfl, rfl, h1, h2⟩ := h
    rw [Rep.sh_nil h1, Rep.sh_nil h2]; rfl
  | .sl e, xs, vs, F, h => by
    obtain ⟨a, cap, rfl, hc, rfl, h⟩ := h
    rfl

/-- One element of a list of values. -/
theorem RepL.get {α : Type} {R : α → List Value → List Nat → Prop} {n : Nat} (hn : ∀ x vs F, R x vs F → vs.length = n) :
    ∀ {xs : List α} {vs F} {i : Nat} {x : α}, RepL R xs vs F → xs[i]? = some x → ∃ G, (∀ b ∈ G, b ∈ F) ∧ R x ((vs.drop (n * i)).take n) G
  | [], _, _, _, _, _, h => by simp at h
  | y :: xs, _, _, 0, x, h, hi => by
    obtain ⟨v1, v2, F1, F2, rfl, rfl, h1, h2⟩ := h
    simp at hi
    subst hi
    refine ⟨F1, fun b hb => List.mem_append_left _ hb, ?_⟩
    have := hn _ _ _ h1
    rw [Nat.mul_zero, List.drop_zero, List.take_append_of_le_length (by omega), List.take_of_length_le (by omega)]
    exact h1
  | y :: xs, _, _, i + 1, x, h, hi => by
    obtain ⟨v1, v2, F1, F2, rfl, rfl, h1, h2⟩ := h
    simp at hi
    obtain ⟨G, hG, hr⟩ := RepL.get hn h2 hi
    refine ⟨G, fun b hb => List.mem_append_right _ (hG b hb), ?_⟩
    have := hn _ _ _ h1
    rw [List.drop_append, List.drop_of_length_le (by rw [this, Nat.mul_add]; omega), List.nil_append, show n * (i + 1) - v1.length = n * i by rw [this, Nat.mul_add]; omega]
    exact hr
end
end Go.Vm
