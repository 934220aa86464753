/- What the names say of memory, and that it lasts. Lemmas alone, no statement. -/
import Derived.Test.YtecleaangfcloaaVmSx
import Derived.Orders
import Derived.ChangeKeysEq
namespace Go.Vm
set_option linter.unusedVariables false
set_option linter.unusedSimpArgs false
open Go.RowKit

def valOf (agg : Bool) (vs : List Value) : Value := if agg then .agg vs.toArray else vs.headD undef

/-- The world has turned at no old block but those of G. -/
structure Ext (w0 w : World) (G : List Nat) : Prop where
  os : w.os = w0.os
  tape : w.tape = w0.tape
  output : w.output = w0.output
  size : w0.heap.size ≤ w.heap.size
  block : ∀ k, k < w0.heap.size → k ∉ G → w.heap[k]? = w0.heap[k]?

theorem Ext.refl (w : World) (G : List Nat) : Ext w w G := ⟨rfl, rfl, rfl, Nat.le_refl _, fun _ _ _ => rfl⟩

theorem Ext.below {w0 w : World} (h : Ext w0 w []) : Below w0.heap.size w0 w := ⟨h.os, h.tape, h.output, h.size, fun k hk => h.block k hk (by simp)⟩

theorem Ext.of_below {w0 w : World} {G : List Nat} (h : Below w0.heap.size w0 w) : Ext w0 w G := ⟨h.os, h.tape, h.output, h.size, fun k hk _ => h.block k hk⟩

theorem Ext.trans {w0 w w' : World} {G : List Nat} (h : Ext w0 w G) (k : Ext w w' G) : Ext w0 w' G :=
  ⟨k.os.trans h.os, k.tape.trans h.tape, k.output.trans h.output, Nat.le_trans h.size k.size,
   fun i hi hG => (k.block i (Nat.lt_of_lt_of_le hi h.size) hG).trans (h.block i hi hG)⟩

/-- Blocks of the call's own, and those of G, may turn. -/
theorem Ext.trans' {w0 w w' : World} {G L : List Nat} (h : Ext w0 w G) (k : Ext w w' L) (hL : ∀ b ∈ L, b ∈ G ∨ w0.heap.size ≤ b) : Ext w0 w' G :=
  ⟨k.os.trans h.os, k.tape.trans h.tape, k.output.trans h.output, Nat.le_trans h.size k.size,
   fun i hi hG => (k.block i (Nat.lt_of_lt_of_le hi h.size) (fun hm => by rcases hL i hm with h1 | h1; exact hG h1; omega)).trans (h.block i hi hG)⟩

/-- What a call was lent: the blocks, and the values (by slot). -/
structure Frm where
  G : List Nat
  kv : Nat → Value

instance : Membership Nat Frm := ⟨fun f b => b ∈ f.G⟩
instance : Coe Frm (List Nat) := ⟨Frm.G⟩

section
variable (sh : Nat → Prop) (w : World) (ρ : List Dy) (β : Nat → Nat) (tm : Array Value) (Fr : Bool → Nat → List Nat)

def ValRep (d : Dy) (m : Md) (v : Value) (F : List Nat) : Prop := ∃ vs, v = valOf d.1.isAgg vs ∧ Rep sh w d.1 m d.2 vs F

def CellRep (c : Cell) (v : Value) (F : List Nat) : Prop :=
  match c with
  | none => F = []
  | some (x, m) => ∃ d, evA ρ x = some d ∧ d.1.isAgg = false ∧ Rep sh w d.1 m d.2 [v] F

def AtRep (xm : A × Md) (v : Value) (F : List Nat) : Prop := ∃ d, evA ρ xm.1 = some d ∧ ValRep sh w d xm.2 v F

/-- One value each. -/
def one {α : Type} (R : α → Value → List Nat → Prop) (x : α) (vs : List Value) (F : List Nat) : Prop := ∃ v, vs = [v] ∧ R x v F

/-- The header of the row that lies in slot r, or in box r's cell c. -/
def HdrIs (b : Bool) (r c : Nat) (u : Value) : Prop :=
  match b with
  | false => tm[r]? = some u
  | true => β r ∈ Fr true r ∧ w.cell? ⟨β r, c, none⟩ = some u

/-- A component of a tuple. -/
def TupRep (x : Option (A × Md)) (v : Value) (F : List Nat) : Prop :=
  match x with
  | some y => AtRep sh w ρ y v F
  | none => F = []

/-- A pointer to what nobody writes. -/
def PtrRep (d : Dy) (v : Value) : Prop := ∃ b o c ty fz, v = .pointer (some ⟨b, o, none⟩) ∧ sh b ∧ w.heap[b]? = some (.cells c ty fz) ∧
  Rep sh w d.1 .sh d.2 ((c.toList.drop o).take d.1.n) [] ∧ o + d.1.n ≤ c.size

/-- A captured address. -/
def CapRep (c : Cp) (u : Value) : Prop :=
  match c with
  | .ptr r => u = .pointer (some ⟨β r, 0, none⟩)
  | .psh x => ∃ d, evA ρ x = some d ∧ PtrRep sh w d u

def CapsRep : List Cp → List Value → Prop
  | [], us => us = []
  | c :: cs, us => ∃ u us', us = u :: us' ∧ CapRep sh w ρ β c u ∧ CapsRep cs us'

/-- The length of a row, where it has a name. -/
def LenIs (n : Option A) (v : Value) : Prop := ∀ x, n = some x → ∃ a len cap, v = .slice a len cap ∧ evA ρ x = some ⟨.int .i64, (len : Nat)⟩

/-- A pointer into an element; what lies from an element on. -/
def pelV (g m n off len cap : Nat) : Value := if off = winK then .slice (some ⟨g, m * n, none⟩) (len - n) (cap - n) else .pointer (some ⟨g, m * n + off, none⟩)

/-- What lies there: one cell (nn = 0), a struct of nn cells. -/
def LocIs (cc : Array Value) (k nn : Nat) (v : Value) : Prop := (nn = 0 → cc[k]? = some v) ∧ (nn ≠ 0 → k + nn ≤ cc.size ∧ v = .agg ((cc.toList.drop k).take nn).toArray)

def SVRep (s : SV) (v : Value) (F : List Nat) : Prop :=
  match s with
  | .undef => F = []
  | .void => F = [] ∧ v = undef
  | .at x m => AtRep sh w ρ (x, m) v F
  | .ptr r off => F = [] ∧ v = .pointer (some ⟨β r, off, none⟩)
  | .psh x off => F = [] ∧ ∃ d b o c ty fz, evA ρ x = some d ∧ v = .pointer (some ⟨b, o + off, none⟩) ∧ sh b ∧ w.heap[b]? = some (.cells c ty fz) ∧
      Rep sh w d.1 .sh d.2 ((c.toList.drop o).take d.1.n) [] ∧ o + d.1.n ≤ c.size
  | .rf b r c ln => F = [] ∧ HdrIs w β tm Fr b r c v ∧ LenIs ρ ln v
  | .pel b r c m i off => F = [] ∧ ∃ g len cap k n, HdrIs w β tm Fr b r c (.slice (some ⟨g, 0, none⟩) len cap) ∧ evA ρ i = some ⟨.int k, n⟩ ∧ 0 ≤ n ∧ n.toNat < len ∧
      v = pelV g m n.toNat off len cap
  | .ea x b r c m i off nn => F = [] ∧ (∃ d sh2, evA ρ x = some d ∧ ValRep sh2 w d .sh v [] ∧ ∀ k, sh2 k → sh k ∨ k ∈ Fr b r) ∧ ∃ g len cap k n cc ty fz, HdrIs w β tm Fr b r c (.slice (some ⟨g, 0, none⟩) len cap) ∧ evA ρ i = some ⟨.int k, n⟩ ∧ 0 ≤ n ∧ n.toNat < len ∧
      g ∈ Fr b r ∧ w.heap[g]? = some (.cells cc ty fz) ∧ LocIs cc (m * n.toNat + off) nn v
  | .tup xs => ∃ vs, v = .tuple vs ∧ RepL (one (TupRep sh w ρ)) xs vs.toList F
  | .fn g caps => F = [] ∧ ∃ us, v = .func (.func g) #[] us.toArray ∧ CapsRep sh w ρ β caps us
  | .tp r c => F = [] ∧ ∃ vs, tm[r]? = some (.tuple vs) ∧ vs[c]? = some v
  | .anyb ne x => F = [] ∧ ∃ b e l, v = .bool b ∧ evA ρ x = some ⟨.sl e, l⟩ ∧ (List.length l ≠ 0 → b = ne)
  | .ag r off n => F = [] ∧ β r ∈ Fr true r ∧ ∃ c ty fz, w.heap[β r]? = some (.cells c ty fz) ∧ off + n ≤ c.size ∧ v = .agg ((c.toList.drop off).take n).toArray
end

def ownSlice : Option SV → Prop
  | some (.at _ (.own _)) => True
  | _ => False

def ownCell : Option Cell → Prop
  | some (some (_, .own _)) => True
  | _ => False

/-- An alias is one of a row that is owned. -/
def rootOk (σ : Sg) : SV → Prop
  | .rf false r _ _ => ownSlice σ.slots[r]?
  | .rf true r c ln => ∃ cs, σ.boxes[r]? = some (some cs) ∧ ownCell cs[c]?
  | .pel false r _ _ _ _ => ownSlice σ.slots[r]?
  | .pel true r c _ _ _ => ∃ cs, σ.boxes[r]? = some (some cs) ∧ ownCell cs[c]?
  | .ea _ false r _ _ _ _ _ => ownSlice σ.slots[r]?
  | .ea _ true r c _ _ _ _ => ∃ cs, σ.boxes[r]? = some (some cs) ∧ ownCell cs[c]?
  | .ag r _ _ => ∃ cs, σ.boxes[r]? = some (some cs) ∧ cs.any Cell.isOwn = true
  | .tp r c => ∃ xs y m, σ.slots[r]? = some (.tup xs) ∧ xs[c]? = some (some (y, m)) ∧ m ≠ .sh
  | _ => True

/-- The names say what is so. F: what each slot (false) and each box (true) owns; β: the boxes' blocks; sh: blocks that nobody writes. -/
structure InvG (sh0 : Nat → Prop) (w0 : World) (G0 : Frm) (ρ : List Dy) (σ : Sg) (a : Act) (w : World)
    (sh : Nat → Prop) (F : Bool → Nat → List Nat) (β : Nat → Nat) : Prop where
  defers : a.defers = []
  size : a.tmps.size = σ.slots.length
  ext : Ext w0 w G0
  sh_old : ∀ b, sh0 b → sh b
  sh_lt : ∀ b, sh b → b < w.heap.size
  sh_new : ∀ b, sh b → sh0 b ∨ (b ∈ G0 ∨ w0.heap.size ≤ b)
  slot : ∀ i s, σ.slots[i]? = some s → ∃ v, a.tmps[i]? = some v ∧ SVRep sh w ρ β a.tmps F s v (F false i)
  noslot : ∀ i, σ.slots[i]? = none → F false i = []
  box : ∀ r cs, σ.boxes[r]? = some (some cs) → ∃ c ty F', w.heap[β r]? = some (.cells c ty (0, 0)) ∧ F true r = β r :: F' ∧ RepL (one (CellRep sh w ρ)) cs c.toList F'
  nobox : ∀ r, (∀ cs, σ.boxes[r]? ≠ some (some cs)) → F true r = []
  nodup : ∀ k i, (F k i).Nodup
  own : ∀ k i, ∀ b ∈ F k i, (b ∈ G0 ∨ w0.heap.size ≤ b) ∧ b < w.heap.size ∧ ¬ sh b
  disj : ∀ k i l j, (k, i) ≠ (l, j) → ∀ b ∈ F k i, b ∉ F l j
  dec : ∀ x b, (x, b) ∈ σ.dec → evA ρ x = some ⟨.bool, b⟩
  refs : ∀ (i : Nat) (s : SV), σ.slots[i]? = some s → rootOk σ s
  keep : ∀ i, i ∈ σ.kp → a.tmps[i]? = some (G0.kv i)
  keepB : ∀ r p, (r, p) ∈ σ.kb → ∀ cs, σ.boxes[r]? = some (some cs) → ∃ ty, w.heap[β r]? = some (.cells (G0.kv p).cells ty (0, 0))

def Inv (sh0 : Nat → Prop) (w0 : World) (G0 : Frm) (ρ : List Dy) (σ : Sg) (a : Act) (w : World) : Prop :=
  ∃ sh F β, InvG sh0 w0 G0 ρ σ a w sh F β

/-- A slot that may be written: no owner lies in it. -/
structure DstOk0 (σ : Sg) (d : Nat) : Prop where
  lt : d < σ.slots.length
  free : ∀ s : SV, σ.slots[d]? = some s → s.free = true

theorem DstOk0.at {σ : Sg} {d : Nat} (h : DstOk0 σ d) {x : A} {m : Md} (hs : σ.slots[d]? = some (.at x m)) : m = .sh := by
  have := h.free _ hs
  cases m <;> simp [SV.free] at this
  rfl

structure DstOk (σ : Sg) (d : Nat) : Prop extends DstOk0 σ d where
  kept : d ∉ σ.kp

section
variable {sh sh' sh0 : Nat → Prop} {w w' w0 : World} {G0 : Frm} {L : List Nat} {ρ : List Dy} {σ : Sg} {a : Act} {F : Bool → Nat → List Nat} {β : Nat → Nat} {tm : Array Value}

theorem ValRep.frame {d : Dy} {m : Md} {v : Value} {F : List Nat} (hs : ∀ b, sh b → sh' b ∧ w'.heap[b]? = w.heap[b]?) (h : ValRep sh w d m v F) (hF : ∀ b ∈ F, w'.heap[b]? = w.heap[b]?) : ValRep sh' w' d m v F := by
  obtain ⟨vs, hv, hr⟩ := h
  exact ⟨vs, hv, Rep.frame hs hr hF⟩

theorem AtRep.frame {x : A × Md} {v : Value} {F : List Nat} (hs : ∀ b, sh b → sh' b ∧ w'.heap[b]? = w.heap[b]?) (h : AtRep sh w ρ x v F) (hF : ∀ b ∈ F, w'.heap[b]? = w.heap[b]?) : AtRep sh' w' ρ x v F := by
  obtain ⟨d, hv, hr⟩ := h
  exact ⟨d, hv, hr.frame hs hF⟩

theorem CellRep.frame {x : Cell} {v : Value} {F : List Nat} (hs : ∀ b, sh b → sh' b ∧ w'.heap[b]? = w.heap[b]?) (h : CellRep sh w ρ x v F) (hF : ∀ b ∈ F, w'.heap[b]? = w.heap[b]?) : CellRep sh' w' ρ x v F := by
  cases x with
  | none => exact h
  | some x => obtain ⟨d, hv, ha, hr⟩ := h; exact ⟨d, hv, ha, Rep.frame hs hr hF⟩

theorem HdrIs.frame {b : Bool} {r c : Nat} {u : Value} (h : HdrIs w β tm F b r c u) (hR : b = true → ∀ k ∈ F true r, w'.heap[k]? = w.heap[k]?) : HdrIs w' β tm F b r c u := by
  cases b with
  | false => exact h
  | true =>
    obtain ⟨h1, h2⟩ := h
    refine ⟨h1, ?_⟩
    have := hR rfl _ h1
    simp only [World.cell?] at h2 ⊢
    rw [this]; exact h2

theorem TupRep.frame {x : Option (A × Md)} {v : Value} {F : List Nat} (hs : ∀ b, sh b → sh' b ∧ w'.heap[b]? = w.heap[b]?) (h : TupRep sh w ρ x v F) (hF : ∀ b ∈ F, w'.heap[b]? = w.heap[b]?) : TupRep sh' w' ρ x v F := by
  cases x with
  | none => exact h
  | some y => exact AtRep.frame hs h hF

theorem PtrRep.frame {d : Dy} {v : Value} (hs : ∀ b, sh b → sh' b ∧ w'.heap[b]? = w.heap[b]?) (h : PtrRep sh w d v) : PtrRep sh' w' d v := by
  obtain ⟨b, o, c, ty, fz, h2, h3, h4, h5, h6⟩ := h
  exact ⟨b, o, c, ty, fz, h2, (hs b h3).1, (hs b h3).2.trans h4, Rep.frame hs h5 (by simp), h6⟩

theorem CapsRep.frame (hs : ∀ b, sh b → sh' b ∧ w'.heap[b]? = w.heap[b]?) : ∀ {cs : List Cp} {us : List Value}, CapsRep sh w ρ β cs us → CapsRep sh' w' ρ β cs us
  | [], _, h => h
  | c :: cs, us, h => by
    obtain ⟨u, us', rfl, h1, h2⟩ := h
    refine ⟨u, us', rfl, ?_, CapsRep.frame hs h2⟩
    cases c with
    | ptr r => exact h1
    | psh x => obtain ⟨d, e1, e2⟩ := h1; exact ⟨d, e1, e2.frame hs⟩

theorem SVRep.frame {s : SV} {v : Value} {X : List Nat} (hs : ∀ b, sh b → sh' b ∧ w'.heap[b]? = w.heap[b]?) (h : SVRep sh w ρ β tm F s v X) (hX : ∀ b ∈ X, w'.heap[b]? = w.heap[b]?)
    (hR : ∀ k i, roots s = some (k, i) → ∀ b ∈ F k i, w'.heap[b]? = w.heap[b]?) : SVRep sh' w' ρ β tm F s v X := by
  cases s with
  | undef => exact h
  | void => exact h
  | «at» x m => exact AtRep.frame hs h hX
  | ptr r off => exact h
  | psh x off =>
    obtain ⟨h0, d, b, o, c, ty, fz, h1, h2, h3, h4, h5, h6⟩ := h
    exact ⟨h0, d, b, o, c, ty, fz, h1, h2, (hs b h3).1, (hs b h3).2.trans h4, Rep.frame hs h5 (by simp), h6⟩
  | rf b r c ln => exact ⟨h.1, h.2.1.frame (fun hb => hR true r (by rw [hb]; rfl)), h.2.2⟩
  | pel b r c m i off =>
    obtain ⟨h0, g, len, cap, k, n, h1, h2⟩ := h
    exact ⟨h0, g, len, cap, k, n, h1.frame (fun hb => hR true r (by rw [hb]; rfl)), h2⟩
  | ea x b r c m i off nn =>
    obtain ⟨h0, ⟨d, sh2, h1, h2, h3⟩, g, len, cap, k, n, cc, ty, fz, e1, e2, e3, e4, e5, e6, e7⟩ := h
    refine ⟨h0, ⟨d, sh2, h1, h2.frame (fun k hk => ⟨hk, ?_⟩) (by simp), fun k hk => ?_⟩, g, len, cap, k, n, cc, ty, fz, e1.frame (fun hb => hR true r (by rw [hb]; rfl)), e2, e3, e4, e5, (hR b r rfl g e5).trans e6, e7⟩
    · rcases h3 k hk with h4 | h4
      · exact (hs k h4).2
      · exact hR b r rfl k h4
    · rcases h3 k hk with h4 | h4
      · exact .inl (hs k h4).1
      · exact .inr h4
  | tup xs =>
    obtain ⟨vs, hv, hr⟩ := h
    exact ⟨vs, hv, RepL.imp hr (fun x vs G hG hh => by
      obtain ⟨u, hu, hR⟩ := hh
      exact ⟨u, hu, TupRep.frame hs hR (fun b hb => hX b (hG b hb))⟩)⟩
  | fn g caps =>
    obtain ⟨h0, us, h1, h2⟩ := h
    exact ⟨h0, us, h1, CapsRep.frame hs h2⟩
  | anyb _ _ => exact h
  | tp _ _ => exact h
  | ag r off n =>
    obtain ⟨h0, h1, c, ty, fz, h2, h3⟩ := h
    exact ⟨h0, h1, c, ty, fz, (hR true r rfl _ h1).trans h2, h3⟩

/-- The world has turned at blocks that no name speaks of; more blocks may be such that nobody writes. -/
theorem InvG.turn (h : InvG sh0 w0 G0 ρ σ a w sh F β) (hE : Ext w w' L) (hL : ∀ b ∈ L, (∀ k i, b ∉ F k i) ∧ ¬ sh b ∧ (b ∈ G0 ∨ w0.heap.size ≤ b))
    (hs : ∀ b, sh b → sh' b) (hs' : ∀ b, sh' b → b < w'.heap.size ∧ (sh b ∨ w.heap.size ≤ b ∨ ((b ∈ G0 ∨ w0.heap.size ≤ b) ∧ ∀ k i, b ∉ F k i))) : InvG sh0 w0 G0 ρ σ a w' sh' F β :=
  have hsh : ∀ b, sh b → w'.heap[b]? = w.heap[b]? := fun b hb => hE.block b (h.sh_lt b hb) (fun hm => (hL b hm).2.1 hb)
  have hF : ∀ k i, ∀ b ∈ F k i, w'.heap[b]? = w.heap[b]? := fun k i b hb => hE.block b (h.own k i b hb).2.1 (fun hm => (hL b hm).1 k i hb)
  { defers := h.defers
    size := h.size
    ext := h.ext.trans' hE (fun b hb => (hL b hb).2.2)
    sh_old := fun b hh => hs b (h.sh_old b hh)
    sh_lt := fun b hh => (hs' b hh).1
    sh_new := fun b hh => by
      rcases (hs' b hh).2 with h1 | h1 | h1
      · exact h.sh_new b h1
      · exact .inr (.inr (Nat.le_trans h.ext.size h1))
      · exact .inr h1.1
    slot := fun i s hi => by
      obtain ⟨v, hv, hr⟩ := h.slot i s hi
      exact ⟨v, hv, hr.frame (fun b hb' => ⟨hs b hb', hsh b hb'⟩) (fun b hb' => hF _ _ b hb') (fun k i _ b hb => hF k i b hb)⟩
    noslot := h.noslot
    box := fun r cs hr => by
      obtain ⟨c, ty, F', h1, h2, h3⟩ := h.box r cs hr
      refine ⟨c, ty, F', (hF true r _ (by rw [h2]; simp)).trans h1, h2, RepL.imp h3 (fun x vs G hG hh => ?_)⟩
      obtain ⟨u, hu, hR⟩ := hh
      exact ⟨u, hu, hR.frame (fun b hb' => ⟨hs b hb', hsh b hb'⟩) (fun b hb' => hF true r b (by rw [h2]; exact List.mem_cons_of_mem _ (hG b hb')))⟩
    nobox := h.nobox
    nodup := h.nodup
    own := fun k i b hb' => ⟨(h.own k i b hb').1, Nat.lt_of_lt_of_le (h.own k i b hb').2.1 hE.size, fun hh => by
      rcases (hs' b hh).2 with h1 | h1 | h1
      · exact (h.own k i b hb').2.2 h1
      · exact Nat.lt_irrefl _ (Nat.lt_of_lt_of_le (h.own k i b hb').2.1 h1)
      · exact h1.2 k i hb'⟩
    disj := h.disj
    dec := h.dec
    refs := h.refs
    keep := h.keep
    keepB := fun r p hp cs hr => by
      obtain ⟨ty, h1⟩ := h.keepB r p hp cs hr
      obtain ⟨c, ty', F', h2, h3, _⟩ := h.box r cs hr
      exact ⟨ty, (hF true r _ (by rw [h3]; simp)).trans h1⟩ }

/-- The world has grown; nothing old has turned. -/
theorem InvG.grow (h : InvG sh0 w0 G0 ρ σ a w sh F β) (hb : Below w.heap.size w w') : InvG sh0 w0 G0 ρ σ a w' sh F β :=
  h.turn (L := []) (Ext.of_below hb) (by simp) (fun _ h => h) (fun b hh => ⟨Nat.lt_of_lt_of_le (h.sh_lt b hh) hb.size, .inl hh⟩)

def setF (F : Bool → Nat → List Nat) (k : Bool) (i : Nat) (X : List Nat) : Bool → Nat → List Nat := fun l j => if l = k ∧ j = i then X else F l j

theorem setF_same (F : Bool → Nat → List Nat) (k : Bool) (i : Nat) (X : List Nat) : setF F k i X k i = X := by simp [setF]
theorem setF_ne (F : Bool → Nat → List Nat) (k : Bool) (i : Nat) (X : List Nat) {l : Bool} {j : Nat} (h : ¬(l = k ∧ j = i)) : setF F k i X l j = F l j := by simp [setF, h]

/-- Another slot, or box, is written: an alias of a third stays. -/
theorem SVRep.other {s : SV} {v : Value} {X Y : List Nat} {d : Nat} {u : Value} (h : SVRep sh w ρ β tm F s v X) (hs : roots s ≠ some (false, d)) :
    SVRep sh w ρ β (tm.setIfInBounds d u) (setF F false d Y) s v X := by
  have hh : ∀ {b : Bool} {r c : Nat} {x : Value}, (b, r) ≠ (false, d) → HdrIs w β tm F b r c x → HdrIs w β (tm.setIfInBounds d u) (setF F false d Y) b r c x := by
    intro b r c x hne hx
    cases b with
    | false =>
      have hrd : r ≠ d := fun e => hne (by rw [e])
      show (tm.setIfInBounds d u)[r]? = some x
      rw [Array.getElem?_setIfInBounds_ne (Ne.symm hrd)]
      exact hx
    | true => exact ⟨by rw [setF_ne _ _ _ _ (by simp)]; exact hx.1, hx.2⟩
  cases s with
  | rf b r c ln => exact ⟨h.1, hh (fun e => hs (by rw [show roots (.rf b r c ln) = some (b, r) from rfl, e])) h.2.1, h.2.2⟩
  | pel b r c m i off =>
    obtain ⟨h0, g, len, cap, k, n, h1, h2⟩ := h
    exact ⟨h0, g, len, cap, k, n, hh (fun e => hs (by rw [show roots (.pel b r c m i off) = some (b, r) from rfl, e])) h1, h2⟩
  | ea x b r c m i off nn =>
    obtain ⟨h0, ⟨d', sh2, h1, h2, h3⟩, g, len, cap, k, n, cc, ty, fz, e1, e2, e3, e4, e5, e6⟩ := h
    have hne : ¬(b = false ∧ r = d) := fun e => hs (by rw [show roots (.ea x b r c m i off nn) = some (b, r) from rfl, e.1, e.2])
    refine ⟨h0, ⟨d', sh2, h1, h2, fun k hk => ?_⟩, g, len, cap, k, n, cc, ty, fz, hh (fun e => hs (by rw [show roots (.ea x b r c m i off nn) = some (b, r) from rfl, e])) e1, e2, e3, e4, ?_, e6⟩
    · rw [setF_ne _ _ _ _ hne]; exact h3 k hk
    · rw [setF_ne _ _ _ _ hne]; exact e5
  | undef => exact h
  | void => exact h
  | «at» _ _ => exact h
  | ptr _ _ => exact h
  | psh _ _ => exact h
  | tup _ => exact h
  | fn _ _ => exact h
  | anyb _ _ => exact h
  | tp r c =>
    obtain ⟨h0, vs, h1, h2⟩ := h
    have hrd : r ≠ d := fun e => hs (by rw [e]; rfl)
    exact ⟨h0, vs, by rw [Array.getElem?_setIfInBounds_ne (Ne.symm hrd)]; exact h1, h2⟩
  | ag r off n =>
    obtain ⟨h0, h1, h2⟩ := h
    exact ⟨h0, by rw [setF_ne _ _ _ _ (by simp)]; exact h1, h2⟩

theorem InvG.free (h : InvG sh0 w0 G0 ρ σ a w sh F β) {d : Nat} (hd : DstOk0 σ d) : ∀ (i : Nat) (s : SV), σ.slots[i]? = some s → roots s ≠ some (false, d) := by
  intro i s hi hr
  have hok := h.refs i s hi
  cases s with
  | rf b r c ln =>
    simp only [roots, Option.some.injEq, Prod.mk.injEq] at hr
    obtain ⟨rfl, rfl⟩ := hr
    simp only [rootOk] at hok
    cases hs : σ.slots[r]? with
    | none => rw [hs] at hok; exact hok
    | some t =>
      rw [hs] at hok
      cases t with
      | «at» x m => have := hd.at hs; subst this; exact hok
      | _ => exact hok
  | pel b r c m i off =>
    simp only [roots, Option.some.injEq, Prod.mk.injEq] at hr
    obtain ⟨rfl, rfl⟩ := hr
    simp only [rootOk] at hok
    cases hs : σ.slots[r]? with
    | none => rw [hs] at hok; exact hok
    | some t =>
      rw [hs] at hok
      cases t with
      | «at» x m => have := hd.at hs; subst this; exact hok
      | _ => exact hok
  | ea x b r c m i off nn =>
    simp only [roots, Option.some.injEq, Prod.mk.injEq] at hr
    obtain ⟨rfl, rfl⟩ := hr
    simp only [rootOk] at hok
    cases hs : σ.slots[r]? with
    | none => rw [hs] at hok; exact hok
    | some t =>
      rw [hs] at hok
      cases t with
      | «at» x m => have := hd.at hs; subst this; exact hok
      | _ => exact hok
  | tp r c =>
    simp only [roots, Option.some.injEq, Prod.mk.injEq, true_and] at hr
    subst hr
    obtain ⟨xs, y, m, h1, h2, h3⟩ := hok
    have h4 := hd.free _ h1
    have h4 : xs.all (fun x => match x with | some (_, .sh) => true | some _ => false | none => true) = true := h4
    have := List.all_eq_true.1 h4 _ (List.mem_of_getElem? h2)
    cases m <;> simp at this
    exact h3 rfl
  | _ => simp [roots] at hr

/-- What an alias leans on is another slot, or box. -/
theorem rootOk.set {s t : SV} {d : Nat} (h : rootOk σ s) (hs : roots s ≠ some (false, d)) : rootOk { σ with slots := setR σ.slots d t } s := by
  cases s with
  | rf b r c ln =>
    cases b with
    | false =>
      have hrd : d ≠ r := fun e => hs (by rw [e]; rfl)
      simp only [rootOk] at h ⊢
      rw [setR_eq, List.getElem?_set_ne hrd]; exact h
    | true => exact h
  | pel b r c m i off =>
    cases b with
    | false =>
      have hrd : d ≠ r := fun e => hs (by rw [e]; rfl)
      simp only [rootOk] at h ⊢
      rw [setR_eq, List.getElem?_set_ne hrd]; exact h
    | true => exact h
  | tp r c =>
    have hrd : d ≠ r := fun e => hs (by rw [e]; rfl)
    simp only [rootOk] at h ⊢
    rw [setR_eq, List.getElem?_set_ne hrd]; exact h
  | ea x b r c m i off nn =>
    cases b with
    | false =>
      have hrd : d ≠ r := fun e => hs (by rw [e]; rfl)
      simp only [rootOk] at h ⊢
      rw [setR_eq, List.getElem?_set_ne hrd]; exact h
    | true => exact h
  | _ => trivial

/-- A slot is written: what it owns is new, or was its own. -/
theorem InvG.put (h : InvG sh0 w0 G0 ρ σ a w sh F β) {d : Nat} {s : SV} {v : Value} {X : List Nat} (hd : DstOk0 σ d)
    (hv : SVRep sh w ρ β a.tmps F s v X) (hkv : d ∈ σ.kp → v = G0.kv d) (hsr : roots s ≠ some (false, d)) (hro : rootOk σ s) (hn : X.Nodup) (ho : ∀ b ∈ X, (b ∈ G0 ∨ w0.heap.size ≤ b) ∧ b < w.heap.size ∧ ¬ sh b)
    (hx : ∀ b ∈ X, ∀ l j, ¬(l = false ∧ j = d) → b ∉ F l j) :
    InvG sh0 w0 G0 ρ { σ with slots := setR σ.slots d s } (a.put (some d) v) w sh (setF F false d X) β where
  defers := h.defers
  size := by simp [Act.put, h.size, setR_eq]
  ext := h.ext
  sh_old := h.sh_old
  sh_lt := h.sh_lt
  sh_new := h.sh_new
  slot := fun i t hi => by
    by_cases hid : i = d
    · subst hid
      rw [setR_eq, List.getElem?_set_self hd.lt] at hi
      injection hi with hi
      subst hi
      have hlt := hd.lt
      refine ⟨v, ?_, by rw [setF_same]; exact hv.other hsr⟩
      simp [Act.put, h.size, hlt]
    · rw [setR_eq, List.getElem?_set_ne (fun e => hid e.symm)] at hi
      obtain ⟨u, hu, hr⟩ := h.slot i t hi
      refine ⟨u, ?_, by rw [setF_ne _ _ _ _ (by simp [hid])]; exact hr.other (h.free hd i t hi)⟩
      simp [Act.put, hu, Ne.symm hid]
  noslot := fun i hi => by
    have hi' : σ.slots.length ≤ i := by simpa [setR_eq] using hi
    have hlt := hd.lt
    rw [setF_ne _ _ _ _ (by simp; omega)]
    exact h.noslot i (by simpa using hi')
  box := fun r cs hr => by
    obtain ⟨c, ty, F', h1, h2, h3⟩ := h.box r cs hr
    exact ⟨c, ty, F', h1, by rw [setF_ne _ _ _ _ (by simp)]; exact h2, h3⟩
  nobox := fun r hr => by rw [setF_ne _ _ _ _ (by simp)]; exact h.nobox r hr
  nodup := fun k i => by
    unfold setF; split
    · exact hn
    · exact h.nodup k i
  own := fun k i b hb => by
    unfold setF at hb; split at hb
    · exact ho b hb
    · exact h.own k i b hb
  disj := fun k i l j hne b hb => by
    unfold setF at hb ⊢
    by_cases h1 : k = false ∧ i = d
    · rw [if_pos h1] at hb
      have h2 : ¬(l = false ∧ j = d) := fun h2 => hne (by rw [h1.1, h1.2, h2.1, h2.2])
      rw [if_neg h2]
      exact hx b hb l j h2
    · rw [if_neg h1] at hb
      by_cases h2 : l = false ∧ j = d
      · rw [if_pos h2]
        exact fun hb' => hx b hb' k i h1 hb
      · rw [if_neg h2]; exact h.disj k i l j hne b hb
  dec := h.dec
  keep := fun i hi => by
    by_cases hid : d = i
    · subst hid
      have hlt := hd.lt
      rw [← hkv hi]
      simp [Act.put, h.size, hlt]
    · simp only [Act.put]
      rw [Array.getElem?_setIfInBounds_ne hid]
      exact h.keep i hi
  keepB := h.keepB
  refs := fun i t hi => by
    by_cases hid : i = d
    · subst hid
      rw [setR_eq, List.getElem?_set_self hd.lt] at hi
      injection hi with hi
      subst hi
      exact hro.set hsr
    · rw [setR_eq, List.getElem?_set_ne (fun e => hid e.symm)] at hi
      exact (h.refs i t hi).set (h.free hd i t hi)

theorem InvG.put_none (h : InvG sh0 w0 G0 ρ σ a w sh F β) {d : Nat} {s : SV} {v : Value} (hd : DstOk σ d)
    (hv : SVRep sh w ρ β a.tmps F s v []) (hsr : roots s ≠ some (false, d) := by simp [roots]) (hro : rootOk σ s := by trivial) :
    InvG sh0 w0 G0 ρ { σ with slots := setR σ.slots d s } (a.put (some d) v) w sh (setF F false d []) β :=
  h.put hd.toDstOk0 hv (fun hm => absurd hm hd.kept) hsr hro (by simp) (by simp) (by simp)

theorem InvG.putD (h : InvG sh0 w0 G0 ρ σ a w sh F β) {d : Nat} {s : SV} {v : Value} {X : List Nat} (hd : DstOk σ d)
    (hv : SVRep sh w ρ β a.tmps F s v X) (hsr : roots s ≠ some (false, d)) (hro : rootOk σ s) (hn : X.Nodup) (ho : ∀ b ∈ X, (b ∈ G0 ∨ w0.heap.size ≤ b) ∧ b < w.heap.size ∧ ¬ sh b)
    (hx : ∀ b ∈ X, ∀ l j, ¬(l = false ∧ j = d) → b ∉ F l j) :
    InvG sh0 w0 G0 ρ { σ with slots := setR σ.slots d s } (a.put (some d) v) w sh (setF F false d X) β :=
  h.put hd.toDstOk0 hv (fun hm => absurd hm hd.kept) hsr hro hn ho hx

/-- The same value, by another name. -/
theorem InvG.put_same (h : InvG sh0 w0 G0 ρ σ a w sh F β) {d : Nat} {s : SV} {v : Value} {X : List Nat} (hd : DstOk0 σ d) (ha : a.tmps[d]? = some v)
    (hv : SVRep sh w ρ β a.tmps F s v X) (hsr : roots s ≠ some (false, d)) (hro : rootOk σ s) (hn : X.Nodup) (ho : ∀ b ∈ X, (b ∈ G0 ∨ w0.heap.size ≤ b) ∧ b < w.heap.size ∧ ¬ sh b)
    (hx : ∀ b ∈ X, ∀ l j, ¬(l = false ∧ j = d) → b ∉ F l j) :
    InvG sh0 w0 G0 ρ { σ with slots := setR σ.slots d s } (a.put (some d) v) w sh (setF F false d X) β :=
  h.put hd hv (fun hm => by have := h.keep d hm; rw [ha] at this; exact Option.some.inj this) hsr hro hn ho hx

end
end Go.Vm
