/- What reads as data of a type has cells of that type's kind: whole numbers, bools, slices, structs. Lemmas alone, no statement. -/
import Derived.Test.YtkeplodbjldaiaaWWords
import Derived.ChangeArms
import Derived.WideShapes
import Derived.Carry
namespace Go.Proofs.Ytkeplodbjldaiaa.Open
open Go.RowKit Go.WideShapes Go.ChangeShapes Go.Proofs.YtkeplodbjldaiaaW.PrintWords

section
variable {H : Type} {enc : TypeId × Value → H} {P : Program} {W : World} {t e : TypeId}

/-- Whatever cells read as data of type t, Q holds of them. -/
def Opens {H : Type} (enc : TypeId × Value → H) (P : Program) (W : World) (t : TypeId) (Q : List Value → Prop) : Prop :=
  ∀ fuel cs x, DataW.trod enc P W 0 (fun _ => true) true fuel t cs = some x → Q cs

theorem Opens.imp {Q R : List Value → Prop} (h : Opens enc P W t Q) (hi : ∀ cs, Q cs → R cs) : Opens enc P W t R := fun f cs x hx => hi cs (h f cs x hx)

theorem Opens.int {k : IntKind} (hu : P.underlying t = some (.int k)) : Opens enc P W t (fun cs => ∃ n : Int, cs = [.int k n] ∧ (Lit.int k n).wf = true) := by
  intro fuel cs x h
  obtain ⟨n, h1, _, h2⟩ := DataW.trod_int hu h
  exact ⟨n, h1, h2⟩

theorem Opens.bool (hu : P.underlying t = some .bool) : Opens enc P W t (fun cs => ∃ b : Bool, cs = [.bool b]) := by
  intro fuel cs x h
  obtain ⟨b, h1, _⟩ := DataW.trod_bool hu h
  exact ⟨b, h1⟩

theorem cells_get {a : Addr} : ∀ {n : Nat} {c : List Value}, W.cells? 0 a n = some c → c.length = n ∧ ∀ (i : Nat) (u : Value), c[i]? = some u → W.cell? (a.add i) = some u := by
  intro n c h
  unfold World.cells? at h
  rw [if_pos (Nat.zero_le _)] at h
  have key : ∀ (l : List Nat) (c : List Value), l.mapM (fun i => W.cell? (a.add i)) = some c → c.length = l.length ∧ ∀ (i : Nat) (u : Value), c[i]? = some u → ∃ j, l[i]? = some j ∧ W.cell? (a.add j) = some u := by
    intro l
    induction l with
    | nil => intro c h; simp at h; subst h; simp
    | cons m l ih =>
      intro c h
      rw [List.mapM_cons] at h
      simp only [Option.bind_eq_bind, Option.bind_eq_some_iff, Option.pure_def, Option.some.injEq] at h
      obtain ⟨v, hv, vs, hvs, rfl⟩ := h
      obtain ⟨hl, hg⟩ := ih vs hvs
      refine ⟨by simp [hl], fun i u hu => ?_⟩
      cases i with
      | zero => simp at hu; subst hu; exact ⟨m, rfl, hv⟩
      | succ i => simp at hu; obtain ⟨j, hj, hc⟩ := hg i u hu; exact ⟨j, by simpa using hj, hc⟩
  obtain ⟨hl, hg⟩ := key _ _ h
  refine ⟨by simpa using hl, fun i u hu => ?_⟩
  obtain ⟨j, hj, hc⟩ := hg i u hu
  have : i < n := by
    have := (List.getElem?_eq_some_iff.1 hj).1
    simpa using this
  rw [List.getElem?_range this] at hj
  injection hj with hj
  subst hj
  exact hc

theorem add_add (a : Addr) (i j : Nat) : (a.add i).add j = a.add (i + j) := by
  unfold Addr.add
  by_cases hi : i = 0
  · subst hi; simp
  · by_cases hj : j = 0
    · subst hj; simp [hi]
    · simp [hi, hj, Nat.add_assoc]

theorem Opens.slice {α : Type} {d : Kd α} {wf : α → Prop} (hu : P.underlying t = some (.slice e)) (hs : P.cellsOf e = d.sz) (h : Opens enc P W e (fun cs => ∃ x, d.K W x cs ∧ wf x)) :
    Opens enc P W t (fun cs => ∃ (A : Option Addr) (c : Nat) (xs : List α), cs = [.slice A xs.length c] ∧ xs.length ≤ c ∧ Kd.C d W A xs.length xs ∧ xs.length ≤ 9223372036854775807 ∧ ∀ x ∈ xs, wf x) := by
  intro fuel cs x hx
  rcases DataW.trod_slice hu hx with ⟨rfl, _⟩ | ⟨a, len, cap, elems, rest, n, _, rfl, _, _, hl, hm, hlen, hel, _⟩
  · exact ⟨none, 0, [], rfl, Nat.le_refl _, ⟨rfl, by simp, fun h => absurd h (by simp)⟩, by simp, by simp⟩
  · have hm' : cap ≤ 9223372036854775807 := hm
    have hone : ∀ i, i < len → ∃ y c, W.cells? 0 (a.add (i * P.cellsOf e)) (P.cellsOf e) = some c ∧ d.K W y c ∧ wf y := by
      intro i hi
      have h1 := hel i hi
      rw [List.getElem?_eq_getElem (by omega)] at h1
      rw [Option.bind_eq_some_iff] at h1
      obtain ⟨c, hc, ht⟩ := h1
      obtain ⟨y, hy, hw⟩ := h _ _ _ ht
      exact ⟨y, c, hc, hy, hw⟩
    have hall : ∀ k, k ≤ len → ∃ xs : List α, xs.length = k ∧ ∀ j p, xs[j]? = some p → ∃ c, W.cells? 0 (a.add (j * P.cellsOf e)) (P.cellsOf e) = some c ∧ d.K W p c ∧ wf p := by
      intro k
      induction k with
      | zero => intro _; exact ⟨[], rfl, fun j p hp => by simp at hp⟩
      | succ k ih =>
        intro hk
        obtain ⟨xs, hxl, hxs⟩ := ih (by omega)
        obtain ⟨y, c, hc, hy, hw⟩ := hone k (by omega)
        refine ⟨xs ++ [y], by simp [hxl], fun j p hp => ?_⟩
        rcases Nat.lt_or_ge j xs.length with hj | hj
        · rw [List.getElem?_append_left hj] at hp
          exact hxs j p hp
        · rw [List.getElem?_append_right hj] at hp
          have hj' : j = xs.length := by
            have := (List.getElem?_eq_some_iff.1 hp).1
            simp at this
            omega
          subst hj'
          simp at hp
          subst hp
          rw [hxl]
          exact ⟨c, hc, hy, hw⟩
    obtain ⟨xs, hxl, hxs⟩ := hall len (Nat.le_refl _)
    refine ⟨some a, cap, xs, by rw [hxl], by omega, ⟨rfl, by omega, fun _ => ⟨a, rfl, fun j p hp => ?_⟩⟩, by omega, fun y hy => ?_⟩
    · obtain ⟨c, hc, hK, _⟩ := hxs j p hp
      obtain ⟨hcl, hcg⟩ := cells_get hc
      refine ⟨c, by rw [hcl, hs], hK, fun i u hu => ?_⟩
      have := hcg i u hu
      rw [add_add, hs] at this
      exact this
    · obtain ⟨j, hj⟩ := List.getElem?_of_mem hy
      obtain ⟨_, _, _, hw⟩ := hxs j y hj
      exact hw

theorem Opens.struct {fs : Array Field} (hu : P.underlying t = some (.struct fs)) {Q : List Value → Prop}
    (h : ∀ cs, cs.length = P.cellsOf t → (∀ (i ty off n : Nat), (fs[i]?).map (fun f => (f.type, f.offset)) = some (ty, off) → P.cellsOf ty = n → ∀ R, Opens enc P W ty R → R ((cs.drop off).take n)) → Q cs) : Opens enc P W t Q := by
  intro fuel cs x hx
  obtain ⟨xs, n, _, _, hl, hlen, hf⟩ := DataW.trod_struct hu hx
  refine h cs hl fun i ty off n hi hn R hR => ?_
  obtain ⟨f, hfi, hfe⟩ := Option.map_eq_some_iff.1 hi
  obtain ⟨rfl, rfl⟩ := Prod.mk.inj hfe
  subst hn
  have h1 := hf i f hfi
  have hlt : i < fs.size := (Array.getElem?_eq_some_iff.1 hfi).1
  rw [List.getElem?_eq_getElem (by omega)] at h1
  exact hR _ _ _ h1

/-- A parameter that is a struct: its value, written out. -/
theorem Opens.agg {fs : Array Field} {b0 : Nat} {r : Reach} {v : Value} {d : DataW H} {p : List MemPlace} {Q : List Value → Prop} (hu : P.underlying t = some (.struct fs)) (hv : Value.okWide P W r b0 t v) (h : DataW.Trod enc P W 0 (fun _ => true) true t v d p) (hQ : Opens enc P W t Q) :
    ∃ cs : Array Value, v = .agg cs ∧ Q cs.toList := by
  obtain ⟨cs, rfl, _⟩ := okWide_struct hu hv
  obtain ⟨fuel, hf⟩ := h
  exact ⟨cs, rfl, hQ _ _ _ hf⟩

/-- A parameter of one cell. -/
theorem Opens.one {v : Value} {d : DataW H} {p : List MemPlace} {Q : List Value → Prop} (h : DataW.Trod enc P W 0 (fun _ => true) true t v d p) (hQ : Opens enc P W t Q) : Q v.cells.toList := by
  obtain ⟨fuel, hf⟩ := h
  exact hQ _ _ _ hf
end

theorem list1 {α : Type} {l : List α} (h : l.length = 1) : ∃ a, l = [a] := by
  match l, h with | [a], _ => exact ⟨a, rfl⟩
theorem list2 {α : Type} {l : List α} (h : l.length = 2) : ∃ a b, l = [a, b] := by
  match l, h with | [a, b], _ => exact ⟨a, b, rfl⟩
theorem list3 {α : Type} {l : List α} (h : l.length = 3) : ∃ a b c, l = [a, b, c] := by
  match l, h with | [a, b, c], _ => exact ⟨a, b, c, rfl⟩
theorem list4 {α : Type} {l : List α} (h : l.length = 4) : ∃ a b c d, l = [a, b, c, d] := by
  match l, h with | [a, b, c, d], _ => exact ⟨a, b, c, d, rfl⟩
theorem list5 {α : Type} {l : List α} (h : l.length = 5) : ∃ a b c d e, l = [a, b, c, d, e] := by
  match l, h with | [a, b, c, d, e], _ => exact ⟨a, b, c, d, e, rfl⟩
theorem list6 {α : Type} {l : List α} (h : l.length = 6) : ∃ a b c d e f, l = [a, b, c, d, e, f] := by
  match l, h with | [a, b, c, d, e, f], _ => exact ⟨a, b, c, d, e, f, rfl⟩
theorem list7 {α : Type} {l : List α} (h : l.length = 7) : ∃ a b c d e f g, l = [a, b, c, d, e, f, g] := by
  match l, h with | [a, b, c, d, e, f, g], _ => exact ⟨a, b, c, d, e, f, g, rfl⟩
theorem list11 {α : Type} {l : List α} (h : l.length = 11) : ∃ a b c d e f g i j k m, l = [a, b, c, d, e, f, g, i, j, k, m] := by
  match l, h with | [a, b, c, d, e, f, g, i, j, k, m], _ => exact ⟨a, b, c, d, e, f, g, i, j, k, m, rfl⟩
theorem arr {α : Type} {cs : Array α} {l : List α} (h : cs.toList = l) : cs = l.toArray := by rw [← h]

end Go.Proofs.Ytkeplodbjldaiaa.Open
