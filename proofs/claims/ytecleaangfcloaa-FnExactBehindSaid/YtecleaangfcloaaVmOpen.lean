/- What reads as data of a type is a value of that type's code. Lemmas alone, no statement. -/
import Derived.Test.YtecleaangfcloaaVmFn
import Derived.ChangeArms
import Derived.WideShapes
import Derived.Carry
import Derived.OpenShut
namespace Go.Vm
set_option linter.unusedVariables false
set_option linter.unusedSimpArgs false
open Go.RowKit Go.WideShapes Go.ChangeShapes

/-- What a law's arguments are bounded by. -/
def WfD : (τ : Ty) → D τ → Prop
  | .int k, n => (Lit.int k n).wf = true
  | .pair a b, x => WfD a x.1 ∧ WfD b x.2
  | .sl e, l => List.length l ≤ 9223372036854775807 ∧ ∀ y ∈ (show List (D e) from l), WfD e y
  | .bool, _ => True
  | .str, _ => True
  | .unit, _ => True

section
variable {H : Type} {enc : TypeId × Value → H} {P : Program} {W : World} {t e : TypeId}

/-- Whatever cells read as data of type t, Q holds of them. -/
def Opens {H : Type} (enc : TypeId × Value → H) (P : Program) (W : World) (t : TypeId) (Q : List Value → Prop) : Prop :=
  ∀ fuel cs x, DataW.trod enc P W 0 (fun _ => true) true fuel t cs = some x → Q cs

theorem Opens.imp {Q R : List Value → Prop} (h : Opens enc P W t Q) (hi : ∀ cs, Q cs → R cs) : Opens enc P W t R := fun f cs x hx => hi cs (h f cs x hx)

theorem Opens.int {k : IntKind} (hu : P.underlying t = some (.int k)) : Opens enc P W t (fun cs => ∃ n : Int, cs = [.int k n] ∧ (Lit.int k n).wf = true) := by
  intro fuel cs x h
  obtain ⟨n, h1, _, h2⟩ := DataW.trod_int hu h
  exact ⟨n, h1, h2⟩

theorem Opens.bool (hu : P.underlying t = some .bool) : Opens enc P W t (fun cs => ∃ b : Bool, cs = [.bool b]) := by
  intro fuel cs x h
  obtain ⟨b, h1, _⟩ := DataW.trod_bool hu h
  exact ⟨b, h1⟩

theorem cells_get {a : Addr} : ∀ {n : Nat} {c : List Value}, W.cells? 0 a n = some c → c.length = n ∧ ∀ (i : Nat) (u : Value), c[i]? = some u → W.cell? (a.add i) = some u := by
  intro n c h
  unfold World.cells? at h
  rw [if_pos (Nat.zero_le _)] at h
  have key : ∀ (l : List Nat) (c : List Value), l.mapM (fun i => W.cell? (a.add i)) = some c → c.length = l.length ∧ ∀ (i : Nat) (u : Value), c[i]? = some u → ∃ j, l[i]? = some j ∧ W.cell? (a.add j) = some u := by
    intro l
    induction l with
    | nil => intro c h; simp at h; subst h; simp
    | cons m l ih =>
      intro c h
      rw [List.mapM_cons] at h
      simp only [Option.bind_eq_bind, Option.bind_eq_some_iff, Option.pure_def, Option.some.injEq] at h
      obtain ⟨v, hv, vs, hvs, rfl⟩ := h
      obtain ⟨hl, hg⟩ := ih vs hvs
      refine ⟨by simp [hl], fun i u hu => ?_⟩
      cases i with
      | zero => simp at hu; subst hu; exact ⟨m, rfl, hv⟩
      | succ i => simp at hu; obtain ⟨j, hj, hc⟩ := hg i u hu; exact ⟨j, by simpa using hj, hc⟩
  obtain ⟨hl, hg⟩ := key _ _ h
  refine ⟨by simpa using hl, fun i u hu => ?_⟩
  obtain ⟨j, hj, hc⟩ := hg i u hu
  have : i < n := by
    have := (List.getElem?_eq_some_iff.1 hj).1
    simpa using this
  rw [List.getElem?_range this] at hj
  injection hj with hj
  subst hj
  exact hc

theorem add_add (a : Addr) (i j : Nat) : (a.add i).add j = a.add (i + j) := by
  unfold Addr.add
  by_cases hi : i = 0
  · subst hi; simp
  · by_cases hj : j = 0
    · subst hj; simp [hi]
    · simp [hi, hj, Nat.add_assoc]

theorem Opens.struct {fs : Array Field} (hu : P.underlying t = some (.struct fs)) {Q : List Value → Prop}
    (h : ∀ cs, cs.length = P.cellsOf t → (∀ (i ty off n : Nat), (fs[i]?).map (fun f => (f.type, f.offset)) = some (ty, off) → P.cellsOf ty = n → ∀ R, Opens enc P W ty R → R ((cs.drop off).take n)) → Q cs) : Opens enc P W t Q := by
  intro fuel cs x hx
  obtain ⟨xs, n, _, _, hl, hlen, hf⟩ := DataW.trod_struct hu hx
  refine h cs hl fun i ty off n hi hn R hR => ?_
  obtain ⟨f, hfi, hfe⟩ := Option.map_eq_some_iff.1 hi
  obtain ⟨rfl, rfl⟩ := Prod.mk.inj hfe
  subst hn
  have h1 := hf i f hfi
  have hlt : i < fs.size := (Array.getElem?_eq_some_iff.1 hfi).1
  rw [List.getElem?_eq_getElem (by omega)] at h1
  exact hR _ _ _ h1

/-- A parameter that is a struct: its value, written out. -/
theorem Opens.agg {fs : Array Field} {b0 : Nat} {r : Reach} {v : Value} {d : DataW H} {p : List MemPlace} {Q : List Value → Prop} (hu : P.underlying t = some (.struct fs)) (hv : Value.okWide P W r b0 t v) (h : DataW.Trod enc P W 0 (fun _ => true) true t v d p) (hQ : Opens enc P W t Q) :
    ∃ cs : Array Value, v = .agg cs ∧ Q cs.toList := by
  obtain ⟨cs, rfl, _⟩ := okWide_struct hu hv
  obtain ⟨fuel, hf⟩ := h
  exact ⟨cs, rfl, hQ _ _ _ hf⟩

/-- A parameter of one cell. -/
theorem Opens.one {v : Value} {d : DataW H} {p : List MemPlace} {Q : List Value → Prop} (h : DataW.Trod enc P W 0 (fun _ => true) true t v d p) (hQ : Opens enc P W t Q) : Q v.cells.toList := by
  obtain ⟨fuel, hf⟩ := h
  exact hQ _ _ _ hf

/-- The blocks of a world. -/
def oldB (W : World) (b : Nat) : Prop := b < W.heap.size

theorem repL_of_get {α : Type} {R : α → List Value → List Nat → Prop} {n : Nat} : ∀ {xs : List α} {vs : List Value}, vs.length = n * xs.length → (∀ j x, xs[j]? = some x → R x ((vs.drop (n * j)).take n) []) → RepL R xs vs []
  | [], vs, hl, _ => ⟨List.eq_nil_of_length_eq_zero (by simpa using hl), rfl⟩
  | x :: xs, vs, hl, h => by
    refine ⟨vs.take n, vs.drop n, [], [], (List.take_append_drop n vs).symm, rfl, ?_, repL_of_get (n := n) ?_ (fun j y hy => ?_)⟩
    · have := h 0 x rfl
      simpa using this
    · simp [hl, Nat.mul_add]
    · have := h (j + 1) y (by simpa using hy)
      rw [Nat.mul_add, Nat.mul_one, Nat.add_comm, ← List.drop_drop] at this
      exact this

theorem opens_slice {τ : Ty} (hu : P.underlying t = some (.slice e)) (hs : P.cellsOf e = τ.n) (h0 : τ.n ≠ 0) (h : Opens enc P W e (fun cs => ∃ x : D τ, Rep (oldB W) W τ .sh x cs [] ∧ WfD τ x)) :
    Opens enc P W t (fun cs => ∃ x : D (.sl τ), Rep (oldB W) W (.sl τ) .sh x cs [] ∧ WfD (.sl τ) x) := by
  intro fuel cs x hx
  rcases DataW.trod_slice hu hx with ⟨rfl, _⟩ | ⟨a, len, cap, elems, rest, n, _, rfl, _, _, hl, hm, hlen, hel, _⟩
  · exact ⟨[], ⟨none, 0, rfl, Nat.le_refl _, rfl, .inl rfl⟩, by simp [WfD]⟩
  · have hm' : cap ≤ 9223372036854775807 := hm
    have hone : ∀ i, i < len → ∃ (y : D τ) (c : List Value), W.cells? 0 (a.add (i * P.cellsOf e)) (P.cellsOf e) = some c ∧ Rep (oldB W) W τ .sh y c [] ∧ WfD τ y := by
      intro i hi
      have h1 := hel i hi
      rw [List.getElem?_eq_getElem (by omega)] at h1
      rw [Option.bind_eq_some_iff] at h1
      obtain ⟨c, hc, ht⟩ := h1
      obtain ⟨y, hy, hw⟩ := h _ _ _ ht
      exact ⟨y, c, hc, hy, hw⟩
    have hall : ∀ k, k ≤ len → ∃ xs : List (D τ), xs.length = k ∧ ∀ j p, xs[j]? = some p → ∃ c, W.cells? 0 (a.add (j * P.cellsOf e)) (P.cellsOf e) = some c ∧ Rep (oldB W) W τ .sh p c [] ∧ WfD τ p := by
      intro k
      induction k with
      | zero => intro _; exact ⟨[], rfl, fun j p hp => by simp at hp⟩
      | succ k ih =>
        intro hk
        obtain ⟨xs, hxl, hxs⟩ := ih (by omega)
        obtain ⟨y, c, hc, hy, hw⟩ := hone k (by omega)
        refine ⟨xs ++ [y], by simp [hxl], fun j p hp => ?_⟩
        rcases Nat.lt_or_ge j xs.length with hj | hj
        · rw [List.getElem?_append_left hj] at hp
          exact hxs j p hp
        · rw [List.getElem?_append_right hj] at hp
          have hj' : j = xs.length := by
            have := (List.getElem?_eq_some_iff.1 hp).1
            simp at this
            omega
          subst hj'
          simp at hp
          subst hp
          rw [hxl]
          exact ⟨c, hc, hy, hw⟩
    obtain ⟨xs, hxl, hxs⟩ := hall len (Nat.le_refl _)
    have hwf : ∀ y ∈ xs, WfD τ y := by
      intro y hy
      obtain ⟨j, hj⟩ := List.getElem?_of_mem hy
      obtain ⟨_, _, _, hw⟩ := hxs j y hj
      exact hw
    refine ⟨xs, ?_, by show xs.length ≤ _; omega, hwf⟩
    refine ⟨some a, cap, by rw [hxl], by show xs.length ≤ cap; omega, rfl, ?_⟩
    rcases Nat.eq_zero_or_pos len with hz | hz
    · exact .inl (List.eq_nil_of_length_eq_zero (by omega))
    · -- where the cells lie
      have hcell : ∀ j p, xs[j]? = some p → ∃ c : List Value, c.length = τ.n ∧ Rep (oldB W) W τ .sh p c [] ∧ ∀ (i : Nat) (u : Value), c[i]? = some u → W.cell? (a.add (τ.n * j + i)) = some u := by
        intro j p hp
        obtain ⟨c, hc, hr, _⟩ := hxs j p hp
        obtain ⟨hcl, hcg⟩ := cells_get hc
        refine ⟨c, by rw [hcl, hs], hr, fun i u hu => ?_⟩
        have := hcg i u hu
        rw [add_add, hs, Nat.mul_comm] at this
        exact this
      have hsome : ∀ i, i < τ.n * xs.length → ∃ u, W.cell? (a.add i) = some u := by
        intro i hi
        have hpos : 0 < τ.n := Nat.pos_of_ne_zero h0
        have hj : i / τ.n < xs.length := Nat.div_lt_of_lt_mul hi
        obtain ⟨c, h1, _, h3⟩ := hcell (i / τ.n) _ (List.getElem?_eq_getElem hj)
        have hm : i % τ.n < c.length := by rw [h1]; exact Nat.mod_lt _ hpos
        have := h3 (i % τ.n) _ (List.getElem?_eq_getElem hm)
        rw [Nat.div_add_mod] at this
        exact ⟨_, this⟩
      have hn0 : 0 < τ.n * xs.length := Nat.mul_pos (Nat.pos_of_ne_zero h0) (by omega)
      obtain ⟨u0, hu0⟩ := hsome 0 hn0
      have ha0 : a.add 0 = a := by simp [Addr.add]
      rw [ha0] at hu0
      obtain ⟨b, off, spot⟩ := a
      unfold World.cell? at hu0
      dsimp only at hu0
      split at hu0
      · rename_i ar ty fz hw
        split at hu0
        · cases hu0
        · rename_i hsp
          have hsp : spot = none := by cases spot <;> simp at hsp ⊢
          subst hsp
          have hget : ∀ i, (u : Value) → W.cell? ((⟨b, off, none⟩ : Addr).add i) = some u → ar[off + i]? = some u := by
            intro i u hu
            rw [add_off] at hu
            simp [World.cell?, hw] at hu
            exact hu
          refine .inr ⟨b, off, ar, ty, fz, rfl, lt_of_get hw, hw, ?_⟩
          have hlast : off + τ.n * xs.length ≤ ar.size := by
            obtain ⟨u, hu⟩ := hsome (τ.n * xs.length - 1) (by omega)
            have := hget _ _ hu
            have := (Array.getElem?_eq_some_iff.1 this).1
            omega
          refine repL_of_get (n := τ.n) (by show ((ar.toList.drop off).take (τ.n * xs.length)).length = _; simp; omega) (fun j p hp => ?_)
          obtain ⟨c, h1, h2, h3⟩ := hcell j p hp
          have hjl : j < xs.length := (List.getElem?_eq_some_iff.1 hp).1
          have hjn : τ.n * j + τ.n ≤ τ.n * xs.length := by rw [← Nat.mul_succ]; exact Nat.mul_le_mul_left _ hjl
          have he : (((ar.toList.drop off).take (τ.n * List.length xs)).drop (τ.n * j)).take τ.n = c := by
            apply List.ext_getElem?
            intro i
            rw [List.getElem?_take]
            split
            · rename_i hi
              rw [List.getElem?_drop, List.getElem?_take, if_pos (by omega), List.getElem?_drop, Array.getElem?_toList]
              have hic : i < c.length := by omega
              rw [List.getElem?_eq_getElem hic]
              have := hget _ _ (h3 i _ (List.getElem?_eq_getElem hic))
              rw [← this]
            · rw [List.getElem?_eq_none (by omega)]
          rw [he]
          exact h2
      · cases hu0

theorem cat_rep {sh : Nat → Prop} : ∀ {α β : Ty} {x : D α} {y : D β} {v1 v2 : List Value}, Rep sh W α .sh x v1 [] → Rep sh W β .sh y v2 [] → WfD α x → WfD β y → ∃ z : D (α.cat β), Rep sh W (α.cat β) .sh z (v1 ++ v2) [] ∧ WfD (α.cat β) z
  | .unit, β, x, y, v1, v2, h1, h2, w1, w2 => by
    obtain ⟨rfl, _⟩ := h1
    exact ⟨y, h2, w2⟩
  | .pair a b, β, x, y, v1, v2, h1, h2, w1, w2 => by
    obtain ⟨u1, u2, F1, F2, rfl, hF, k1, k2⟩ := h1
    obtain ⟨rfl, rfl⟩ := List.nil_eq_append_iff.1 hF
    obtain ⟨z, z1, z2⟩ := cat_rep (x := x.2) (y := y) k2 h2 w1.2 w2
    exact ⟨(x.1, z), ⟨u1, u2 ++ v2, [], [], by simp, rfl, k1, z1⟩, w1.1, z2⟩
  | .int k, β, x, y, v1, v2, h1, h2, w1, w2 => ⟨(x, y), ⟨v1, v2, [], [], rfl, rfl, h1, h2⟩, w1, w2⟩
  | .bool, β, x, y, v1, v2, h1, h2, w1, w2 => ⟨(x, y), ⟨v1, v2, [], [], rfl, rfl, h1, h2⟩, w1, w2⟩
  | .str, β, x, y, v1, v2, h1, h2, w1, w2 => ⟨(x, y), ⟨v1, v2, [], [], rfl, rfl, h1, h2⟩, w1, w2⟩
  | .sl e, β, x, y, v1, v2, h1, h2, w1, w2 => ⟨(x, y), ⟨v1, v2, [], [], rfl, rfl, h1, h2⟩, w1, w2⟩

/-- Is a type laid out as its code says? -/
def layAll (P : Program) : Nat → TypeId → Bool
  | 0, _ => false
  | k + 1, t => match P.underlying t with
    | some (.int _) => true
    | some .bool => true
    | some (.slice e) => layAll P k e && (match tyOf P k e with | some τ => P.cellsOf e == τ.n && τ.n != 0 | none => false)
    | some (.struct fs) => fs.toList.all (fun f => layAll P k f.type) && (match fs.toList.foldl (fun (a : Option Nat) f => match a, tyOf P k f.type with | some off, some τ => if f.offset == off && P.cellsOf f.type == τ.n then some (off + τ.n) else none | _, _ => none) (some 0) with
      | some n => n == P.cellsOf t
      | none => false)
    | _ => false

theorem fields_none {k : Nat} : ∀ (fs : List Field), fs.foldl (fun (a : Option Nat) f => match a, tyOf P k f.type with | some off, some τ => if f.offset == off && P.cellsOf f.type == τ.n then some (off + τ.n) else none | _, _ => none) none = none
  | [] => rfl
  | f :: fs => by rw [List.foldl_cons]; exact fields_none fs

theorem fields_rep {k : Nat} {cs : List Value} : ∀ {fs : List Field} {off n : Nat} {τ : Ty},
    fs.foldr (fun f acc => match tyOf P k f.type, acc with | some a, some b => some (Ty.cat a b) | _, _ => none) (some .unit) = some τ →
    fs.foldl (fun (a : Option Nat) f => match a, tyOf P k f.type with | some off, some τ => if f.offset == off && P.cellsOf f.type == τ.n then some (off + τ.n) else none | _, _ => none) (some off) = some n →
    cs.length = n → (∀ f ∈ fs, ∀ τ, tyOf P k f.type = some τ → ∃ x : D τ, Rep (oldB W) W τ .sh x ((cs.drop f.offset).take (P.cellsOf f.type)) [] ∧ WfD τ x) →
    off ≤ n ∧ ∃ x : D τ, Rep (oldB W) W τ .sh x (cs.drop off) [] ∧ WfD τ x
  | [], off, n, τ, h1, h2, h3, h4 => by
    simp only [List.foldr_nil, Option.some.injEq] at h1
    simp only [List.foldl_nil, Option.some.injEq] at h2
    subst h1; subst h2
    exact ⟨Nat.le_refl _, (), ⟨by rw [List.drop_of_length_le (by omega)], rfl⟩, trivial⟩
  | f :: fs, off, n, τ, h1, h2, h3, h4 => by
    rw [List.foldr_cons] at h1
    rw [List.foldl_cons] at h2
    cases ha : tyOf P k f.type with
    | none => rw [ha] at h2; dsimp only at h2; rw [fields_none] at h2; cases h2
    | some α =>
      rw [ha] at h1 h2
      dsimp only at h1 h2
      split at h2
      · rename_i hc
        simp only [Bool.and_eq_true, beq_iff_eq] at hc
        split at h1
        · rename_i a b e1 e2
          simp only [Option.some.injEq] at e1 h1
          subst e1
          obtain ⟨k1, y, hy, wy⟩ := fields_rep e2 h2 h3 (fun g hg => h4 g (List.mem_cons_of_mem _ hg))
          obtain ⟨x, hx, wx⟩ := h4 f (by simp) _ ha
          rw [hc.1, hc.2] at hx
          subst h1
          refine ⟨by omega, ?_⟩
          have hsplit : cs.drop off = (cs.drop off).take α.n ++ cs.drop (off + α.n) := by
            rw [← List.drop_drop, List.take_append_drop]
          rw [hsplit]
          exact cat_rep hx hy wx wy
        · cases h1
      · rw [fields_none] at h2; cases h2

/-- WHAT READS AS DATA OF A TYPE IS A VALUE OF THAT TYPE'S CODE. -/
theorem opens_rep : ∀ (k : Nat) (t : TypeId) (τ : Ty), tyOf P k t = some τ → layAll P k t = true → Opens enc P W t (fun cs => ∃ x : D τ, Rep (oldB W) W τ .sh x cs [] ∧ WfD τ x)
  | 0, _, _, h, _ => by cases h
  | k + 1, t, τ, h, hl => by
    unfold tyOf at h
    unfold layAll at hl
    cases hu : P.underlying t with
    | none => rw [hu] at h; cases h
    | some d => ?_
    rw [hu] at h hl
    cases d with
    | int i =>
      simp only [Option.some.injEq] at h
      subst h
      exact (Opens.int hu).imp fun cs ⟨n, h1, h2⟩ => ⟨n, ⟨h1, rfl⟩, h2⟩
    | bool =>
      simp only [Option.some.injEq] at h
      subst h
      exact (Opens.bool hu).imp fun cs ⟨b, h1⟩ => ⟨b, ⟨h1, rfl⟩, trivial⟩
    | slice e =>
      dsimp only at h hl
      obtain ⟨α, hα, rfl⟩ := Option.map_eq_some_iff.1 h
      rw [hα] at hl
      simp only [Bool.and_eq_true, beq_iff_eq, bne_iff_ne] at hl
      exact opens_slice hu hl.2.1 hl.2.2 (opens_rep k e α hα hl.1)
    | struct fs =>
      dsimp only at h hl
      rw [Bool.and_eq_true] at hl
      obtain ⟨hl1, hl2⟩ := hl
      have hl1 := List.all_eq_true.1 hl1
      refine Opens.struct hu fun cs hcl hf => ?_
      split at hl2
      · rename_i n hn
        have hn' : n = P.cellsOf t := by simpa using hl2
        have := fields_rep (cs := cs) (n := n) h hn (by omega) (fun f hfm τ' hτ' => by
          obtain ⟨i, hi⟩ := List.getElem?_of_mem hfm
          exact hf i f.type f.offset (P.cellsOf f.type) (by rw [Array.getElem?_toList] at hi; rw [hi]; rfl) rfl _ (opens_rep k f.type τ' hτ' (hl1 f hfm)))
        simpa using this.2
      · cases hl2
    | _ => cases hl

end
end Go.Vm
